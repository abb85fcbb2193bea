/- The document's Put of a shelf. Written by genput18.py. -/
import Derived.Test.YtcepfmjebgklfaaDoorRef18W
import Derived.Test.YtcepfmjebgklfaaDoorRefT
import Derived.Test.YtcepfmjebgklfaaDoorRef02D
import Derived.Test.YtcepfmjebgklfaaDoorSh4
import Derived.Test.YtcepfmjebgklfaaDoorFlowU
namespace Go.Proofs.YtcepfmjebgklfaaDoor
open Go.RowKit
set_option linter.unusedSimpArgs false
set_option linter.unusedVariables false
set_option maxRecDepth 100000
section
variable {P : Program} {o : Oper} {a : Act} {w : World} {K : Act → World → Prop} {Q : Exit → Act → World → Prop}
theorem wpo_len_sl (t e : TypeId) (x : Operand) (A : Option Addr) (n c : Nat) (ht : P.underlying t = some (.slice e)) (ho : o.op = .call { callee := .builtin .len, args := #[x], argTypes := #[t] })
    (hx : a.eval x = .slice A n c) (h : K (a.put o.dst (.int .i64 (n : Int))) w) : o.wp P a w K Q :=
  wp_value _ (by
    unfold execOp
    simp [ho, hx, resolve, invoke, builtin, Builtin.len_, run_underlying ht, goInt]) h
end
/-- What the slots hold of the region that puts the head's numbers. -/
def p18hd (g cl pv nx : Nat) (t : Tmp) (v : Value) (w : World) : Prop :=
  match t with
  | 13 => v = .pointer (some ⟨g, 0, none⟩)
  | 14 => v = .int .u8 (cl : Int)
  | 15 => v = .int .u64 (cl : Int)
  | 16 => v = .string (lowsS cl 1)
  | 17 => v = .pointer (some ⟨g, 1, none⟩)
  | 18 => v = .int .u16 (pv : Int)
  | 19 => v = .int .u64 (pv : Int)
  | 20 => v = .string (lowsS pv 2)
  | 21 => v = .string (lowsS cl 1 ++ lowsS pv 2)
  | 22 => v = .pointer (some ⟨g, 2, none⟩)
  | 23 => v = .int .u16 (nx : Int)
  | 24 => v = .int .u64 (nx : Int)
  | 25 => v = .string (lowsS nx 2)
  | 26 => v = .string (lowsS cl 1 ++ lowsS pv 2 ++ lowsS nx 2)
  | _ => True
theorem p18hd_stab (g cl pv nx : Nat) : ∀ t v w w', p18hd g cl pv nx t v w → Below w.heap.size w w' → p18hd g cl pv nx t v w' := by
  intro t v w w' h _
  unfold p18hd at h ⊢
  split at h <;> first
    | exact h
    | trivial
/-- What the slots hold of the region that puts a cell. -/
def p18cl (g g5 cl ser m xc rm d : Nat) (XA : Option Addr) (U DS : ByteArray) (t : Tmp) (v : Value) (w : World) : Prop :=
  match t with
  | 39 => v = .string U
  | 40 => v = .pointer (some ⟨g5, 0, none⟩)
  | 41 => v = .int .u64 (ser : Int)
  | 42 => v = .string (lowsS ser 8)
  | 43 => v = .string (U ++ lowsS ser 8)
  | 44 => v = .pointer (some ⟨g5, 1, none⟩)
  | 45 => v = .slice XA m xc
  | 46 => v = .int .i64 (m : Int)
  | 47 => v = .int .u64 (m : Int)
  | 48 => v = .string (lowsS m 1)
  | 49 => v = .string (U ++ lowsS ser 8 ++ lowsS m 1)
  | 50 => v = .pointer (some ⟨g5, 1, none⟩)
  | 51 => v = .slice XA m xc
  | 52 => v = .string DS
  | 53 => v = .string (U ++ lowsS ser 8 ++ lowsS m 1 ++ DS)
  | 54 => v = .pointer (some ⟨g, 0, none⟩)
  | 55 => v = .int .u8 (cl : Int)
  | 56 => v = .int .i64 (rm : Int)
  | 57 => v = .pointer (some ⟨g5, 1, none⟩)
  | 58 => v = .slice XA m xc
  | 59 => v = .int .i64 (m : Int)
  | 60 => v = .int .i64 (d : Int)
  | 61 => ∃ gz, v = .slice (some ⟨gz, 0, none⟩) d d ∧ gz < w.heap.size ∧ BytesAt w gz 0 (List.replicate d 0)
  | 62 => v = .string ⟨(List.replicate d 0).toArray⟩
  | 63 => v = .string (U ++ lowsS ser 8 ++ lowsS m 1 ++ DS ++ ⟨(List.replicate d 0).toArray⟩)
  | _ => True
theorem p18cl_stab (g g5 cl ser m xc rm d : Nat) (XA : Option Addr) (U DS : ByteArray) : ∀ t v w w', p18cl g g5 cl ser m xc rm d XA U DS t v w → Below w.heap.size w w' → p18cl g g5 cl ser m xc rm d XA U DS t v w' := by
  intro t v w w' h hb
  unfold p18cl at h ⊢
  split at h <;> first
    | exact h
    | (obtain ⟨gz, h1, h2, h3⟩ := h
       exact ⟨gz, h1, Nat.lt_of_lt_of_le h2 hb.size, h3.under h2 hb⟩)
    | trivial
section
variable {w : World}
set_option maxHeartbeats 2000000 in
theorem refput18 {s : ShL} {v : Value} (hs : ShelfIn w v s) :
    Calls Tryd.prog 54 #[v] w fun e w' => e = .returned (.tuple #[.agg (blk (putB18 s)), .int .i64 (putE18 s)]) ∧ Below w.heap.size w w' := by
  obtain ⟨A, n, c, l, rfl, hs⟩ := hs
  have hR := ((Held.start w).alloc (shV s A n c) 25).alloc (zeros 256 (.int .u8 0)) 52
  obtain ⟨W, hW⟩ : ∃ W, W = (w.alloc (.cells (shV s A n c) 25)).alloc (.cells (zeros 256 (.int .u8 0)) 52) := ⟨_, rfl⟩
  obtain ⟨g, hg⟩ : ∃ g, g = w.heap.size := ⟨_, rfl⟩
  rw [← hW, show (w.alloc (.cells (shV s A n c) 25)).heap.size = g + 1 by rw [hg]; simp, ← hg] at hR
  obtain ⟨g2, hg2⟩ : ∃ g2, g2 = g + 1 := ⟨_, rfl⟩
  rw [← hg2] at hR
  have HW := Lib.hid hW
  have HG := Lib.hid hg
  have HG2 := Lib.hid hg2
  have HS := Lib.hid hs
  have R0 := Lib.hid hR
  have HMAY := Lib.hid (refmay18 (w := W) ⟨A, n, c, l, rfl, hs.below hR.below⟩)
  have HPB : Hid (putB18 s = if mayL s then doneB 83 (shB s) else List.replicate 256 0) := Lib.hid rfl
  have HPE : Hid (putE18 s = if mayL s then 0 else 5) := Lib.hid rfl
  have HPL := Lib.hid (length_putB18 s)
  obtain ⟨PB, hPB⟩ : ∃ PB, PB = putB18 s := ⟨_, rfl⟩
  obtain ⟨PE, hPE⟩ : ∃ PE, PE = putE18 s := ⟨_, rfl⟩
  rw [← hPB] at HPB HPL ⊢
  rw [← hPE] at HPE ⊢
  unfold shV at HW ⊢
  clear hW hg hg2 hs hR hPB hPE
  obtain ⟨⟨e0, e1, e2, e3⟩, _, _, _, _⟩ := R0.out.cells4 1 rfl
  go_enter Tryd.func54, Tryd.ntmps54
  go_upto_region 1 with (refine wpList_alloc_row rfl 52 rfl _ zeroB ?_)
  rw [← HW.out, ← HG.out, ← HG2.out]
  go_wp2_with fail
  refine HMAY.out.mono ?_
  rintro e w1 ⟨rfl, hb⟩
  have R1 := Lib.hid (R0.out.call hb)
  clear hb R0 e0 e1 e2 e3
  cases hm : mayL s with
  | false =>
    rw [hm] at HPB HPE
    have hpe := HPE.out
    rw [if_neg (by simp)] at hpe
    subst hpe
    have HZ : Hid (zeros 256 (.int .u8 0) = blk PB) := Lib.hid (by rw [HPB.out, if_neg (by simp), zeros_blk])
    clear hm
    go_wp2_with (first
      | refine wpList_build_none rfl 52 rfl _ zeroB Tryd.underlying52 rfl ?_
      | refine wpList_store_row rfl 52 _ _ rfl g2 (zeros 256 (.int .u8 0)) rfl rfl 52 _ (R1.out.get 0 rfl) (by rw [size_zeros]; exact sizeB) (by rw [size_zeros]) zeros_one ?_)
    rw [HZ.out]
    have R2 := R1.out.setRow 0 (blk PB) rfl
    exact bodyPost_ret (v := .tuple #[.agg (blk PB), .int .i64 5]) (results_cell_slot rfl _ _ g2 52 _ (0, 0) _ _ rfl rfl (R2.get 0 rfl) Tryd.underlying52 rfl (by rw [size_blk, HPL.out]; exact sizeB)) rfl ⟨rfl, R2.below⟩
  | true =>
    rw [hm, if_pos rfl] at HPB HPE
    have hpe := HPE.out
    subst hpe
    have HM := Lib.hid hm
    clear hm
    have hcl := HS.out.cl
    have hpv := HS.out.prev
    have hnx := HS.out.next
    have hn30 := HS.out.le30
    obtain ⟨cl, hcle⟩ : ∃ k, k = s.cl := ⟨_, rfl⟩
    obtain ⟨pv, hpve⟩ : ∃ k, k = s.prev := ⟨_, rfl⟩
    obtain ⟨nx, hnxe⟩ : ∃ k, k = s.next := ⟨_, rfl⟩
    have HCL := Lib.hid hcle
    have HE : Hid (headB18 s = lows cl 1 ++ lows pv 2 ++ lows nx 2) := Lib.hid (by rw [hcle, hpve, hnxe]; rfl)
    have hR := R1.out
    unfold shV at hR
    rw [← hcle, ← hpve, ← hnxe] at hR
    rw [← hcle] at hcl
    rw [← hpve] at hpv
    rw [← hnxe] at hnx
    have R2 := Lib.hid hR
    clear hR R1 hcle hpve hnxe
    have H0 : Hid (IntKind.u64.wrap (cl : Int) = (cl : Int)) := Lib.hid (by rw [IntKind.wrap_u64]; omega)
    have H1 : Hid (IntKind.u64.wrap (pv : Int) = (pv : Int)) := Lib.hid (by rw [IntKind.wrap_u64]; omega)
    have H2 : Hid (IntKind.u64.wrap (nx : Int) = (nx : Int)) := Lib.hid (by rw [IntKind.wrap_u64]; omega)
    have HZ1 : Hid ((lowsS cl 1).size + (lowsS pv 2).size ≤ maxLen) := Lib.hid (by show (lows cl 1).toArray.size + (lows pv 2).toArray.size ≤ _; simp only [List.size_toArray, length_lows]; unfold maxLen; omega)
    have HZ2 : Hid ((lowsS cl 1 ++ lowsS pv 2).size + (lowsS nx 2).size ≤ maxLen) := Lib.hid (by rw [ByteArray.size_append]; show (lows cl 1).toArray.size + (lows pv 2).toArray.size + (lows nx 2).toArray.size ≤ _; simp only [List.size_toArray, length_lows]; unfold maxLen; omega)
    go_upto_region 3 with (fail)
    have hR := R2.out
    refine wp_region_flow (by kernel_rfl) 14 (p18hd g cl pv nx) (p18hd_stab g cl pv nx) (by kernel_rfl) (by kernel_rfl) (by kernel_rfl) (by kernel_rfl) ?heads ?tail
    case heads =>
      refine ⟨.inr ⟨rfl, 13, rfl, fun a v hB hO hD K hK => ?_⟩, .inr ⟨rfl, 14, rfl, fun a v hB hO hD K hK => ?_⟩, .inr ⟨rfl, 15, rfl, fun a v hB hO hD K hK => ?_⟩, .inr ⟨rfl, 16, rfl, fun a v hB hO hD K hK => ?_⟩, .inr ⟨rfl, 17, rfl, fun a v hB hO hD K hK => ?_⟩, .inr ⟨rfl, 18, rfl, fun a v hB hO hD K hK => ?_⟩, .inr ⟨rfl, 19, rfl, fun a v hB hO hD K hK => ?_⟩, .inr ⟨rfl, 20, rfl, fun a v hB hO hD K hK => ?_⟩, .inr ⟨rfl, 21, rfl, fun a v hB hO hD K hK => ?_⟩, .inr ⟨rfl, 22, rfl, fun a v hB hO hD K hK => ?_⟩, .inr ⟨rfl, 23, rfl, fun a v hB hO hD K hK => ?_⟩, .inr ⟨rfl, 24, rfl, fun a v hB hO hD K hK => ?_⟩, .inr ⟨rfl, 25, rfl, fun a v hB hO hD K hK => ?_⟩, .inr ⟨rfl, 26, rfl, fun a v hB hO hD K hK => ?_⟩, .inl (by decide), trivial⟩
      · exact wpg_field 25 0 5 0 0 _ g 0 rfl (by kernel_rfl) (by kernel_rfl) (by kernel_rfl) (eval_of (t := 1) (by rw [hO 1 (not_dst 1 (by kernel_rfl))]; rfl)) (hK _ _ rfl (Below.refl _ _))
      · obtain ⟨u13, hu13, hv13⟩ := flow_of hD 0 (by kernel_rfl) 13 (by kernel_rfl)
        exact wp_load_cell 5 _ ⟨g, 0, none⟩ (.int .u8 (cl : Int)) _ rfl rfl (hu13.trans hv13) ((hR.call hB).cell 1 0 rfl rfl) Tryd.underlying5 (hK _ _ rfl (Below.refl _ _))
      · obtain ⟨u14, hu14, hv14⟩ := flow_of hD 1 (by kernel_rfl) 14 (by kernel_rfl)
        exact wp_convert _ _ _ _ _ rfl (hu14.trans hv14) (run_conv_int _ _ .u8 .u64 Tryd.underlying5 Tryd.underlying26 (cl : Int) H0.out v) (hK _ _ rfl (Below.refl _ _))
      · obtain ⟨u15, hu15, hv15⟩ := flow_of hD 2 (by kernel_rfl) 15 (by kernel_rfl)
        exact wpo_call 75 [.tmp 15, .const (.int .i64 1)] _ #[.int .u64 (cl : Int), .int .i64 1] _ _ (fun u _ => u = .string (lowsS cl 1)) rfl Tryd.func75 rfl (by kernel_rfl) (by simp only [List.map_cons, List.map_nil, hu15.trans hv15] <;> rfl) (call_is (refnum_any 1 (by omega) cl (by omega) v)) (fun u w2 hb h => hK _ _ h hb)
      · exact wpg_field 25 1 22 1 0 _ g 0 rfl (by kernel_rfl) (by kernel_rfl) (by kernel_rfl) (eval_of (t := 1) (by rw [hO 1 (not_dst 1 (by kernel_rfl))]; rfl)) (hK _ _ rfl (Below.refl _ _))
      · obtain ⟨u17, hu17, hv17⟩ := flow_of hD 4 (by kernel_rfl) 17 (by kernel_rfl)
        exact wp_load_cell 22 _ ⟨g, 1, none⟩ (.int .u16 (pv : Int)) _ rfl rfl (hu17.trans hv17) ((hR.call hB).cell 1 1 rfl rfl) Tryd.underlying22 (hK _ _ rfl (Below.refl _ _))
      · obtain ⟨u18, hu18, hv18⟩ := flow_of hD 5 (by kernel_rfl) 18 (by kernel_rfl)
        exact wp_convert _ _ _ _ _ rfl (hu18.trans hv18) (run_conv_int _ _ .u16 .u64 Tryd.underlying22 Tryd.underlying26 (pv : Int) H1.out v) (hK _ _ rfl (Below.refl _ _))
      · obtain ⟨u19, hu19, hv19⟩ := flow_of hD 6 (by kernel_rfl) 19 (by kernel_rfl)
        exact wpo_call 75 [.tmp 19, .const (.int .i64 2)] _ #[.int .u64 (pv : Int), .int .i64 2] _ _ (fun u _ => u = .string (lowsS pv 2)) rfl Tryd.func75 rfl (by kernel_rfl) (by simp only [List.map_cons, List.map_nil, hu19.trans hv19] <;> rfl) (call_is (refnum_any 2 (by omega) pv (by omega) v)) (fun u w2 hb h => hK _ _ h hb)
      · obtain ⟨u16, hu16, hv16⟩ := flow_of hD 3 (by kernel_rfl) 16 (by kernel_rfl)
        obtain ⟨u20, hu20, hv20⟩ := flow_of hD 7 (by kernel_rfl) 20 (by kernel_rfl)
        exact wpo_add_str _ _ _ _ _ _ rfl (hu16.trans hv16) (hu20.trans hv20) (HZ1.out) (hK _ _ rfl (Below.refl _ _))
      · exact wpg_field 25 2 22 2 0 _ g 0 rfl (by kernel_rfl) (by kernel_rfl) (by kernel_rfl) (eval_of (t := 1) (by rw [hO 1 (not_dst 1 (by kernel_rfl))]; rfl)) (hK _ _ rfl (Below.refl _ _))
      · obtain ⟨u22, hu22, hv22⟩ := flow_of hD 9 (by kernel_rfl) 22 (by kernel_rfl)
        exact wp_load_cell 22 _ ⟨g, 2, none⟩ (.int .u16 (nx : Int)) _ rfl rfl (hu22.trans hv22) ((hR.call hB).cell 1 2 rfl rfl) Tryd.underlying22 (hK _ _ rfl (Below.refl _ _))
      · obtain ⟨u23, hu23, hv23⟩ := flow_of hD 10 (by kernel_rfl) 23 (by kernel_rfl)
        exact wp_convert _ _ _ _ _ rfl (hu23.trans hv23) (run_conv_int _ _ .u16 .u64 Tryd.underlying22 Tryd.underlying26 (nx : Int) H2.out v) (hK _ _ rfl (Below.refl _ _))
      · obtain ⟨u24, hu24, hv24⟩ := flow_of hD 11 (by kernel_rfl) 24 (by kernel_rfl)
        exact wpo_call 75 [.tmp 24, .const (.int .i64 2)] _ #[.int .u64 (nx : Int), .int .i64 2] _ _ (fun u _ => u = .string (lowsS nx 2)) rfl Tryd.func75 rfl (by kernel_rfl) (by simp only [List.map_cons, List.map_nil, hu24.trans hv24] <;> rfl) (call_is (refnum_any 2 (by omega) nx (by omega) v)) (fun u w2 hb h => hK _ _ h hb)
      · obtain ⟨u21, hu21, hv21⟩ := flow_of hD 8 (by kernel_rfl) 21 (by kernel_rfl)
        obtain ⟨u25, hu25, hv25⟩ := flow_of hD 12 (by kernel_rfl) 25 (by kernel_rfl)
        exact wpo_add_str _ _ _ _ _ _ rfl (hu21.trans hv21) (hu25.trans hv25) (HZ2.out) (hK _ _ rfl (Below.refl _ _))
    case tail =>
      intro F v hV hB
      have v26 : F 26 = .string (lowsS cl 1 ++ lowsS pv 2 ++ lowsS nx 2) := hV _ (List.mem_of_getElem? (i := 13) rfl) 26 rfl
      simp only [List.take_succ_cons, List.take_zero, List.drop_succ_cons, List.drop_zero, putAll, List.setIfInBounds_toArray, List.set_cons_zero, List.set_cons_succ]
      rw [v26]
      have R3 := Lib.hid (R2.out.call hB)
      obtain ⟨US, hUS⟩ : ∃ US : Nat → ByteArray, US = fun j => ⟨(headB18 s ++ cellsB cl (s.cells.take j)).toArray⟩ := ⟨_, rfl⟩
      have hu0 : lowsS cl 1 ++ lowsS pv 2 ++ lowsS nx 2 = US 0 := by
        rw [hUS]
        apply ByteArray.ext
        apply Array.toList_inj.1
        simp [lowsS, HE.out, cellsB]
      rw [hu0]
      have HUS := Lib.hid hUS
      clear hV hB v26 hu0 hUS hR H0 H1 H2 HZ1 HZ2 R2
      have hcells := R3.out
      go_wp2_with fail
      clear hcells
      go_loopw [4, 5] (fun u i wr => ∃ j : Nat, j ≤ n ∧ i = .int .i64 (j : Int) ∧ u = .string (US j) ∧ Held w wr [rowT g2 (zeros 256 (.int .u8 0)) 52, rowT g #[.int .u8 (cl : Int), .int .u16 (pv : Int), .int .u16 (nx : Int), .slice A n c] 25]) (fun _ i _ => n - (intOf i).toNat)
      case atStart => exact ⟨0, by omega, rfl, rfl, R3.out⟩
      case round =>
        obtain ⟨j, hj, rfl, rfl, hR⟩ := hrel
        have R1 := Lib.hid hR
        clear hR R3
        obtain ⟨⟨e0, e1, e2, e3⟩, _, _, _, _⟩ := R1.out.cells4 1 rfl
        by_cases hlt : j < n
        · have hjs : j < s.cells.length := by rw [HS.out.len]; exact hlt
          obtain ⟨x, hxl, hxd, hxo, hx4, b, off, rfl, hb, hxr⟩ := HS.out.get j hlt
          have hct := cellsB_take cl s.cells j hjs
          rw [List.getD_eq_getElem?_getD, List.getElem?_eq_getElem hjs, Option.getD_some] at hxd
          have hxm := hxd ▸ mayL_le HM.out _ (List.getElem_mem hjs)
          rw [hxd] at hct
          have c0 : wr.cell? ⟨b, off + j * 2, none⟩ = some (.int .u64 (x.ser : Int)) := (R1.out.below.cell hb).trans (hxr 0 _ (show (cellV x).toList[0]? = some (.int .u64 (x.ser : Int)) from rfl))
          have c1 : wr.cell? ⟨b, off + j * 2 + 1, none⟩ = some (.slice x.A x.m x.c) := (R1.out.below.cell hb).trans (hxr 1 _ (show (cellV x).toList[1]? = some (.slice x.A x.m x.c) from rfl))
          have hL0 : (headB18 s ++ cellsB cl (s.cells.take j)).length ≤ 13000 := by
            have h1 := length_cellsB_le cl (s.cells.take j) (fun c hc => HS.out.small.2 c (List.mem_of_mem_take hc))
            rw [List.length_take] at h1
            rw [List.length_append, length_headB18]
            omega
          have hser := hxo.ser
          obtain ⟨ser, XA, m, xc, dd⟩ := x
          have hdm : dd.length = m := hxo.len
          simp only [CellH.dat] at hxm hct
          have HDB : Hid (BytesIn w XA dd) := Lib.hid hxo.by_
          have HDM := Lib.hid hdm
          obtain ⟨rm, hrme⟩ : ∃ rm, rm = roomL cl := ⟨_, rfl⟩
          have hrm := roomL_le cl
          have HROOM : Hid (∀ v : World, Calls Tryd.prog 53 #[.int .u8 (cl : Int)] v fun e w' => e = .returned (.int .i64 (rm : Int)) ∧ Below v.heap.size v w') := Lib.hid (fun v => by rw [hrme]; exact refroom18 (w := v) cl hcl)
          have hmr : m ≤ rm := by rw [← hdm, hrme, HCL.out]; exact hxm
          rw [← hrme] at hrm
          obtain ⟨d, hd⟩ : ∃ d, d = rm - m := ⟨_, rfl⟩
          have HSUB : Hid (IntKind.i64.wrap ((rm : Int) - (m : Int)) = (d : Int)) := Lib.hid (by rw [IntKind.wrap_i64] <;> omega)
          have HMM : Hid (IntKind.u64.wrap (m : Int) = (m : Int)) := Lib.hid (by rw [IntKind.wrap_u64]; omega)
          obtain ⟨U, hU⟩ : ∃ U, U = US j := ⟨_, rfl⟩
          have hUl : U.size ≤ 13000 := by rw [hU, HUS.out]; show (headB18 s ++ cellsB cl (s.cells.take j)).toArray.size ≤ _; rw [List.size_toArray]; exact hL0
          have HUS1 : Hid (U ++ lowsS ser 8 ++ lowsS m 1 ++ ⟨dd.toArray⟩ ++ ⟨(List.replicate d 0).toArray⟩ = US (j + 1)) := Lib.hid (by
            rw [hU, HUS.out]
            apply ByteArray.ext
            apply Array.toList_inj.1
            simp only [hct]
            simp [lowsS, cellB, hd, hrme, hdm])
          have HZ : Hid (U.size + (lowsS ser 8).size ≤ maxLen ∧ (U ++ lowsS ser 8).size + (lowsS m 1).size ≤ maxLen ∧ (U ++ lowsS ser 8 ++ lowsS m 1).size + (⟨dd.toArray⟩ : ByteArray).size ≤ maxLen ∧ (U ++ lowsS ser 8 ++ lowsS m 1 ++ ⟨dd.toArray⟩).size + (⟨(List.replicate d 0).toArray⟩ : ByteArray).size ≤ maxLen) := Lib.hid (by
            have l1 : (lowsS ser 8).size = 8 := by show (lows ser 8).toArray.size = 8; rw [List.size_toArray, length_lows]
            have l2 : (lowsS m 1).size = 1 := by show (lows m 1).toArray.size = 1; rw [List.size_toArray, length_lows]
            have l3 : (⟨dd.toArray⟩ : ByteArray).size = m := by show dd.toArray.size = m; rw [List.size_toArray, hdm]
            have l4 : (⟨(List.replicate d 0).toArray⟩ : ByteArray).size = d := by show (List.replicate d (0 : UInt8)).toArray.size = d; rw [List.size_toArray, List.length_replicate]
            simp only [ByteArray.size_append, l1, l2, l3, l4]
            unfold maxLen
            omega)
          rw [← hU]
          simp only at c0 c1 hx4
          clear hct hxd hxm hxl hxo hxr hdm hb hrme hL0 hU hUl
          go_upto_region 7 with (fail)
          go_upto_region 8 with (fail)
          have q1 := R1.out.alloc #[.int .u64 (ser : Int), .slice XA m xc] 41
          clear c0 c1 e0 e1 e2 e3
          obtain ⟨W5, hW⟩ : ∃ W, W = wr.alloc (.cells #[.int .u64 (ser : Int), .slice XA m xc] 41) := ⟨_, rfl⟩
          rw [← hW] at q1 ⊢
          clear hW
          obtain ⟨g5, hg⟩ : ∃ g, g = wr.heap.size := ⟨_, rfl⟩
          rw [← hg] at q1 ⊢
          clear hg
          have R5 := Lib.hid q1
          clear q1
          have hR := R5.out
          obtain ⟨i0, hi0⟩ := infoU8''
          have HI := Lib.hid hi0
          clear hi0
          refine wp_region_flowU (by kernel_rfl) 25 (p18cl g g5 cl ser m xc rm d XA U ⟨dd.toArray⟩) (p18cl_stab g g5 cl ser m xc rm d XA U ⟨dd.toArray⟩) (by kernel_rfl) (by kernel_rfl) (by kernel_rfl) (by kernel_rfl) ?heads ?tail
          case heads =>
            refine ⟨.inr ⟨rfl, 39, rfl, fun a v hB hO hD K hK => ?_⟩, .inr ⟨rfl, 40, rfl, fun a v hB hO hD K hK => ?_⟩, .inr ⟨rfl, 41, rfl, fun a v hB hO hD K hK => ?_⟩, .inr ⟨rfl, 42, rfl, fun a v hB hO hD K hK => ?_⟩, .inr ⟨rfl, 43, rfl, fun a v hB hO hD K hK => ?_⟩, .inr ⟨rfl, 44, rfl, fun a v hB hO hD K hK => ?_⟩, .inr ⟨rfl, 45, rfl, fun a v hB hO hD K hK => ?_⟩, .inr ⟨rfl, 46, rfl, fun a v hB hO hD K hK => ?_⟩, .inr ⟨rfl, 47, rfl, fun a v hB hO hD K hK => ?_⟩, .inr ⟨rfl, 48, rfl, fun a v hB hO hD K hK => ?_⟩, .inr ⟨rfl, 49, rfl, fun a v hB hO hD K hK => ?_⟩, .inr ⟨rfl, 50, rfl, fun a v hB hO hD K hK => ?_⟩, .inr ⟨rfl, 51, rfl, fun a v hB hO hD K hK => ?_⟩, .inr ⟨rfl, 52, rfl, fun a v hB hO hD K hK => ?_⟩, .inr ⟨rfl, 53, rfl, fun a v hB hO hD K hK => ?_⟩, .inr ⟨rfl, 54, rfl, fun a v hB hO hD K hK => ?_⟩, .inr ⟨rfl, 55, rfl, fun a v hB hO hD K hK => ?_⟩, .inr ⟨rfl, 56, rfl, fun a v hB hO hD K hK => ?_⟩, .inr ⟨rfl, 57, rfl, fun a v hB hO hD K hK => ?_⟩, .inr ⟨rfl, 58, rfl, fun a v hB hO hD K hK => ?_⟩, .inr ⟨rfl, 59, rfl, fun a v hB hO hD K hK => ?_⟩, .inr ⟨rfl, 60, rfl, fun a v hB hO hD K hK => ?_⟩, .inr ⟨rfl, 61, rfl, fun a v hB hO hD K hK => ?_⟩, .inr ⟨rfl, 62, rfl, fun a v hB hO hD K hK => ?_⟩, .inr ⟨rfl, 63, rfl, fun a v hB hO hD K hK => ?_⟩, .inl (by decide), trivial⟩
            · exact wpo_move _ _ rfl (eval_of (t := 4) (by rw [hO 4 (not_dst 4 (by kernel_rfl))]; rfl)) (hK _ _ rfl (Below.refl _ _))
            · exact wpg_field 41 0 26 0 0 _ g5 0 rfl (by kernel_rfl) (by kernel_rfl) (by kernel_rfl) (eval_of (t := 6) (by rw [hO 6 (not_dst 6 (by kernel_rfl))]; rfl)) (hK _ _ rfl (Below.refl _ _))
            · obtain ⟨u40, hu40, hv40⟩ := flow_of hD 1 (by kernel_rfl) 40 (by kernel_rfl)
              exact wp_load_cell 26 _ ⟨g5, 0, none⟩ (.int .u64 (ser : Int)) _ rfl rfl (hu40.trans hv40) ((hR.call hB).cell 0 0 rfl rfl) Tryd.underlying26 (hK _ _ rfl (Below.refl _ _))
            · obtain ⟨u41, hu41, hv41⟩ := flow_of hD 2 (by kernel_rfl) 41 (by kernel_rfl)
              exact wpo_call 75 [.tmp 41, .const (.int .i64 8)] _ #[.int .u64 (ser : Int), .int .i64 8] _ _ (fun u _ => u = .string (lowsS ser 8)) rfl Tryd.func75 rfl (by kernel_rfl) (by simp only [List.map_cons, List.map_nil, hu41.trans hv41] <;> rfl) (call_is (refnum_any 8 (by omega) ser (by omega) v)) (fun u w2 hb h => hK _ _ h hb)
            · obtain ⟨u39, hu39, hv39⟩ := flow_of hD 0 (by kernel_rfl) 39 (by kernel_rfl)
              obtain ⟨u42, hu42, hv42⟩ := flow_of hD 3 (by kernel_rfl) 42 (by kernel_rfl)
              exact wpo_add_str _ _ _ _ _ _ rfl (hu39.trans hv39) (hu42.trans hv42) (HZ.out.1) (hK _ _ rfl (Below.refl _ _))
            · exact wpg_field 41 1 27 1 0 _ g5 0 rfl (by kernel_rfl) (by kernel_rfl) (by kernel_rfl) (eval_of (t := 6) (by rw [hO 6 (not_dst 6 (by kernel_rfl))]; rfl)) (hK _ _ rfl (Below.refl _ _))
            · obtain ⟨u44, hu44, hv44⟩ := flow_of hD 5 (by kernel_rfl) 44 (by kernel_rfl)
              exact wp_load_cell 27 _ ⟨g5, 1, none⟩ (.slice XA m xc) _ rfl rfl (hu44.trans hv44) ((hR.call hB).cell 0 1 rfl rfl) Tryd.underlying27 (hK _ _ rfl (Below.refl _ _))
            · obtain ⟨u45, hu45, hv45⟩ := flow_of hD 6 (by kernel_rfl) 45 (by kernel_rfl)
              exact wpo_len_sl 27 5 _ XA m xc Tryd.underlying27 rfl (hu45.trans hv45) (hK _ _ rfl (Below.refl _ _))
            · obtain ⟨u46, hu46, hv46⟩ := flow_of hD 7 (by kernel_rfl) 46 (by kernel_rfl)
              exact wp_convert _ _ _ _ _ rfl (hu46.trans hv46) (run_conv_int _ _ .i64 .u64 Tryd.underlying3 Tryd.underlying26 (m : Int) HMM.out v) (hK _ _ rfl (Below.refl _ _))
            · obtain ⟨u47, hu47, hv47⟩ := flow_of hD 8 (by kernel_rfl) 47 (by kernel_rfl)
              exact wpo_call 75 [.tmp 47, .const (.int .i64 1)] _ #[.int .u64 (m : Int), .int .i64 1] _ _ (fun u _ => u = .string (lowsS m 1)) rfl Tryd.func75 rfl (by kernel_rfl) (by simp only [List.map_cons, List.map_nil, hu47.trans hv47] <;> rfl) (call_is (refnum_any 1 (by omega) m (by omega) v)) (fun u w2 hb h => hK _ _ h hb)
            · obtain ⟨u43, hu43, hv43⟩ := flow_of hD 4 (by kernel_rfl) 43 (by kernel_rfl)
              obtain ⟨u48, hu48, hv48⟩ := flow_of hD 9 (by kernel_rfl) 48 (by kernel_rfl)
              exact wpo_add_str _ _ _ _ _ _ rfl (hu43.trans hv43) (hu48.trans hv48) (HZ.out.2.1) (hK _ _ rfl (Below.refl _ _))
            · exact wpg_field 41 1 27 1 0 _ g5 0 rfl (by kernel_rfl) (by kernel_rfl) (by kernel_rfl) (eval_of (t := 6) (by rw [hO 6 (not_dst 6 (by kernel_rfl))]; rfl)) (hK _ _ rfl (Below.refl _ _))
            · obtain ⟨u50, hu50, hv50⟩ := flow_of hD 11 (by kernel_rfl) 50 (by kernel_rfl)
              exact wp_load_cell 27 _ ⟨g5, 1, none⟩ (.slice XA m xc) _ rfl rfl (hu50.trans hv50) ((hR.call hB).cell 0 1 rfl rfl) Tryd.underlying27 (hK _ _ rfl (Below.refl _ _))
            · obtain ⟨u51, hu51, hv51⟩ := flow_of hD 12 (by kernel_rfl) 51 (by kernel_rfl)
              exact wp_convert _ _ _ _ _ rfl (hu51.trans hv51) (run_bytes_in v 27 9 5 XA m xc Tryd.underlying27 Tryd.underlying5 Tryd.underlying9 dd HDM.out (HDB.out.below (hR.call hB).below)) (hK _ _ rfl (Below.refl _ _))
            · obtain ⟨u49, hu49, hv49⟩ := flow_of hD 10 (by kernel_rfl) 49 (by kernel_rfl)
              obtain ⟨u52, hu52, hv52⟩ := flow_of hD 13 (by kernel_rfl) 52 (by kernel_rfl)
              exact wpo_add_str _ _ _ _ _ _ rfl (hu49.trans hv49) (hu52.trans hv52) (HZ.out.2.2.1) (hK _ _ rfl (Below.refl _ _))
            · exact wpg_field 25 0 5 0 0 _ g 0 rfl (by kernel_rfl) (by kernel_rfl) (by kernel_rfl) (eval_of (t := 1) (by rw [hO 1 (not_dst 1 (by kernel_rfl))]; rfl)) (hK _ _ rfl (Below.refl _ _))
            · obtain ⟨u54, hu54, hv54⟩ := flow_of hD 15 (by kernel_rfl) 54 (by kernel_rfl)
              exact wp_load_cell 5 _ ⟨g, 0, none⟩ (.int .u8 (cl : Int)) _ rfl rfl (hu54.trans hv54) ((hR.call hB).cell 2 0 rfl rfl) Tryd.underlying5 (hK _ _ rfl (Below.refl _ _))
            · obtain ⟨u55, hu55, hv55⟩ := flow_of hD 16 (by kernel_rfl) 55 (by kernel_rfl)
              exact wpo_call 53 [.tmp 55] _ #[.int .u8 (cl : Int)] _ _ (fun u _ => u = .int .i64 (rm : Int)) rfl Tryd.func53 rfl (by kernel_rfl) (by simp only [List.map_cons, List.map_nil, hu55.trans hv55] <;> rfl) (call_is (HROOM.out v)) (fun u w2 hb h => hK _ _ h hb)
            · exact wpg_field 41 1 27 1 0 _ g5 0 rfl (by kernel_rfl) (by kernel_rfl) (by kernel_rfl) (eval_of (t := 6) (by rw [hO 6 (not_dst 6 (by kernel_rfl))]; rfl)) (hK _ _ rfl (Below.refl _ _))
            · obtain ⟨u57, hu57, hv57⟩ := flow_of hD 18 (by kernel_rfl) 57 (by kernel_rfl)
              exact wp_load_cell 27 _ ⟨g5, 1, none⟩ (.slice XA m xc) _ rfl rfl (hu57.trans hv57) ((hR.call hB).cell 0 1 rfl rfl) Tryd.underlying27 (hK _ _ rfl (Below.refl _ _))
            · obtain ⟨u58, hu58, hv58⟩ := flow_of hD 19 (by kernel_rfl) 58 (by kernel_rfl)
              exact wpo_len_sl 27 5 _ XA m xc Tryd.underlying27 rfl (hu58.trans hv58) (hK _ _ rfl (Below.refl _ _))
            · obtain ⟨u56, hu56, hv56⟩ := flow_of hD 17 (by kernel_rfl) 56 (by kernel_rfl)
              obtain ⟨u59, hu59, hv59⟩ := flow_of hD 20 (by kernel_rfl) 59 (by kernel_rfl)
              exact wpo_sub _ _ _ _ _ _ _ rfl (hu56.trans hv56) (hu59.trans hv59) HSUB.out (hK _ _ rfl (Below.refl _ _))
            · obtain ⟨u60, hu60, hv60⟩ := flow_of hD 21 (by kernel_rfl) 60 (by kernel_rfl)
              exact wpo_make0 27 5 _ _ i0 (.int .u8 0) d 1 1 rfl Tryd.underlying27 HI.out.1 HI.out.2.1 HI.out.2.2.1 HI.out.2.2.2 (hu60.trans hv60) (hu60.trans hv60) (by omega) (by omega) (by omega) (hK _ _ ⟨v.heap.size, rfl, by simp, made_bytes v d _⟩ ((Below.refl _ _).alloc (Nat.le_refl _) _))
            · obtain ⟨u61, hu61, gz, rfl, hz1, hz2⟩ := flow_of hD 22 (by kernel_rfl) 61 (by kernel_rfl)
              exact wp_convert _ _ _ _ _ rfl hu61 (run_bytes_in v 27 9 5 (some ⟨gz, 0, none⟩) d d Tryd.underlying27 Tryd.underlying5 Tryd.underlying9 (List.replicate d 0) List.length_replicate (.inr ⟨gz, 0, rfl, hz1, hz2⟩)) (hK _ _ rfl (Below.refl _ _))
            · obtain ⟨u53, hu53, hv53⟩ := flow_of hD 14 (by kernel_rfl) 53 (by kernel_rfl)
              obtain ⟨u62, hu62, hv62⟩ := flow_of hD 23 (by kernel_rfl) 62 (by kernel_rfl)
              exact wpo_add_str _ _ _ _ _ _ rfl (hu53.trans hv53) (hu62.trans hv62) (HZ.out.2.2.2) (hK _ _ rfl (Below.refl _ _))
          case tail =>
            intro F v hV hB
            have v63 : F 63 = .string (US (j + 1)) := by rw [← HUS1.out]; exact hV _ (List.mem_of_getElem? (i := 24) rfl) 63 rfl
            simp only [List.take_succ_cons, List.take_zero, List.drop_succ_cons, List.drop_zero, putAll, List.setIfInBounds_toArray, List.set_cons_zero, List.set_cons_succ]
            rw [v63]
            have R6 := Lib.hid ((R5.out.call hB).drop 1)
            clear hV hB v63 hR R5 R1
            go_wp2_with fail
            exact ⟨⟨j + 1, by omega, by go_num, rfl, R6.out⟩, by simp [intOf]; omega⟩
        · obtain rfl : j = n := by omega
          have hfin : US j = ⟨(shB s).toArray⟩ := by
            rw [HUS.out]
            show (⟨(headB18 s ++ cellsB cl (s.cells.take j)).toArray⟩ : ByteArray) = _
            rw [List.take_of_length_le (by rw [HS.out.len]; exact Nat.le_refl _), HCL.out]; rfl
          rw [hfin]
          have HSL := Lib.hid (length_shB HM.out)
          clear hfin
          have HDONE : Hid (∀ v : World, Calls Tryd.prog 76 #[.int .u8 83, .string ⟨(shB s).toArray⟩] v fun e w' => e = .returned (.tuple #[.agg (blk PB), .int .i64 0]) ∧ Below v.heap.size v w') := Lib.hid (fun v => by rw [HPB.out]; exact refdone_any 83 (shB s) HSL.out v)
          go_wp2_with fail
          refine (HDONE.out _).mono ?_
          rintro e w6 ⟨rfl, hb⟩
          have q1 := (R1.out.call hb).alloc (blk PB) 52
          clear hb
          go_upto_region 10 with (first | refine wpList_alloc_row rfl 52 rfl _ zeroB ?_ | refine wpList_store_new rfl 52 _ _ rfl _ (blk PB) _ rfl rfl (by rw [size_blk, HPL.out]; exact sizeB) (by rw [size_blk, HPL.out, size_zeros]) (blk_one _) ?_)
          obtain ⟨W6, hW⟩ : ∃ W, W = w6.alloc (.cells (blk PB) 52) := ⟨_, rfl⟩
          rw [← hW] at q1 ⊢
          clear hW
          obtain ⟨g3, hg⟩ : ∃ g, g = w6.heap.size := ⟨_, rfl⟩
          rw [← hg] at q1 ⊢
          clear hg
          have R6 := Lib.hid q1
          clear q1
          go_wp2_with (first
            | refine wpList_load_row rfl 52 _ rfl g3 rfl 52 (blk PB) (0, 0) _ (R6.out.get 0 rfl) Tryd.underlying52 rfl (by rw [size_blk, HPL.out]; exact sizeB) ?_
            | refine wpList_store_row rfl 52 _ _ rfl g2 (blk PB) rfl rfl 52 _ (R6.out.get 1 rfl) (by rw [size_blk, HPL.out]; exact sizeB) (by rw [size_blk, HPL.out, size_zeros]) (blk_one _) ?_)
          have R7 := R6.out.setRow 1 (blk PB) rfl
          exact bodyPost_ret (v := .tuple #[.agg (blk PB), .int .i64 0]) (results_cell_slot rfl _ _ g2 52 _ (0, 0) _ _ rfl rfl (R7.get 1 rfl) Tryd.underlying52 rfl (by rw [size_blk, HPL.out]; exact sizeB)) rfl ⟨rfl, R7.below⟩
end
end Go.Proofs.YtcepfmjebgklfaaDoor
