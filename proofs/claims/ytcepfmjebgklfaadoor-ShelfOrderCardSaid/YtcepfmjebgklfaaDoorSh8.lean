/- Shelves in memory: Take. -/
import Derived.Test.YtcepfmjebgklfaaDoorSh7
import Derived.Test.YtcepfmjebgklfaaDoorRefT
import Derived.Scope
namespace Go.Proofs.YtcepfmjebgklfaaDoor
open Go.RowKit
set_option linter.unusedSimpArgs false
set_option linter.unusedVariables false
set_option maxRecDepth 100000
theorem builtCell (a : Int) (A : Option Addr) (n c : Nat) : Tryd.prog.built 41 [(0, .int .u64 a), (1, .slice A n c)] = some #[.int .u64 a, .slice A n c] := by kernel_rfl
/-- A shelf, a place and an error. -/
def TakePost (w : World) (s : ShL) (p : Nat) (E : Int) (e : Ending) (w' : World) : Prop := ∃ v, e = .returned (.tuple #[v, .int .i64 (p : Int), .int .i64 E]) ∧ ShelfFr w.heap.size w' v s ∧ Below w.heap.size w w'
theorem freeL_none {l : List (Nat × List UInt8)} (h : ∀ j, (hj : j < l.length) → l[j].1 ≠ 0) : freeL l = none := by
  unfold freeL
  rw [List.findIdx?_eq_none_iff]
  intro x hx
  obtain ⟨j, hj, rfl⟩ := List.mem_iff_getElem.1 hx
  simpa using h j hj
theorem freeL_some {l : List (Nat × List UInt8)} {i : Nat} (hi : i < l.length) (h0 : l[i].1 = 0) (h : ∀ j, (hj : j < i) → (l[j]'(by omega)).1 ≠ 0) : freeL l = some i := by
  unfold freeL
  rw [List.findIdx?_eq_some_iff_getElem]
  refine ⟨hi, by simpa using h0, fun j hj => ?_⟩
  simpa using h j hj
/-- What the slots of Take's region hold. -/
def tkV (g gc n c j ser m base : Nat) (t : Tmp) (v : Value) (w : World) : Prop :=
  match t with
  | 50 => v = .pointer (some ⟨g, 3, none⟩)
  | 51 => v = .slice (some ⟨gc, 0, none⟩) n c
  | 52 => v = .int .i64 (j : Int)
  | 53 => v = .int .u64 (ser : Int)
  | 54 => v = .int .i64 (m : Int)
  | 55 => ∃ k, v = .slice (some ⟨k, 0, none⟩) m m ∧ base ≤ k ∧ w.heap[k]? = some (.cells (List.replicate m (Value.int .u8 0)).toArray 5 (0, 0))
  | 56 => ∃ k, v = .agg #[.int .u64 (ser : Int), .slice (some ⟨k, 0, none⟩) m m] ∧ base ≤ k ∧ w.heap[k]? = some (.cells (List.replicate m (Value.int .u8 0)).toArray 5 (0, 0))
  | 57 => v = .pointer (some ⟨gc, j * 2, none⟩)
  | _ => True
theorem tkV_stab (g gc n c j ser m base : Nat) : ∀ t v w w', tkV g gc n c j ser m base t v w → Below w.heap.size w w' → tkV g gc n c j ser m base t v w' := by
  intro t v w w' h hb
  unfold tkV at h ⊢
  split at h <;> first
    | exact h
    | (obtain ⟨k, h1, h2, h3⟩ := h
       exact ⟨k, h1, h2, (hb.block k (Array.getElem?_eq_some_iff.1 h3).1).trans h3⟩)
    | trivial
section
variable {w : World}
set_option maxHeartbeats 4000000 in
theorem take_is (hc : ClsAt w) {s : ShL} {v : Value} (hs : ShelfIn w v s) (ser : Nat) (hser : ser < 18446744073709551616) (m : Int) :
    Calls Tryd.prog 10 #[v, .int .u64 (ser : Int), .int .i64 m] w fun e w' => TakePost w (takeS s ser m) (takeP s ser m) (takeE s ser m) e w' := by
  obtain ⟨A, n, c, l, rfl, hs⟩ := hs
  have hR := ((Held.start w).alloc (shV s A n c) 25).alloc #[.int .u8 0, .int .u16 0, .int .u16 0, .slice none 0 0] 25
  obtain ⟨W, hW⟩ : ∃ W, W = (w.alloc (.cells (shV s A n c) 25)).alloc (.cells #[.int .u8 0, .int .u16 0, .int .u16 0, .slice none 0 0] 25) := ⟨_, rfl⟩
  obtain ⟨g, hg⟩ : ∃ g, g = w.heap.size := ⟨_, rfl⟩
  rw [← hW, show (w.alloc (.cells (shV s A n c) 25)).heap.size = g + 1 by rw [hg]; simp, ← hg] at hR
  have HR := Lib.hid hR
  have HW := Lib.hid hW
  have HG := Lib.hid hg
  have HS := Lib.hid hs
  have HC : Hid (ClsAt W) := Lib.hid (hc.below hR.below)
  have HM := Lib.hid (may_is (w := W) HC.out ⟨A, n, c, l, rfl, hs.below hR.below⟩)
  have hcl := hs.cl
  have HOF : Hid (∀ w', Below W.heap.size W w' → Calls Tryd.prog 28 #[.int .u8 (s.cl : Int), .int .i64 m] w' fun e w'' => e = .returned (.bool (ofL s.cl m)) ∧ Below w'.heap.size w' w'') := Lib.hid (fun w' hb => of_is (HC.out.below hb) s.cl hcl m)
  have HTE : Hid (takeE s ser m = if mayL s then (if ser = 0 ∨ 8796093022207 < ser ∨ ofL s.cl m = false then 2 else if freeL s.cells = none then 6 else 0) else 5) := Lib.hid rfl
  have HTP : Hid (takeP s ser m = if takeE s ser m = 0 then (freeL s.cells).getD 0 else 0) := Lib.hid rfl
  have HTS : Hid (takeS s ser m = if takeE s ser m = 0 then putC s ((freeL s.cells).getD 0) (ser, List.replicate m.toNat 0) else emptySh) := Lib.hid rfl
  have HOL : Hid (ofL s.cl m = true → 1 ≤ m ∧ m ≤ 237) := Lib.hid (fun h => by have := ofL_le h; omega)
  generalize takeS s ser m = ts at HTS ⊢
  generalize takeP s ser m = tp at HTP ⊢
  generalize takeE s ser m = te at HTE HTP HTS ⊢
  have HB : Hid (te ≠ 0 → tp = 0 ∧ ts = emptySh) := Lib.hid (fun h => ⟨by rw [HTP.out, if_neg h], by rw [HTS.out, if_neg h]⟩)
  generalize hmay : mayL s = may at HM HTE
  generalize hof : ofL s.cl m = o at HOF HTE HOL
  obtain ⟨⟨a0, a1, a2, a3⟩, _, _, _, _⟩ := hR.cells4 1 rfl
  have HN := hs.le30
  clear hR hW hg hs hc hcl
  go_enter Tryd.func10, Tryd.ntmps10
  go_upto_region 1 with (fail)
  rw [← HW.out, ← HG.out]
  refine wp_scope_straight ?_
  go_wp2_with fail
  refine HM.out.mono ?_
  rintro e w1 ⟨rfl, hb⟩
  have R1 := Lib.hid (HR.out.call hb)
  have HB1 := Lib.hid hb
  clear hb a0 a1 a2 a3 HM
  cases may with
  | false =>
    have hte := HTE.out
    rw [if_neg (by simp)] at hte
    have HV : Hid (te = 5 ∧ tp = 0 ∧ ts = emptySh) := Lib.hid ⟨hte, HB.out (by rw [hte]; decide)⟩
    clear hte
    obtain ⟨⟨e0, e1, e2, e3⟩, b0, b1, b2, b3⟩ := R1.out.cells4 0 rfl
    go_wp2_with fail
    have R9 := R1.out.store4 0 rfl (.int .u8 0) (.int .u16 0) (.int .u16 0) (.slice none 0 0)
    refine bodyPost_ret (v := .tuple #[.agg #[.int .u8 0, .int .u16 0, .int .u16 0, .slice none 0 0], .int .i64 0, .int .i64 5]) (results_cell_slots rfl _ _ (g + 1) 25 _ (0, 0) _ _ _ rfl rfl rfl (R9.get 0 rfl) Tryd.underlying25 rfl sizeShelf) rfl ?_
    exact ⟨_, by rw [HV.out.2.1, HV.out.1]; rfl, by rw [HV.out.2.2]; exact emptySh_in _ _, R9.below⟩
  | true =>
    have HTE := Lib.hid (HTE.out.trans (if_pos rfl))
    by_cases h0 : ser = 0
    · subst h0
      have hte := HTE.out
      rw [if_pos (.inl rfl)] at hte
      have HV : Hid (te = 2 ∧ tp = 0 ∧ ts = emptySh) := Lib.hid ⟨hte, HB.out (by rw [hte]; decide)⟩
      clear hte
      obtain ⟨⟨e0, e1, e2, e3⟩, b0, b1, b2, b3⟩ := R1.out.cells4 0 rfl
      go_wp2_with fail
      have R9 := R1.out.store4 0 rfl (.int .u8 0) (.int .u16 0) (.int .u16 0) (.slice none 0 0)
      refine bodyPost_ret (v := .tuple #[.agg #[.int .u8 0, .int .u16 0, .int .u16 0, .slice none 0 0], .int .i64 0, .int .i64 2]) (results_cell_slots rfl _ _ (g + 1) 25 _ (0, 0) _ _ _ rfl rfl rfl (R9.get 0 rfl) Tryd.underlying25 rfl sizeShelf) rfl ?_
      exact ⟨_, by rw [HV.out.2.1, HV.out.1]; rfl, by rw [HV.out.2.2]; exact emptySh_in _ _, R9.below⟩
    · have h0' : ((ser : Int) == 0) = false := by simp; omega
      by_cases h1 : 8796093022207 < ser
      · have h1' : decide ((8796093022207 : Int) < (ser : Int)) = true := by simp; omega
        have hte := HTE.out
        rw [if_pos (.inr (.inl h1))] at hte
        have HV : Hid (te = 2 ∧ tp = 0 ∧ ts = emptySh) := Lib.hid ⟨hte, HB.out (by rw [hte]; decide)⟩
        clear hte h1 h0 hser
        obtain ⟨⟨e0, e1, e2, e3⟩, b0, b1, b2, b3⟩ := R1.out.cells4 0 rfl
        go_wp2_with fail
        have R9 := R1.out.store4 0 rfl (.int .u8 0) (.int .u16 0) (.int .u16 0) (.slice none 0 0)
        refine bodyPost_ret (v := .tuple #[.agg #[.int .u8 0, .int .u16 0, .int .u16 0, .slice none 0 0], .int .i64 0, .int .i64 2]) (results_cell_slots rfl _ _ (g + 1) 25 _ (0, 0) _ _ _ rfl rfl rfl (R9.get 0 rfl) Tryd.underlying25 rfl sizeShelf) rfl ?_
        exact ⟨_, by rw [HV.out.2.1, HV.out.1]; rfl, by rw [HV.out.2.2]; exact emptySh_in _ _, R9.below⟩
      · have h1' : decide ((8796093022207 : Int) < (ser : Int)) = false := by simp; omega
        obtain ⟨⟨a0, a1, a2, a3⟩, _, _, _, _⟩ := R1.out.cells4 1 rfl
        have HN0 : Hid (ser ≠ 0 ∧ ¬ 8796093022207 < ser) := Lib.hid ⟨h0, h1⟩
        clear h0 h1 hser
        go_wp2_with fail
        refine (HOF.out _ HB1.out).mono ?_
        rintro e w2 ⟨rfl, hb⟩
        have R2 := Lib.hid (R1.out.call hb)
        clear hb a0 a1 a2 a3
        cases o with
        | false =>
          have hte := HTE.out
          rw [if_pos (show ser = 0 ∨ 8796093022207 < ser ∨ false = false from .inr (.inr rfl))] at hte
          have HV : Hid (te = 2 ∧ tp = 0 ∧ ts = emptySh) := Lib.hid ⟨hte, HB.out (by rw [hte]; decide)⟩
          clear hte
          obtain ⟨⟨e0, e1, e2, e3⟩, b0, b1, b2, b3⟩ := R2.out.cells4 0 rfl
          go_wp2_with fail
          have R9 := R2.out.store4 0 rfl (.int .u8 0) (.int .u16 0) (.int .u16 0) (.slice none 0 0)
          refine bodyPost_ret (v := .tuple #[.agg #[.int .u8 0, .int .u16 0, .int .u16 0, .slice none 0 0], .int .i64 0, .int .i64 2]) (results_cell_slots rfl _ _ (g + 1) 25 _ (0, 0) _ _ _ rfl rfl rfl (R9.get 0 rfl) Tryd.underlying25 rfl sizeShelf) rfl ?_
          exact ⟨_, by rw [HV.out.2.1, HV.out.1]; rfl, by rw [HV.out.2.2]; exact emptySh_in _ _, R9.below⟩
        | true =>
          have HTE := Lib.hid (HTE.out.trans (if_neg (show ¬ (ser = 0 ∨ 8796093022207 < ser ∨ true = false) from fun h => h.elim HN0.out.1 (fun h => h.elim HN0.out.2 (fun h => by cases h)))))
          obtain ⟨⟨a0, a1, a2, a3⟩, _, _, _, _⟩ := R2.out.cells4 1 rfl
          go_wp2_with fail
          refine wp_label ?_
          go_wp2_with fail
          go_loopw [9, 10, 11, 35] (fun z _ _ i wr => ∃ j : Nat, j ≤ n ∧ i = .int .i64 (j : Int) ∧ z = .int .i64 (-1) ∧ Held w wr [rowT (g + 1) #[.int .u8 0, .int .u16 0, .int .u16 0, .slice none 0 0] 25, rowT g (shV s A n c) 25] ∧ (∀ i, (hi : i < j) → ∀ y, s.cells[i]? = some y → y.1 ≠ 0)) (fun _ _ _ i _ => n - (intOf i).toNat)
          case atStart => exact ⟨0, by omega, rfl, rfl, R2.out, fun i hi => absurd hi (by omega)⟩
          case round =>
            obtain ⟨j, hj, rfl, rfl, hR, hall⟩ := hrel
            have R3 := Lib.hid hR
            have HA := Lib.hid hall
            clear hR hall R2 a0 a1 a2 a3
            by_cases hlt : j < n
            · obtain ⟨x, hx, hd, hok, _, b, off, rfl, hb, hr⟩ := HS.out.get j hlt
              have hjs : j < s.cells.length := by rw [HS.out.len]; exact hlt
              have hsj : s.cells[j]? = some x.dat := by rw [← hd, List.getD_eq_getElem?_getD, List.getElem?_eq_getElem hjs]; rfl
              have HSJ := Lib.hid hsj
              have c0 : wr.cell? ⟨b, off + j * 2, none⟩ = some (.int .u64 (x.ser : Int)) := (R3.out.below.cell hb).trans (hr 0 _ (show (cellV x).toList[0]? = some (.int .u64 (x.ser : Int)) from rfl))
              have c1 : wr.cell? ⟨b, off + j * 2 + 1, none⟩ = some (.slice x.A x.m x.c) := (R3.out.below.cell hb).trans (hr 1 _ (show (cellV x).toList[1]? = some (.slice x.A x.m x.c) from rfl))
              clear hx hd hok hb hr hjs hsj
              go_upto_region 9 with (fail)
              have q1 := (R3.out.alloc #[.int .u64 (x.ser : Int), .slice x.A x.m x.c] 41)
              clear c0 c1
              obtain ⟨W5, hW⟩ : ∃ W, W = wr.alloc (.cells #[.int .u64 (x.ser : Int), .slice x.A x.m x.c] 41) := ⟨_, rfl⟩
              rw [← hW] at q1 ⊢
              clear hW
              obtain ⟨g5, hg⟩ : ∃ g, g = wr.heap.size := ⟨_, rfl⟩
              rw [← hg] at q1 ⊢
              clear hg
              have R5 := Lib.hid q1
              clear q1
              have c0 : W5.cell? ⟨g5, 0, none⟩ = some (.int .u64 (x.ser : Int)) := R5.out.cell 0 0 rfl rfl
              by_cases hz : x.ser = 0
              · have hz' : ((x.ser : Int) == 0) = true := by simp; omega
                have HFR : Hid (freeL s.cells = some j) := Lib.hid (by
                  obtain ⟨h1, h2⟩ := List.getElem?_eq_some_iff.1 HSJ.out
                  refine freeL_some h1 (by rw [h2]; exact hz) (fun i hi => HA.out i hi _ (List.getElem?_eq_getElem (by omega)))
                  )
                have hte := HTE.out
                rw [HFR.out, if_neg (by simp)] at hte
                have HTE2 := Lib.hid hte
                have HTS2 : Hid (ts = putC s j (ser, List.replicate m.toNat 0)) := Lib.hid (by rw [HTS.out, if_pos hte, HFR.out]; rfl)
                have HTP2 : Hid (tp = j) := Lib.hid (by rw [HTP.out, if_pos hte, HFR.out]; rfl)
                have hne : s.cells ≠ [] := by intro h; have := HSJ.out; rw [h] at this; simp at this
                have HNE := Lib.hid hne
                have HJN := Lib.hid hlt
                clear hz hte hne HTE HTS HTP HB
                obtain ⟨⟨a0, a1, a2, a3⟩, _, _, _, _⟩ := R5.out.cells4 2 rfl
                go_wp2_with fail
                refine (copied_is (w := W5) ⟨_, n, c, l, rfl, HS.out.below R5.out.below⟩).mono ?_
                rintro e w6 ⟨v2, rfl, h2⟩
                obtain ⟨gc, c2, cur, hs2, rfl, ho⟩ := h2.resolve_left (fun h => HNE.out h.1)
                have O2 := Lib.hid (own_join (R5.out.drop 1) ho)
                have HLE : Hid (hs2.length = s.cells.length) := Lib.hid (by rw [← ho.dat, List.length_map])
                clear h2 ho a0 a1 a2 a3 c0 hz'
                obtain ⟨⟨a0, a1, a2, a3⟩, b0, b1, b2, b3⟩ := O2.out.held.cells4 (hs2.length + 1 + 1) (own_at 1 rfl)
                unfold shV
                go_upto_region 15 with (fail)
                have q3 := O2.out.held.store4 (hs2.length + 1 + 1) (own_at 1 rfl) (.int .u8 (s.cl : Int)) (.int .u16 (s.prev : Int)) (.int .u16 (s.next : Int)) (.slice (some ⟨gc, 0, none⟩) hs2.length c2)
                rw [own_set] at q3
                obtain ⟨W3, hW3⟩ : ∃ W3, W3 = (((w6.setCell ⟨g, 0, none⟩ (.int .u8 (s.cl : Int))).setCell ⟨g, 1, none⟩ (.int .u16 (s.prev : Int))).setCell ⟨g, 2, none⟩ (.int .u16 (s.next : Int))).setCell ⟨g, 3, none⟩ (.slice (some ⟨gc, 0, none⟩) hs2.length c2) := ⟨_, rfl⟩
                rw [← hW3] at q3 ⊢
                have O3 := Lib.hid (O2.out.turnTail q3)
                clear hW3 q3 O2 a0 a1 a2 a3 b0 b1 b2 b3
                have hpl : j < hs2.length := by have := HLE.out; rw [HS.out.len] at this; omega
                obtain ⟨hm1, hm2⟩ := HOL.out (by simp)
                obtain ⟨mm, rfl⟩ : ∃ k : Nat, m = (k : Int) := ⟨m.toNat, by omega⟩
                have hmm : mm ≤ 237 := by omega
                obtain ⟨i, hi, hz, hs2', hby⟩ := info_parts infoByte
                have HI := Lib.hid hi
                have HZ := Lib.hid hz
                have HPL := Lib.hid hpl
                have HMM := Lib.hid hmm
                clear hi hz hm1 hm2
                refine wp_region_flow (by kernel_rfl) 8 (tkV g gc hs2.length c2 j ser mm W3.heap.size) (tkV_stab g gc hs2.length c2 j ser mm W3.heap.size) (by kernel_rfl) (by kernel_rfl) (by kernel_rfl) (by kernel_rfl) ?heads ?tail
                case heads =>
                  refine ⟨.inr ⟨rfl, 50, rfl, fun a v hB hO hD K hK => ?_⟩, .inr ⟨rfl, 51, rfl, fun a v hB hO hD K hK => ?_⟩, .inr ⟨rfl, 52, rfl, fun a v hB hO hD K hK => ?_⟩, .inr ⟨rfl, 53, rfl, fun a v hB hO hD K hK => ?_⟩, .inr ⟨rfl, 54, rfl, fun a v hB hO hD K hK => ?_⟩, .inr ⟨rfl, 55, rfl, fun a v hB hO hD K hK => ?_⟩, .inr ⟨rfl, 56, rfl, fun a v hB hO hD K hK => ?_⟩, .inr ⟨rfl, 57, rfl, fun a v hB hO hD K hK => ?_⟩, .inl (by decide), trivial⟩
                  · exact wpg_field 25 3 23 3 0 _ g 0 rfl (by kernel_rfl) (by kernel_rfl) (by kernel_rfl) (eval_of (t := 3) (by rw [hO 3 (not_dst 3 (by kernel_rfl))]; rfl)) (hK _ _ rfl (Below.refl _ _))
                  · obtain ⟨u, hu, hv⟩ := flow_of hD 0 (by kernel_rfl) 50 (by kernel_rfl)
                    exact wp_load_cell 23 _ ⟨g, 3, none⟩ (.slice (some ⟨gc, 0, none⟩) hs2.length c2) _ rfl rfl (hu.trans hv) ((O3.out.held.call hB).cell (hs2.length + 1 + 1) 3 (own_at 1 rfl) rfl) Tryd.underlying23 (hK _ _ rfl (Below.refl _ _))
                  · exact wpg_move _ _ rfl (eval_of (t := 9) (by rw [hO 9 (not_dst 9 (by kernel_rfl))]; rfl)) (hK _ _ rfl (Below.refl _ _))
                  · exact wpg_move _ _ rfl (eval_of (t := 1) (by rw [hO 1 (not_dst 1 (by kernel_rfl))]; rfl)) (hK _ _ rfl (Below.refl _ _))
                  · exact wpg_move _ _ rfl (eval_of (t := 2) (by rw [hO 2 (not_dst 2 (by kernel_rfl))]; rfl)) (hK _ _ rfl (Below.refl _ _))
                  · obtain ⟨u, hu, hv⟩ := flow_of hD 4 (by kernel_rfl) 54 (by kernel_rfl)
                    exact wpo_make 27 5 _ _ i (.int .u8 0) mm Tryd.underlying27 HI.out HZ.out hby hs2' rfl rfl (hu.trans hv) (hu.trans hv) (by have := HMM.out; omega) (hK _ _ ⟨_, rfl, hB.size, heap_alloc_new _ _⟩ ((Below.refl _ _).alloc (Nat.le_refl _) _))
                  · obtain ⟨u, hu, hv⟩ := flow_of hD 3 (by kernel_rfl) 53 (by kernel_rfl)
                    obtain ⟨u', hu', k, rfl, h1, h2⟩ := flow_of hD 5 (by kernel_rfl) 55 (by kernel_rfl)
                    refine wp_of_wq rfl (wk_build 41 _ [(0, .int .u64 (ser : Int)), (1, .slice (some ⟨k, 0, none⟩) mm mm)] _ (by exact wanted_none rfl) rfl (by simp only [List.map_toArray, List.map_cons, List.map_nil, hu.trans hv, hu']) (builtCell (ser : Int) (some ⟨k, 0, none⟩) mm mm) ?_)
                    refine wk_nil ?_
                    intro w' hC
                    exact hK _ _ ⟨k, rfl, h1, ((show Below v.heap.size v w' from hC).block k (Array.getElem?_eq_some_iff.1 h2).1).trans h2⟩ hC
                  · obtain ⟨u, hu, hv⟩ := flow_of hD 1 (by kernel_rfl) 51 (by kernel_rfl)
                    obtain ⟨u', hu', hv'⟩ := flow_of hD 2 (by kernel_rfl) 52 (by kernel_rfl)
                    refine wpg_index 23 41 _ _ gc 0 j hs2.length c2 2 .i64 rfl Tryd.underlying23 sizeCell (hu.trans hv) (hu'.trans hv') HPL.out (hK _ _ ?_ (Below.refl _ _))
                    rw [Nat.zero_add]; rfl
                case tail =>
                  intro F w7 hV hB
                  obtain ⟨k, v56, hk1, hk2⟩ : ∃ k, F 56 = .agg #[.int .u64 (ser : Int), .slice (some ⟨k, 0, none⟩) mm mm] ∧ W3.heap.size ≤ k ∧ w7.heap[k]? = some (.cells (List.replicate mm (Value.int .u8 0)).toArray 5 (0, 0)) := hV _ (List.mem_of_getElem? (i := 6) rfl) 56 rfl
                  have v57 : F 57 = .pointer (some ⟨gc, j * 2, none⟩) := hV _ (List.mem_of_getElem? (i := 7) rfl) 57 rfl
                  simp only [List.take_succ_cons, List.take_zero, List.drop_succ_cons, List.drop_zero, putAll, List.setIfInBounds_toArray, List.set_cons_zero, List.set_cons_succ]
                  rw [v56, v57]
                  have R7 := O3.out.held.more hB (x := datT ⟨ser, some ⟨k, 0, none⟩, mm, mm, List.replicate mm 0⟩) (F := [k]) ⟨by simp, Nat.le_refl _, .inr ⟨k, _, rfl, rfl, hk2, by simp [vu8]⟩⟩ (by simpa using hk1) (by simp)
                  have hser : ser < 18446744073709551616 := by have := HN0.out; omega
                  have q4 := O3.out.putCell j HPL.out ⟨ser, some ⟨k, 0, none⟩, mm, mm, List.replicate mm 0⟩ R7 (by rw [List.length_replicate]; have := HMM.out; omega) hser
                  obtain ⟨h1, h2⟩ := O3.out.row j HPL.out
                  have c0 : w7.cell? ⟨gc, j * 2, none⟩ = _ := R7.cell 1 (j * 2) rfl h1
                  have c1 : w7.cell? ⟨gc, j * 2 + 1, none⟩ = _ := R7.cell 1 (j * 2 + 1) rfl h2
                  have f0 := R7.free 1 (j * 2) rfl
                  have f1 := R7.free 1 (j * 2 + 1) rfl
                  have Q4 := Lib.hid q4
                  clear h1 h2 q4 R7 hV v56 v57 hk1 hk2 hB hser
                  go_upto_region 16 with (fail)
                  obtain ⟨W4, hW4⟩ : ∃ W4, W4 = (w7.setCell ⟨gc, j * 2, none⟩ (.int .u64 (ser : Int))).setCell ⟨gc, j * 2 + 1, none⟩ (.slice (some ⟨k, 0, none⟩) mm mm) := ⟨_, rfl⟩
                  have O4 : Hid (OwnSh w W4 (putC s j (ser, List.replicate mm 0)) gc c2 _ (hs2.set j ⟨ser, some ⟨k, 0, none⟩, mm, mm, List.replicate mm 0⟩) _) := Lib.hid (hW4 ▸ Q4.out)
                  rw [← hW4]
                  clear hW4 Q4 O3 c0 c1 f0 f1
                  have HLN : Hid ((hs2.set j ⟨ser, some ⟨k, 0, none⟩, mm, mm, List.replicate mm 0⟩).length = hs2.length) := Lib.hid (by simp)
                  generalize hs2.set j ⟨ser, some ⟨k, 0, none⟩, mm, mm, List.replicate mm 0⟩ = hs3 at O4 HLN
                  obtain ⟨⟨a0, a1, a2, a3⟩, _, _, _, _⟩ := O4.out.held.cells4 (hs3.length + 1 + 2) (own_at 2 rfl)
                  obtain ⟨⟨e0, e1, e2, e3⟩, b0, b1, b2, b3⟩ := O4.out.held.cells4 (hs3.length + 1 + 1) (own_at 1 rfl)
                  go_wp2_with fail
                  have q5 := O4.out.held.store4 (hs3.length + 1 + 1) (own_at 1 rfl) (.int .u8 (s.cl : Int)) (.int .u16 (s.prev : Int)) (.int .u16 (s.next : Int)) (.slice (some ⟨gc, 0, none⟩) hs2.length c2)
                  rw [own_set] at q5
                  have O5 := O4.out.turnTail q5
                  refine bodyPost_ret (v := .tuple #[.agg #[.int .u8 (s.cl : Int), .int .u16 (s.prev : Int), .int .u16 (s.next : Int), .slice (some ⟨gc, 0, none⟩) hs2.length c2], .int .i64 (j : Int), .int .i64 0]) (results_cell_slots rfl _ _ (g + 1) 25 _ (0, 0) _ _ _ rfl rfl rfl (O5.held.get (hs3.length + 1 + 1) (own_at 1 rfl)) Tryd.underlying25 rfl sizeShelf) rfl ?_
                  have hsf := O5.shelf
                  rw [HLN.out] at hsf
                  exact ⟨_, by rw [HTP2.out, HTE2.out], by rw [HTS2.out, Int.toNat_natCast]; exact ⟨_, _, _, _, rfl, hsf, HLN.out ▸ O5.fresh⟩, O5.held.below⟩
              · have hz' : ((x.ser : Int) == 0) = false := by simp; omega
                go_wp2_with fail
                go_roundw
                case rel => exact ⟨j + 1, by omega, by go_num, rfl, R5.out.drop 1, fun i hi y hy => by
                  by_cases e : i = j
                  · subst e
                    rw [HSJ.out] at hy
                    cases hy
                    exact hz
                  · exact HA.out i (by omega) y hy⟩
                case measure => simp [intOf]; omega
            · obtain rfl : j = n := by omega
              have hfr : freeL s.cells = none := freeL_none (fun i hi => HA.out i (by rw [← HS.out.len]; exact hi) _ (List.getElem?_eq_getElem hi))
              have hte := HTE.out
              rw [if_pos hfr] at hte
              have HV : Hid (te = 6 ∧ tp = 0 ∧ ts = emptySh) := Lib.hid ⟨hte, HB.out (by rw [hte]; decide)⟩
              clear hte hfr
              obtain ⟨⟨e0, e1, e2, e3⟩, b0, b1, b2, b3⟩ := R3.out.cells4 0 rfl
              go_wp2_with fail
              have R9 := R3.out.store4 0 rfl (.int .u8 0) (.int .u16 0) (.int .u16 0) (.slice none 0 0)
              refine bodyPost_ret (v := .tuple #[.agg #[.int .u8 0, .int .u16 0, .int .u16 0, .slice none 0 0], .int .i64 0, .int .i64 6]) (results_cell_slots rfl _ _ (g + 1) 25 _ (0, 0) _ _ _ rfl rfl rfl (R9.get 0 rfl) Tryd.underlying25 rfl sizeShelf) rfl ?_
              exact ⟨_, by rw [HV.out.2.1, HV.out.1]; rfl, by rw [HV.out.2.2]; exact emptySh_in _ _, R9.below⟩
end
end Go.Proofs.YtcepfmjebgklfaaDoor
