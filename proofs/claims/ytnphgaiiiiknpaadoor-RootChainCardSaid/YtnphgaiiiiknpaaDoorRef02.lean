/- The document's numbers: the low bytes, by recursion. The document's block of all fields' bytes. The document's torn block. Plain laws on rows of numbers as bytes: packed by their widths, unpacked, and back; when a block is such a row's. The slot layer's plain laws: a root's bytes tell it; a block is a root's just if it is the block of the root that stands in it; torn blocks. -/
import Derived.Test.YtnphgaiiiiknpaaDoorSlot
import Derived.Lib.SlBytesRow
import Derived.Test.YtnphgaiiiiknpaaDoorFieldMath
import Derived.Test.YtnphgaiiiiknpaaDoorSlotEq
namespace Go.Proofs.YtnphgaiiiiknpaaDoor
open Go.RowKit
set_option linter.unusedSimpArgs false
set_option maxRecDepth 100000
theorem step_calls {P : Program} {ops : Array Oper} {o : Oper} {a : Act} {w : World} {K : Act → World → Prop} {Q : Exit → Act → World → Prop} {E : Prop} (hg : o.guard = none)
    (f : FuncId) (xs : List Operand) (ts : Array TypeId) (args : Array Value) (v : Value) (fn : Func) (c : Code)
    (ho : o.op = .call { callee := .value (.func f), args := xs.toArray, argTypes := ts }) (hf : P.funcs[f]? = some fn) (hb : fn.body = some c) (hn : (fn.name == "runtime.NumGoroutine") = false)
    (hx : (xs.map a.eval).toArray = args)
    (hc : ∀ w : World, Calls P f args w fun e w'' => e = .returned v ∧ Below w.heap.size w w'')
    (hK : ∀ w', Below w.heap.size w w' → K (a.put o.dst v) w') : if Region.wanted o (yielded ops a.tmps) = true then Oper.wp P o a w K Q else E := by
  have hw : Region.wanted o (yielded ops a.tmps) = true := by simp [Region.wanted, hg]
  rw [if_pos hw]
  have he : (execOp a.eval o).run P w = .ok (.enter f (xs.map a.eval).toArray) w := by
    unfold execOp
    simp only [ho, resolve]
    show ((do let d ← Deferred.ofValue (.func (.func f) #[] #[]) (xs.toArray.map a.eval); invoke d.target d.args) : Sem Next).run P w = _
    have hn' : ¬ fn.name = "runtime.NumGoroutine" := by simpa using hn
    simp [Deferred.ofValue, invoke, callFunc, hf, hb, hn']
  unfold Oper.wp
  rw [he, hx]
  refine (hc w).mono ?_
  rintro e w' ⟨rfl, h⟩
  exact hK w' h
theorem cell_kept {w w2 : World} {v : Value} {t : TypeId} (h : Below (w.alloc (.cells #[v] t)).drew.heap.size (w.alloc (.cells #[v] t)).drew w2) : w2.cell? ⟨w.heap.size, 0, none⟩ = some v :=
  cell_of_row w2 _ 0 _ _ (0, 0) ((h.block _ (by simp)).trans (heap_alloc_new w (.cells #[v] t)))
def lowsS (x k : Nat) : ByteArray := ⟨(lows x k).toArray⟩
set_option maxHeartbeats 1000000 in
theorem refnum_any : ∀ (k : Nat), k ≤ 8 → ∀ (x : Nat), x < 18446744073709551616 → ∀ w : World,
    Calls Tryd.prog 45 #[.int .u64 (x : Int), .int .i64 (k : Int)] w fun e w' => e = .returned (.string (lowsS x k)) ∧ Below w.heap.size w w' := by
  intro k
  induction k with
  | zero =>
    intro _ x hx w
    go_enter Tryd.func45, Tryd.ntmps45
    go_wp2_with fail
    go_ret
    exact ⟨rfl, Below.refl _ _⟩
  | succ k ih =>
    intro hk x hx w
    obtain ⟨r, hr⟩ : ∃ r, r = x % 256 := ⟨_, rfl⟩
    obtain ⟨q, hq⟩ : ∃ q, q = x / 256 := ⟨_, rfl⟩
    have IH := Lib.hid (ih (by omega) q (by omega))
    have e1 : IntKind.u8.wrap ((x : Int).tmod 256) = (r : Int) := by rw [Int.tmod_eq_emod_of_nonneg (by omega), IntKind.wrap_u8]; omega
    have e2 : IntKind.u64.wrap ((x : Int) / 256) = (q : Int) := by rw [IntKind.wrap_u64]; omega
    have e3 : IntKind.i64.wrap (k : Int) = (k : Int) := by rw [IntKind.wrap_i64]; omega
    have hcv : ∀ (W : World) (g : Nat), W.cell? ⟨g, 0, none⟩ = some (.int .u8 (r : Int)) → (convert 99 9 (.slice (some ⟨g, 0, none⟩) 1 1)).run Tryd.prog W = .ok (.string ⟨#[UInt8.ofNat x]⟩) W := by
      intro W g hc
      have hu : UInt8.ofNat x = UInt8.ofNat r := by rw [hr]; apply UInt8.toNat_inj.1; simp
      have hn : (UInt8.ofNat r).toNat = r := by rw [UInt8.toNat_ofNat']; omega
      rw [hu]
      refine Lib.run_convert_whole W 99 5 9 Tryd.underlying99 Tryd.underlying5 Tryd.underlying9 g 0 ⟨#[UInt8.ofNat r]⟩ ?_ 1
      intro i hi
      obtain rfl : i = 0 := by simpa [ByteArray.size] using hi
      rw [Nat.zero_add, hc]
      show some (Value.int .u8 (r : Int)) = some (.int .u8 (((UInt8.ofNat r).toNat : Nat) : Int))
      rw [hn]
    have hsz : ¬ 9223372036854775807 < 1 + (lowsS q k).size := by
      show ¬ 9223372036854775807 < 1 + (lows q k).toArray.size
      simp [length_lows]; omega
    have hcat : (⟨#[UInt8.ofNat x]⟩ : ByteArray) ++ lowsS q k = lowsS x (k + 1) := by
      subst hq
      apply ByteArray.ext
      apply Array.toList_inj.1
      simp [lowsS, lows]
    have HR := Lib.hid hr
    have HQ := Lib.hid hq
    clear ih hr hq
    go_enter Tryd.func45, Tryd.ntmps45
    go_wp2_with fail
    go_region_law (refine step_calls rfl 45 [.tmp 13, .tmp 15] _ #[.int .u64 (q : Int), .int .i64 (k : Int)] (.string (lowsS q k)) _ _ rfl Tryd.func45 rfl (by kernel_rfl) (by simp [Act.eval, Act.put]) IH.out ?_; intro w2 hb2; try have hc2 : w2.cell? ⟨w.heap.size, 0, none⟩ = some (.int .u8 (r : Int)) := cell_kept hb2)
    · go_wp2_with fail
      go_ret
      exact ⟨rfl, (((Below.refl _ _).alloc (Nat.le_refl _) _).drew).trans (hb2.mono (by simp))⟩
    · go_wp2_with fail
      go_ret
      exact ⟨rfl, (((Below.refl _ _).alloc (Nat.le_refl _) _).drew).trans (hb2.mono (by simp))⟩
    · go_wp2_with fail
      go_ret
      exact ⟨rfl, by first | exact ((Below.refl _ _).drew.trans hb2).alloc hb2.size _ | exact (((Below.refl _ _).drew.trans hb2).alloc hb2.size _).drew⟩
end Go.Proofs.YtnphgaiiiiknpaaDoor
namespace Go.Proofs.YtnphgaiiiiknpaaDoor
open Go.RowKit
set_option linter.unusedSimpArgs false
set_option maxRecDepth 100000
theorem inside_set (m : UInt8) (L : List UInt8) (k : Nat) (hk : k < L.length) (hL : L.length ≤ 251) : (insideB m (L.take k)).set (k + 1) L[k] = insideB m (L.take (k + 1)) := by
  have h1 : (L.take k).length = k := by rw [List.length_take]; omega
  have h2 : (L.take (k + 1)).length = k + 1 := by rw [List.length_take]; omega
  unfold insideB
  rw [List.set_cons_succ, h1, h2, List.set_append_right _ _ (by omega), h1, Nat.sub_self, show 255 - k = (255 - (k + 1)) + 1 by omega, List.replicate_succ, List.set_cons_zero, List.take_succ_eq_append_getElem hk, List.append_assoc]
  rfl
theorem inside_zero (m : UInt8) : insideB m [] = zeroBlk.set 0 m := by
  simp [insideB, zeroBlk]
set_option maxHeartbeats 2000000 in
theorem refdone_any (m : UInt8) (L : List UInt8) (hL : L.length ≤ 251) (w : World) :
    Calls Tryd.prog 46 #[.int .u8 (m.toNat : Int), .string ⟨L.toArray⟩] w fun e w' => e = .returned (.tuple #[.agg (blk (doneB m L)), .int .i64 0]) ∧ Below w.heap.size w w' := by
  obtain ⟨s, hs⟩ : ∃ s : ByteArray, s = ⟨L.toArray⟩ := ⟨_, rfl⟩
  obtain ⟨n, hn⟩ : ∃ n, n = L.length := ⟨_, rfl⟩
  have hsz : s.size = n := by rw [hs, hn]; simp [ByteArray.size]
  rw [← hs]
  have hz : (Tryd.prog.info? 45).bind (·.zero) = some (.agg (blk zeroBlk)) := by rw [zeroB, zero_cells]
  have HZ := Lib.hid hz; clear hz
  have hlz := length_zeroBlk
  have HLZ := Lib.hid hlz; clear hlz
  have HS := Lib.hid hs
  have HN := Lib.hid hn
  have hn251 : n ≤ 251 := by omega
  clear hs hn hL
  go_enter Tryd.func46, Tryd.ntmps46
  go_wp2_with (first
   | refine wpList_alloc_row rfl 45 rfl _ zeroB ?_
   | refine wpList_build_none rfl 45 rfl (blk zeroBlk) HZ.out Tryd.underlying45 (by kernel_rfl) ?_
   | refine wpList_store_new rfl 45 _ _ rfl _ _ _ rfl rfl (by rw [size_blk, HLZ.out]; exact sizeB) (by rw [size_blk, HLZ.out, size_zeros]) (blk_one _) ?_)
  have hset : (blk zeroBlk).setIfInBounds 0 (Value.int .u8 (m.toNat : Int)) = blk (insideB m (L.take 0)) := by
    rw [show (Value.int .u8 (m.toNat : Int)) = vu8 m from rfl, blk_set, List.take_zero, inside_zero]
  rw [hset]
  obtain ⟨W, hW⟩ : ∃ W, W = (w.alloc (.cells (zeros 256 (.int .u8 0)) 45)).alloc (.cells (blk (insideB m (L.take 0))) 45) := ⟨_, rfl⟩
  rw [← hW]
  have h0 : W.heap[w.heap.size]? = some (.cells (zeros 256 (.int .u8 0)) 45 (0, 0)) := by rw [hW]; exact heap_alloc2_old _ _ _
  have h1 : W.heap[w.heap.size + 1]? = some (.cells (blk (insideB m (L.take 0))) 45 (0, 0)) := by rw [hW]; exact heap_alloc2_new _ _ _
  have hB : Below w.heap.size w W := by rw [hW]; exact ((Below.refl _ _).alloc (Nat.le_refl _) _).alloc (by simp) _
  have H0 := Lib.hid h0
  have H1 := Lib.hid h1
  have HB := Lib.hid hB
  clear hset hW h0 h1 hB
  go_loopw [7] (fun i wr => ∃ k : Nat, k ≤ n ∧ i = .int .i64 k ∧ wr.heap[w.heap.size]? = some (.cells (zeros 256 (.int .u8 0)) 45 (0, 0)) ∧ wr.heap[w.heap.size + 1]? = some (.cells (blk (insideB m (L.take k))) 45 (0, 0)) ∧ Below w.heap.size w wr) (fun i _ => n - (intOf i).toNat)
  case atStart => exact ⟨0, by omega, rfl, H0.out, H1.out, HB.out⟩
  case round =>
    obtain ⟨k, hk, rfl, g0, g1, gB⟩ := hrel
    have G0 := Lib.hid g0
    have G1 := Lib.hid g1
    have GB := Lib.hid gB
    clear g0 g1 gB
    have hLn := HN.out
    have hTl : (L.take k).length = k := by rw [List.length_take]; omega
    by_cases hlt : k < n
    · have hkL : k < L.length := by omega
      have hil : (insideB m (L.take k)).length = 256 := length_insideB m _ (by omega)
      obtain ⟨v0, c1⟩ : ∃ v0, wr.cell? ⟨w.heap.size + 1, k + 1, none⟩ = some v0 := ⟨_, by
        rw [cell_of_row wr _ (k + 1) _ _ _ G1.out]; exact blk_get _ (k + 1) (by omega)⟩
      have e1 : IntKind.i64.wrap (1 + (k : Int)) = ((k + 1 : Nat) : Int) := by rw [IntKind.wrap_i64]; omega
      have f1 := frozen_of_row wr (w.heap.size + 1) (k + 1) _ _ G1.out
      have hks : k < s.size := by rw [hsz]; exact hlt
      have hsk : s[k]'hks = L[k]'hkL := by
        have := HS.out; subst this; rfl
      obtain ⟨y, hy⟩ : ∃ y, y = L[k] := ⟨_, rfl⟩
      rw [← hy] at hsk
      have HY := Lib.hid (show (insideB m (L.take k)).set (k + 1) y = insideB m (L.take (k + 1)) by rw [hy]; exact inside_set m L k hkL (by omega))
      clear hLn hTl hkL hil hy
      go_wp2_with fail
      refine ⟨⟨k + 1, by omega, by go_num, ?_, ?_, ?_⟩, by simp [intOf]; omega⟩
      · rw [heap_setCell_other _ _ _ _ (by simp)]; exact G0.out
      · rw [heap_setCell_same _ _ _ _ _ _ G1.out, show (Value.int .u8 (y.toNat : Int)) = vu8 y from rfl, blk_set, HY.out]
      · exact GB.out.setCell (by simp) _
    · obtain rfl : k = n := by omega
      have hT : L.take k = L := by rw [hLn]; exact List.take_length
      have G1' : Hid (wr.heap[w.heap.size + 1]? = some (.cells (blk (insideB m L)) 45 (0, 0))) := by rw [← hT]; exact G1
      have HI : Hid ((insideB m L).length = 256) := Lib.hid (length_insideB m L (by omega))
      have hlS : (blk (sealB (insideB m L))).size = 256 := by rw [size_blk, length_sealB _ HI.out]
      have HS3 := Lib.hid hlS
      have hws : w.heap.size + 2 ≤ wr.heap.size := (Array.getElem?_eq_some_iff.1 G1'.out).1
      clear hlS hT hTl hLn G1
      go_wp2_with (first
       | refine wpList_load_row rfl 45 _ rfl (w.heap.size + 1) rfl 45 (blk (insideB m L)) (0, 0) _ G1'.out Tryd.underlying45 rfl (by rw [size_blk, HI.out]; exact sizeB) ?_
       | (go_at_call 58; refine (refseal_any _ HI.out _).mono ?_))
      rintro e W3 ⟨rfl, hb4⟩
      have HB3 := Lib.hid (GB.out.trans (hb4.mono (show w.heap.size ≤ wr.heap.size by omega)))
      have HR3 := Lib.hid ((hb4.block _ (show w.heap.size < wr.heap.size by omega)).trans G0.out)
      clear hb4
      go_wp2_with (refine wpList_store_row rfl 45 _ _ rfl w.heap.size (blk (sealB (insideB m L))) rfl rfl 45 _ HR3.out (by rw [HS3.out]; exact sizeB) (by rw [HS3.out, size_zeros]) (blk_one _) ?_)
      refine bodyPost_ret (v := .tuple #[.agg (blk (sealB (insideB m L))), .int .i64 0]) (results_cell_slot rfl _ _ w.heap.size 45 _ (0, 0) _ _ rfl rfl (setRow_heap _ _ _ _ _ _ HR3.out) Tryd.underlying45 rfl (by rw [HS3.out]; exact sizeB)) rfl ⟨rfl, ?_⟩
      exact below_setRow HB3.out (Nat.le_refl _) _
end Go.Proofs.YtnphgaiiiiknpaaDoor
namespace Go.Proofs.YtnphgaiiiiknpaaDoor
open Go.RowKit
set_option linter.unusedSimpArgs false
set_option maxRecDepth 100000
/-- Is sector j of those that are new? -/
def newAt (s j : Nat) : Bool := decide (s / 2 ^ j % 2 = 1)
/-- The torn block of which k bytes are done. -/
def tornK (a b : List UInt8) (s k : Nat) : List UInt8 := (List.range 256).map fun i => if i < k ∧ newAt s (i / 64) = true then b.getD i 0 else a.getD i 0
def tornB (a b : List UInt8) (s : Nat) : List UInt8 := tornK a b s 256
theorem length_tornK (a b : List UInt8) (s k : Nat) : (tornK a b s k).length = 256 := by simp [tornK]
theorem tornK_zero (a b : List UInt8) (ha : a.length = 256) (s : Nat) : tornK a b s 0 = a := by
  apply List.ext_getElem
  · simp [tornK, ha]
  · intro i h1 h2
    simp [tornK, h2]
theorem tornK_new (a b : List UInt8) (s k : Nat) (hk : k < 256) (h : newAt s (k / 64) = true) : (tornK a b s k).set k (b.getD k 0) = tornK a b s (k + 1) := by
  apply List.ext_getElem
  · simp [tornK]
  · intro i h1 h2
    have hi : i < 256 := by simpa [tornK] using h2
    by_cases e : i = k
    · subst e
      simp [tornK, h, hi]
    · rw [List.getElem_set_ne (by omega)]
      simp only [tornK, List.getElem_map, List.getElem_range]
      have : i < k ↔ i < k + 1 := by omega
      simp only [this]
theorem tornK_old (a b : List UInt8) (s k : Nat) (h : newAt s (k / 64) = false) : tornK a b s k = tornK a b s (k + 1) := by
  unfold tornK
  apply List.map_congr_left
  intro i _
  by_cases e : i = k
  · subst e; simp [h]
  · have : i < k ↔ i < k + 1 := by omega
    simp only [this]
end Go.Proofs.YtnphgaiiiiknpaaDoor
namespace Go.Proofs.YtnphgaiiiiknpaaDoor
open Go.RowKit
/-- Numbers as bytes, one behind the other, by their widths. -/
def pack : List Nat → List Nat → List UInt8
  | w :: ws, x :: xs => lows x w ++ pack ws xs
  | _, _ => []
/-- The numbers that stand in b from i on, by their widths. -/
def unpack : List Nat → List UInt8 → Nat → List Nat
  | [], _, _ => []
  | w :: ws, b, i => num (seg b i w) :: unpack ws b (i + w)
/-- Does each number fit into its width? -/
def Fits : List Nat → List Nat → Prop
  | [], [] => True
  | w :: ws, x :: xs => x < 256 ^ w ∧ Fits ws xs
  | _, _ => False
theorem length_pack : ∀ (ws xs : List Nat), Fits ws xs → (pack ws xs).length = ws.sum
  | [], [], _ => rfl
  | w :: ws, x :: xs, h => by simp [pack, length_lows, length_pack ws xs h.2]
  | [], _ :: _, h => h.elim
  | _ :: _, [], h => h.elim
theorem fits_unpack : ∀ (ws : List Nat) (b : List UInt8) (i : Nat), i + ws.sum ≤ b.length → Fits ws (unpack ws b i)
  | [], _, _, _ => trivial
  | w :: ws, b, i, h => by
    simp only [List.sum_cons] at h
    exact ⟨num_seg_lt b i w (by omega), fits_unpack ws b (i + w) (by omega)⟩
theorem pack_unpack : ∀ (ws : List Nat) (b : List UInt8) (i : Nat), i + ws.sum ≤ b.length → pack ws (unpack ws b i) = seg b i ws.sum
  | [], b, i, _ => by simp [pack, seg]
  | w :: ws, b, i, h => by
    simp only [List.sum_cons] at h
    simp only [pack, unpack, List.sum_cons]
    rw [lows_seg b i w (by omega), pack_unpack ws b (i + w) (by omega), seg_append]
theorem pack_inj : ∀ (ws xs ys : List Nat), Fits ws xs → Fits ws ys → pack ws xs = pack ws ys → xs = ys
  | [], [], [], _, _, _ => rfl
  | w :: ws, x :: xs, y :: ys, hx, hy, h => by
    obtain ⟨h1, h2⟩ := List.append_inj h (by rw [length_lows, length_lows])
    rw [lows_inj w x y hx.1 hy.1 h1, pack_inj ws xs ys hx.2 hy.2 h2]
  | [], _ :: _, _, h, _, _ => h.elim
  | [], [], _ :: _, _, h, _ => h.elim
  | _ :: _, [], _, h, _, _ => h.elim
  | _ :: _, _ :: _, [], _, h, _ => h.elim
theorem seg_done (m : UInt8) (L : List UInt8) (h : L.length ≤ 251) : seg (doneB m L) 1 L.length = L := by
  apply List.ext_getElem?
  intro i
  by_cases hi : i < L.length
  · rw [get_seg _ _ _ _ hi, Nat.add_comm, get_doneB m L h _ (by omega), get_inside m L i (by omega) (by omega), if_pos hi]
  · rw [List.getElem?_eq_none (by rw [length_seg _ _ _ (by rw [length_doneB m L h]; omega)]; omega), List.getElem?_eq_none (by omega)]
theorem unpack_done (m : UInt8) (ws xs : List Nat) (h : Fits ws xs) (hs : ws.sum ≤ 251) : unpack ws (doneB m (pack ws xs)) 1 = xs := by
  have hl := length_pack ws xs h
  have hd := length_doneB m (pack ws xs) (by omega)
  refine pack_inj ws _ _ (fits_unpack ws _ 1 (by omega)) h ?_
  rw [pack_unpack ws _ 1 (by omega)]
  have := seg_done m (pack ws xs) (by omega)
  rwa [hl] at this
/-- A block is that of the numbers that stand in it just if it is sealed, bears the magic, and has zeros behind them. -/
theorem pack_iff (b : List UInt8) (hb : b.length = 256) (m : UInt8) (ws : List Nat) (hn : ws.sum ≤ 251) : doneB m (pack ws (unpack ws b 1)) = b ↔ sealB b = b ∧ b[0]? = some m ∧ zerosFrom b (1 + ws.sum) := by
  rw [pack_unpack ws b 1 (by omega)]
  exact parse_iff b hb m ws.sum hn
end Go.Proofs.YtnphgaiiiiknpaaDoor
namespace Go.Proofs.YtnphgaiiiiknpaaDoor
open Go.RowKit
set_option maxRecDepth 100000
def rootW : List Nat := [8, 4, 4, 4, 4, 4, 4, 1]
def Root.all (r : Root) : List Nat := [r.gen, r.size, r.picks, r.names, r.free, r.next, r.hint, r.vols]
theorem Root.bytes_pack (r : Root) : r.bytes = pack rootW r.all := by
  simp [Root.bytes, Root.upto, Root.nums, pack, rootW, Root.all]
theorem Root.fits {r : Root} (h : r.Ok) : Fits rootW r.all :=
  ⟨by have := h.gen; omega, by have := h.size; omega, by have := h.picks; omega, by have := h.names; omega, by have := h.free; omega, by have := h.next; omega, by have := h.hint; omega, by have := h.vols; omega, trivial⟩
theorem rootOf_all (b : List UInt8) : (rootOf b).all = unpack rootW b 1 := rfl
theorem Root.all_inj {r s : Root} (h : r.all = s.all) : r = s := by
  cases r; cases s
  simpa [Root.all] using h
theorem zeros_all (b : List UInt8) (hb : b.length = 256) : allZero (seg b 34 218) = true ↔ zerosFrom b 34 := by
  rw [allZero_iff, length_seg b 34 218 (by omega)]
  constructor
  · intro h k h1 h2
    obtain ⟨j, rfl⟩ : ∃ j, k = 34 + j := ⟨k - 34, by omega⟩
    rw [← get_seg b 34 218 j (by omega)]
    exact h j (by omega)
  · intro h i hi
    rw [get_seg b 34 218 i hi]
    exact h _ (by omega) (by omega)
theorem isRoot_iff (b : List UInt8) (hb : b.length = 256) : isRoot b = true ↔ (rootOf b).may = true ∧ doneB 82 (rootOf b).bytes = b := by
  rw [Root.bytes_pack, rootOf_all, pack_iff b hb 82 rootW (by decide)]
  unfold isRoot fineB
  simp only [Bool.and_eq_true, decide_eq_true_eq, zeros_all b hb]
  show _ ↔ _ ∧ sealB b = b ∧ b[0]? = some 82 ∧ zerosFrom b 34
  constructor
  · rintro ⟨⟨h1, h2⟩, h3, h4⟩; exact ⟨h4, h1, h2, h3⟩
  · rintro ⟨h4, h1, h2, h3⟩; exact ⟨⟨h1, h2⟩, h3, h4⟩
theorem rootOf_put (r : Root) (hr : r.Ok) : rootOf (doneB 82 r.bytes) = r := by
  refine Root.all_inj ?_
  rw [rootOf_all, Root.bytes_pack]
  exact unpack_done 82 rootW r.all (Root.fits hr) (by decide)
theorem isRoot_put (r : Root) (hr : r.Ok) (hm : r.may = true) : isRoot (doneB 82 r.bytes) = true := by
  rw [isRoot_iff _ (length_doneB _ _ (by rw [r.length_bytes]; omega)), rootOf_put r hr]
  exact ⟨hm, rfl⟩
theorem getC_put (r : Root) (hr : r.Ok) (hm : r.may = true) : getC (doneB 82 r.bytes) = r.cells ∧ getE (doneB 82 r.bytes) = 0 := by
  unfold getC getE
  rw [isRoot_put r hr hm, rootOf_put r hr]
  exact ⟨rfl, rfl⟩
theorem get_tornB (a b : List UInt8) (s i : Nat) (hi : i < 256) : (tornB a b s)[i]? = some (if newAt s (i / 64) = true then b.getD i 0 else a.getD i 0) := by
  simp [tornB, tornK, hi]
theorem length_tornB (a b : List UInt8) (s : Nat) : (tornB a b s).length = 256 := length_tornK a b s 256
theorem torn_none (a b : List UInt8) (ha : a.length = 256) : tornB a b 0 = a := by
  apply List.ext_getElem?
  intro i
  by_cases hi : i < 256
  · rw [get_tornB a b 0 i hi]
    have : newAt 0 (i / 64) = false := by simp [newAt]
    simp [this, ha, hi]
  · rw [List.getElem?_eq_none (by rw [length_tornB]; omega), List.getElem?_eq_none (by omega)]
theorem torn_all (a b : List UInt8) (hb : b.length = 256) : tornB a b 255 = b := by
  apply List.ext_getElem?
  intro i
  by_cases hi : i < 256
  · rw [get_tornB a b 255 i hi]
    have : newAt 255 (i / 64) = true := by
      have : i / 64 = 0 ∨ i / 64 = 1 ∨ i / 64 = 2 ∨ i / 64 = 3 := by omega
      rcases this with h | h | h | h <;> rw [h] <;> decide
    simp [this, hb, hi]
  · rw [List.getElem?_eq_none (by rw [length_tornB]; omega), List.getElem?_eq_none (by omega)]
/-- A sealed block that agrees with a root's block in the first sector, and has zeros behind, is it. -/
theorem sealed_first (x c : List UInt8) (h1 : sealB x = x) (h2 : sealB c = c) (hz : zerosFrom x 34) (hc2 : zerosFrom c 34) (hf : ∀ i, i < 64 → x[i]? = c[i]?) : x = c := by
  rw [← h1, ← h2]
  refine seal_of_take _ _ ?_
  apply List.ext_getElem?
  intro i
  simp only [List.getElem?_take]
  split
  · by_cases h : i < 64
    · exact hf i h
    · rw [hz i (by omega) ‹_›, hc2 i (by omega) ‹_›]
  · rfl
theorem torn_is (r s : Root) (hr : r.Ok) (hs : s.Ok) (n : Nat) (hx : isRoot (tornB (doneB 82 r.bytes) (doneB 82 s.bytes) n) = true) (hmr : r.may = true) (hms : s.may = true) :
    tornB (doneB 82 r.bytes) (doneB 82 s.bytes) n = doneB 82 r.bytes ∨ tornB (doneB 82 r.bytes) (doneB 82 s.bytes) n = doneB 82 s.bytes := by
  obtain ⟨b, hb⟩ : ∃ b, b = doneB 82 r.bytes := ⟨_, rfl⟩
  obtain ⟨c, hc⟩ : ∃ c, c = doneB 82 s.bytes := ⟨_, rfl⟩
  have ib := isRoot_put r hr hmr
  have ic := isRoot_put s hs hms
  have lb : b.length = 256 := by rw [hb]; exact length_doneB _ _ (by rw [r.length_bytes]; omega)
  have lc : c.length = 256 := by rw [hc]; exact length_doneB _ _ (by rw [s.length_bytes]; omega)
  rw [← hb] at ib; rw [← hc] at ic
  rw [← hb, ← hc] at hx ⊢
  obtain ⟨x, hxe⟩ : ∃ x, x = tornB b c n := ⟨_, rfl⟩
  have lx : x.length = 256 := by rw [hxe]; exact length_tornB _ _ _
  have hget : ∀ i, i < 256 → x[i]? = some (if newAt n (i / 64) = true then c.getD i 0 else b.getD i 0) := fun i hi => by rw [hxe]; exact get_tornB b c n i hi
  rw [← hxe] at hx ⊢
  have parts : ∀ y : List UInt8, y.length = 256 → isRoot y = true → sealB y = y ∧ zerosFrom y 34 := by
    intro y hy h
    unfold isRoot fineB at h
    simp only [Bool.and_eq_true, decide_eq_true_eq, zeros_all y hy] at h
    exact ⟨h.1.1, h.2.1⟩
  obtain ⟨x1, x2⟩ := parts x lx hx
  obtain ⟨b1, b2⟩ := parts b lb ib
  obtain ⟨c1, c2⟩ := parts c lc ic
  cases h0 : newAt n 0 with
  | true =>
    right
    refine sealed_first x c x1 c1 x2 c2 fun i hi => ?_
    rw [hget i (by omega), show i / 64 = 0 by omega, h0]
    simp [show i < c.length by omega]
  | false =>
    left
    refine sealed_first x b x1 b1 x2 b2 fun i hi => ?_
    rw [hget i (by omega), show i / 64 = 0 by omega, h0]
    simp [show i < b.length by omega]
end Go.Proofs.YtnphgaiiiiknpaaDoor
