/- Shelves in memory: Resize, Write. -/
import Derived.Test.YtcepfmjebgklfaaDoorSh8
import Derived.Laws.CopyOwn
namespace Go.Proofs.YtcepfmjebgklfaaDoor
open Go.RowKit
set_option linter.unusedSimpArgs false
set_option linter.unusedVariables false
set_option maxRecDepth 100000
theorem Held.weaken {w0 W : World} {x y : Thing} {l : List Thing} (R : Held w0 W (x :: l)) (h : ∀ F, x.says F W → y.says F W) : Held w0 W (y :: l) := by
  have := R.turn 0 rfl (y := y) (W' := W) (fun F hF hn => ⟨F, h F hF, Only.refl _ _, fun b hb => .inl hb, hn⟩)
  simpa using this
theorem RowHas.same {cur : Array Value} {hs : List CellH} (h : RowHas cur hs) (p : Nat) (hp : p < hs.length) (d : List UInt8) : RowHas cur (hs.set p ⟨hs[p].ser, hs[p].A, hs[p].m, hs[p].c, d⟩) := by
  intro i hi
  rw [List.length_set] at hi
  simp only [List.getElem_set]
  by_cases e : p = i
  · subst e
    rw [if_pos rfl]
    exact h p hp
  · rw [if_neg e]
    exact h i hi
theorem OwnSh.putData {w0 W W' : World} {s : ShL} {gc c : Nat} {cur : Array Value} {hs : List CellH} {l : List Thing} (h : OwnSh w0 W s gc c cur hs l) (p : Nat) (hp : p < hs.length) (x : CellH)
    (R : Held w0 W' (datT x :: rowT gc cur 41 :: (hs.map datT ++ l))) (h4 : x.data.length ≤ 400) (hx : x.ser = hs[p].ser) :
    OwnSh w0 (W'.setCell ⟨gc, p * 2 + 1, none⟩ (.slice x.A x.m x.c)) (putC s p x.dat) gc c (cur.setIfInBounds (p * 2 + 1) (.slice x.A x.m x.c)) (hs.set p x) (datT hs[p] :: l) := by
  have R2 := R.setCell 1 (p * 2 + 1) (.slice x.A x.m x.c) rfl
  simp only [List.set_cons_succ, List.set_cons_zero] at R2
  refine h.put p hp x (R2.perm (.swap _ _ _)) ?_ h4 (by rw [hx]; exact h.ser _ (List.getElem_mem hp))
  have := h.row.setData p hp x.A x.m x.c x.data
  rw [← hx] at this
  exact this
theorem OwnSh.datAt {w0 W : World} {s : ShL} {gc c : Nat} {cur : Array Value} {hs : List CellH} {l : List Thing} (h : OwnSh w0 W s gc c cur hs l) (p : Nat) (hp : p < hs.length) :
    (rowT gc cur 41 :: (hs.map datT ++ l))[p + 1]? = some (datT hs[p]) := by
  rw [List.getElem?_cons_succ, List.getElem?_append_left (by simpa using hp), List.getElem?_map, List.getElem?_eq_getElem hp]
  rfl
theorem over_map (b d : List UInt8) (L : List Value) (m off : Nat) (hc : b.map vu8 = L.take m) (hb : b.length = m) (hfit : off + d.length ≤ m) (hL : m ≤ L.length) :
    (overL b off d).map vu8 = (L.take off ++ (d.map vu8 ++ L.drop (off + d.length))).take m := by
  have e1 : (b.take off).map vu8 = L.take off := by rw [List.map_take, hc, List.take_take, Nat.min_eq_left (by omega)]
  have e2 : (b.drop (off + d.length)).map vu8 = (L.drop (off + d.length)).take (m - (off + d.length)) := by rw [List.map_drop, hc, List.drop_take]
  have l1 : (L.take off).length = off := by rw [List.length_take]; omega
  have l2 : (d.map vu8).length = d.length := List.length_map ..
  unfold overL
  rw [List.map_append, List.map_append, e1, e2, List.append_assoc, List.take_append, List.take_of_length_le (l := L.take off) (by omega), l1, List.take_append, List.take_of_length_le (l := d.map vu8) (by omega), l2]
  rw [show m - off - d.length = m - (off + d.length) by omega]
/-- Bytes are written over some of a cell's. -/
theorem OwnSh.over {w0 W : World} {s : ShL} {gc c : Nat} {cur : Array Value} {hs : List CellH} {l : List Thing} (h : OwnSh w0 W s gc c cur hs l) (p : Nat) (hp : p < hs.length) (off : Nat) (d : List UInt8) (hfit : off + d.length ≤ hs[p].data.length) (hd : d ≠ []) :
    ∃ g' curd, hs[p].A = some ⟨g', 0, none⟩ ∧ W.heap[g']? = some (.cells curd 5 (0, 0)) ∧ off + d.length ≤ curd.size ∧
      OwnSh w0 (W.setRow g' (curd.toList.take off ++ (d.map vu8 ++ curd.toList.drop (off + d.length))).toArray) (putC s p (hs[p].ser, overL hs[p].data off d)) gc c cur (hs.set p ⟨hs[p].ser, hs[p].A, hs[p].m, hs[p].c, overL hs[p].data off d⟩) l := by
  have hat := h.held.thing (p + 1) (h.datAt p hp)
  obtain ⟨F, h1, h2, h3⟩ := hat
  have hdl : 0 < d.length := by cases d with
    | nil => exact absurd rfl hd
    | cons a b => simp
  rcases h3 with ⟨h3, _⟩ | ⟨g', curd, hA, _, hg, hc⟩
  · have : hs[p].data.length = 0 := by rw [h3]; rfl
    omega
  have hcl : hs[p].data.length ≤ curd.size := by
    have := congrArg List.length hc
    rw [List.length_map, List.length_take, Array.length_toList] at this
    omega
  refine ⟨g', curd, hA, hg, by omega, ?_⟩
  have R2 := h.held.turn (p + 1) (h.datAt p hp) (y := datT ⟨hs[p].ser, hs[p].A, hs[p].m, hs[p].c, overL hs[p].data off d⟩) (W' := W.setRow g' (curd.toList.take off ++ (d.map vu8 ++ curd.toList.drop (off + d.length))).toArray) (fun F hF hn => by
    obtain ⟨_, _, h3⟩ := hF
    rcases h3 with ⟨h3, _⟩ | ⟨g2, cu2, hA2, hF2, hg2, hc2⟩
    · have : hs[p].data.length = 0 := by rw [h3]; rfl
      omega
    · rw [hA] at hA2
      cases hA2
      subst hF2
      refine ⟨[g'], ⟨by rw [length_overL _ _ _ hfit]; exact h1, h2, .inr ⟨g', _, hA, rfl, setRow_heap _ _ _ _ _ _ hg, ?_⟩⟩, ⟨rfl, rfl, rfl, by simp [World.setRow], fun b _ hb => setRow_other _ _ _ _ (by simpa using hb)⟩, fun b hb => .inl hb, by simp⟩
      exact over_map hs[p].data d curd.toList hs[p].m off hc h1 (by omega) (by rw [Array.length_toList]; omega))
  have hset : (rowT gc cur 41 :: (hs.map datT ++ l)).set (p + 1) (datT ⟨hs[p].ser, hs[p].A, hs[p].m, hs[p].c, overL hs[p].data off d⟩) = rowT gc cur 41 :: ((hs.set p ⟨hs[p].ser, hs[p].A, hs[p].m, hs[p].c, overL hs[p].data off d⟩).map datT ++ l) := by
    rw [List.set_cons_succ, List.set_append_left _ _ (by simpa using hp), List.map_set]
  rw [hset] at R2
  refine ⟨R2, h.row.same p hp _, ?_, by rw [List.length_set]; exact h.cap, ?_, h.cl, h.prev, h.next, putC_small h.small _ _ ?_⟩
  · unfold putC
    rw [List.map_set, h.dat]; rfl
  · intro y hy
    rcases List.mem_or_eq_of_mem_set hy with h1 | rfl
    · exact h.ser y h1
    · exact h.ser hs[p] (List.getElem_mem hp)
  · show (overL hs[p].data off d).length ≤ 400
    rw [length_overL _ _ _ hfit]
    have : (hs[p]).dat ∈ s.cells := by rw [← h.dat]; exact List.mem_map_of_mem (List.getElem_mem hp)
    exact h.small.2 _ this
section
variable {w : World}
set_option maxHeartbeats 4000000 in
theorem write_is (hc : ClsAt w) {s : ShL} {v : Value} (hs : ShelfIn w v s) (place : Int) (ser : Nat) (off : Int) (B : Option Addr) (k cB : Nat) (d : List UInt8) (hd : BytesIn w B d) (hk : d.length = k) (hk4 : k ≤ 400) :
    Calls Tryd.prog 13 #[v, .int .i64 place, .int .u64 (ser : Int), .int .i64 off, .slice B k cB] w fun e w' => ShPost w (writeS s place ser off d) (partE s place ser off (d.length : Int)) e w' := by
  obtain ⟨A, n, c, l, rfl, hs⟩ := hs
  have hR := ((Held.start w).alloc (shV s A n c) 25).alloc #[.int .u8 0, .int .u16 0, .int .u16 0, .slice none 0 0] 25
  obtain ⟨W, hW⟩ : ∃ W, W = (w.alloc (.cells (shV s A n c) 25)).alloc (.cells #[.int .u8 0, .int .u16 0, .int .u16 0, .slice none 0 0] 25) := ⟨_, rfl⟩
  obtain ⟨g, hg⟩ : ∃ g, g = w.heap.size := ⟨_, rfl⟩
  rw [← hW, show (w.alloc (.cells (shV s A n c) 25)).heap.size = g + 1 by rw [hg]; simp, ← hg] at hR
  have HR := Lib.hid hR
  have HW := Lib.hid hW
  have HG := Lib.hid hg
  have HS := Lib.hid hs
  have HC := Lib.hid hc
  have HD := Lib.hid hd
  rw [hk]
  have HWS : Hid (writeS s place ser off d = if partE s place ser off (k : Int) = 0 then putC s place.toNat (ser, overL (dataL s place) off.toNat d) else emptySh) := Lib.hid (by rw [← hk]; rfl)
  have HPZ : Hid (partE s place ser off (k : Int) = 0 → findE s place ser = 0 ∧ 0 ≤ off ∧ 0 ≤ (k : Int) ∧ off + (k : Int) ≤ (dataL s place).length) := Lib.hid partE_zero
  have HPT : Hid (∀ w' A N c l, Below w.heap.size w w' → ShelfOf w' s A N c l → Calls Tryd.prog 30 #[.agg (shV s A N c), .int .i64 place, .int .u64 (ser : Int), .int .i64 off, .int .i64 (k : Int)] w' fun e w'' => PartPost w' (partE s place ser off (k : Int)) l place off (k : Int) e w'') := Lib.hid (fun w' A N c l hb h => part_is (HC.out.below hb) h place ser off k)
  generalize writeS s place ser off d = ws at HWS ⊢
  generalize partE s place ser off (k : Int) = E at HWS HPZ HPT ⊢
  obtain ⟨⟨a0, a1, a2, a3⟩, _, _, _, _⟩ := hR.cells4 1 rfl
  have HK := Lib.hid hk
  have HK4 := Lib.hid hk4
  clear hR hW hg hs hc hd hk hk4
  go_enter Tryd.func13, Tryd.ntmps13
  go_upto_region 1 with (fail)
  rw [← HW.out, ← HG.out]
  go_wp2_with fail
  refine (copied_is (w := W) ⟨A, n, c, l, rfl, HS.out.below HR.out.below⟩).mono ?_
  rintro e w2 ⟨v2, rfl, h2⟩
  rcases h2 with ⟨hce, ⟨A2, n2, c2, l2, rfl, hs2⟩, hb⟩ | ⟨gc, c2, cur, hs2, rfl, ho⟩
  · have R2 := Lib.hid (HR.out.call hb)
    have HS2 := Lib.hid hs2
    have HE : Hid (E ≠ 0) := Lib.hid (fun h => by
      obtain ⟨hf, _⟩ := HPZ.out h
      obtain ⟨_, h0, h1, _⟩ := findE_zero hf
      rw [hce] at h1
      simp at h1
      omega)
    have HCE := Lib.hid hce
    clear hb hs2 hce a0 a1 a2 a3
    obtain ⟨⟨a0, a1, a2, a3⟩, b0, b1, b2, b3⟩ := R2.out.cells4 1 rfl
    unfold shV
    go_upto_region 2 with (fail)
    have q3 := R2.out.store4 1 rfl (.int .u8 (s.cl : Int)) (.int .u16 (s.prev : Int)) (.int .u16 (s.next : Int)) (.slice A2 n2 c2)
    obtain ⟨W3, hW3⟩ : ∃ W3, W3 = (((w2.setCell ⟨g, 0, none⟩ (.int .u8 (s.cl : Int))).setCell ⟨g, 1, none⟩ (.int .u16 (s.prev : Int))).setCell ⟨g, 2, none⟩ (.int .u16 (s.next : Int))).setCell ⟨g, 3, none⟩ (.slice A2 n2 c2) := ⟨_, rfl⟩
    rw [← hW3] at q3 ⊢
    have R3 := Lib.hid q3
    clear hW3 q3 a0 a1 a2 a3 b0 b1 b2 b3
    have HSF : Hid (ShelfOf W3 s A2 n2 c2 l2) := Lib.hid (by
      have h := HS2.out
      have hl : l2 = [] := by
        have := h.dat
        rw [HCE.out] at this
        exact List.map_eq_nil_iff.1 this
      subst hl
      have hn2 : n2 = 0 := h.cells.len.symm
      exact ⟨⟨h.cells.len, .inl hn2, by simp⟩, h.dat, h.cap, h.cl, h.prev, h.next, h.small⟩)
    obtain ⟨⟨a0, a1, a2, a3⟩, _, _, _, _⟩ := R3.out.cells4 1 rfl
    go_wp2_with fail
    refine (HPT.out W3 A2 n2 c2 l2 R3.out.below HSF.out).mono ?_
    rintro e w4 ⟨v3, rfl, hb, hv⟩
    have R4 := Lib.hid (R3.out.call hb)
    rcases hv with ⟨_, rfl⟩ | ⟨hE, _⟩
    · have HV : Hid (ws = emptySh) := Lib.hid (by rw [HWS.out, if_neg HE.out])
      have hE' : (E != 0) = true := by simpa using HE.out
      clear hb a0 a1 a2 a3 HWS
      obtain ⟨⟨e0, e1, e2, e3⟩, b0, b1, b2, b3⟩ := R4.out.cells4 0 rfl
      go_wp2_with fail
      have R9 := R4.out.store4 0 rfl (.int .u8 0) (.int .u16 0) (.int .u16 0) (.slice none 0 0)
      refine bodyPost_ret (v := .tuple #[.agg #[.int .u8 0, .int .u16 0, .int .u16 0, .slice none 0 0], .int .i64 E]) (results_cell_slot rfl _ _ (g + 1) 25 _ (0, 0) _ _ rfl rfl (R9.get 0 rfl) Tryd.underlying25 rfl sizeShelf) rfl ?_
      exact ⟨_, rfl, by rw [HV.out]; exact emptySh_in _ _, R9.below⟩
    · exact absurd hE HE.out
  · have O2 := Lib.hid (own_join HR.out ho)
    have HLE : Hid (hs2.length = s.cells.length) := Lib.hid (by rw [← ho.dat, List.length_map])
    clear ho a0 a1 a2 a3
    obtain ⟨⟨a0, a1, a2, a3⟩, b0, b1, b2, b3⟩ := O2.out.held.cells4 (hs2.length + 1 + 1) (own_at 1 rfl)
    unfold shV
    go_upto_region 2 with (fail)
    have q3 := O2.out.held.store4 (hs2.length + 1 + 1) (own_at 1 rfl) (.int .u8 (s.cl : Int)) (.int .u16 (s.prev : Int)) (.int .u16 (s.next : Int)) (.slice (some ⟨gc, 0, none⟩) hs2.length c2)
    rw [own_set] at q3
    obtain ⟨W3, hW3⟩ : ∃ W3, W3 = (((w2.setCell ⟨g, 0, none⟩ (.int .u8 (s.cl : Int))).setCell ⟨g, 1, none⟩ (.int .u16 (s.prev : Int))).setCell ⟨g, 2, none⟩ (.int .u16 (s.next : Int))).setCell ⟨g, 3, none⟩ (.slice (some ⟨gc, 0, none⟩) hs2.length c2) := ⟨_, rfl⟩
    rw [← hW3] at q3 ⊢
    have O3 := Lib.hid (O2.out.turnTail q3)
    clear hW3 q3 O2 a0 a1 a2 a3 b0 b1 b2 b3
    obtain ⟨⟨a0, a1, a2, a3⟩, _, _, _, _⟩ := O3.out.held.cells4 (hs2.length + 1 + 1) (own_at 1 rfl)
    go_wp2_with fail
    refine (HPT.out W3 _ _ c2 hs2 O3.out.held.below O3.out.shelf).mono ?_
    rintro e w4 ⟨v3, rfl, hb, hv⟩
    have O4 := Lib.hid (O3.out.turnTail (O3.out.held.call hb))
    clear hb a0 a1 a2 a3 O3
    rcases hv with ⟨hE, rfl⟩ | ⟨hE, x, hx, rfl⟩
    · have HV : Hid (ws = emptySh) := Lib.hid (by rw [HWS.out, if_neg hE])
      have hE' : (E != 0) = true := by simpa using hE
      have R4 : Hid (Held w w4 [rowT (g + 1) #[.int .u8 0, .int .u16 0, .int .u16 0, .slice none 0 0] 25, rowT g _ 25]) := Lib.hid (by
        have := O4.out.held
        rw [show (rowT gc cur 41 :: (hs2.map datT ++ _)) = (rowT gc cur 41 :: hs2.map datT) ++ _ from rfl] at this
        exact this.keepR)
      clear hE HWS
      obtain ⟨⟨e0, e1, e2, e3⟩, b0, b1, b2, b3⟩ := R4.out.cells4 0 rfl
      go_wp2_with fail
      have R9 := R4.out.store4 0 rfl (.int .u8 0) (.int .u16 0) (.int .u16 0) (.slice none 0 0)
      refine bodyPost_ret (v := .tuple #[.agg #[.int .u8 0, .int .u16 0, .int .u16 0, .slice none 0 0], .int .i64 E]) (results_cell_slot rfl _ _ (g + 1) 25 _ (0, 0) _ _ rfl rfl (R9.get 0 rfl) Tryd.underlying25 rfl sizeShelf) rfl ?_
      exact ⟨_, rfl, by rw [HV.out]; exact emptySh_in _ _, R9.below⟩
    · subst hE
      obtain ⟨hf, h0, _, hfit⟩ := HPZ.out rfl
      obtain ⟨_, hp0, hp1, _, hser⟩ := findE_zero hf
      obtain ⟨p, rfl⟩ : ∃ p : Nat, place = (p : Int) := ⟨place.toNat, by omega⟩
      obtain ⟨lo, rfl⟩ : ∃ q : Nat, off = (q : Int) := ⟨off.toNat, by omega⟩
      have hpl : p < hs2.length := by have := HLE.out; omega
      rw [Int.toNat_natCast, List.getElem?_eq_getElem hpl] at hx
      obtain rfl : hs2[p] = x := Option.some.inj hx
      have hdl : dataL s (p : Int) = hs2[p].data := by
        unfold dataL
        rw [Int.toNat_natCast, ← O4.out.dat, List.getD_eq_getElem?_getD, List.getElem?_map, List.getElem?_eq_getElem hpl]; rfl
      rw [Int.toNat_natCast, ← O4.out.dat, List.getD_eq_getElem?_getD, List.getElem?_map, List.getElem?_eq_getElem hpl] at hser
      rw [hdl] at hfit
      have HWS2 : Hid (ws = putC s p (hs2[p].ser, overL hs2[p].data lo d)) := Lib.hid (by
        rw [HWS.out, if_pos rfl, hdl, Int.toNat_natCast, Int.toNat_natCast, ← hser]; rfl)
      simp only [Int.toNat_natCast]
      by_cases h00 : d = []
      · subst h00
        have hk0 : k = 0 := HK.out.symm
        subst hk0
        have HWS3 : Hid (ws = s) := Lib.hid (by
          rw [HWS2.out]
          have e1 : overL hs2[p].data lo [] = hs2[p].data := by unfold overL; simp
          rw [e1]
          have hps : p < s.cells.length := by rw [← HLE.out]; exact hpl
          have e2 : s.cells[p]'hps = (hs2[p].ser, hs2[p].data) := by
            have : s.cells[p]? = some hs2[p].dat := by rw [← O4.out.dat, List.getElem?_map, List.getElem?_eq_getElem hpl]; rfl
            rw [List.getElem?_eq_getElem hps] at this
            exact Option.some.inj this
          obtain ⟨s1, s2, s3, s4⟩ := s
          unfold putC
          simp only at e2 ⊢
          rw [← e2, List.set_getElem_self])
        generalize (if lo + 0 = lo then hs2[p].A else Option.map (fun x => x.add lo) hs2[p].A) = Q
        clear hx HWS2 HWS hf h0 hfit hp0 hp1 hser hdl
        obtain ⟨⟨a0, a1, a2, a3⟩, _, _, _, _⟩ := O4.out.held.cells4 (hs2.length + 1 + 1) (own_at 1 rfl)
        obtain ⟨⟨e0, e1, e2, e3⟩, b0, b1, b2, b3⟩ := O4.out.held.cells4 (hs2.length + 1 + 0) (own_at 0 rfl)
        go_wp2_with (refine wpList_copy_nothing rfl _ _ 27 27 rfl 5 Tryd.underlying27 sizeU8 _ _ _ _ _ _ rfl rfl (by simp) ?_)
        have q5 := O4.out.held.store4 (hs2.length + 1 + 0) (own_at 0 rfl) (.int .u8 (s.cl : Int)) (.int .u16 (s.prev : Int)) (.int .u16 (s.next : Int)) (.slice (some ⟨gc, 0, none⟩) hs2.length c2)
        rw [own_set] at q5
        have O5 := O4.out.turnTail q5
        refine bodyPost_ret (v := .tuple #[.agg #[.int .u8 (s.cl : Int), .int .u16 (s.prev : Int), .int .u16 (s.next : Int), .slice (some ⟨gc, 0, none⟩) hs2.length c2], .int .i64 0]) (results_cell_slot rfl _ _ (g + 1) 25 _ (0, 0) _ _ rfl rfl (O5.held.get (hs2.length + 1 + 0) (own_at 0 rfl)) Tryd.underlying25 rfl sizeShelf) rfl ?_
        exact ⟨_, (by first | rfl | rw [hre]), by rw [HWS3.out]; exact ⟨_, _, _, _, rfl, O5.shelf, O5.fresh⟩, O5.held.below⟩
      · have hk0 : k ≠ 0 := fun h => h00 (List.eq_nil_of_length_eq_zero (by rw [HK.out, h]))
        obtain ⟨g', curd, hA, hg, hsz, hO⟩ := O4.out.over p hpl lo d (by have := HK.out; omega) h00
        have hQ : (if lo + k = lo then hs2[p].A else Option.map (fun x => x.add lo) hs2[p].A) = some ⟨g', lo, none⟩ := by
          rw [if_neg (by omega), hA]
          simp [Addr.add_lit]
        rw [hQ]
        obtain ⟨gb, ob, rfl, _, hsrc⟩ := (HD.out.below O4.out.held.below).resolve_left h00
        have HSRC : Hid (∀ j v, (d.map vu8)[j]? = some v → w4.cell? ((⟨gb, ob, none⟩ : Addr).add j) = some v) := Lib.hid (fun j v hj => by
          have hjd : j < d.length := by have := (List.getElem?_eq_some_iff.1 hj).1; simpa using this
          rw [Addr.add_lit, hsrc j hjd, ← List.getElem?_map, hj])
        have HGG := Lib.hid hg
        have HFI : Hid (lo + (d.map vu8).length ≤ curd.size) := Lib.hid (by rw [List.length_map]; exact hsz)
        have HNN : Hid ((d.map vu8).length = Nat.min k k) := Lib.hid (by rw [List.length_map, HK.out]; simp)
        have HON : Hid (∀ v ∈ d.map vu8, v.oneCell' = true) := Lib.hid (by intro u hu; obtain ⟨y, _, rfl⟩ := List.mem_map.1 hu; rfl)
        obtain ⟨W5, hW5⟩ : ∃ W5, W5 = w4.setRow g' (curd.toList.take lo ++ (d.map vu8 ++ curd.toList.drop (lo + (d.map vu8).length))).toArray := ⟨_, rfl⟩
        have O6 : Hid (OwnSh w W5 (putC s p (hs2[p].ser, overL hs2[p].data lo d)) gc c2 cur (hs2.set p ⟨hs2[p].ser, hs2[p].A, hs2[p].m, hs2[p].c, overL hs2[p].data lo d⟩) _) := Lib.hid (by
          rw [hW5, List.length_map]; exact hO)
        have HW5 := Lib.hid hW5
        have HLN : Hid ((hs2.set p ⟨hs2[p].ser, hs2[p].A, hs2[p].m, hs2[p].c, overL hs2[p].data lo d⟩).length = hs2.length) := Lib.hid (by simp)
        generalize hs2.set p ⟨hs2[p].ser, hs2[p].A, hs2[p].m, hs2[p].c, overL hs2[p].data lo d⟩ = hs3 at O6 HLN
        clear HWS hf h0 hfit hp0 hp1 hser hdl hA hg hsz hO hQ hsrc hW5
        go_upto_region 6 with (refine wpList_copy_own rfl _ _ 27 27 rfl 5 Tryd.underlying27 sizeU8 g' lo k k ⟨gb, ob, none⟩ k cB rfl rfl curd 5 HGG.out (d.map vu8) HNN.out HSRC.out HFI.out HON.out ?_; rw [← HW5.out])
        obtain ⟨⟨a0, a1, a2, a3⟩, _, _, _, _⟩ := O6.out.held.cells4 (hs3.length + 1 + 1) (own_at 1 rfl)
        obtain ⟨⟨e0, e1, e2, e3⟩, b0, b1, b2, b3⟩ := O6.out.held.cells4 (hs3.length + 1 + 0) (own_at 0 rfl)
        go_wp2_with fail
        have q5 := O6.out.held.store4 (hs3.length + 1 + 0) (own_at 0 rfl) (.int .u8 (s.cl : Int)) (.int .u16 (s.prev : Int)) (.int .u16 (s.next : Int)) (.slice (some ⟨gc, 0, none⟩) hs2.length c2)
        rw [own_set] at q5
        have O5 := O6.out.turnTail q5
        refine bodyPost_ret (v := .tuple #[.agg #[.int .u8 (s.cl : Int), .int .u16 (s.prev : Int), .int .u16 (s.next : Int), .slice (some ⟨gc, 0, none⟩) hs2.length c2], .int .i64 0]) (results_cell_slot rfl _ _ (g + 1) 25 _ (0, 0) _ _ rfl rfl (O5.held.get (hs3.length + 1 + 0) (own_at 0 rfl)) Tryd.underlying25 rfl sizeShelf) rfl ?_
        exact ⟨_, (by first | rfl | rw [hre]), by rw [HWS2.out]; exact ⟨_, _, _, _, rfl, HLN.out ▸ O5.shelf, HLN.out ▸ O5.fresh⟩, O5.held.below⟩
theorem made_zeros (n : Nat) : madeCells #[.int .u8 0] (n * 1) = (List.replicate n (Value.int .u8 0)).toArray := by
  unfold madeCells
  rw [Nat.mul_one]
  apply Array.ext
  · simp
  · intro k h1 h2
    simp [Nat.mod_one]
set_option maxHeartbeats 4000000 in
theorem resize_is (hc : ClsAt w) {s : ShL} {v : Value} (hs : ShelfIn w v s) (place : Int) (ser : Nat) (m : Int) :
    Calls Tryd.prog 26 #[v, .int .i64 place, .int .u64 (ser : Int), .int .i64 m] w fun e w' => ShPost w (resizeS s place ser m) (resizeE s place ser m) e w' := by
  obtain ⟨A, n, c, l, rfl, hs⟩ := hs
  have hR := ((Held.start w).alloc (shV s A n c) 25).alloc #[.int .u8 0, .int .u16 0, .int .u16 0, .slice none 0 0] 25
  obtain ⟨W, hW⟩ : ∃ W, W = (w.alloc (.cells (shV s A n c) 25)).alloc (.cells #[.int .u8 0, .int .u16 0, .int .u16 0, .slice none 0 0] 25) := ⟨_, rfl⟩
  obtain ⟨g, hg⟩ : ∃ g, g = w.heap.size := ⟨_, rfl⟩
  rw [← hW, show (w.alloc (.cells (shV s A n c) 25)).heap.size = g + 1 by rw [hg]; simp, ← hg] at hR
  have HR := Lib.hid hR
  have HW := Lib.hid hW
  have HG := Lib.hid hg
  have HS := Lib.hid hs
  have hcl := hs.cl
  have HC : Hid (ClsAt W) := Lib.hid (hc.below hR.below)
  have HM := Lib.hid (may_is (w := W) HC.out ⟨A, n, c, l, rfl, hs.below hR.below⟩)
  have HOF : Hid (∀ w', Below W.heap.size W w' → Calls Tryd.prog 28 #[.int .u8 (s.cl : Int), .int .i64 m] w' fun e w'' => e = .returned (.bool (ofL s.cl m)) ∧ Below w'.heap.size w' w'') := Lib.hid (fun w' hb => of_is (HC.out.below hb) s.cl hcl m)
  have HFN : Hid (∀ w', Below W.heap.size W w' → Calls Tryd.prog 32 #[.agg (shV s A n c), .int .i64 place, .int .u64 (ser : Int)] w' fun e w'' => e = .returned (.int .i64 (findE s place ser)) ∧ Below w'.heap.size w' w'') := Lib.hid (fun w' hb => find_is (HC.out.below hb) ⟨A, n, c, l, rfl, (hs.below hR.below).below hb⟩ place ser)
  have HRE : Hid (resizeE s place ser m = if mayL s ∧ ofL s.cl m = false then 2 else findE s place ser) := Lib.hid rfl
  have HRS : Hid (resizeS s place ser m = if resizeE s place ser m = 0 then putC s place.toNat (ser, sizedL (dataL s place) m.toNat) else emptySh) := Lib.hid rfl
  have HFZ : Hid (findE s place ser = 0 → mayL s = true ∧ 0 ≤ place ∧ place < s.cells.length ∧ ser ≠ 0 ∧ (s.cells.getD place.toNat (0, [])).1 = ser) := Lib.hid findE_zero
  have HOL : Hid (ofL s.cl m = true → 1 ≤ m ∧ m ≤ 237) := Lib.hid (fun h => by have := ofL_le h; omega)
  have HCO : Hid (∀ c ∈ s.cells, mayL s = true → c.1 ≠ 0 → 1 ≤ c.2.length) := Lib.hid (fun c hcm h h0 => by
    unfold mayL cellsOk at h
    rw [Bool.and_eq_true, List.all_eq_true] at h
    have := h.2 c hcm
    unfold cellOk at this
    rw [if_neg h0, Bool.and_eq_true] at this
    have := ofL_le this.2
    omega)
  generalize resizeS s place ser m = rs at HRS ⊢
  generalize resizeE s place ser m = re at HRE HRS ⊢
  generalize findE s place ser = E at HFN HRE HFZ
  generalize hmay : mayL s = may at HM HRE HFZ HCO
  generalize hof : ofL s.cl m = o at HOF HRE HOL
  obtain ⟨⟨a0, a1, a2, a3⟩, _, _, _, _⟩ := hR.cells4 1 rfl
  have HN := hs.le30
  clear hR hW hg hs hc hcl
  go_enter Tryd.func26, Tryd.ntmps26
  go_upto_region 1 with (fail)
  rw [← HW.out, ← HG.out]
  go_wp2_with fail
  refine HM.out.mono ?_
  rintro e w1 ⟨rfl, hb⟩
  have R1 := Lib.hid (HR.out.call hb)
  have HB1 := Lib.hid hb
  clear hb a0 a1 a2 a3 HM
  obtain ⟨⟨a0, a1, a2, a3⟩, _, _, _, _⟩ := R1.out.cells4 1 rfl
  cases may with
  | false =>
    have hE : E ≠ 0 := fun h => by have := (HFZ.out h).1; simp at this
    have hre : re = E := by rw [HRE.out, if_neg (by simp)]
    have HV : Hid (rs = emptySh) := Lib.hid (by rw [HRS.out, if_neg (by rw [hre]; exact hE)])
    have HRE2 := Lib.hid hre
    have hE' : (E != 0) = true := by simpa using hE
    clear hE hre HRE HRS
    go_wp2_with fail
    refine (HFN.out _ HB1.out).mono ?_
    rintro e w2 ⟨rfl, hb⟩
    have R2 := Lib.hid (R1.out.call hb)
    clear hb a0 a1 a2 a3
    obtain ⟨⟨e0, e1, e2, e3⟩, b0, b1, b2, b3⟩ := R2.out.cells4 0 rfl
    go_wp2_with fail
    have R9 := R2.out.store4 0 rfl (.int .u8 0) (.int .u16 0) (.int .u16 0) (.slice none 0 0)
    refine bodyPost_ret (v := .tuple #[.agg #[.int .u8 0, .int .u16 0, .int .u16 0, .slice none 0 0], .int .i64 E]) (results_cell_slot rfl _ _ (g + 1) 25 _ (0, 0) _ _ rfl rfl (R9.get 0 rfl) Tryd.underlying25 rfl sizeShelf) rfl ?_
    exact ⟨_, (by rw [HRE2.out]), by rw [HV.out]; exact emptySh_in _ _, R9.below⟩
  | true =>
    go_wp2_with fail
    refine (HOF.out _ HB1.out).mono ?_
    rintro e w2 ⟨rfl, hb⟩
    have R2 := Lib.hid (R1.out.call hb)
    have HB2 := Lib.hid (HB1.out.trans (hb.mono HB1.out.size))
    clear hb a0 a1 a2 a3
    cases o with
    | false =>
      have hre : re = 2 := by rw [HRE.out, if_pos (by simp)]
      have HV : Hid (rs = emptySh) := Lib.hid (by rw [HRS.out, if_neg (by rw [hre]; decide)])
      have HRE2 := Lib.hid hre
      clear hre HRE HRS
      obtain ⟨⟨e0, e1, e2, e3⟩, b0, b1, b2, b3⟩ := R2.out.cells4 0 rfl
      go_wp2_with fail
      have R9 := R2.out.store4 0 rfl (.int .u8 0) (.int .u16 0) (.int .u16 0) (.slice none 0 0)
      refine bodyPost_ret (v := .tuple #[.agg #[.int .u8 0, .int .u16 0, .int .u16 0, .slice none 0 0], .int .i64 2]) (results_cell_slot rfl _ _ (g + 1) 25 _ (0, 0) _ _ rfl rfl (R9.get 0 rfl) Tryd.underlying25 rfl sizeShelf) rfl ?_
      exact ⟨_, (by rw [HRE2.out]), by rw [HV.out]; exact emptySh_in _ _, R9.below⟩
    | true =>
      have hre : re = E := by rw [HRE.out, if_neg (by simp)]
      have HRE2 := Lib.hid hre
      obtain ⟨⟨a0, a1, a2, a3⟩, _, _, _, _⟩ := R2.out.cells4 1 rfl
      clear HRE hre
      go_wp2_with fail
      refine (HFN.out _ HB2.out).mono ?_
      rintro e w3 ⟨rfl, hb⟩
      have R3 := Lib.hid (R2.out.call hb)
      clear hb a0 a1 a2 a3
      by_cases hE : E = 0
      · subst hE
        obtain ⟨_, hp0, hp1, hs0, hser⟩ := HFZ.out rfl
        obtain ⟨p, rfl⟩ : ∃ p : Nat, place = (p : Int) := ⟨place.toNat, by omega⟩
        obtain ⟨hm1, hm2⟩ := HOL.out (by simp)
        obtain ⟨mm, rfl⟩ : ∃ k : Nat, m = (k : Int) := ⟨m.toNat, by omega⟩
        have hne : s.cells ≠ [] := by intro h; rw [h] at hp1; simp at hp1; omega
        have HNE := Lib.hid hne
        have HP1 := Lib.hid hp1
        have HSER := Lib.hid hser
        have HS0 := Lib.hid hs0
        have hmm : mm ≤ 237 := by omega
        have hmm1 : 1 ≤ mm := by omega
        clear hne hp1 hser hs0 hm1 hm2 hp0
        obtain ⟨⟨a0, a1, a2, a3⟩, _, _, _, _⟩ := R3.out.cells4 1 rfl
        go_wp2_with fail
        refine (copied_is (w := w3) ⟨A, n, c, l, rfl, HS.out.below R3.out.below⟩).mono ?_
        rintro e w4 ⟨v2, rfl, h2⟩
        obtain ⟨gc, c2, cur, hs2, rfl, ho⟩ := h2.resolve_left (fun h => HNE.out h.1)
        have O2 := Lib.hid (own_join R3.out ho)
        have HLE : Hid (hs2.length = s.cells.length) := Lib.hid (by rw [← ho.dat, List.length_map])
        clear h2 ho a0 a1 a2 a3
        obtain ⟨⟨a0, a1, a2, a3⟩, b0, b1, b2, b3⟩ := O2.out.held.cells4 (hs2.length + 1 + 1) (own_at 1 rfl)
        unfold shV
        go_upto_region 7 with (fail)
        have q3 := O2.out.held.store4 (hs2.length + 1 + 1) (own_at 1 rfl) (.int .u8 (s.cl : Int)) (.int .u16 (s.prev : Int)) (.int .u16 (s.next : Int)) (.slice (some ⟨gc, 0, none⟩) hs2.length c2)
        rw [own_set] at q3
        obtain ⟨W3, hW3⟩ : ∃ W3, W3 = (((w4.setCell ⟨g, 0, none⟩ (.int .u8 (s.cl : Int))).setCell ⟨g, 1, none⟩ (.int .u16 (s.prev : Int))).setCell ⟨g, 2, none⟩ (.int .u16 (s.next : Int))).setCell ⟨g, 3, none⟩ (.slice (some ⟨gc, 0, none⟩) hs2.length c2) := ⟨_, rfl⟩
        rw [← hW3] at q3 ⊢
        have O3 := Lib.hid (O2.out.turnTail q3)
        clear hW3 q3 O2 a0 a1 a2 a3 b0 b1 b2 b3
        have hpl : p < hs2.length := by have := HLE.out; have := HP1.out; omega
        have hpd : s.cells.getD (p : Int).toNat (0, []) = hs2[p].dat := by
          rw [Int.toNat_natCast, ← O3.out.dat, List.getD_eq_getElem?_getD, List.getElem?_map, List.getElem?_eq_getElem hpl]; rfl
        have hxs : hs2[p].ser = ser := by have := HSER.out; rw [hpd] at this; exact this
        have hdl : dataL s (p : Int) = hs2[p].data := by unfold dataL; rw [hpd]; rfl
        have hdm : hs2[p].dat ∈ s.cells := by rw [← O3.out.dat]; exact List.mem_map_of_mem (List.getElem_mem hpl)
        have hd1 : 1 ≤ hs2[p].data.length := HCO.out _ hdm (by simp) (by rw [show hs2[p].dat.1 = hs2[p].ser from rfl, hxs]; exact HS0.out)
        have hd4 : hs2[p].data.length ≤ 400 := O3.out.small.2 _ hdm
        obtain ⟨F, hl1, hl2, h3⟩ := O3.out.held.thing (p + 1) (O3.out.datAt p hpl)
        have hdA : ∃ gd curd, hs2[p].A = some ⟨gd, 0, none⟩ ∧ W3.heap[gd]? = some (.cells curd 5 (0, 0)) ∧ hs2[p].data.map vu8 = curd.toList.take hs2[p].m := by
          rcases h3 with ⟨h3, _⟩ | ⟨gd, curd, hA, _, hg, hc⟩
          · have : hs2[p].data.length = 0 := by rw [h3]; rfl
            omega
          · exact ⟨gd, curd, hA, hg, hc⟩
        obtain ⟨gd, curd, hA, hgd, hcd⟩ := hdA
        have HRS2 : Hid (rs = putC s p (hs2[p].ser, sizedL hs2[p].data mm)) := Lib.hid (by rw [HRS.out, if_pos HRE2.out, hdl, Int.toNat_natCast, Int.toNat_natCast, hxs])
        clear HRS hpd hdl hdm HSER HS0 h3
        obtain ⟨hc0, hc1⟩ := O3.out.row p hpl
        obtain ⟨x, hx⟩ : ∃ x, x = hs2[p] := ⟨_, rfl⟩
        rw [← hx] at hc0 hc1 hl1 hA hcd HRS2 hd1 hd4 hxs
        have HX := Lib.hid hx
        obtain ⟨i, hi, hz, hs2', hby⟩ := info_parts infoByte
        have HI := Lib.hid hi
        have HZ := Lib.hid hz
        clear hi hz
        have q5 := O3.out.held.alloc (List.replicate mm (Value.int .u8 0)).toArray 5
        obtain ⟨W5, hW5⟩ : ∃ W5, W5 = W3.alloc (.cells (List.replicate mm (Value.int .u8 0)).toArray 5) := ⟨_, rfl⟩
        obtain ⟨k5, hk5⟩ : ∃ k5, k5 = W3.heap.size := ⟨_, rfl⟩
        rw [← hW5, ← hk5] at q5
        have R5 := Lib.hid q5
        have HW5 := Lib.hid hW5
        have HK5 := Lib.hid hk5
        have hgd5 : W5.heap[gd]? = some (.cells curd 5 (0, 0)) := by rw [hW5, Go.heap_alloc_old _ _ (Array.getElem?_eq_some_iff.1 hgd).1]; exact hgd
        have HXM : Hid (x.data.length = x.m) := Lib.hid hl1
        have HSRC : Hid (∀ j v, ((x.data.take mm).map vu8)[j]? = some v → W5.cell? ((⟨gd, 0, none⟩ : Addr).add j) = some v) := Lib.hid (fun j v hj => by
          rw [List.map_take, hcd, List.take_take, List.getElem?_take] at hj
          split at hj
          · rw [Addr.add_lit, Nat.zero_add, cell_of_row _ _ _ _ _ _ hgd5]
            simpa using hj
          · cases hj)
        have HNN : Hid (((x.data.take mm).map vu8).length = Nat.min x.m mm) := Lib.hid (by
          rw [List.length_map, List.length_take, hl1, Nat.min_comm])
        have HFI : Hid (0 + ((x.data.take mm).map vu8).length ≤ (List.replicate mm (Value.int .u8 0)).toArray.size) := Lib.hid (by
          rw [List.length_map, List.length_take, List.size_toArray, List.length_replicate]; omega)
        have HON : Hid (∀ v ∈ (x.data.take mm).map vu8, v.oneCell' = true) := Lib.hid (by intro u hu; obtain ⟨y, _, rfl⟩ := List.mem_map.1 hu; rfl)
        have HNEW : Hid ((sizedL x.data mm).map vu8 = ((List.replicate mm (Value.int .u8 0)).take 0 ++ (((x.data.take mm).map vu8) ++ (List.replicate mm (Value.int .u8 0)).drop (0 + ((x.data.take mm).map vu8).length)))) := Lib.hid (by
          unfold sizedL
          rw [List.take_zero, List.nil_append, List.map_append, List.length_map, List.length_take, List.map_replicate]
          rw [List.drop_replicate]
          congr 2
          omega)
        obtain ⟨⟨a0, a1, a2, a3⟩, _, _, _, _⟩ := q5.cells4 (hs2.length + 1 + 1 + 1) (by rw [List.getElem?_cons_succ]; exact own_at 1 rfl)
        have c1 : W5.cell? ⟨gc, p * 2 + 1, none⟩ = some (.slice x.A x.m x.c) := q5.cell 1 (p * 2 + 1) rfl hc1
        rw [hA] at c1
        have HNEWL : Hid ((sizedL x.data mm).length = mm) := Lib.hid (length_sizedL _ _)
        have HD4 := Lib.hid hmm
        clear hW5 hk5 q5 hgd hcd hgd5 hl1 hl2 hc0 hA hxs hd1 hd4 hx
        go_upto_region 8 with (refine wpList_make rfl 27 5 _ _ i _ mm 1 1 Tryd.underlying27 HI.out HZ.out hs2' hby rfl rfl rfl (by omega) (by decide) (by decide) ?_; rw [show (Value.int .u8 0).cells = #[.int .u8 0] from rfl, made_zeros, ← HW5.out, ← HK5.out])
        go_upto_region 9 with (refine wpList_copy_own rfl _ _ 27 27 rfl 5 Tryd.underlying27 sizeU8 k5 0 mm mm ⟨gd, 0, none⟩ x.m x.c rfl rfl (List.replicate mm (Value.int .u8 0)).toArray 5 (R5.out.get 0 rfl) ((x.data.take mm).map vu8) HNN.out HSRC.out HFI.out HON.out ?_; rw [← HNEW.out])
        have R6 : Hid (Held w (W5.setRow k5 ((sizedL x.data mm).map vu8).toArray) (datT ⟨x.ser, some ⟨k5, 0, none⟩, mm, mm, sizedL x.data mm⟩ :: rowT gc cur 41 :: (hs2.map datT ++ _))) := Lib.hid ((R5.out.setRow 0 ((sizedL x.data mm).map vu8).toArray rfl).weaken (y := datT ⟨x.ser, some ⟨k5, 0, none⟩, mm, mm, sizedL x.data mm⟩) (fun F hF => by
          obtain ⟨hF1, hF2⟩ := hF
          subst hF1
          refine ⟨HNEWL.out, Nat.le_refl _, .inr ⟨k5, _, rfl, rfl, hF2, ?_⟩⟩
          show (sizedL x.data mm).map vu8 = ((sizedL x.data mm).map vu8).take mm
          rw [List.take_of_length_le]
          rw [List.length_map, HNEWL.out]
          exact Nat.le_refl _))
        obtain ⟨W6, hW6⟩ : ∃ W6, W6 = W5.setRow k5 ((sizedL x.data mm).map vu8).toArray := ⟨_, rfl⟩
        rw [← hW6] at R6 ⊢
        clear hW6 a0 a1 a2 a3 c1
        have O6 := Lib.hid (O3.out.putData p hpl ⟨x.ser, some ⟨k5, 0, none⟩, mm, mm, sizedL x.data mm⟩ R6.out (by rw [HNEWL.out]; have := HD4.out; omega) (by rw [HX.out]))
        have c1 := R6.out.cell 1 (p * 2 + 1) rfl hc1
        have f1 := R6.out.free 1 (p * 2 + 1) rfl
        obtain ⟨⟨a0, a1, a2, a3⟩, _, _, _, _⟩ := R6.out.cells4 (hs2.length + 1 + 1 + 1) (by rw [List.getElem?_cons_succ]; exact own_at 1 rfl)
        clear hc1
        go_upto_region 10 with (fail)
        clear a0 a1 a2 a3 c1 f1
        have HLN : Hid ((hs2.set p ⟨x.ser, some ⟨k5, 0, none⟩, mm, mm, sizedL x.data mm⟩).length = hs2.length) := Lib.hid (by simp)
        obtain ⟨W7, hW7⟩ : ∃ W7, W7 = W6.setCell ⟨gc, p * 2 + 1, none⟩ (.slice (some ⟨k5, 0, none⟩) mm mm) := ⟨_, rfl⟩
        have O7 : Hid (OwnSh w W7 (putC s p (x.ser, sizedL x.data mm)) gc c2 _ (hs2.set p ⟨x.ser, some ⟨k5, 0, none⟩, mm, mm, sizedL x.data mm⟩) _) := Lib.hid (hW7 ▸ O6.out)
        rw [← hW7]
        clear hW7 O6 R6 R5
        generalize hs2.set p ⟨x.ser, some ⟨k5, 0, none⟩, mm, mm, sizedL x.data mm⟩ = hs3 at O7 HLN
        obtain ⟨⟨a0, a1, a2, a3⟩, _, _, _, _⟩ := O7.out.held.cells4 (hs3.length + 1 + 2) (own_at 2 rfl)
        obtain ⟨⟨e0, e1, e2, e3⟩, b0, b1, b2, b3⟩ := O7.out.held.cells4 (hs3.length + 1 + 1) (own_at 1 rfl)
        go_wp2_with fail
        have hre := HRE2.out
        have q5 := O7.out.held.store4 (hs3.length + 1 + 1) (own_at 1 rfl) (.int .u8 (s.cl : Int)) (.int .u16 (s.prev : Int)) (.int .u16 (s.next : Int)) (.slice (some ⟨gc, 0, none⟩) hs2.length c2)
        rw [own_set] at q5
        have O5 := O7.out.turnTail q5
        refine bodyPost_ret (v := .tuple #[.agg #[.int .u8 (s.cl : Int), .int .u16 (s.prev : Int), .int .u16 (s.next : Int), .slice (some ⟨gc, 0, none⟩) hs2.length c2], .int .i64 0]) (results_cell_slot rfl _ _ (g + 1) 25 _ (0, 0) _ _ rfl rfl (O5.held.get (hs3.length + 1 + 1) (own_at 1 rfl)) Tryd.underlying25 rfl sizeShelf) rfl ?_
        exact ⟨_, (by first | rfl | rw [hre]), by rw [HRS2.out]; exact ⟨_, _, _, _, rfl, HLN.out ▸ O5.shelf, HLN.out ▸ O5.fresh⟩, O5.held.below⟩
      · have hre := HRE2.out
        have HV : Hid (rs = emptySh) := Lib.hid (by rw [HRS.out, if_neg (by rw [hre]; exact hE)])
        have hE' : (E != 0) = true := by simpa using hE
        clear hE hre HRS
        obtain ⟨⟨e0, e1, e2, e3⟩, b0, b1, b2, b3⟩ := R3.out.cells4 0 rfl
        go_wp2_with fail
        have R9 := R3.out.store4 0 rfl (.int .u8 0) (.int .u16 0) (.int .u16 0) (.slice none 0 0)
        refine bodyPost_ret (v := .tuple #[.agg #[.int .u8 0, .int .u16 0, .int .u16 0, .slice none 0 0], .int .i64 E]) (results_cell_slot rfl _ _ (g + 1) 25 _ (0, 0) _ _ rfl rfl (R9.get 0 rfl) Tryd.underlying25 rfl sizeShelf) rfl ?_
        exact ⟨_, (by rw [HRE2.out]), by rw [HV.out]; exact emptySh_in _ _, R9.below⟩
end
end Go.Proofs.YtcepfmjebgklfaaDoor
