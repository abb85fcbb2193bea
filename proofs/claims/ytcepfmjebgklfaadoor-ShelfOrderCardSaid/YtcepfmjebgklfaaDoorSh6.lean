/- Shelves in memory: find, part, Read. -/
import Derived.Test.YtcepfmjebgklfaaDoorSh5
namespace Go.Proofs.YtcepfmjebgklfaaDoor
open Go.RowKit
set_option linter.unusedSimpArgs false
set_option linter.unusedVariables false
set_option maxRecDepth 100000
section
variable {P : Program} {w : World}
theorem run_slice3 (t e : TypeId) (A : Option Addr) (m c lo hi : Nat) (ht : P.underlying t = some (.slice e)) (hs : (P.info? e).map (·.size) = some 1) (h1 : lo ≤ hi) (h2 : hi ≤ c) :
    (Instr.sliceAt t (.slice A m c) (some (.int .i64 (lo : Int))) (some (.int .i64 (hi : Int))) (some (.int .i64 (hi : Int)))).run P w = .ok (.slice (if hi = lo then A else A.map (·.add lo)) (hi - lo) (hi - lo)) w := by
  obtain ⟨f, hf, hf1⟩ : ∃ f, P.info? e = some f ∧ f.size = 1 := by
    cases hq : P.info? e with
    | none => simp [hq] at hs
    | some f => exact ⟨f, rfl, by simpa [hq] using hs⟩
  have b1 : (0 : Int) ≤ (hi : Int) ∧ (hi : Int) ≤ (c : Int) := by omega
  have b2 : (0 : Int) ≤ (lo : Int) ∧ (lo : Int) ≤ (hi : Int) := by omega
  simp [Instr.sliceAt, Instr.slice, run_underlying ht, Instr.sliceBounds, Instr.sliceBound, asIntOf, h1, h2, sizeOf, typeInfo, hf, hf1]
end
theorem ShelfOf.get {w : World} {s : ShL} {A : Option Addr} {n c : Nat} {l : List CellH} (h : ShelfOf w s A n c l) (p : Nat) (hp : p < n) :
    ∃ x, l[p]? = some x ∧ s.cells.getD p (0, []) = x.dat ∧ CellOk w x ∧ x.m ≤ 400 ∧ ∃ b off, A = some ⟨b, off, none⟩ ∧ b < w.heap.size ∧ w.rangeAt b (off + p * 2) (cellV x).toList := by
  have hpl : p < l.length := by rw [h.cells.len]; exact hp
  refine ⟨l[p], List.getElem?_eq_getElem hpl, ?_, h.cells.ok _ (List.getElem_mem hpl), h.data400 _ (List.getElem_mem hpl), h.cells.cells p hpl⟩
  rw [← h.dat, List.getD_eq_getElem?_getD, List.getElem?_map, List.getElem?_eq_getElem hpl]
  rfl
section
variable {w : World}
set_option maxHeartbeats 2000000 in
theorem find_is (hc : ClsAt w) {s : ShL} {v : Value} (hs : ShelfIn w v s) (place : Int) (ser : Nat) :
    Calls Tryd.prog 32 #[v, .int .i64 place, .int .u64 (ser : Int)] w fun e w' => e = .returned (.int .i64 (findE s place ser)) ∧ Below w.heap.size w w' := by
  obtain ⟨A, n, c, l, rfl, hs⟩ := hs
  have hR := (Rows.start w).alloc (shV s A n c) 25
  obtain ⟨W, hW⟩ : ∃ W, W = w.alloc (.cells (shV s A n c) 25) := ⟨_, rfl⟩
  obtain ⟨g, hg⟩ : ∃ g, g = w.heap.size := ⟨_, rfl⟩
  rw [← hW, ← hg] at hR
  have HR := Lib.hid hR
  have HW := Lib.hid hW
  have HG := Lib.hid hg
  have HS := Lib.hid hs
  have hlen := hs.len
  have HM := Lib.hid (may_is (w := W) (hc.below hR.below) ⟨A, n, c, l, rfl, hs.below hR.below⟩)
  have a0 : W.cell? ⟨g, 0, none⟩ = some (.int .u8 (s.cl : Int)) := hR.cell 0 0 rfl rfl
  have a1 : W.cell? ⟨g, 1, none⟩ = some (.int .u16 (s.prev : Int)) := hR.cell 0 1 rfl rfl
  have a2 : W.cell? ⟨g, 2, none⟩ = some (.int .u16 (s.next : Int)) := hR.cell 0 2 rfl rfl
  have a3 : W.cell? ⟨g, 3, none⟩ = some (.slice A n c) := hR.cell 0 3 rfl rfl
  have HF : Hid (findE s place ser = if mayL s then (if 0 ≤ place ∧ place < n ∧ ser ≠ 0 ∧ (s.cells.getD place.toNat (0, [])).1 = ser then 0 else 210) else 5) := Lib.hid (by unfold findE; rw [hlen])
  clear hR hW hg hs hc hlen
  generalize hmay : mayL s = may at HM HF
  generalize findE s place ser = E at HF ⊢
  go_enter Tryd.func32, Tryd.ntmps32
  go_upto_region 1 with (fail)
  rw [← HW.out, ← HG.out]
  go_wp2_with fail
  refine HM.out.mono ?_
  rintro e w1 ⟨rfl, hb⟩
  have R1 := Lib.hid (HR.out.call hb)
  clear hb a0 a1 a2 a3 HM
  have a3 : w1.cell? ⟨g, 3, none⟩ = some (.slice A n c) := R1.out.cell 0 3 rfl rfl
  cases may with
  | false =>
    have HV := Lib.hid (HF.out.trans (if_neg (by simp)))
    clear HF
    go_wp2_with fail
    go_ret
    exact ⟨by rw [HV.out]; rfl, R1.out.below⟩
  | true =>
    have HF := Lib.hid (HF.out.trans (if_pos rfl))
    by_cases h0 : place < 0
    · skip
      have HV := Lib.hid (HF.out.trans (if_neg (by omega)))
      clear HF
      go_wp2_with fail
      go_ret
      exact ⟨by rw [HV.out]; rfl, R1.out.below⟩
    · by_cases h1 : (n : Int) ≤ place
      · skip
        have HV := Lib.hid (HF.out.trans (if_neg (by omega)))
        clear HF
        go_wp2_with fail
        go_ret
        exact ⟨by rw [HV.out]; rfl, R1.out.below⟩
      · obtain ⟨p, rfl⟩ : ∃ p : Nat, place = (p : Int) := ⟨place.toNat, by omega⟩
        by_cases h2 : ser = 0
        · subst h2
          have HV := Lib.hid (HF.out.trans (if_neg (by simp)))
          clear HF
          go_wp2_with fail
          go_ret
          exact ⟨by rw [HV.out]; rfl, R1.out.below⟩
        · have h2' : ((ser : Int) == 0) = false := by simp; omega
          obtain ⟨x, hx, hd, hok, _, b, off, rfl, hb, hr⟩ := HS.out.get p (by omega)
          have c0 : w1.cell? ⟨b, off + p * 2, none⟩ = some (.int .u64 (x.ser : Int)) := (R1.out.below.cell hb).trans (hr 0 _ (show (cellV x).toList[0]? = some (.int .u64 (x.ser : Int)) from rfl))
          have HD : Hid ((s.cells.getD (p : Int).toNat (0, [])).1 = x.ser) := Lib.hid (by rw [Int.toNat_natCast, hd]; rfl)
          have hpn : p < n := by omega
          have hq0 : decide ((p : Int) < 0) = false := decide_eq_false h0
          have hq1 : decide (n ≤ p) = false := decide_eq_false (by omega)
          clear hx hd hok hb hr
          rw [HD.out] at HF
          by_cases h3 : x.ser = ser
          · have h3' : ((x.ser : Int) != (ser : Int)) = false := by simp; omega
            have HV := Lib.hid (HF.out.trans (if_pos ⟨by omega, by omega, h2, h3⟩))
            have H3 := Lib.hid h3'
            clear h3 h2 HF
            go_wp2_with fail
            go_ret
            exact ⟨by rw [HV.out]; rfl, R1.out.below⟩
          · have h3' : ((x.ser : Int) != (ser : Int)) = true := by simp; omega
            have HV := Lib.hid (HF.out.trans (if_neg (fun h => h3 h.2.2.2)))
            clear h3 h2 HF
            go_wp2_with fail
            go_ret
            exact ⟨by rw [HV.out]; rfl, R1.out.below⟩
def PartPost (w : World) (E : Int) (l : List CellH) (place off n : Int) (e : Ending) (w' : World) : Prop :=
  ∃ v, e = .returned (.tuple #[v, .int .i64 E]) ∧ Below w.heap.size w w' ∧
    ((E ≠ 0 ∧ v = .slice none 0 0) ∨ (E = 0 ∧ ∃ x, l[place.toNat]? = some x ∧ v = .slice (if off.toNat + n.toNat = off.toNat then x.A else x.A.map (·.add off.toNat)) n.toNat n.toNat))
set_option maxHeartbeats 2000000 in
theorem part_is (hc : ClsAt w) {s : ShL} {A : Option Addr} {N c : Nat} {l : List CellH} (hs : ShelfOf w s A N c l) (place : Int) (ser : Nat) (off n : Int) :
    Calls Tryd.prog 30 #[.agg (shV s A N c), .int .i64 place, .int .u64 (ser : Int), .int .i64 off, .int .i64 n] w fun e w' => PartPost w (partE s place ser off n) l place off n e w' := by
  have hR := (Rows.start w).alloc (shV s A N c) 25
  obtain ⟨W, hW⟩ : ∃ W, W = w.alloc (.cells (shV s A N c) 25) := ⟨_, rfl⟩
  obtain ⟨g, hg⟩ : ∃ g, g = w.heap.size := ⟨_, rfl⟩
  rw [← hW, ← hg] at hR
  have HR := Lib.hid hR
  have HW := Lib.hid hW
  have HG := Lib.hid hg
  have HS := Lib.hid hs
  have HFN := Lib.hid (find_is (w := W) (hc.below hR.below) ⟨A, N, c, l, rfl, hs.below hR.below⟩ place ser)
  have a0 : W.cell? ⟨g, 0, none⟩ = some (.int .u8 (s.cl : Int)) := hR.cell 0 0 rfl rfl
  have a1 : W.cell? ⟨g, 1, none⟩ = some (.int .u16 (s.prev : Int)) := hR.cell 0 1 rfl rfl
  have a2 : W.cell? ⟨g, 2, none⟩ = some (.int .u16 (s.next : Int)) := hR.cell 0 2 rfl rfl
  have a3 : W.cell? ⟨g, 3, none⟩ = some (.slice A N c) := hR.cell 0 3 rfl rfl
  have HF : Hid (partE s place ser off n = if findE s place ser = 0 then (if 0 ≤ off ∧ 0 ≤ n ∧ off + n ≤ (dataL s place).length then 0 else 211) else findE s place ser) := Lib.hid rfl
  have HFE : Hid (findE s place ser = 0 → mayL s = true ∧ 0 ≤ place ∧ place < s.cells.length ∧ ser ≠ 0 ∧ (s.cells.getD place.toNat (0, [])).1 = ser) := Lib.hid findE_zero
  generalize partE s place ser off n = E at HF ⊢
  generalize findE s place ser = q at HF HFE HFN
  have hlen := hs.len
  have HLEN := Lib.hid hlen
  clear hR hW hg hs hc hlen
  go_enter Tryd.func30, Tryd.ntmps30
  go_upto_region 1 with (fail)
  rw [← HW.out, ← HG.out]
  go_wp2_with fail
  refine HFN.out.mono ?_
  rintro e w1 ⟨rfl, hb⟩
  have R2 := Lib.hid (HR.out.call hb)
  clear hb a0 a1 a2 a3 HFN
  have a3 : w1.cell? ⟨g, 3, none⟩ = some (.slice A N c) := R2.out.cell 0 3 rfl rfl
  by_cases hq : q = 0
  · subst hq
    have HF := Lib.hid (HF.out.trans (if_pos rfl))
    obtain ⟨_, hp0, hp1, _, _⟩ := HFE.out rfl
    obtain ⟨p, rfl⟩ : ∃ p : Nat, place = (p : Int) := ⟨place.toNat, by omega⟩
    have hpn : p < N := by have := HLEN.out; omega
    obtain ⟨x, hx, hd, hok, hm400, b, o, rfl, hb, hr⟩ := HS.out.get p hpn
    have c1 : w1.cell? ⟨b, o + p * 2 + 1, none⟩ = some (.slice x.A x.m x.c) := (R2.out.below.cell hb).trans (hr 1 _ (show (cellV x).toList[1]? = some (.slice x.A x.m x.c) from rfl))
    have hdl : (dataL s (p : Int)).length = x.m := by unfold dataL; rw [Int.toNat_natCast, hd]; exact hok.len
    rw [hdl] at HF
    have HX := Lib.hid hx
    have hcap := hok.cap
    clear hx hd hok hb hr hdl HFE hp0 hp1
    by_cases h1 : off < 0
    · skip
      have HV := Lib.hid (HF.out.trans (if_neg (by omega)))
      clear HF
      go_wp2_with fail
      go_ret2
      exact ⟨.slice none 0 0, by rw [HV.out]; rfl, R2.out.below, .inl ⟨by rw [HV.out]; decide, rfl⟩⟩
    · by_cases h2 : n < 0
      · skip
        have HV := Lib.hid (HF.out.trans (if_neg (by omega)))
        clear HF
        go_wp2_with fail
        go_ret2
        exact ⟨.slice none 0 0, by rw [HV.out]; rfl, R2.out.below, .inl ⟨by rw [HV.out]; decide, rfl⟩⟩
      · by_cases h3 : (x.m : Int) < off
        · skip
          have HV := Lib.hid (HF.out.trans (if_neg (by omega)))
          clear HF
          go_wp2_with fail
          go_ret2
          exact ⟨.slice none 0 0, by rw [HV.out]; rfl, R2.out.below, .inl ⟨by rw [HV.out]; decide, rfl⟩⟩
        · by_cases h4 : (x.m : Int) - off < n
          · skip
            have HV := Lib.hid (HF.out.trans (if_neg (by omega)))
            clear HF
            go_wp2_with fail
            go_ret2
            exact ⟨.slice none 0 0, by rw [HV.out]; rfl, R2.out.below, .inl ⟨by rw [HV.out]; decide, rfl⟩⟩
          · obtain ⟨lo, rfl⟩ : ∃ k : Nat, off = (k : Int) := ⟨off.toNat, by omega⟩
            obtain ⟨k, rfl⟩ : ∃ k : Nat, n = (k : Int) := ⟨n.toNat, by omega⟩
            have HV := Lib.hid (HF.out.trans (if_pos ⟨by omega, by omega, by omega⟩))
            have hsl := fun w : World => run_slice3 (P := Tryd.prog) (w := w) 27 5 x.A x.m x.c lo (lo + k) Tryd.underlying27 (by kernel_rfl) (by omega) (by omega)
            rw [show ((lo + k : Nat) : Int) = (lo : Int) + (k : Int) by omega, show lo + k - lo = k by omega] at hsl
            obtain ⟨B, hB⟩ : ∃ B, B = (if lo + k = lo then x.A else x.A.map (·.add lo)) := ⟨_, rfl⟩
            rw [← hB] at hsl
            have HB := Lib.hid hB
            clear HF hB
            go_wp2_with fail
            go_ret2
            exact ⟨.slice B k k, by rw [HV.out]; rfl, R2.out.below, .inr ⟨HV.out, x, by rw [Int.toNat_natCast]; exact HX.out, by rw [HB.out]; simp only [Int.toNat_natCast]⟩⟩
  · have HV := Lib.hid (HF.out.trans (if_neg hq))
    have hq' : (q != 0) = true := by simpa using hq
    clear HF
    go_wp2_with fail
    go_ret2
    exact ⟨.slice none 0 0, by rw [HV.out]; rfl, R2.out.below, .inl ⟨by rw [HV.out]; exact hq, rfl⟩⟩
def ReadPost (w : World) (E : Int) (b : List UInt8) (e : Ending) (w' : World) : Prop :=
  ∃ A c, e = .returned (.tuple #[.slice A b.length c, .int .i64 E]) ∧ b.length ≤ c ∧ BytesIn w' A b ∧ Below w.heap.size w w'
theorem bytesIn_part {w : World} {A : Option Addr} {b : List UInt8} (h : BytesIn w A b) (lo k : Nat) (hk : lo + k ≤ b.length) : BytesIn w (if lo + k = lo then A else A.map (·.add lo)) ((b.drop lo).take k) := by
  by_cases h0 : k = 0
  · subst h0
    exact .inl (by simp)
  · rcases h with rfl | ⟨g, off, rfl, h1, h2⟩
    · simp at hk; omega
    · rw [if_neg (by omega)]
      refine .inr ⟨g, off + lo, by simp [Addr.add_lit], h1, fun j hj => ?_⟩
      rw [List.length_take, List.length_drop] at hj
      rw [Nat.add_assoc, h2 (lo + j) (by omega), List.getElem?_take, if_pos (by omega), List.getElem?_drop]
set_option maxHeartbeats 1000000 in
theorem read_is (hc : ClsAt w) {s : ShL} {v : Value} (hs : ShelfIn w v s) (place : Int) (ser : Nat) (off n : Int) :
    Calls Tryd.prog 12 #[v, .int .i64 place, .int .u64 (ser : Int), .int .i64 off, .int .i64 n] w fun e w' => ReadPost w (partE s place ser off n) (readB18 s place ser off n) e w' := by
  obtain ⟨A, N, c, l, rfl, hs⟩ := hs
  have hR := (Rows.start w).alloc (shV s A N c) 25
  obtain ⟨W, hW⟩ : ∃ W, W = w.alloc (.cells (shV s A N c) 25) := ⟨_, rfl⟩
  obtain ⟨g, hg⟩ : ∃ g, g = w.heap.size := ⟨_, rfl⟩
  rw [← hW, ← hg] at hR
  have HR := Lib.hid hR
  have HW := Lib.hid hW
  have HG := Lib.hid hg
  have HS := Lib.hid (hs.below hR.below)
  have HPT := Lib.hid (part_is (w := W) (hc.below hR.below) (hs.below hR.below) place ser off n)
  have a0 : W.cell? ⟨g, 0, none⟩ = some (.int .u8 (s.cl : Int)) := hR.cell 0 0 rfl rfl
  have a1 : W.cell? ⟨g, 1, none⟩ = some (.int .u16 (s.prev : Int)) := hR.cell 0 1 rfl rfl
  have a2 : W.cell? ⟨g, 2, none⟩ = some (.int .u16 (s.next : Int)) := hR.cell 0 2 rfl rfl
  have a3 : W.cell? ⟨g, 3, none⟩ = some (.slice A N c) := hR.cell 0 3 rfl rfl
  have HRB : Hid (readB18 s place ser off n = if partE s place ser off n = 0 then ((dataL s place).drop off.toNat).take n.toNat else []) := Lib.hid rfl
  have HPZ : Hid (partE s place ser off n = 0 → findE s place ser = 0 ∧ 0 ≤ off ∧ 0 ≤ n ∧ off + n ≤ (dataL s place).length) := Lib.hid partE_zero
  generalize readB18 s place ser off n = b at HRB ⊢
  generalize partE s place ser off n = E at HRB HPZ HPT ⊢
  have HLEN := Lib.hid hs.len
  clear hR hW hg hs hc
  go_enter Tryd.func12, Tryd.ntmps12
  go_upto_region 1 with (fail)
  rw [← HW.out, ← HG.out]
  go_wp2_with fail
  refine HPT.out.mono ?_
  rintro e w1 ⟨v1, rfl, hb, hv⟩
  clear HPT a0 a1 a2 a3
  obtain ⟨B, rfl, hby, hb4⟩ : ∃ B, v1 = .slice B b.length b.length ∧ BytesIn w1 B b ∧ b.length ≤ 400 := by
    rcases hv with ⟨he, rfl⟩ | ⟨he, x, hx, rfl⟩
    · have : b = [] := by rw [HRB.out, if_neg he]
      subst this
      exact ⟨none, rfl, .inl rfl, by simp⟩
    · obtain ⟨hf, h1, h2, h3⟩ := HPZ.out he
      obtain ⟨_, hp0, hp1, _, _⟩ := findE_zero hf
      obtain ⟨y, hy, hd, hok, hm4, _⟩ := HS.out.get place.toNat (by have := HLEN.out; omega)
      obtain rfl : x = y := by rw [hx] at hy; exact Option.some.inj hy
      have hdl : dataL s place = x.data := by unfold dataL; rw [hd]; rfl
      rw [hdl, hok.len] at h3
      have hbe : b = (x.data.drop off.toNat).take n.toNat := by rw [HRB.out, if_pos he, hdl]
      have hbl : b.length = n.toNat := by rw [hbe, List.length_take, List.length_drop, hok.len]; omega
      refine ⟨if off.toNat + n.toNat = off.toNat then x.A else x.A.map (·.add off.toNat), by rw [hbl], ?_, by omega⟩
      rw [hbe]
      exact bytesIn_part (hok.by_.below hb) _ _ (by rw [hok.len]; omega)
  have HCL := Lib.hid (clone8_any (w := w1) B b.length b.length (b.map vu8) (by simp) (by omega) (by intro u hu; obtain ⟨y, _, rfl⟩ := List.mem_map.1 hu; rfl) (by
    rcases hby with h | ⟨gd, o, e, _, h⟩
    · exact .inl (by rw [h]; rfl)
    · exact .inr ⟨gd, o, e, fun jj u hu => by
        have hjj : jj < b.length := by have := (List.getElem?_eq_some_iff.1 hu).1; simpa using this
        rw [h jj hjj, ← List.getElem?_map, hu]⟩))
  have HB := Lib.hid (HR.out.call hb)
  clear hb hv hby
  go_wp2_with fail
  refine HCL.out.mono ?_
  rintro e w2 ⟨v2, rfl, hown, hb⟩
  obtain ⟨A2, c2, FF, rfl, hsay, _, _⟩ := datT_of_own 0 rfl hown
  have HB2 := Lib.hid (HB.out.call hb)
  have HSY := Lib.hid (datT_bytes ⟨FF, hsay⟩)
  clear hb hown hsay
  go_wp2_with fail
  go_ret2
  exact ⟨A2, c2, rfl, HSY.out.2.1, HSY.out.2.2, HB2.out.below⟩
end
end Go.Proofs.YtcepfmjebgklfaaDoor
