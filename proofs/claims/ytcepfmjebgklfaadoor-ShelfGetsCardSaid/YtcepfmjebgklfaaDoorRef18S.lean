/- The document's shelves (pantileref18): Sized, Resize, Read, Write, Same. -/
import Derived.Test.YtcepfmjebgklfaaDoorRef18W
namespace Go.Proofs.YtcepfmjebgklfaaDoor
open Go.RowKit
set_option linter.unusedSimpArgs false
set_option linter.unusedVariables false
set_option maxRecDepth 100000
def sizeMix (d : List UInt8) (n j : Nat) : List UInt8 := d.take j ++ List.replicate (n - j) 0
theorem sizeMix_set (d : List UInt8) (n j : Nat) (h1 : j < d.length) (h2 : j < n) : (sizeMix d n j).set j (d.getD j 0) = sizeMix d n (j + 1) := by
  have hl : (d.take j).length = j := by rw [List.length_take]; omega
  unfold sizeMix
  rw [List.set_append_right _ _ (by omega), hl, Nat.sub_self, show n - j = (n - (j + 1)) + 1 by omega, List.replicate_succ, List.set_cons_zero, List.take_succ_eq_append_getElem h1, List.append_assoc, List.getD_eq_getElem?_getD, List.getElem?_eq_getElem h1]
  rfl
theorem sizeMix_end (d : List UInt8) (n : Nat) : sizeMix d n (min n d.length) = sizedL d n := by
  unfold sizeMix sizedL
  by_cases h : n ≤ d.length
  · rw [Nat.min_eq_left h, Nat.sub_self, show n - d.length = 0 by omega]
  · rw [Nat.min_eq_right (by omega), List.take_of_length_le (Nat.le_refl _), List.take_of_length_le (by omega)]
theorem length_sizeMix (d : List UInt8) (n j : Nat) (h1 : j ≤ d.length) (h2 : j ≤ n) : (sizeMix d n j).length = n := by
  unfold sizeMix
  rw [List.length_append, List.length_take, List.length_replicate]; omega
/-- A row of bytes. -/
theorem bytes_of_row {w : World} {g : Nat} {d : List UInt8} {T : TypeId} {fr : Nat × Nat} (h : w.heap[g]? = some (.cells (blk d) T fr)) : BytesIn w (some ⟨g, 0, none⟩) d := by
  refine .inr ⟨g, 0, rfl, (Array.getElem?_eq_some_iff.1 h).1, fun i hi => ?_⟩
  rw [Nat.zero_add, cell_of_row _ _ _ _ _ _ h]
  simp [blk]
def SizedPost (w : World) (d : List UInt8) (n : Nat) (e : Ending) (w' : World) : Prop := ∃ gd, e = .returned (.slice (some ⟨gd, 0, none⟩) n n) ∧ w.heap.size ≤ gd ∧ gd < w'.heap.size ∧ BytesIn w' (some ⟨gd, 0, none⟩) d ∧ Below w.heap.size w w'
section
variable {w : World}
theorem bytesIn_get {w W : World} {A : Option Addr} {d : List UInt8} (h : BytesIn w A d) (hb : Below w.heap.size w W) (j : Nat) (hj : j < d.length) : ∃ g o, A = some ⟨g, o, none⟩ ∧ W.cell? ⟨g, o + j, none⟩ = some (.int .u8 ((d.getD j 0).toNat : Int)) := by
  rcases h with h | ⟨g, o, h1, h2, h3⟩
  · rw [h] at hj; simp at hj
  · refine ⟨g, o, h1, (hb.cell h2).trans ?_⟩
    rw [h3 j hj, List.getD_eq_getElem?_getD, List.getElem?_eq_getElem hj]
    rfl
set_option maxHeartbeats 2000000 in
theorem refsized18 (A : Option Addr) (m c : Nat) (d : List UInt8) (hd : BytesIn w A d) (hl : d.length = m) (hm : m ≤ 400) (n : Nat) (hn : n ≤ 237) :
    Calls Tryd.prog 65 #[.slice A m c, .int .i64 (n : Int)] w fun e w' => SizedPost w (sizedL d n) n e w' := by
  have HD := Lib.hid hd
  have HL := Lib.hid hl
  have hR := (Held.start w).alloc (blk (sizeMix d n 0)) 5
  obtain ⟨W, hW⟩ : ∃ W, W = w.alloc (.cells (blk (sizeMix d n 0)) 5) := ⟨_, rfl⟩
  obtain ⟨gd, hg⟩ : ∃ g, g = w.heap.size := ⟨_, rfl⟩
  rw [← hW, ← hg] at hR
  have HW := Lib.hid hW
  have HG := Lib.hid hg
  have R0 := Lib.hid hR
  have HZ : Hid ((List.replicate n (Value.int .u8 0)).toArray = blk (sizeMix d n 0)) := Lib.hid (by simp [sizeMix, blk, vu8])
  obtain ⟨i, hi, hz, hs2', hby⟩ := infoU8''
  have HI := Lib.hid hi
  have HZ0 := Lib.hid hz
  clear hd hl hR hW hg hi hz
  go_enter Tryd.func65, Tryd.ntmps65
  go_upto_region 2 with (refine wpList_make rfl 27 5 _ _ i _ n 1 1 Tryd.underlying27 HI.out HZ0.out hs2' hby rfl rfl rfl (by omega) (by decide) (by decide) ?_; rw [show (Value.int .u8 0).cells = #[.int .u8 0] from rfl, made_zeros, HZ.out, ← HW.out, ← HG.out])
  clear HI HZ0 hs2' hby HZ
  go_wp2_with fail
  go_loopw [6] (fun i wr => ∃ j : Nat, j ≤ n ∧ j ≤ m ∧ i = .int .i64 (j : Int) ∧ Held w wr [rowT gd (blk (sizeMix d n j)) 5]) (fun i _ => n - (intOf i).toNat)
  case atStart => exact ⟨0, by omega, by omega, rfl, R0.out⟩
  case round =>
    obtain ⟨j, hj, hjm, rfl, hR⟩ := hrel
    have R1 := Lib.hid hR
    clear hR R0
    by_cases h1 : j < n
    · by_cases h2 : j < m
      · have HS := Lib.hid (sizeMix_set d n j (by rw [HL.out]; exact h2) h1)
        have hlm := length_sizeMix d n j (by rw [HL.out]; exact hjm) hj
        obtain ⟨g, o, rfl, hc⟩ := bytesIn_get HD.out R1.out.below j (by rw [HL.out]; exact h2)
        obtain ⟨y, hy⟩ : ∃ y, (sizeMix d n j)[j]? = some y := ⟨_, List.getElem?_eq_getElem (by omega)⟩
        have hold := R1.out.cell 0 j (v := vu8 y) rfl (by simp [blk, hy])
        have hfr := R1.out.free 0 j rfl
        have R2 := Lib.hid (R1.out.setCell 0 j (vu8 (d.getD j 0)) rfl)
        rw [blk_set, HS.out] at R2
        unfold vu8 at R2
        obtain ⟨x, hx⟩ : ∃ x, x = (d.getD j 0).toNat := ⟨_, rfl⟩
        rw [← hx] at R2 hc
        clear hx hlm HS R1 hy
        go_wp2_with fail
        go_roundw
        case rel => exact ⟨j + 1, by omega, by omega, by go_num, R2.out⟩
        case measure => simp [intOf]; omega
      · obtain rfl : j = m := by omega
        have HE : Hid (sizeMix d n j = sizedL d n) := Lib.hid (by
          have := sizeMix_end d n
          rwa [HL.out, Nat.min_eq_right (by omega)] at this)
        rw [HE.out] at R1
        go_wp2_with fail
        go_ret
        exact ⟨gd, rfl, by rw [HG.out]; exact Nat.le_refl _, R1.out.lt 0 rfl, bytes_of_row (R1.out.get 0 rfl), R1.out.below⟩
    · obtain rfl : j = n := by omega
      have HE : Hid (sizeMix d j j = sizedL d j) := Lib.hid (by
        have := sizeMix_end d j
        rwa [HL.out, Nat.min_eq_left (by omega)] at this)
      rw [HE.out] at R1
      go_wp2_with fail
      go_ret
      exact ⟨gd, rfl, by rw [HG.out]; exact Nat.le_refl _, R1.out.lt 0 rfl, bytes_of_row (R1.out.get 0 rfl), R1.out.below⟩
end
def rz18 (B : Nat) (s : ShL) (A : Option Addr) (n c : Nat) (l : List CellH) (g b off p ser m : Nat) (x : CellH) (d : List UInt8) (t : Tmp) : Value → List Nat → World → Prop :=
  match t with
  | 29 => fun v F w => F = foot A n l ∧ v = .agg (shV s A n c) ∧ ShelfOf w s A n c l
  | 30 => pV (.int .i64 (p : Int))
  | 31 => pV (.int .u64 (ser : Int))
  | 32 => pV (.pointer (some ⟨g, 3, none⟩))
  | 33 => pV (.slice A n c)
  | 34 => pV (.int .i64 (p : Int))
  | 35 => pV (.pointer (some ⟨b, off + p * 2, none⟩))
  | 36 => pV (.pointer (some ⟨b, off + p * 2 + 1, none⟩))
  | 37 => pV (.slice x.A x.m x.c)
  | 38 => pV (.int .i64 (m : Int))
  | 39 => bV (fun gd => .slice (some ⟨gd, 0, none⟩) m m) d B
  | 40 => bV (fun gd => .agg (cellV (newCell ser gd m d))) d B
  | 41 => sV (putC s p (ser, d)) (foot A n l) B
  | 9 => pV (.int .i64 0)
  | _ => fun _ F _ => F = []
theorem rz18_lt (B : Nat) (s : ShL) (A : Option Addr) (n c : Nat) (l : List CellH) (g b off p ser m : Nat) (x : CellH) (d : List UInt8) : ∀ t v F w, rz18 B s A n c l g b off p ser m x d t v F w → ∀ k ∈ F, k < w.heap.size := by
  intro t v F w h
  unfold rz18 at h
  split at h <;> first
    | exact pV_lt h
    | exact sV_lt h
    | exact bV_lt h
    | (obtain ⟨rfl, _, h1⟩ := h; exact h1.foot_lt)
    | (rw [h]; simp)
theorem rz18_loc (B : Nat) (s : ShL) (A : Option Addr) (n c : Nat) (l : List CellH) (g b off p ser m : Nat) (x : CellH) (d : List UInt8) : ∀ t v F w w', rz18 B s A n c l g b off p ser m x d t v F w → (∀ k ∈ F, w'.heap[k]? = w.heap[k]?) → rz18 B s A n c l g b off p ser m x d t v F w' := by
  intro t v F w w' h hk
  unfold rz18 at h ⊢
  split at h <;> first
    | exact h
    | exact sV_loc h hk
    | exact bV_loc h hk
    | (obtain ⟨rfl, e, h1⟩ := h; exact ⟨rfl, e, h1.loc hk⟩)
theorem bytesIn_only {w w' : World} {A : Option Addr} {d : List UInt8} {F : List Nat} (h : BytesIn w A d) (hA : ∀ a, A = some a → d ≠ [] → a.block ∉ F) (ho : Only F w w') : BytesIn w' A d := by
  rcases h with h | ⟨g, off, rfl, h1, h2⟩
  · exact .inl h
  · by_cases h0 : d = []
    · exact .inl h0
    · exact BytesIn.loc (.inr ⟨g, off, rfl, h1, h2⟩) h1 (ho.block g h1 (hA _ rfl h0))
section
variable {w : World}
set_option maxHeartbeats 4000000 in
theorem refresize18 {s : ShL} {A : Option Addr} {n c : Nat} {l : List CellH} (hs : ShelfOf w s A n c l) (place : Int) (ser : Nat) (hser : ser < 18446744073709551616) (m : Int) :
    Calls Tryd.prog 42 #[.agg (shV s A n c), .int .i64 place, .int .u64 (ser : Int), .int .i64 m] w fun e w' => RefPost w (foot A n l) (resizeS s place ser m) (resizeE s place ser m) e w' := by
  have hR := ((Held.start w).alloc (shV s A n c) 25).alloc #[.int .u8 0, .int .u16 0, .int .u16 0, .slice none 0 0] 25
  obtain ⟨W, hW⟩ : ∃ W, W = (w.alloc (.cells (shV s A n c) 25)).alloc (.cells #[.int .u8 0, .int .u16 0, .int .u16 0, .slice none 0 0] 25) := ⟨_, rfl⟩
  obtain ⟨g, hg⟩ : ∃ g, g = w.heap.size := ⟨_, rfl⟩
  rw [← hW, show (w.alloc (.cells (shV s A n c) 25)).heap.size = g + 1 by rw [hg]; simp, ← hg] at hR
  obtain ⟨g2, hg2⟩ : ∃ g2, g2 = g + 1 := ⟨_, rfl⟩
  rw [← hg2] at hR
  have HW := Lib.hid hW
  have HG := Lib.hid hg
  have HG2 := Lib.hid hg2
  have HS := Lib.hid hs
  have R0 := Lib.hid hR
  have HM := Lib.hid (refmay18 (w := W) ⟨A, n, c, l, rfl, hs.below hR.below⟩)
  have hcl := hs.cl
  have HOF : Hid (∀ w', Calls Tryd.prog 62 #[.int .u8 (s.cl : Int), .int .i64 m] w' fun e w'' => e = .returned (.bool (ofL s.cl m)) ∧ Below w'.heap.size w' w'') := Lib.hid (fun w' => refof18 s.cl hcl m)
  have HTH : Hid (∀ w', Below W.heap.size W w' → Calls Tryd.prog 64 #[.agg (shV s A n c), .int .i64 place, .int .u64 (ser : Int)] w' fun e w'' => e = .returned (.int .i64 (findE s place ser)) ∧ Below w'.heap.size w' w'') := Lib.hid (fun w' hb => refthere18 ⟨A, n, c, l, rfl, (hs.below hR.below).below hb⟩ place ser)
  have HRE : Hid (resizeE s place ser m = if mayL s ∧ ofL s.cl m = false then 2 else findE s place ser) := Lib.hid rfl
  have HRS : Hid (resizeS s place ser m = if resizeE s place ser m = 0 then putC s place.toNat (ser, sizedL (dataL s place) m.toNat) else emptySh) := Lib.hid rfl
  have HF0 : Hid (mayL s = false → findE s place ser = 5) := Lib.hid (fun h => by unfold findE; rw [h]; rfl)
  have HFE : Hid (findE s place ser = 0 → mayL s = true ∧ 0 ≤ place ∧ place < s.cells.length ∧ ser ≠ 0 ∧ (s.cells.getD place.toNat (0, [])).1 = ser) := Lib.hid findE_zero
  have HOL : Hid (ofL s.cl m = true → 1 ≤ m ∧ m ≤ 237) := Lib.hid (fun h => by have := ofL_le h; omega)
  have HSER := Lib.hid hser
  have HLEN := Lib.hid hs.len
  generalize resizeS s place ser m = rs at HRS ⊢
  generalize resizeE s place ser m = re at HRE HRS ⊢
  generalize findE s place ser = fe at HRE HF0 HFE HTH
  generalize mayL s = may at HM HRE HF0 HFE
  generalize ofL s.cl m = o at HOF HRE HOL
  unfold shV at HW ⊢
  clear hR hW hg hg2 hs hcl hser
  obtain ⟨⟨a0, a1, a2, a3⟩, _, _, _, _⟩ := R0.out.cells4 1 rfl
  go_enter Tryd.func42, Tryd.ntmps42
  go_upto_region 1 with (fail)
  rw [← HW.out, ← HG.out, ← HG2.out]
  go_wp2_with fail
  refine HM.out.mono ?_
  rintro e w1 ⟨rfl, hb⟩
  have R1 := Lib.hid (R0.out.call hb)
  have HB1 := Lib.hid hb
  clear hb a0 a1 a2 a3 HM R0
  cases may with
  | false =>
    have hre : re = 5 := by rw [HRE.out, if_neg (by simp), HF0.out rfl]
    subst hre
    have HV : Hid (True ∧ rs = emptySh) := Lib.hid ⟨trivial, by rw [HRS.out, if_neg (by decide)]⟩
    obtain ⟨⟨y0, y1, y2, y3⟩, b0, b1, b2, b3⟩ := R1.out.cells4 0 rfl
    go_wp2_with fail
    have R9 := R1.out.store4 0 rfl (.int .u8 0) (.int .u16 0) (.int .u16 0) (.slice none 0 0)
    refine bodyPost_ret (v := .tuple #[.agg #[.int .u8 0, .int .u16 0, .int .u16 0, .slice none 0 0], .int .i64 5]) (results_cell_slot rfl _ _ g2 25 _ (0, 0) _ _ rfl rfl (R9.get 0 rfl) Tryd.underlying25 rfl sizeShelf) rfl ?_
    exact ⟨_, rfl, by rw [HV.out.2]; exact emptySh_via _ _ _, R9.below⟩
  | true =>
    obtain ⟨⟨a0, a1, a2, a3⟩, _, _, _, _⟩ := R1.out.cells4 1 rfl
    go_wp2_with fail
    refine (HOF.out _).mono ?_
    rintro e w2 ⟨rfl, hb⟩
    have R2 := Lib.hid (R1.out.call hb)
    have HB2 := Lib.hid (HB1.out.trans (hb.mono HB1.out.size))
    clear hb a0 a1 a2 a3 R1 HB1 HOF
    cases o with
    | false =>
      have hre : re = 2 := by rw [HRE.out, if_pos (by simp)]
      subst hre
      have HV : Hid (True ∧ rs = emptySh) := Lib.hid ⟨trivial, by rw [HRS.out, if_neg (by decide)]⟩
      obtain ⟨⟨y0, y1, y2, y3⟩, b0, b1, b2, b3⟩ := R2.out.cells4 0 rfl
      go_wp2_with fail
      have R9 := R2.out.store4 0 rfl (.int .u8 0) (.int .u16 0) (.int .u16 0) (.slice none 0 0)
      refine bodyPost_ret (v := .tuple #[.agg #[.int .u8 0, .int .u16 0, .int .u16 0, .slice none 0 0], .int .i64 2]) (results_cell_slot rfl _ _ g2 25 _ (0, 0) _ _ rfl rfl (R9.get 0 rfl) Tryd.underlying25 rfl sizeShelf) rfl ?_
      exact ⟨_, rfl, by rw [HV.out.2]; exact emptySh_via _ _ _, R9.below⟩
    | true =>
      have HML0 : Hid (1 ≤ m ∧ m ≤ 237) := Lib.hid (HOL.out rfl)
      have hre : re = fe := by rw [HRE.out, if_neg (by simp)]
      have HREF := Lib.hid hre
      clear HOL hre HRE
      obtain ⟨⟨a0, a1, a2, a3⟩, _, _, _, _⟩ := R2.out.cells4 1 rfl
      go_wp2_with fail
      refine (HTH.out _ HB2.out).mono ?_
      rintro e w3 ⟨rfl, hb⟩
      have R3 := Lib.hid (R2.out.call hb)
      clear hb a0 a1 a2 a3 R2 HB2 HTH
      by_cases hE : fe = 0
      · subst hE
        obtain ⟨_, hp0, hp1, _, _⟩ := HFE.out rfl
        obtain ⟨p, rfl⟩ : ∃ p : Nat, place = (p : Int) := ⟨place.toNat, by omega⟩
        have hpn : p < n := by have := HLEN.out; omega
        obtain ⟨m', rfl⟩ : ∃ m' : Nat, m = (m' : Int) := ⟨m.toNat, by have := HML0.out; omega⟩
        have HML : Hid (1 ≤ m' ∧ m' ≤ 237) := Lib.hid (by have := HML0.out; omega)
        have hre := HREF.out
        subst hre
        obtain ⟨x, hx, hd, hok, hx4, b, off, rfl, hb, hr⟩ := HS.out.get p hpn
        obtain ⟨d, hdd⟩ : ∃ d, d = sizedL x.data m' := ⟨_, rfl⟩
        have HRS2 : Hid (rs = putC s p (ser, d)) := Lib.hid (by
          rw [HRS.out, if_pos rfl, Int.toNat_natCast, Int.toNat_natCast, hdd]
          unfold dataL
          rw [Int.toNat_natCast, hd]; rfl)
        have HDL : Hid (d.length = m') := Lib.hid (by rw [hdd, length_sizedL])
        have HDD := Lib.hid hdd
        have HBY : Hid (BytesIn w3 x.A x.data) := Lib.hid (hok.by_.below R3.out.below)
        have HXL : Hid (x.data.length = x.m) := Lib.hid hok.len
        have HXF : Hid (∀ a, x.A = some a → x.data ≠ [] → a.block ∈ foot (some ⟨b, off, none⟩) n l) := Lib.hid (fun a ha h0 => mem_foot.2 (.inr ⟨x, List.mem_of_getElem? hx, h0, a, ha, rfl⟩))
        have HX4 := Lib.hid hx4
        have HC1 : Hid (w3.cell? ⟨b, off + p * 2 + 1, none⟩ = some (.slice x.A x.m x.c)) := Lib.hid ((R3.out.below.cell hb).trans (hr 1 _ (show (cellV x).toList[1]? = some (.slice x.A x.m x.c) from rfl)))
        have HJN := Lib.hid hpn
        have hn0 : n ≠ 0 := by omega
        have HBF : Hid (b < w3.heap.size ∧ b ∉ [g2]) := Lib.hid ⟨Nat.lt_of_lt_of_le hb R3.out.below.size, by have := R3.out.ge 0 rfl; simp; omega⟩
        clear hp0 hp1 hx hd hok hx4 hb hr hdd HREF HRS hpn
        go_upto_region 8 with (fail)
        have HSW := Lib.hid (HS.out.below R3.out.below)
        have HGL : Hid (g < w3.heap.size ∧ g ∉ [g2]) := Lib.hid ⟨R3.out.lt 1 rfl, by have := HG2.out; simp; omega⟩
        have HFO : Hid (∀ k ∈ foot (some ⟨b, off, none⟩) n l, k ∉ [g2]) := Lib.hid (fun k hk => by have := HS.out.foot_lt k hk; have := R3.out.ge 0 rfl; simp; omega)
        refine wp_region_boxes (by kernel_rfl) [⟨99, 13, 12, #[.int .u8 0, .int .u16 0, .int .u16 0, .slice none 0 0], 25, 8, 41, some g2⟩] (rz18 w3.heap.size s (some ⟨b, off, none⟩) n c l g b off p ser m' x d) (rz18_lt _ _ _ _ _ _ _ _ _ _ _ _ _ _) (rz18_loc _ _ _ _ _ _ _ _ _ _ _ _ _ _) (by kernel_rfl) (by kernel_rfl) (by kernel_rfl) ?qbs (by kernel_rfl) ?qold ?qheads ?qfin
        case qbs =>
          intro x hx
          obtain rfl : x = _ := by simpa using hx
          exact ⟨(fun h => by cases h), (fun g' h => by cases h; exact ⟨R3.out.get 0 rfl, rfl, by kernel_rfl, Nat.le_of_ble_eq_true rfl⟩), ⟨_, rfl, rfl, rfl, rfl, (fun h => by cases h), by kernel_rfl⟩, by kernel_rfl, fun v F w h => sV.ex h⟩
        case qold =>
          intro j k x y g' hj hk _ _
          have h1 := (List.getElem?_eq_some_iff.1 hj).1
          have h2 := (List.getElem?_eq_some_iff.1 hk).1
          simp at h1 h2
          omega
        case qheads =>
          refine ⟨.inr ⟨rfl, 29, rfl, fun a v OK hOK hB hO hD K hK => ?_⟩, .inr ⟨rfl, 30, rfl, fun a v OK hOK hB hO hD K hK => ?_⟩, .inr ⟨rfl, 31, rfl, fun a v OK hOK hB hO hD K hK => ?_⟩, .inr ⟨rfl, 32, rfl, fun a v OK hOK hB hO hD K hK => ?_⟩, .inr ⟨rfl, 33, rfl, fun a v OK hOK hB hO hD K hK => ?_⟩, .inr ⟨rfl, 34, rfl, fun a v OK hOK hB hO hD K hK => ?_⟩, .inr ⟨rfl, 35, rfl, fun a v OK hOK hB hO hD K hK => ?_⟩, .inr ⟨rfl, 36, rfl, fun a v OK hOK hB hO hD K hK => ?_⟩, .inr ⟨rfl, 37, rfl, fun a v OK hOK hB hO hD K hK => ?_⟩, .inr ⟨rfl, 38, rfl, fun a v OK hOK hB hO hD K hK => ?_⟩, .inr ⟨rfl, 39, rfl, fun a v OK hOK hB hO hD K hK => ?_⟩, .inr ⟨rfl, 40, rfl, fun a v OK hOK hB hO hD K hK => ?_⟩, .inr ⟨rfl, 41, rfl, fun a v OK hOK hB hO hD K hK => ?_⟩, .inl rfl, .inr ⟨rfl, 9, rfl, fun a v OK hOK hB hO hD K hK => ?_⟩, trivial⟩
          · exact wp_load_all 25 _ g 25 (shV s (some ⟨b, off, none⟩) n c) (0, 0) _ rfl (eval_of (t := 4) (by rw [hO 4 (not_dst 4 (by kernel_rfl))]; rfl)) ((hB.block g HGL.out.1 HGL.out.2).trans (R3.out.get 1 rfl)) Tryd.underlying25 rfl sizeShelf (hK _ _ _ ⟨rfl, rfl, HSW.out.loc (fun k hk => hB.block k (HSW.out.foot_lt k hk) (HFO.out k hk))⟩ (fun k hk => .inl (hOK k (HSW.out.foot_lt k hk) (HFO.out k hk))) (Below.refl _ _))
          · exact wpg_move _ _ rfl (eval_of (t := 1) (by rw [hO 1 (not_dst 1 (by kernel_rfl))]; rfl)) (hK _ [] _ ⟨rfl, rfl⟩ (by simp) (Below.refl _ _))
          · exact wpg_move _ _ rfl (eval_of (t := 2) (by rw [hO 2 (not_dst 2 (by kernel_rfl))]; rfl)) (hK _ [] _ ⟨rfl, rfl⟩ (by simp) (Below.refl _ _))
          · exact wpg_field 25 3 23 3 0 _ g 0 rfl (by kernel_rfl) (by kernel_rfl) (by kernel_rfl) (eval_of (t := 4) (by rw [hO 4 (not_dst 4 (by kernel_rfl))]; rfl)) (hK _ [] _ ⟨rfl, rfl⟩ (by simp) (Below.refl _ _))
          · obtain ⟨u, F, hu, hv, hf⟩ := boxes_of hD 3 (by kernel_rfl) rfl 32 (by kernel_rfl)
            exact wp_load_cell 23 _ ⟨g, 3, none⟩ (.slice (some ⟨b, off, none⟩) n c) _ rfl rfl (hu.trans hv.2) ((cell_block (hB.block g HGL.out.1 HGL.out.2)).trans (R3.out.cell 1 3 rfl rfl)) Tryd.underlying23 (hK _ [] _ ⟨rfl, rfl⟩ (by simp) (Below.refl _ _))
          · exact wpg_move _ _ rfl (eval_of (t := 1) (by rw [hO 1 (not_dst 1 (by kernel_rfl))]; rfl)) (hK _ [] _ ⟨rfl, rfl⟩ (by simp) (Below.refl _ _))
          · obtain ⟨u, F, hu, hv, hf⟩ := boxes_of hD 4 (by kernel_rfl) rfl 33 (by kernel_rfl)
            obtain ⟨u2, F2, hu2, hv2, hf2⟩ := boxes_of hD 5 (by kernel_rfl) rfl 34 (by kernel_rfl)
            exact wpg_index 23 41 _ _ b off p n c 2 .i64 rfl Tryd.underlying23 sizeCell (hu.trans hv.2) (hu2.trans hv2.2) HJN.out (hK _ [] _ ⟨rfl, rfl⟩ (by simp) (Below.refl _ _))
          · obtain ⟨u, F, hu, hv, hf⟩ := boxes_of hD 6 (by kernel_rfl) rfl 35 (by kernel_rfl)
            exact wpg_field 41 1 27 1 0 _ b (off + p * 2) rfl (by kernel_rfl) (by kernel_rfl) (by kernel_rfl) (hu.trans hv.2) (hK _ [] _ ⟨rfl, rfl⟩ (by simp) (Below.refl _ _))
          · obtain ⟨u, F, hu, hv, hf⟩ := boxes_of hD 7 (by kernel_rfl) rfl 36 (by kernel_rfl)
            exact wp_load_cell 27 _ ⟨b, off + p * 2 + 1, none⟩ (.slice x.A x.m x.c) _ rfl rfl (hu.trans hv.2) ((cell_block (hB.block b HBF.out.1 HBF.out.2)).trans HC1.out) Tryd.underlying27 (hK _ [] _ ⟨rfl, rfl⟩ (by simp) (Below.refl _ _))
          · exact wpg_move _ _ rfl (eval_of (t := 3) (by rw [hO 3 (not_dst 3 (by kernel_rfl))]; rfl)) (hK _ [] _ ⟨rfl, rfl⟩ (by simp) (Below.refl _ _))
          · obtain ⟨u, F, hu, hv, hf⟩ := boxes_of hD 8 (by kernel_rfl) rfl 37 (by kernel_rfl)
            obtain ⟨u2, F2, hu2, hv2, hf2⟩ := boxes_of hD 9 (by kernel_rfl) rfl 38 (by kernel_rfl)
            have hby := bytesIn_only HBY.out (fun a ha h0 => HFO.out _ (HXF.out a ha h0)) hB
            have N1 := refsized18 (w := v) x.A x.m x.c x.data hby HXL.out HX4.out m' HML.out.2
            rw [← HDD.out] at N1
            refine wpo_call 65 [.tmp 37, .tmp 38] _ _ _ _ (fun v' w' => ∃ F, bV (fun gd => .slice (some ⟨gd, 0, none⟩) m' m') d w3.heap.size v' F w' ∧ ∀ k ∈ F, v.heap.size ≤ k) rfl Tryd.func65 rfl (by kernel_rfl) (by simp only [List.map_cons, List.map_nil, hu.trans hv.2, hu2.trans hv2.2]) (N1.mono ?_) (fun v' w' hb h => h.elim fun F h => hK v' F w' h.1 (fun k hk => .inr (h.2 k hk)) hb)
            rintro e w' ⟨gd, rfl, h1, h2, h3, hb⟩
            exact ⟨_, rfl, ⟨[gd], ⟨gd, rfl, rfl, h2, h3, Nat.le_trans hB.size h1⟩, by simpa using h1⟩, hb⟩
          · obtain ⟨u, F, hu, hv, hf⟩ := boxes_of hD 2 (by kernel_rfl) rfl 31 (by kernel_rfl)
            obtain ⟨u2, F2, hu2, hv2, hf2⟩ := boxes_of hD 10 (by kernel_rfl) rfl 39 (by kernel_rfl)
            obtain ⟨gd, rfl, rfl, h0, h1, h2⟩ := hv2
            exact wp_built 41 _ [(0, .int .u64 (ser : Int)), (1, .slice (some ⟨gd, 0, none⟩) m' m')] #[.int .u64 (ser : Int), .slice (some ⟨gd, 0, none⟩) m' m'] rfl (by simp [hu.trans hv.2, hu2]) (builtCell _ _ _ _) (hK _ [gd] _ ⟨gd, rfl, rfl, h0, h1, h2⟩ (fun k hk => .inl (hf2 k hk)) (Below.refl _ _))
          · obtain ⟨u, F, hu, hv, hf⟩ := boxes_of hD 0 (by kernel_rfl) rfl 29 (by kernel_rfl)
            obtain ⟨u2, F2, hu2, hv2, hf2⟩ := boxes_of hD 1 (by kernel_rfl) rfl 30 (by kernel_rfl)
            obtain ⟨u3, F3, hu3, hv3, hf3⟩ := boxes_of hD 11 (by kernel_rfl) rfl 40 (by kernel_rfl)
            obtain ⟨gd, rfl, rfl, h0, h1, h2⟩ := hv3
            obtain ⟨rfl, rfl, hsv⟩ := hv
            have N1 := with_is (w := v) hsv p HJN.out (newCell ser gd m' d) ⟨HDL.out, Nat.le_refl _, HSER.out, h1⟩ (by have := HML.out; have := HDL.out; show d.length ≤ 400; omega)
            refine wpo_call 63 [.tmp 29, .tmp 30, .tmp 40] _ _ _ _ (fun v' w' => ∃ F, sV (putC s p (ser, d)) (foot (some ⟨b, off, none⟩) n l) w3.heap.size v' F w' ∧ ∀ k ∈ F, OK k ∨ v.heap.size ≤ k) rfl Tryd.func63 rfl (by kernel_rfl) (by simp only [List.map_cons, List.map_nil, hu, hu2.trans hv2.2, hu3]) (N1.mono ?_) (fun v' w' hb h => h.elim fun F h => hK v' F w' h.1 h.2 hb)
            rintro e w' ⟨gr, c2, rfl, hw, hgr, hb⟩
            refine ⟨_, rfl, ⟨_, ⟨_, _, _, _, rfl, rfl, hw, foot_with (fun _ a ha => by cases ha; exact .inr h2) (Nat.le_trans hB.size hgr)⟩, fun k hk => ?_⟩, hb⟩
            rcases foot_set (A := some ⟨b, off, none⟩) k hk with rfl | h | ⟨_, a, ha, rfl⟩
            · exact .inr hgr
            · exact .inl (hf k h)
            · cases ha; exact .inl (hf3 gd (by simp))
          · exact wpb_assign _ _ rfl rfl (hK _ [] _ ⟨rfl, rfl⟩ (by simp) (Below.refl _ _))
        case qfin =>
          intro F w4 β hbx hap hV hB
          obtain ⟨_, hβ0, C, G, hF41, hg2, hsv, hG⟩ := hbx 0 _ rfl
          have hβ : β 0 = g2 := hβ0 g2 rfl
          rw [hβ] at hg2
          obtain ⟨A2, n2, c2, l2, rfl, hC, hs2, hf2⟩ := hsv
          obtain rfl : C = shV (putC s p (ser, d)) A2 n2 c2 := by cases hC; rfl
          have e9 : F 9 = .int .i64 0 := (hV 14 _ 9 rfl rfl rfl).elim (fun _ h => h.2)
          have R4 := Lib.hid (R3.out.turn 0 (y := rowT g2 (shV (putC s p (ser, d)) A2 n2 c2) 25) (W' := w4) rfl (fun F hF _ => ⟨[g2], ⟨rfl, hg2⟩, by rw [hF.1]; exact hB, fun b hb => .inl (by rw [hF.1]; exact hb), by simp⟩))
          have HS2 : Hid (ShelfVia (foot (some ⟨b, off, none⟩) n l) w.heap.size w4 (.agg (shV (putC s p (ser, d)) A2 n2 c2)) (putC s p (ser, d))) := Lib.hid ⟨A2, n2, c2, l2, rfl, hs2, fun k hk => (hf2 k hk).imp id (Nat.le_trans R3.out.below.size)⟩
          simp only [putAll, List.setIfInBounds_toArray, List.set_cons_zero, List.set_cons_succ]
          rw [hF41, e9]
          clear hbx hap hV hB hβ0 hF41 hg2 hC hs2 hf2 hG e9 hβ R3 HSW HGL HFO
          go_wp2_with fail
          refine bodyPost_ret (v := .tuple #[.agg (shV (putC s p (ser, d)) A2 n2 c2), .int .i64 0]) (results_cell_slot rfl _ _ g2 25 _ (0, 0) _ _ rfl rfl (R4.out.get 0 rfl) Tryd.underlying25 rfl sizeShelf) rfl ?_
          exact ⟨_, rfl, by rw [HRS2.out]; exact HS2.out, R4.out.below⟩
      · have hre := HREF.out
        subst hre
        have HV : Hid (True ∧ rs = emptySh) := Lib.hid ⟨trivial, by rw [HRS.out, if_neg hE]⟩
        have hE' : (re != 0) = true := by simpa using hE
        obtain ⟨⟨y0, y1, y2, y3⟩, b0, b1, b2, b3⟩ := R3.out.cells4 0 rfl
        go_wp2_with fail
        have R9 := R3.out.store4 0 rfl (.int .u8 0) (.int .u16 0) (.int .u16 0) (.slice none 0 0)
        refine bodyPost_ret (v := .tuple #[.agg #[.int .u8 0, .int .u16 0, .int .u16 0, .slice none 0 0], .int .i64 re]) (results_cell_slot rfl _ _ g2 25 _ (0, 0) _ _ rfl rfl (R9.get 0 rfl) Tryd.underlying25 rfl sizeShelf) rfl ?_
        exact ⟨_, rfl, by rw [HV.out.2]; exact emptySh_via _ _ _, R9.below⟩
end
theorem run_slice2 {P : Program} {w : World} (t e : TypeId) (A : Option Addr) (m c lo hi : Nat) (ht : P.underlying t = some (.slice e)) (hs : (P.info? e).map (·.size) = some 1) (h1 : lo ≤ hi) (h2 : hi ≤ m) (h3 : m ≤ c) :
    (Instr.sliceAt t (.slice A m c) (some (.int .i64 (lo : Int))) (some (.int .i64 (hi : Int))) none).run P w = .ok (.slice (if c = lo then A else A.map (·.add lo)) (hi - lo) (c - lo)) w := by
  obtain ⟨f, hf, hf1⟩ : ∃ f, P.info? e = some f ∧ f.size = 1 := by
    cases hq : P.info? e with
    | none => simp [hq] at hs
    | some f => exact ⟨f, rfl, by simpa [hq] using hs⟩
  have h4 : hi ≤ c := by omega
  simp [Instr.sliceAt, Instr.slice, run_underlying ht, Instr.sliceBounds, Instr.sliceBound, asIntOf, h1, h2, h3, h4, sizeOf, typeInfo, hf, hf1]
section
variable {w : World}
set_option maxHeartbeats 2000000 in
theorem refread18 {s : ShL} {A : Option Addr} {N c : Nat} {l : List CellH} (hs : ShelfOf w s A N c l) (place : Int) (ser : Nat) (off n : Int) :
    Calls Tryd.prog 43 #[.agg (shV s A N c), .int .i64 place, .int .u64 (ser : Int), .int .i64 off, .int .i64 n] w fun e w' => ReadPost w (partE s place ser off n) (readB18 s place ser off n) e w' := by
  have hR := (Rows.start w).alloc (shV s A N c) 25
  obtain ⟨W, hW⟩ : ∃ W, W = w.alloc (.cells (shV s A N c) 25) := ⟨_, rfl⟩
  obtain ⟨g, hg⟩ : ∃ g, g = w.heap.size := ⟨_, rfl⟩
  rw [← hW, ← hg] at hR
  have HR := Lib.hid hR
  have HW := Lib.hid hW
  have HG := Lib.hid hg
  have HS := Lib.hid hs
  have HFN := Lib.hid (refthere18 (w := W) ⟨A, N, c, l, rfl, hs.below hR.below⟩ place ser)
  have a0 : W.cell? ⟨g, 0, none⟩ = some (.int .u8 (s.cl : Int)) := hR.cell 0 0 rfl rfl
  have a1 : W.cell? ⟨g, 1, none⟩ = some (.int .u16 (s.prev : Int)) := hR.cell 0 1 rfl rfl
  have a2 : W.cell? ⟨g, 2, none⟩ = some (.int .u16 (s.next : Int)) := hR.cell 0 2 rfl rfl
  have a3 : W.cell? ⟨g, 3, none⟩ = some (.slice A N c) := hR.cell 0 3 rfl rfl
  have HF : Hid (partE s place ser off n = if findE s place ser = 0 then (if 0 ≤ off ∧ 0 ≤ n ∧ off + n ≤ (dataL s place).length then 0 else 211) else findE s place ser) := Lib.hid rfl
  have HB0 : Hid (partE s place ser off n ≠ 0 → readB18 s place ser off n = []) := Lib.hid (fun h => by unfold readB18; rw [if_neg h])
  have HB1 : Hid (partE s place ser off n = 0 → readB18 s place ser off n = ((dataL s place).drop off.toNat).take n.toNat) := Lib.hid (fun h => by unfold readB18; rw [if_pos h])
  have HFE : Hid (findE s place ser = 0 → mayL s = true ∧ 0 ≤ place ∧ place < s.cells.length ∧ ser ≠ 0 ∧ (s.cells.getD place.toNat (0, [])).1 = ser) := Lib.hid findE_zero
  generalize readB18 s place ser off n = rb at HB0 HB1 ⊢
  generalize partE s place ser off n = E at HF HB0 HB1 ⊢
  generalize findE s place ser = q at HF HFE HFN
  have hlen := hs.len
  have HLEN := Lib.hid hlen
  clear hR hW hg hs hlen
  go_enter Tryd.func43, Tryd.ntmps43
  go_upto_region 1 with (fail)
  rw [← HW.out, ← HG.out]
  go_wp2_with fail
  refine HFN.out.mono ?_
  rintro e w1 ⟨rfl, hb⟩
  have R2 := Lib.hid (HR.out.call hb)
  clear hb a0 a1 a2 a3 HFN
  have a3 : w1.cell? ⟨g, 3, none⟩ = some (.slice A N c) := R2.out.cell 0 3 rfl rfl
  by_cases hq : q = 0
  · subst hq
    have HF := Lib.hid (HF.out.trans (if_pos rfl))
    obtain ⟨_, hp0, hp1, _, _⟩ := HFE.out rfl
    obtain ⟨p, rfl⟩ : ∃ p : Nat, place = (p : Int) := ⟨place.toNat, by omega⟩
    have hpn : p < N := by have := HLEN.out; omega
    obtain ⟨x, hx, hd, hok, hm400, b, o, rfl, hb, hr⟩ := HS.out.get p hpn
    have c1 : w1.cell? ⟨b, o + p * 2 + 1, none⟩ = some (.slice x.A x.m x.c) := (R2.out.below.cell hb).trans (hr 1 _ (show (cellV x).toList[1]? = some (.slice x.A x.m x.c) from rfl))
    have hde : dataL s (p : Int) = x.data := by unfold dataL; rw [Int.toNat_natCast, hd]; rfl
    have hdl : (dataL s (p : Int)).length = x.m := by rw [hde]; exact hok.len
    rw [hdl] at HF
    rw [hde] at HB1
    have HX := Lib.hid hok
    have hcap := hok.cap
    clear hx hd hok hb hr hdl hde HFE hp0 hp1
    by_cases h1 : off < 0
    · skip
      have HV := Lib.hid (HF.out.trans (if_neg (by omega)))
      clear HF
      go_wp2_with fail
      go_ret2
      exact ⟨none, 0, by rw [HB0.out (by rw [HV.out]; decide), HV.out]; rfl, by rw [HB0.out (by rw [HV.out]; decide)]; exact Nat.le_refl _, by rw [HB0.out (by rw [HV.out]; decide)]; exact .inl rfl, R2.out.below⟩
    · by_cases h2 : n < 0
      · skip
        have HV := Lib.hid (HF.out.trans (if_neg (by omega)))
        clear HF
        go_wp2_with fail
        go_ret2
        exact ⟨none, 0, by rw [HB0.out (by rw [HV.out]; decide), HV.out]; rfl, by rw [HB0.out (by rw [HV.out]; decide)]; exact Nat.le_refl _, by rw [HB0.out (by rw [HV.out]; decide)]; exact .inl rfl, R2.out.below⟩
      · by_cases h3 : (x.m : Int) < off
        · skip
          have HV := Lib.hid (HF.out.trans (if_neg (by omega)))
          clear HF
          go_wp2_with fail
          go_ret2
          exact ⟨none, 0, by rw [HB0.out (by rw [HV.out]; decide), HV.out]; rfl, by rw [HB0.out (by rw [HV.out]; decide)]; exact Nat.le_refl _, by rw [HB0.out (by rw [HV.out]; decide)]; exact .inl rfl, R2.out.below⟩
        · by_cases h4 : (x.m : Int) - off < n
          · skip
            have HV := Lib.hid (HF.out.trans (if_neg (by omega)))
            clear HF
            go_wp2_with fail
            go_ret2
            exact ⟨none, 0, by rw [HB0.out (by rw [HV.out]; decide), HV.out]; rfl, by rw [HB0.out (by rw [HV.out]; decide)]; exact Nat.le_refl _, by rw [HB0.out (by rw [HV.out]; decide)]; exact .inl rfl, R2.out.below⟩
          · obtain ⟨lo, rfl⟩ : ∃ k : Nat, off = (k : Int) := ⟨off.toNat, by omega⟩
            obtain ⟨k, rfl⟩ : ∃ k : Nat, n = (k : Int) := ⟨n.toNat, by omega⟩
            have HV := Lib.hid (HF.out.trans (if_pos ⟨by omega, by omega, by omega⟩))
            have hsl := fun w : World => run_slice2 (P := Tryd.prog) (w := w) 27 5 x.A x.m x.c lo (lo + k) Tryd.underlying27 (by kernel_rfl) (by omega) (by omega) hcap
            rw [show ((lo + k : Nat) : Int) = (lo : Int) + (k : Int) by omega, show lo + k - lo = k by omega] at hsl
            obtain ⟨B, hB⟩ : ∃ B, B = (if x.c = lo then x.A else x.A.map (·.add lo)) := ⟨_, rfl⟩
            rw [← hB] at hsl
            have HRB : Hid (rb = (x.data.drop lo).take k) := Lib.hid (by rw [HB1.out HV.out]; rfl)
            have HRL : Hid (rb.length = k) := Lib.hid (by rw [HRB.out, List.length_take, List.length_drop, HX.out.len]; omega)
            have HBI : Hid (BytesIn w1 B rb) := Lib.hid (by
              rw [hB, HRB.out]
              have h0 := HX.out.by_.below R2.out.below
              by_cases hk0 : k = 0
              · subst hk0; exact .inl (by simp)
              · rw [if_neg (by omega)]
                have := bytesIn_part h0 lo k (by rw [HX.out.len]; omega)
                rwa [if_neg (by omega)] at this)
            have HCP : Hid (k ≤ x.c - lo) := Lib.hid (by omega)
            clear HF hB HB0 HB1
            go_wp2_with fail
            go_ret2
            exact ⟨B, x.c - lo, by rw [HV.out, HRL.out]; rfl, by rw [HRL.out]; exact HCP.out, HBI.out, R2.out.below⟩
  · have HV := Lib.hid (HF.out.trans (if_neg hq))
    have hq' : (q != 0) = true := by simpa using hq
    have HRB : Hid (rb = []) := Lib.hid (HB0.out (by rw [HV.out]; exact hq))
    clear HF HB0 HB1
    go_wp2_with fail
    go_ret2
    exact ⟨none, 0, by rw [HV.out, HRB.out]; rfl, by rw [HRB.out]; exact Nat.le_refl _, by rw [HRB.out]; exact .inl rfl, R2.out.below⟩
end
def ovL (b d : List UInt8) (off j : Nat) : List UInt8 := b.take off ++ d.take j ++ b.drop (off + j)
theorem ovL_zero (b d : List UInt8) (off : Nat) : ovL b d off 0 = b := by simp [ovL]
theorem ovL_end (b d : List UInt8) (off : Nat) : ovL b d off d.length = overL b off d := by simp [ovL, overL]
theorem length_ovL (b d : List UInt8) (off j : Nat) (h : off + j ≤ b.length) (hj : j ≤ d.length) : (ovL b d off j).length = b.length := by
  unfold ovL
  simp only [List.length_append, List.length_take, List.length_drop]
  omega
theorem ovL_set (b d : List UInt8) (off j : Nat) (hj : j < d.length) (h : off + j < b.length) : (ovL b d off j).set (off + j) (d.getD j 0) = ovL b d off (j + 1) := by
  have h1 : (b.take off ++ d.take j).length = off + j := by simp only [List.length_append, List.length_take]; omega
  unfold ovL
  rw [List.set_append_right _ _ (by omega), h1, Nat.sub_self, List.drop_eq_getElem_cons h, List.set_cons_zero, List.take_succ_eq_append_getElem hj, List.getD_eq_getElem?_getD, List.getElem?_eq_getElem hj, ← Nat.add_assoc, Option.getD_some]
  simp only [List.append_assoc, List.cons_append, List.nil_append]
/-- A row that begins with some bytes. -/
def Begins (cur : Array Value) (b : List UInt8) : Prop := cur.toList.take b.length = b.map vu8
theorem Begins.get {cur : Array Value} {b : List UInt8} (h : Begins cur b) (i : Nat) (hi : i < b.length) : cur[i]? = some (vu8 b[i]) := by
  have h1 : (cur.toList.take b.length)[i]? = (b.map vu8)[i]? := by rw [h]
  rw [List.getElem?_take, if_pos hi, Array.getElem?_toList, List.getElem?_map, List.getElem?_eq_getElem hi] at h1
  exact h1
theorem Begins.set {cur : Array Value} {b : List UInt8} (h : Begins cur b) (i : Nat) (x : UInt8) : Begins (cur.setIfInBounds i (vu8 x)) (b.set i x) := by
  unfold Begins at h ⊢
  rw [List.length_set, Array.toList_setIfInBounds, List.take_set, h, List.map_set]
theorem Begins.bytes {w : World} {g : Nat} {cur : Array Value} {b : List UInt8} {T : TypeId} {fr : Nat × Nat} (hb : Begins cur b) (h : w.heap[g]? = some (.cells cur T fr)) : BytesIn w (some ⟨g, 0, none⟩) b := by
  refine .inr ⟨g, 0, rfl, (Array.getElem?_eq_some_iff.1 h).1, fun i hi => ?_⟩
  rw [Nat.zero_add, cell_of_row _ _ _ _ _ _ h, hb.get i hi, List.getElem?_eq_getElem hi]; rfl
section
variable {w : World}
set_option maxHeartbeats 4000000 in
theorem refwrite18 {s : ShL} {A : Option Addr} {n c : Nat} {l : List CellH} (hs : ShelfOf w s A n c l) (place : Int) (ser : Nat) (hser : ser < 18446744073709551616) (off : Int) (B : Option Addr) (k cB : Nat) (d : List UInt8) (hd : BytesIn w B d) (hk : d.length = k) (hk4 : k ≤ 400) :
    Calls Tryd.prog 44 #[.agg (shV s A n c), .int .i64 place, .int .u64 (ser : Int), .int .i64 off, .slice B k cB] w fun e w' => RefPost w (foot A n l) (writeS s place ser off d) (partE s place ser off d.length) e w' := by
  have hR := ((Held.start w).alloc (shV s A n c) 25).alloc #[.int .u8 0, .int .u16 0, .int .u16 0, .slice none 0 0] 25
  obtain ⟨W, hW⟩ : ∃ W, W = (w.alloc (.cells (shV s A n c) 25)).alloc (.cells #[.int .u8 0, .int .u16 0, .int .u16 0, .slice none 0 0] 25) := ⟨_, rfl⟩
  obtain ⟨g, hg⟩ : ∃ g, g = w.heap.size := ⟨_, rfl⟩
  rw [← hW, show (w.alloc (.cells (shV s A n c) 25)).heap.size = g + 1 by rw [hg]; simp, ← hg] at hR
  obtain ⟨g2, hg2⟩ : ∃ g2, g2 = g + 1 := ⟨_, rfl⟩
  rw [← hg2] at hR
  have HW := Lib.hid hW
  have HG := Lib.hid hg
  have HG2 := Lib.hid hg2
  have HS := Lib.hid hs
  have R0 := Lib.hid hR
  have HD := Lib.hid hd
  have HK := Lib.hid hk
  have HSER := Lib.hid hser
  have HRD := Lib.hid (refread18 (w := W) (hs.below hR.below) place ser off (k : Int))
  have HWS : Hid (writeS s place ser off d = if partE s place ser off d.length = 0 then putC s place.toNat (ser, overL (dataL s place) off.toNat d) else emptySh) := Lib.hid rfl
  have HPZ : Hid (partE s place ser off d.length = 0 → findE s place ser = 0 ∧ 0 ≤ off ∧ 0 ≤ (d.length : Int) ∧ off + (d.length : Int) ≤ (dataL s place).length) := Lib.hid partE_zero
  have hpk : partE s place ser off (k : Int) = partE s place ser off d.length := by rw [hk]
  rw [hpk] at HRD
  generalize readB18 s place ser off (k : Int) = rb at HRD
  generalize writeS s place ser off d = ws at HWS ⊢
  generalize partE s place ser off d.length = E at HWS HPZ HRD ⊢
  have HLEN := Lib.hid hs.len
  unfold shV at HW ⊢
  clear hR hW hg hg2 hs hd hk hser hpk
  obtain ⟨⟨e0, e1, e2, e3⟩, _, _, _, _⟩ := R0.out.cells4 1 rfl
  go_enter Tryd.func44, Tryd.ntmps44
  go_upto_region 1 with (fail)
  rw [← HW.out, ← HG.out, ← HG2.out]
  go_wp2_with fail
  refine HRD.out.mono ?_
  rintro e w1 ⟨A0, c0, rfl, hcap, hby, hb⟩
  have R1 := Lib.hid (R0.out.call hb)
  clear hb HRD e0 e1 e2 e3 R0 hcap hby
  by_cases hE : E = 0
  · subst hE
    have HGV2 := Lib.hid (HWS.out.trans (if_pos rfl))
    obtain ⟨hf, ho0, _, ho1⟩ := HPZ.out rfl
    obtain ⟨hmay, hp0, hp1, hser0, hsere⟩ := findE_zero hf
    obtain ⟨p, rfl⟩ : ∃ p : Nat, place = (p : Int) := ⟨place.toNat, by omega⟩
    obtain ⟨o, rfl⟩ : ∃ o : Nat, off = (o : Int) := ⟨off.toNat, by omega⟩
    have hpn : p < n := by have := HLEN.out; omega
    rw [Int.toNat_natCast, Int.toNat_natCast] at HGV2
    obtain ⟨x, hx, hd, hok, hx4, b, bo, rfl, hb, hr⟩ := HS.out.get p hpn
    have hdl : dataL s (p : Int) = x.data := by unfold dataL; rw [Int.toNat_natCast, hd]; rfl
    rw [hdl] at HGV2 ho1
    have hm1 : 1 ≤ x.m := by
      rw [Int.toNat_natCast, hd] at hsere
      have hcell := mayL_len hmay
      unfold mayL cellsOk at hmay
      simp only [Bool.and_eq_true, List.all_eq_true] at hmay
      have hc := hmay.2 x.dat (by rw [← HS.out.dat]; exact List.mem_map_of_mem (List.mem_of_getElem? hx))
      unfold cellOk at hc
      rw [if_neg (by rw [hsere]; exact hser0)] at hc
      simp only [Bool.and_eq_true] at hc
      have := (ofL_le hc.2).2.1
      have hl := hok.len
      unfold CellH.dat at this
      simp only at this
      omega
    have HFIT : Hid (o + k ≤ x.m) := Lib.hid (by have := hok.len; have := HK.out; omega)
    have HXL : Hid (x.data.length = x.m) := Lib.hid hok.len
    have c1 : w1.cell? ⟨b, bo + p * 2 + 1, none⟩ = some (.slice x.A x.m x.c) := (R1.out.below.cell hb).trans (hr 1 _ (show (cellV x).toList[1]? = some (.slice x.A x.m x.c) from rfl))
    have HBY : Hid (BytesIn w1 x.A x.data) := Lib.hid (hok.by_.below R1.out.below)
    obtain ⟨xs, XA, m, xc, xd⟩ := x
    simp only at hm1 HFIT HXL c1 HBY hx4 HGV2
    clear HWS HPZ hf ho0 ho1 hmay hp0 hp1 hser0 hsere hx hd hok hb hr hdl
    have c3 : w1.cell? ⟨g, 3, none⟩ = some (.slice (some ⟨b, bo, none⟩) n c) := R1.out.cell 1 3 rfl rfl
    obtain ⟨gx, ox, rfl⟩ : ∃ gx ox, XA = some ⟨gx, ox, none⟩ := by
      rcases HBY.out with h | ⟨gx, ox, h, _⟩
      · have := HXL.out; rw [h] at this; simp at this; omega
      · exact ⟨gx, ox, h⟩
    obtain ⟨i, hi, hz, hs2', hby⟩ := infoU8''
    have HI := Lib.hid hi
    have HZ0 := Lib.hid hz
    clear hi hz
    have k3 : (w1.alloc (.cells #[] 5)).cell? ⟨g, 3, none⟩ = some (.slice (some ⟨b, bo, none⟩) n c) := (R1.out.alloc #[] 5).cell 2 3 rfl rfl
    have k1 : (w1.alloc (.cells #[] 5)).cell? ⟨b, bo + p * 2 + 1, none⟩ = some (.slice (some ⟨gx, ox, none⟩) m xc) := Lib.cell?_alloc_some _ c1
    go_wp2_with (at_builtin; refine wpList_append_own _ rfl _ _ 27 rfl w1.heap.size 5 i (.int .u8 0) 1 1 Tryd.underlying27 HI.out HZ0.out hs2' hby rfl (by decide) _ _ _ rfl (World.ownsRow_made w1 #[] 0 (Nat.le_refl _) (Nat.zero_le _) (by simp)) ⟨gx, ox, none⟩ m xc (xd.map vu8) rfl ?qc1 ?qc2 ?qc3 ?qc4 ?qc5 ?qc6 ?_)
    case qc1 => rw [List.length_map, HXL.out]; omega
    case qc2 =>
      intro j u hj
      rw [Addr.add_lit]
      refine Lib.cell?_alloc_some _ ?_
      rcases HBY.out with h | ⟨g', o', e, _, h⟩
      · rw [h] at hj; simp at hj
      · cases e
        have hjl : j < xd.length := by have := (List.getElem?_eq_some_iff.1 hj).1; simpa using this
        rw [h j hjl, ← List.getElem?_map, hj]
    case qc3 => intro u hu; obtain ⟨y, _, rfl⟩ := List.mem_map.1 hu; rfl
    case qc4 => unfold maxLen; omega
    case qc5 => omega
    case qc6 => simp
    intro v' w2 hown hgrow hnil
    have hb1 : Below w1.heap.size w1 w2 := ((Below.refl _ w1).alloc (Nat.le_refl _) _).grown hgrow (by simp) (by intro k hk; simp [Value.ownBlock] at hk; omega)
    obtain ⟨gb, cap, cur, rfl, hgb, hgr, hnc, hcur⟩ : ∃ gb cap cur, v' = .slice (some ⟨gb, 0, none⟩) m cap ∧ w1.heap.size ≤ gb ∧ w2.heap[gb]? = some (.cells cur 5 (0, 0)) ∧ m ≤ cap ∧ Begins cur xd := by
      have hown' : w2.ownsRow w1.heap.size 5 1 v' m (xd.map vu8) := by simpa using hown
      rcases hown'.2 with ⟨_, h0⟩ | ⟨gb, cap, cur, rfl, h1, h2, h3, h4, h5, h6⟩
      · omega
      · exact ⟨gb, cap, cur, rfl, h1, h2, h3, by unfold Begins; rw [HXL.out]; simpa using h6⟩
    have hR2 : ∃ cur, Begins cur (ovL xd d o 0) ∧ Held w w2 [rowT gb cur 5, rowT g2 #[.int .u8 0, .int .u16 0, .int .u16 0, .slice none 0 0] 25, rowT g (shV s (some ⟨b, bo, none⟩) n c) 25] :=
      ⟨cur, by rw [ovL_zero]; exact hcur, R1.out.more hb1 (x := rowT gb cur 5) (F := [gb]) ⟨rfl, hgr⟩ (by simpa using hgb) (by simp)⟩
    have R2 := Lib.hid hR2
    have HGB := Lib.hid hgb
    have HNC := Lib.hid hnc
    have HLT := Lib.hid (R1.out.lt 0 rfl)
    have HLE := Lib.hid R1.out.below.size
    have HP := Lib.hid hpn
    clear c3 c1 k3 k1 hown hgrow hnil hb1 hgb hgr hnc hcur hR2 HI HZ0 hs2' hby i hpn
    go_wp2_with fail
    go_loopw [15] (fun i wr => ∃ j : Nat, j ≤ k ∧ i = .int .i64 (j : Int) ∧ ∃ cur, Begins cur (ovL xd d o j) ∧ Held w wr [rowT gb cur 5, rowT g2 #[.int .u8 0, .int .u16 0, .int .u16 0, .slice none 0 0] 25, rowT g (shV s (some ⟨b, bo, none⟩) n c) 25]) (fun i _ => k - (intOf i).toNat)
    case atStart => exact ⟨0, by omega, rfl, R2.out⟩
    case round =>
      obtain ⟨j, hj, rfl, cur, hcur, hR⟩ := hrel
      have R3 := Lib.hid hR
      have HCUR := Lib.hid hcur
      clear hR hcur R2
      by_cases hlt : j < k
      · have HOV := Lib.hid (ovL_set xd d o j (by rw [HK.out]; exact hlt) (by have := HFIT.out; have := HXL.out; omega))
        have hol := length_ovL xd d o j (by have := HFIT.out; have := HXL.out; omega) (by rw [HK.out]; omega)
        obtain ⟨y, hy⟩ : ∃ y, cur[o + j]? = some (vu8 y) := ⟨_, HCUR.out.get (o + j) (by rw [hol, HXL.out]; have := HFIT.out; omega)⟩
        have hold := R3.out.cell 0 (o + j) rfl hy
        have hfr := R3.out.free 0 (o + j) rfl
        obtain ⟨gs, os, rfl, hc⟩ := bytesIn_get HD.out R3.out.below j (by rw [HK.out]; exact hlt)
        have R4 := Lib.hid (R3.out.setCell 0 (o + j) (vu8 (d.getD j 0)) rfl)
        have HC4 : Hid (Begins (cur.setIfInBounds (o + j) (vu8 (d.getD j 0))) (ovL xd d o (j + 1))) := Lib.hid (by rw [← HOV.out]; exact HCUR.out.set _ _)
        generalize cur.setIfInBounds (o + j) (vu8 (d.getD j 0)) = cur2 at R4 HC4
        unfold vu8 at R4 hold
        obtain ⟨x, hx⟩ : ∃ x, x = (d.getD j 0).toNat := ⟨_, rfl⟩
        rw [← hx] at R4 hc
        have hi1 : (0 : Int) ≤ (o : Int) + (j : Int) := by omega
        have hi2 : (o : Int) + (j : Int) < (m : Int) := by have := HFIT.out; omega
        have hi3 : ((o : Int) + (j : Int)).toNat = o + j := by omega
        have hi4 : o + j < m := by have := HFIT.out; omega
        clear hx hol HOV R3 hy
        go_wp2_with fail
        go_roundw
        case rel => exact ⟨j + 1, by omega, by go_num, cur2, HC4.out, R4.out⟩
        case measure => simp [intOf]; omega
      · obtain rfl : j = k := by omega
        have HOE : Hid (ovL xd d o j = overL xd o d) := Lib.hid (by rw [← HK.out]; exact ovL_end xd d o)
        have HXO : Hid ((overL xd o d).length = m) := Lib.hid (by rw [length_overL _ _ _ (by have := HFIT.out; have := HXL.out; have := HK.out; omega)]; exact HXL.out)
        have HBN : Hid (BytesIn wr (some ⟨gb, 0, none⟩) (overL xd o d)) := Lib.hid (by rw [← HOE.out]; exact HCUR.out.bytes (R3.out.get 0 rfl))
        have hl0 : ¬ ((j : Int) < (j : Int)) := by omega
        obtain ⟨⟨e0, e1, e2, e3⟩, _, _, _, _⟩ := R3.out.cells4 2 rfl
        go_wp2_with fail
        refine (with_is (w := wr) (HS.out.below R3.out.below) p HP.out ⟨ser, some ⟨gb, 0, none⟩, m, cap, overL xd o d⟩ ⟨HXO.out, HNC.out, HSER.out, HBN.out⟩ (by have := HXO.out; show (overL xd o d).length ≤ 400; omega)).mono ?_
        rintro e w4 ⟨gr, c2, rfl, hw, hgr, hb⟩
        have R5 := Lib.hid ((R3.out.call hb).drop 1)
        have HWI := Lib.hid hw
        have HGR : Hid (w1.heap.size ≤ gr) := Lib.hid (by have := R3.out.lt 0 rfl; have := HGB.out; omega)
        clear hb hw hgr e0 e1 e2 e3
        unfold shV
        obtain ⟨⟨e0, e1, e2, e3⟩, b0, b1, b2, b3⟩ := R5.out.cells4 0 rfl
        go_wp2_with fail
        have HXF : Hid ((⟨ser, some ⟨gb, 0, none⟩, m, cap, overL xd o d⟩ : CellH).data ≠ [] → ∀ a, (⟨ser, some ⟨gb, 0, none⟩, m, cap, overL xd o d⟩ : CellH).A = some a → a.block ∈ foot (some ⟨b, bo, none⟩) n l ∨ w1.heap.size ≤ a.block) := Lib.hid (fun _ a ha => by cases ha; exact .inr HGB.out)
        have R9 := R5.out.store4 0 rfl (.int .u8 ((putC s p (CellH.dat ⟨ser, some ⟨gb, 0, none⟩, m, cap, overL xd o d⟩)).cl : Int)) (.int .u16 ((putC s p (CellH.dat ⟨ser, some ⟨gb, 0, none⟩, m, cap, overL xd o d⟩)).prev : Int)) (.int .u16 ((putC s p (CellH.dat ⟨ser, some ⟨gb, 0, none⟩, m, cap, overL xd o d⟩)).next : Int)) (.slice (some ⟨gr, 0, none⟩) n c2)
        refine bodyPost_ret (v := .tuple #[.agg (shV (putC s p (CellH.dat ⟨ser, some ⟨gb, 0, none⟩, m, cap, overL xd o d⟩)) (some ⟨gr, 0, none⟩) n c2), .int .i64 0]) (results_cell_slot rfl _ _ g2 25 _ (0, 0) _ _ rfl rfl (R9.get 0 rfl) Tryd.underlying25 rfl sizeShelf) rfl ?_
        refine ⟨_, rfl, ?_, R9.below⟩
        rw [HGV2.out]
        have h2 := WithPost.via (A := some ⟨b, bo, none⟩) HWI.out HXF.out HGR.out (Below.refl _ _)
        exact (h2.only (fun hk => by have := HS.out.foot_lt _ hk; have := R5.out.ge 0 rfl; omega) HLT.out (only4 _ _ _ _ _ _)).mono HLE.out
  · have HGV2 := Lib.hid (HWS.out.trans (if_neg hE))
    have hE' : (E != 0) = true := by simpa using hE
    have HV : Hid (True ∧ ws = emptySh) := Lib.hid ⟨trivial, HGV2.out⟩
    obtain ⟨⟨y0, y1, y2, y3⟩, b0, b1, b2, b3⟩ := R1.out.cells4 0 rfl
    go_wp2_with fail
    have R9 := R1.out.store4 0 rfl (.int .u8 0) (.int .u16 0) (.int .u16 0) (.slice none 0 0)
    refine bodyPost_ret (v := .tuple #[.agg #[.int .u8 0, .int .u16 0, .int .u16 0, .slice none 0 0], .int .i64 E]) (results_cell_slot rfl _ _ g2 25 _ (0, 0) _ _ rfl rfl (R9.get 0 rfl) Tryd.underlying25 rfl sizeShelf) rfl ?_
    exact ⟨_, rfl, by rw [HV.out.2]; exact emptySh_via _ _ _, R9.below⟩
end
end Go.Proofs.YtcepfmjebgklfaaDoor
