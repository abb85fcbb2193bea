/- The shelf layer: the law ShelfPlays holds of every shelf and every row of acts. -/
import Derived.Test.YtcepfmjebgklfaaDoorShDoes
import Derived.Test.YtcepfmjebgklfaaDoorShPut
namespace Go.Proofs.YtcepfmjebgklfaaDoor
open Go.RowKit
open Go.ChangeShapes Go.WideShapes Go.ChangeAt
set_option linter.unusedSimpArgs false
set_option linter.unusedVariables false
set_option maxRecDepth 100000
/-- A row of acts. -/
structure Acts18 (w : World) (A : Option Addr) (n : Nat) (l : List ActH) : Prop where
  len : l.length = n
  nmax : n ≤ 9223372036854775807
  at_ : n = 0 ∨ ∃ b off, A = some ⟨b, off, none⟩ ∧ b < w.heap.size ∧ ∀ i, (hi : i < l.length) → w.rangeAt b (off + i * 6) (actHV l[i]).toList
  ok : ∀ x ∈ l, ActOk w x
section
variable {H : Type} {enc : TypeId × Value → H} {w : World} {base : Nat} {spare : Nat → Bool} {held : Bool}
theorem open_acts18 {W : World} {r : Reach} {b0 : Nat} {v : Value} {d : DataW H} {p : List MemPlace}
    (hv : Value.okWide Tryd.prog W r b0 50 v) (h : DataW.Trod enc Tryd.prog w base spare held 50 v d p) : ∃ A n c l, v = .slice A n c ∧ Acts18 w A n l := by
  obtain ⟨A0, n0, c0, rfl⟩ := okWide_slice Tryd.underlying50 hv
  obtain ⟨fuel, hf⟩ := h
  obtain ⟨A, n, c, hcs, hn, hc, hat⟩ := trod_elems 6 (by omega) Tryd.underlying50 (by kernel_rfl) hf
  simp [Value.cells] at hcs
  obtain ⟨rfl, rfl, rfl⟩ := hcs
  rcases hat with rfl | ⟨b, off, rfl, hb, hat⟩
  · exact ⟨_, _, _, [], rfl, ⟨rfl, by omega, .inl rfl, by simp⟩⟩
  · obtain ⟨l, hl, hls⟩ := list_of (p := fun i (a : ActH) => ActOk w a ∧ w.rangeAt b (off + i * 6) (actHV a).toList) (fun i hi => by
      obtain ⟨row, _, _, h1, h2, h3⟩ := hat i hi
      obtain ⟨a, ha, rfl⟩ := trod_act18 h1 h3
      exact ⟨a, ha, h2⟩)
    refine ⟨_, _, _, l, rfl, ⟨hl, by omega, .inr ⟨b, off, rfl, hb, fun i hi => (hls i hi).2⟩, ?_⟩⟩
    intro a ha
    obtain ⟨i, hi, rfl⟩ := List.mem_iff_getElem.1 ha
    exact (hls i hi).1
end
theorem ActOk.below {w w' : World} {x : ActH} (h : ActOk w x) (hb : Below w.heap.size w w') : ActOk w' x := ⟨h.what, h.place, h.ser, h.off, h.n, h.len, h.cap, h.max, h.by_.below hb⟩
theorem sizeAct18 : (Tryd.prog.info? 29).map (·.size) = some 6 := by kernel_rfl
/-- A round's things. -/
structure PlI (w0 W : World) (g2 g5 g7 g8 : Nat) (s T : ShL) (A : Option Addr) (n c : Nat) (PB : List UInt8) (A1 : Option Addr) (n1 c1 : Nat) (l1 : List CellH) (B1 : Option Addr) (m1 d1 : Nat) (k1 : List CellH) : Prop where
  held : Held w0 W [rowT g7 (shV T A1 n1 c1) 25, rowT g8 (shV T B1 m1 d1) 25, rowT g5 (blk PB) 52, rowT g2 (shV s A n c) 25]
  a : ShelfOf W T A1 n1 c1 l1
  b : ShelfOf W T B1 m1 d1 k1
  fa : ∀ k ∈ foot A1 n1 l1, k ∉ [g7, g8]
  fb : ∀ k ∈ foot B1 m1 k1, k ∉ [g7, g8]
/-- What a slot of the region that calls does holds: two shelves and true; one shelf. -/
def pairV (S : ShL) (U : List Nat) (v : Value) (F : List Nat) (w : World) : Prop := ∃ A n c l A' n' c' l', F = foot A n l ++ foot A' n' l' ∧ v = .tuple #[.agg (shV S A n c), .agg (shV S A' n' c'), .bool true] ∧ ShelfOf w S A n c l ∧ ShelfOf w S A' n' c' l' ∧ ∀ k ∈ F, k ∉ U
def oneV (S : ShL) (U : List Nat) (v : Value) (F : List Nat) (w : World) : Prop := ∃ A n c l, F = foot A n l ∧ v = .agg (shV S A n c) ∧ ShelfOf w S A n c l ∧ ∀ k ∈ F, k ∉ U
theorem pairV_lt {S : ShL} {U : List Nat} {v : Value} {F : List Nat} {w : World} (h : pairV S U v F w) : ∀ k ∈ F, k < w.heap.size := by
  obtain ⟨A, n, c, l, A', n', c', l', rfl, _, h1, h2, _⟩ := h
  intro k hk
  rcases List.mem_append.1 hk with h | h
  · exact h1.foot_lt k h
  · exact h2.foot_lt k h
theorem pairV_loc {S : ShL} {U : List Nat} {v : Value} {F : List Nat} {w w' : World} (h : pairV S U v F w) (hk : ∀ k ∈ F, w'.heap[k]? = w.heap[k]?) : pairV S U v F w' := by
  obtain ⟨A, n, c, l, A', n', c', l', rfl, e, h1, h2, h3⟩ := h
  exact ⟨A, n, c, l, A', n', c', l', rfl, e, h1.loc (fun k h => hk k (List.mem_append_left _ h)), h2.loc (fun k h => hk k (List.mem_append_right _ h)), h3⟩
theorem oneV_lt {S : ShL} {U : List Nat} {v : Value} {F : List Nat} {w : World} (h : oneV S U v F w) : ∀ k ∈ F, k < w.heap.size := by
  obtain ⟨A, n, c, l, rfl, _, h1, _⟩ := h
  exact h1.foot_lt
theorem oneV_loc {S : ShL} {U : List Nat} {v : Value} {F : List Nat} {w w' : World} (h : oneV S U v F w) (hk : ∀ k ∈ F, w'.heap[k]? = w.heap[k]?) : oneV S U v F w' := by
  obtain ⟨A, n, c, l, rfl, e, h1, h2⟩ := h
  exact ⟨A, n, c, l, rfl, e, h1.loc hk, h2⟩
theorem oneV.ex {S : ShL} {U : List Nat} {v : Value} {F : List Nat} {w : World} (h : oneV S U v F w) : ∃ C, v = .agg C ∧ (Tryd.prog.info? 25).map (·.size) = some C.size ∧ zeroShC.size = C.size ∧ C.all (·.oneCell') = true := by
  obtain ⟨A, n, c, l, rfl, e, h1, _⟩ := h
  exact xV.ex ⟨rfl, e, h1⟩
def plV (T S2 : ShL) (g7 g8 : Nat) (A1 : Option Addr) (n1 c1 : Nat) (l1 : List CellH) (B1 : Option Addr) (m1 d1 : Nat) (k1 : List CellH) (LA : Option Addr) (nL cL b off j : Nat) (x : ActH) (t : Tmp) : Value → List Nat → World → Prop :=
  match t with
  | 51 => xV T A1 n1 c1 l1
  | 52 => xV T B1 m1 d1 k1
  | 53 => pV (.slice LA nL cL)
  | 54 => pV (.int .i64 (j : Int))
  | 55 => pV (.pointer (some ⟨b, off + j * 6, none⟩))
  | 56 => pV (.agg (actHV x))
  | 57 => pairV S2 [g7, g8]
  | 50 => pairV S2 [g7, g8]
  | 58 => oneV S2 [g7, g8]
  | 59 => oneV S2 [g7, g8]
  | 60 => pV (.bool true)
  | 12 => pV (.bool true)
  | _ => fun _ F _ => F = []
theorem plV_lt (T S2 : ShL) (g7 g8 : Nat) (A1 : Option Addr) (n1 c1 : Nat) (l1 : List CellH) (B1 : Option Addr) (m1 d1 : Nat) (k1 : List CellH) (LA : Option Addr) (nL cL b off j : Nat) (x : ActH) : ∀ t v F w, plV T S2 g7 g8 A1 n1 c1 l1 B1 m1 d1 k1 LA nL cL b off j x t v F w → ∀ k ∈ F, k < w.heap.size := by
  intro t v F w h
  unfold plV at h
  split at h <;> first
    | exact pV_lt h
    | exact xV_lt h
    | exact pairV_lt h
    | exact oneV_lt h
    | (rw [h]; simp)
theorem plV_loc (T S2 : ShL) (g7 g8 : Nat) (A1 : Option Addr) (n1 c1 : Nat) (l1 : List CellH) (B1 : Option Addr) (m1 d1 : Nat) (k1 : List CellH) (LA : Option Addr) (nL cL b off j : Nat) (x : ActH) : ∀ t v F w w', plV T S2 g7 g8 A1 n1 c1 l1 B1 m1 d1 k1 LA nL cL b off j x t v F w → (∀ k ∈ F, w'.heap[k]? = w.heap[k]?) → plV T S2 g7 g8 A1 n1 c1 l1 B1 m1 d1 k1 LA nL cL b off j x t v F w' := by
  intro t v F w w' h hk
  unfold plV at h ⊢
  split at h <;> first
    | exact h
    | exact xV_loc h hk
    | exact pairV_loc h hk
    | exact oneV_loc h hk
section
variable {w : World}
set_option maxHeartbeats 8000000 in
theorem shplays_any (hc : ClsAt w) (s : ShL) (A : Option Addr) (n c : Nat) (l : List CellH) (LA : Option Addr) (nL cL : Nat) (L : List ActH) (hs : ShArg w s A n c l) (hL : Acts18 w LA nL L) :
    Calls Tryd.prog 5 #[.agg (shV s A n c), .slice LA nL cL] w fun e w' => e = .returned (.bool true) ∧ Below w.heap.size w w' := by
  have hR := (Held.start w).alloc (shV s A n c) 25
  obtain ⟨W, hW⟩ : ∃ W, W = w.alloc (.cells (shV s A n c) 25) := ⟨_, rfl⟩
  obtain ⟨g2, hg⟩ : ∃ g, g = w.heap.size := ⟨_, rfl⟩
  rw [← hW, ← hg] at hR
  have HW := Lib.hid hW
  have HG := Lib.hid hg
  have HC := Lib.hid hc
  have HS := Lib.hid hs
  have HLL := Lib.hid hL
  have hnm := hL.nmax
  have R0 := Lib.hid hR
  unfold shV at HW ⊢
  clear hW hg hc hs hR hL
  obtain ⟨⟨e0, e1, e2, e3⟩, _, _, _, _⟩ := R0.out.cells4 0 rfl
  go_enter Tryd.func5, Tryd.ntmps5
  go_upto_region 1 with (fail)
  rw [← HW.out, ← HG.out]
  go_wp2_with fail
  refine (shgreat_is (w := W) s A n c l (HS.out.below R0.out.below).cells HS.out.nmax HS.out.mmax).mono ?_
  rintro e w1 ⟨r, rfl, hr, hb⟩
  have HR := Lib.hid hr
  have R1 := Lib.hid (R0.out.call hb)
  clear hr hb R0 e0 e1 e2 e3
  cases r with
  | true =>
    go_wp2_with (go_at_call 9; refine (shhead_any (HC.out.below R1.out.below)).mono ?_; rintro e w2 ⟨rfl, hb⟩; have HB := Lib.hid (R1.out.call hb); clear hb)
    go_ret
    exact ⟨rfl, HB.out.below⟩
  | false =>
    have HSH := Lib.hid (HS.out.shelf (HR.out rfl).1 (HR.out rfl).2)
    have HFS : Hid (∀ k ∈ foot A n l, k < w.heap.size) := Lib.hid HSH.out.foot_lt
    clear HR
    obtain ⟨⟨e0, e1, e2, e3⟩, _, _, _, _⟩ := R1.out.cells4 0 rfl
    go_wp2_with fail
    have N1 := shput_is (HC.out.below R1.out.below) ⟨A, n, c, l, rfl, HSH.out.below R1.out.below⟩
    refine N1.mono ?_
    rintro e w2 ⟨rfl, hb⟩
    have hpl := length_putB18 s
    obtain ⟨PB, hPB⟩ : ∃ B, B = putB18 s := ⟨_, rfl⟩
    obtain ⟨E, hE⟩ : ∃ E, E = putE18 s := ⟨_, rfl⟩
    rw [← hPB] at hpl ⊢
    rw [← hE]
    have HPL := Lib.hid hpl
    have HPB := Lib.hid hPB
    have HE := Lib.hid hE
    have q1 := (R1.out.call hb).alloc (blk PB) 52
    clear N1 hb hPB hE hpl e0 e1 e2 e3 R1
    go_upto_region 4 with (first
      | refine wpList_alloc_row rfl 52 rfl _ zeroB ?_
      | refine wpList_store_new rfl 52 _ _ rfl _ _ 52 rfl rfl (by rw [size_blk, HPL.out]; exact sizeB) (by rw [size_zeros, size_blk, HPL.out]) (blk_one _) ?_)
    obtain ⟨W3, hW⟩ : ∃ W, W = w2.alloc (.cells (blk PB) 52) := ⟨_, rfl⟩
    rw [← hW] at q1 ⊢
    clear hW
    obtain ⟨g5, hg⟩ : ∃ g, g = w2.heap.size := ⟨_, rfl⟩
    rw [← hg] at q1 ⊢
    clear hg
    have R3 := Lib.hid q1
    clear q1
    have HFS3 : Hid (∀ k ∈ foot A n l, k < W3.heap.size) := Lib.hid (fun k hk => Nat.lt_of_lt_of_le (HFS.out k hk) R3.out.below.size)
    refine wp_region_boxes (by kernel_rfl) [⟨2, 4, 0, zeroShC, 25, 7, 23, none⟩, ⟨3, 5, 1, zeroShC, 25, 8, 24, none⟩] (twoV 23 24 999 false s s A n c l A n c l) (twoV_lt _ _ _ _ _ _ _ _ _ _ _ _ _ _) (twoV_loc _ _ _ _ _ _ _ _ _ _ _ _ _ _) (by kernel_rfl) (by kernel_rfl) (by kernel_rfl) ?qbs (by kernel_rfl) ?qold ?qheads ?qfin
    case qbs =>
      intro y hy
      rcases List.mem_cons.1 hy with rfl | hy
      · exact ⟨(fun _ => ⟨⟨_, rfl, rfl, rfl, rfl⟩, by kernel_rfl⟩), (fun g' h => by cases h), ⟨_, rfl, rfl, rfl, rfl, (fun _ => by kernel_rfl), by kernel_rfl⟩, by kernel_rfl, fun v F w h => xV.ex h⟩
      · obtain rfl : y = _ := by simpa using hy
        exact ⟨(fun _ => ⟨⟨_, rfl, rfl, rfl, rfl⟩, by kernel_rfl⟩), (fun g' h => by cases h), ⟨_, rfl, rfl, rfl, rfl, (fun _ => by kernel_rfl), by kernel_rfl⟩, by kernel_rfl, fun v F w h => xV.ex h⟩
    case qold =>
      intro j k x y g' hj hk h1 _
      have := List.mem_of_getElem? hj
      simp at this
      rcases this with rfl | rfl <;> cases h1
    case qheads =>
      refine ⟨.inr ⟨rfl, 23, rfl, fun a v OK hOK hB hO hD K hK => ?_⟩, .inr ⟨rfl, 24, rfl, fun a v OK hOK hB hO hD K hK => ?_⟩, .inl rfl, .inl rfl, .inl rfl, .inl rfl, trivial⟩
      · exact wp_load_all 25 _ g2 25 (shV s A n c) (0, 0) _ rfl (eval_of (t := 2) (by rw [hO 2 (not_dst 2 (by kernel_rfl))]; rfl)) ((hB.block g2 (R3.out.lt 1 rfl) (by simp [oldsOf])).trans (R3.out.get 1 rfl)) Tryd.underlying25 rfl sizeShelf (hK _ _ _ ⟨rfl, rfl, (HSH.out.below R3.out.below).loc (fun k hk => hB.block k (HFS3.out k hk) (by simp [oldsOf]))⟩ (fun k hk => .inl (hOK k (HFS3.out k hk) (by simp [oldsOf]))) (Below.refl _ _))
      · exact wp_load_all 25 _ g2 25 (shV s A n c) (0, 0) _ rfl (eval_of (t := 2) (by rw [hO 2 (not_dst 2 (by kernel_rfl))]; rfl)) ((hB.block g2 (R3.out.lt 1 rfl) (by simp [oldsOf])).trans (R3.out.get 1 rfl)) Tryd.underlying25 rfl sizeShelf (hK _ _ _ ⟨rfl, rfl, (HSH.out.below R3.out.below).loc (fun k hk => hB.block k (HFS3.out k hk) (by simp [oldsOf]))⟩ (fun k hk => .inl (hOK k (HFS3.out k hk) (by simp [oldsOf]))) (Below.refl _ _))
    case qfin =>
      intro F w4 β hbx hap hV hB
      obtain ⟨hn0, _, C, G, hF17, h9, ⟨_, hC, _⟩, _⟩ := hbx 0 _ rfl
      obtain ⟨hn1, _, C', G', hF18, h10, ⟨_, hC', _⟩, _⟩ := hbx 1 _ rfl
      obtain ⟨hb0, e9⟩ := hn0 rfl
      obtain ⟨hb1, e10⟩ := hn1 rfl
      have hne := hap 0 1 (by decide) (by decide) (by decide)
      obtain rfl : C = shV s A n c := by cases hC; rfl
      obtain rfl : C' = shV s A n c := by cases hC'; rfl
      obtain ⟨g7, hg7⟩ : ∃ g, g = β 0 := ⟨_, rfl⟩
      obtain ⟨g8, hg8⟩ : ∃ g, g = β 1 := ⟨_, rfl⟩
      simp only at e9 e10 hF17 hF18
      rw [← hg7] at h9 hb0 hne e9
      rw [← hg8] at h10 hb1 hne e10
      have R4 := Lib.hid (R3.out.two (x := rowT g7 (shV s A n c) 25) (y := rowT g8 (shV s A n c) 25) (F := [g7]) (G := [g8]) (Only.nil hB) ⟨rfl, h9⟩ ⟨rfl, h10⟩ (by simpa using hb0) (by simpa using hb1) (by simpa using hne))
      have HG78 : Hid (w.heap.size ≤ g7 ∧ w.heap.size ≤ g8 ∧ g7 ≠ g8) := Lib.hid ⟨R4.out.ge 0 rfl, R4.out.ge 1 rfl, hne⟩
      have HN78 : Hid (∀ k ∈ foot A n l, k ∉ [g7, g8]) := Lib.hid (fun k hk => by have := HFS.out k hk; have := HG78.out; simp; omega)
      have HI : Hid (∃ T A1 n1 c1 l1 B1 m1 d1 k1, PlI w w4 g2 g5 g7 g8 s T A n c PB A1 n1 c1 l1 B1 m1 d1 k1) := Lib.hid ⟨s, A, n, c, l, A, n, c, l, R4.out, HSH.out.below R4.out.below, HSH.out.below R4.out.below, HN78.out, HN78.out⟩
      simp only [putAll, List.setIfInBounds_toArray, List.set_cons_zero, List.set_cons_succ]
      rw [hF17, hF18, e9, e10]
      unfold shV
      clear hbx hap hV hB hn0 hn1 hF17 hF18 h9 h10 hC hC' hb0 hb1 hne hg7 hg8 e9 e10 HFS3 R3 R4 HN78
      go_wp2_with fail
      go_loopw [9] (fun i wr => ∃ j : Nat, j ≤ 40 ∧ j ≤ nL ∧ i = .int .i64 (j : Int) ∧ ∃ T A1 n1 c1 l1 B1 m1 d1 k1, PlI w wr g2 g5 g7 g8 s T A n c PB A1 n1 c1 l1 B1 m1 d1 k1) (fun i _ => 40 - (intOf i).toNat)
      case atStart => exact ⟨0, by omega, by omega, rfl, HI.out⟩
      case round =>
        obtain ⟨j, hj, hjn, rfl, T, A1, n1, c1, l1, B1, m1, d1, k1, hI⟩ := hrel
        have I1 := Lib.hid hI
        clear hI HI
        by_cases hlt : j < nL
        · by_cases h40 : j < 40
          · obtain ⟨b, off, rfl, hbl, hrg⟩ : ∃ b off, LA = some ⟨b, off, none⟩ ∧ b < w.heap.size ∧ ∀ i, (hi : i < L.length) → w.rangeAt b (off + i * 6) (actHV L[i]).toList := by
              rcases HLL.out.at_ with h | h
              · omega
              · exact h
            have hjl : j < L.length := by rw [HLL.out.len]; exact hlt
            have hr := rangeAt_below (hrg j hjl) hbl I1.out.held.below
            have hxo := HLL.out.ok _ (List.getElem_mem hjl)
            generalize L[j] = x at hr hxo
            have HRG := Lib.hid hr
            have HBL : Hid (b < wr.heap.size) := Lib.hid (Nat.lt_of_lt_of_le hbl I1.out.held.below.size)
            have HXO := Lib.hid hxo
            have c4 : wr.cell? ⟨b, off + j * 6 + 4, none⟩ = some (.int .i64 x.n) := hr 4 _ rfl
            have c5 : wr.cell? ⟨b, off + j * 6 + 5, none⟩ = some (.slice x.A x.m x.c) := hr 5 _ rfl
            have hxm := hxo.max
            clear hbl hrg hjl hr hxo
            by_cases hm : (400 : Int) < (x.m : Int)
            · clear HRG HBL
              go_wp2_with fail
              go_roundw
              case rel => exact ⟨j + 1, by omega, by omega, by go_num, T, A1, n1, c1, l1, B1, m1, d1, k1, I1.out⟩
              case measure => simp [intOf]; omega
            · by_cases hN : (1000 : Int) < x.n
              · clear HRG HBL
                go_wp2_with fail
                go_roundw
                case rel => exact ⟨j + 1, by omega, by omega, by go_num, T, A1, n1, c1, l1, B1, m1, d1, k1, I1.out⟩
                case measure => simp [intOf]; omega
              · have HM4 : Hid (x.m ≤ 400) := Lib.hid (by omega)
                go_upto_region 9 with (fail)
                refine wp_region_boxes (by kernel_rfl) [⟨11, 13, 8, zeroShC, 25, 10, 58, none⟩, ⟨12, 14, 9, zeroShC, 25, 11, 59, none⟩] (plV T (does18S T x) g7 g8 A1 n1 c1 l1 B1 m1 d1 k1 (some ⟨b, off, none⟩) nL cL b off j x) (plV_lt _ _ _ _ _ _ _ _ _ _ _ _ _ _ _ _ _ _ _) (plV_loc _ _ _ _ _ _ _ _ _ _ _ _ _ _ _ _ _ _ _) (by kernel_rfl) (by kernel_rfl) (by kernel_rfl) ?qbs (by kernel_rfl) ?qold ?qheads ?qfin
                case qbs =>
                  intro y hy
                  rcases List.mem_cons.1 hy with rfl | hy
                  · exact ⟨(fun _ => ⟨⟨_, rfl, rfl, rfl, rfl⟩, by kernel_rfl⟩), (fun g' h => by cases h), ⟨_, rfl, rfl, rfl, rfl, (fun _ => by kernel_rfl), by kernel_rfl⟩, by kernel_rfl, fun v F w h => oneV.ex h⟩
                  · obtain rfl : y = _ := by simpa using hy
                    exact ⟨(fun _ => ⟨⟨_, rfl, rfl, rfl, rfl⟩, by kernel_rfl⟩), (fun g' h => by cases h), ⟨_, rfl, rfl, rfl, rfl, (fun _ => by kernel_rfl), by kernel_rfl⟩, by kernel_rfl, fun v F w h => oneV.ex h⟩
                case qold =>
                  intro j k x y g' hj hk h1 _
                  have := List.mem_of_getElem? hj
                  simp at this
                  rcases this with rfl | rfl <;> cases h1
                case qheads =>
                  refine ⟨.inr ⟨rfl, 51, rfl, fun a v OK hOK hB hO hD K hK => ?_⟩, .inr ⟨rfl, 52, rfl, fun a v OK hOK hB hO hD K hK => ?_⟩, .inr ⟨rfl, 53, rfl, fun a v OK hOK hB hO hD K hK => ?_⟩, .inr ⟨rfl, 54, rfl, fun a v OK hOK hB hO hD K hK => ?_⟩, .inr ⟨rfl, 55, rfl, fun a v OK hOK hB hO hD K hK => ?_⟩, .inr ⟨rfl, 56, rfl, fun a v OK hOK hB hO hD K hK => ?_⟩, .inr ⟨rfl, 57, rfl, fun a v OK hOK hB hO hD K hK => ?_⟩, .inr ⟨rfl, 50, rfl, fun a v OK hOK hB hO hD K hK => ?_⟩, .inr ⟨rfl, 58, rfl, fun a v OK hOK hB hO hD K hK => ?_⟩, .inr ⟨rfl, 59, rfl, fun a v OK hOK hB hO hD K hK => ?_⟩, .inr ⟨rfl, 60, rfl, fun a v OK hOK hB hO hD K hK => ?_⟩, .inl rfl, .inl rfl, .inl rfl, .inl rfl, .inr ⟨rfl, 12, rfl, fun a v OK hOK hB hO hD K hK => ?_⟩, trivial⟩
                  · exact wp_load_all 25 _ g7 25 (shV T A1 n1 c1) (0, 0) _ rfl (eval_of (t := 7) (by rw [hO 7 (not_dst 7 (by kernel_rfl))]; rfl)) ((hB.block g7 (I1.out.held.lt 0 rfl) (by simp [oldsOf])).trans (I1.out.held.get 0 rfl)) Tryd.underlying25 rfl sizeShelf (hK _ _ _ ⟨rfl, rfl, I1.out.a.loc (fun k hk => hB.block k (I1.out.a.foot_lt k hk) (by simp [oldsOf]))⟩ (fun k hk => .inl (hOK k (I1.out.a.foot_lt k hk) (by simp [oldsOf]))) (Below.refl _ _))
                  · exact wp_load_all 25 _ g8 25 (shV T B1 m1 d1) (0, 0) _ rfl (eval_of (t := 8) (by rw [hO 8 (not_dst 8 (by kernel_rfl))]; rfl)) ((hB.block g8 (I1.out.held.lt 1 rfl) (by simp [oldsOf])).trans (I1.out.held.get 1 rfl)) Tryd.underlying25 rfl sizeShelf (hK _ _ _ ⟨rfl, rfl, I1.out.b.loc (fun k hk => hB.block k (I1.out.b.foot_lt k hk) (by simp [oldsOf]))⟩ (fun k hk => .inl (hOK k (I1.out.b.foot_lt k hk) (by simp [oldsOf]))) (Below.refl _ _))
                  · exact wpg_move _ _ rfl (eval_of (t := 1) (by rw [hO 1 (not_dst 1 (by kernel_rfl))]; rfl)) (hK _ [] _ ⟨rfl, rfl⟩ (by simp) (Below.refl _ _))
                  · exact wpg_move _ _ rfl (eval_of (t := 9) (by rw [hO 9 (not_dst 9 (by kernel_rfl))]; rfl)) (hK _ [] _ ⟨rfl, rfl⟩ (by simp) (Below.refl _ _))
                  · obtain ⟨u, F, hu, hv, hf⟩ := boxes_of hD 2 (by kernel_rfl) rfl 53 (by kernel_rfl)
                    obtain ⟨u2, F2, hu2, hv2, hf2⟩ := boxes_of hD 3 (by kernel_rfl) rfl 54 (by kernel_rfl)
                    exact wpg_index 50 29 _ _ b off j nL cL 6 .i64 rfl Tryd.underlying50 sizeAct18 (hu.trans hv.2) (hu2.trans hv2.2) hlt (hK _ [] _ ⟨rfl, rfl⟩ (by simp) (Below.refl _ _))
                  · obtain ⟨u, F, hu, hv, hf⟩ := boxes_of hD 4 (by kernel_rfl) rfl 55 (by kernel_rfl)
                    refine wp_of_wq rfl (wk_load_mid 29 _ b (off + j * 6) (actHV x) _ (by exact wanted_none rfl) rfl (hu.trans hv.2) (fun w' hC => rangeAt_below (rangeAt_below HRG.out HBL.out (Only.nil hB)) (Nat.lt_of_lt_of_le HBL.out hB.size) hC) Tryd.underlying29 rfl sizeAct18 ?_)
                    refine wk_nil ?_
                    intro w' hC
                    exact hK _ [] w' ⟨rfl, rfl⟩ (by simp) hC
                  · obtain ⟨u, F, hu, hv, hf⟩ := boxes_of hD 0 (by kernel_rfl) rfl 51 (by kernel_rfl)
                    obtain ⟨u2, F2, hu2, hv2, hf2⟩ := boxes_of hD 1 (by kernel_rfl) rfl 52 (by kernel_rfl)
                    obtain ⟨u3, F3, hu3, hv3, hf3⟩ := boxes_of hD 5 (by kernel_rfl) rfl 56 (by kernel_rfl)
                    obtain ⟨rfl, rfl, hsa⟩ := hv
                    obtain ⟨rfl, rfl, hsb⟩ := hv2
                    have N1 := shdoes_is ((HC.out.below I1.out.held.below).below (Only.nil hB)) hsa hsb x ((HXO.out.below I1.out.held.below).below (Only.nil hB)) HM4.out
                    refine wpo_call 20 [.tmp 51, .tmp 52, .tmp 56] _ _ _ _ (fun v' w' => ∃ F, pairV (does18S T x) [g7, g8] v' F w' ∧ ∀ k ∈ F, OK k ∨ v.heap.size ≤ k) rfl Tryd.func20 rfl (by kernel_rfl) (by simp only [List.map_cons, List.map_nil, hu, hu2, hu3.trans hv3.2]) (N1.mono ?_) (fun v' w' hb h => h.elim fun F h => hK v' F w' h.1 h.2 hb)
                    rintro e w' ⟨va, vb, rfl, ⟨A2, n2, c2, l2, rfl, hs2, hf2'⟩, ⟨A3, n3, c3, l3, rfl, hs3, hf3'⟩, hb⟩
                    have hg7 := I1.out.held.lt 0 rfl
                    have hg8 := I1.out.held.lt 1 rfl
                    have hvs := hB.size
                    refine ⟨_, rfl, ⟨_, ⟨A2, n2, c2, l2, A3, n3, c3, l3, rfl, rfl, hs2, hs3, fun k hk => ?_⟩, fun k hk => ?_⟩, hb⟩
                    · rcases List.mem_append.1 hk with h | h
                      · rcases hf2' k h with h | h
                        · exact I1.out.fa k h
                        · simp; omega
                      · rcases hf3' k h with h | h
                        · exact I1.out.fb k h
                        · simp; omega
                    · rcases List.mem_append.1 hk with h | h
                      · exact (hf2' k h).imp (hf k) id
                      · exact (hf3' k h).imp (hf2 k) id
                  · obtain ⟨u, F, hu, hv, hf⟩ := boxes_of hD 6 (by kernel_rfl) rfl 57 (by kernel_rfl)
                    exact wpg_move _ _ rfl hu (hK _ _ _ hv (fun k hk => .inl (hf k hk)) (Below.refl _ _))
                  · obtain ⟨u, F, hu, hv, hf⟩ := boxes_of hD 7 (by kernel_rfl) rfl 50 (by kernel_rfl)
                    obtain ⟨A2, n2, c2, l2, A3, n3, c3, l3, rfl, rfl, hs2, hs3, hn⟩ := hv
                    exact wpb_extract _ _ _ _ rfl hu rfl (hK _ _ _ ⟨A2, n2, c2, l2, rfl, rfl, hs2, fun k hk => hn k (List.mem_append_left _ hk)⟩ (fun k hk => .inl (hf k (List.mem_append_left _ hk))) (Below.refl _ _))
                  · obtain ⟨u, F, hu, hv, hf⟩ := boxes_of hD 7 (by kernel_rfl) rfl 50 (by kernel_rfl)
                    obtain ⟨A2, n2, c2, l2, A3, n3, c3, l3, rfl, rfl, hs2, hs3, hn⟩ := hv
                    exact wpb_extract _ _ _ _ rfl hu rfl (hK _ _ _ ⟨A3, n3, c3, l3, rfl, rfl, hs3, fun k hk => hn k (List.mem_append_right _ hk)⟩ (fun k hk => .inl (hf k (List.mem_append_right _ hk))) (Below.refl _ _))
                  · obtain ⟨u, F, hu, hv, hf⟩ := boxes_of hD 7 (by kernel_rfl) rfl 50 (by kernel_rfl)
                    obtain ⟨A2, n2, c2, l2, A3, n3, c3, l3, rfl, rfl, hs2, hs3, hn⟩ := hv
                    exact wpb_extract _ _ _ _ rfl hu rfl (hK _ [] _ ⟨rfl, rfl⟩ (by simp) (Below.refl _ _))
                  · obtain ⟨u, F, hu, hv, hf⟩ := boxes_of hD 10 (by kernel_rfl) rfl 60 (by kernel_rfl)
                    exact wpb_assign _ _ rfl (hu.trans hv.2) (hK _ [] _ ⟨rfl, rfl⟩ (by simp) (Below.refl _ _))
                case qfin =>
                  intro F w5 β hbx hap hV hB
                  obtain ⟨hn0, _, C, G, hF58, h10, ⟨A2, n2, c2, l2, rfl, hC, hs2, hf2⟩, hG⟩ := hbx 0 _ rfl
                  obtain ⟨hn1, _, C', G', hF59, h11, ⟨A3, n3, c3, l3, rfl, hC', hs3, hf3⟩, hG'⟩ := hbx 1 _ rfl
                  obtain ⟨hb0, e10⟩ := hn0 rfl
                  obtain ⟨hb1, e11⟩ := hn1 rfl
                  have hne := hap 0 1 (by decide) (by decide) (by decide)
                  obtain ⟨T2, hT2⟩ : ∃ T2, T2 = does18S T x := ⟨_, rfl⟩
                  rw [← hT2] at hC hC' hs2 hs3
                  obtain rfl : C = shV T2 A2 n2 c2 := by cases hC; rfl
                  obtain rfl : C' = shV T2 A3 n3 c3 := by cases hC'; rfl
                  have e12 : F 12 = .bool true := (hV 15 _ 12 rfl rfl rfl).elim (fun _ h => h.2)
                  obtain ⟨g10, hg10⟩ : ∃ g, g = β 0 := ⟨_, rfl⟩
                  obtain ⟨g11, hg11⟩ : ∃ g, g = β 1 := ⟨_, rfl⟩
                  simp only at e10 e11 hF58 hF59
                  rw [← hg10] at h10 hb0 hne e10
                  rw [← hg11] at h11 hb1 hne e11
                  have R5 := Lib.hid (I1.out.held.two (x := rowT g10 (shV T2 A2 n2 c2) 25) (y := rowT g11 (shV T2 A3 n3 c3) 25) (F := [g10]) (G := [g11]) (Only.nil hB) ⟨rfl, h10⟩ ⟨rfl, h11⟩ (by simpa using hb0) (by simpa using hb1) (by simpa using hne))
                  have HS2 := Lib.hid hs2
                  have HS3 := Lib.hid hs3
                  have HF2 := Lib.hid hf2
                  have HF3 := Lib.hid hf3
                  simp only [putAll, List.setIfInBounds_toArray, List.set_cons_zero, List.set_cons_succ]
                  rw [hF58, hF59, e10, e11, e12]
                  unfold shV
                  clear hbx hap hV hB hn0 hn1 hF58 hF59 h10 h11 hC hC' hs2 hs3 hf2 hf3 hG hG' hb0 hb1 hne hg10 hg11 e10 e11 e12 hT2 c4 c5
                  obtain ⟨⟨y0, y1, y2, y3⟩, _, _, _, _⟩ := R5.out.cells4 0 rfl
                  obtain ⟨⟨z0, z1, z2, z3⟩, o0, o1, o2, o3⟩ := R5.out.cells4 2 rfl
                  go_upto_region 13 with (fail)
                  have q4 := R5.out.store4 2 rfl (.int .u8 (T2.cl : Int)) (.int .u16 (T2.prev : Int)) (.int .u16 (T2.next : Int)) (.slice A2 n2 c2)
                  obtain ⟨W6, hW⟩ : ∃ W6, W6 = (((w5.setCell ⟨g7, 0, none⟩ (.int .u8 (T2.cl : Int))).setCell ⟨g7, 1, none⟩ (.int .u16 (T2.prev : Int))).setCell ⟨g7, 2, none⟩ (.int .u16 (T2.next : Int))).setCell ⟨g7, 3, none⟩ (.slice A2 n2 c2) := ⟨_, rfl⟩
                  have ho := only4 w5 g7 (.int .u8 (T2.cl : Int)) (.int .u16 (T2.prev : Int)) (.int .u16 (T2.next : Int)) (.slice A2 n2 c2)
                  rw [← hW] at q4 ho ⊢
                  clear hW y0 y1 y2 y3 z0 z1 z2 z3 o0 o1 o2 o3
                  have R6 := Lib.hid q4
                  have HA6 := Lib.hid (HS2.out.only (avoids_foot.2 (fun hk => HF2.out _ hk (by simp))) ho)
                  have HB6 := Lib.hid (HS3.out.only (avoids_foot.2 (fun hk => HF3.out _ hk (by simp))) ho)
                  clear q4 ho R5 HS2 HS3
                  obtain ⟨⟨y0, y1, y2, y3⟩, _, _, _, _⟩ := R6.out.cells4 1 rfl
                  obtain ⟨⟨z0, z1, z2, z3⟩, o0, o1, o2, o3⟩ := R6.out.cells4 3 rfl
                  have q4 := R6.out.store4 3 rfl (.int .u8 (T2.cl : Int)) (.int .u16 (T2.prev : Int)) (.int .u16 (T2.next : Int)) (.slice A3 n3 c3)
                  have ho := only4 W6 g8 (.int .u8 (T2.cl : Int)) (.int .u16 (T2.prev : Int)) (.int .u16 (T2.next : Int)) (.slice A3 n3 c3)
                  have HI7 := Lib.hid (PlI.mk (s := s) (g2 := g2) (g5 := g5) (PB := PB) (q4.drop 2) (HA6.out.only (avoids_foot.2 (fun hk => HF2.out _ hk (by simp))) ho) (HB6.out.only (avoids_foot.2 (fun hk => HF3.out _ hk (by simp))) ho) HF2.out HF3.out)
                  clear q4 ho
                  go_wp2_with fail
                  go_roundw
                  case rel => exact ⟨j + 1, by omega, by omega, by go_num, T2, A2, n2, c2, l2, A3, n3, c3, l3, HI7.out⟩
                  case measure => simp [intOf]; omega
          · obtain rfl : j = 40 := by omega
            obtain ⟨⟨e0, e1, e2, e3⟩, _, _, _, _⟩ := I1.out.held.cells4 3 rfl
            go_wp2_with fail
            have N1 := shput_is (HC.out.below I1.out.held.below) ⟨A, n, c, l, rfl, HSH.out.below I1.out.held.below⟩
            rw [← HPB.out, ← HE.out] at N1
            refine N1.mono ?_
            rintro e w5 ⟨rfl, hb⟩
            have q1 := (I1.out.held.call hb).alloc (blk PB) 52
            clear N1 hb e0 e1 e2 e3 I1
            go_upto_region 15 with (first
              | refine wpList_alloc_row rfl 52 rfl _ zeroB ?_
              | refine wpList_store_new rfl 52 _ _ rfl _ _ 52 rfl rfl (by rw [size_blk, HPL.out]; exact sizeB) (by rw [size_zeros, size_blk, HPL.out]) (blk_one _) ?_)
            obtain ⟨W6, hW⟩ : ∃ W, W = w5.alloc (.cells (blk PB) 52) := ⟨_, rfl⟩
            rw [← hW] at q1 ⊢
            clear hW
            obtain ⟨gq, hg⟩ : ∃ g, g = w5.heap.size := ⟨_, rfl⟩
            rw [← hg] at q1 ⊢
            clear hg
            have R6 := Lib.hid q1
            clear q1
            refine wk_plain_since ?_
            refine wk_load_row 52 _ g5 52 (blk PB) (0, 0) _ (by kernel_rfl) rfl rfl (fun w' hC => hC.row (R6.out.get 3 rfl)) Tryd.underlying52 rfl (by rw [size_blk, HPL.out]; exact sizeB) ?_
            simp only [Act.put, List.setIfInBounds_toArray, List.set_cons_zero, List.set_cons_succ]
            refine wk_load_row 52 _ gq 52 (blk PB) (0, 0) _ (by kernel_rfl) rfl rfl (fun w' hC => hC.row (R6.out.get 0 rfl)) Tryd.underlying52 rfl (by rw [size_blk, HPL.out]; exact sizeB) ?_
            simp only [Act.put, List.setIfInBounds_toArray, List.set_cons_zero, List.set_cons_succ]
            refine wk_eql .eql (true) 52 52 _ _ (by first | exact wanted_none rfl | exact wanted_yes _ _ rfl rfl) rfl _ _ rfl rfl (by kernel_rfl) (fun w => by rw [run_eql_blk w 52 5 256 Tryd.underlying52 Tryd.underlying5 sizeU8 PB PB HPL.out HPL.out]; simp) ?_
            simp only [Act.put, List.setIfInBounds_toArray, List.set_cons_zero, List.set_cons_succ]
            repeat (first
              | (refine wk_move _ (by first | exact wanted_none rfl | exact wanted_yes _ _ rfl rfl) rfl ?_; simp only [Act.put, Act.eval, Array.getD_eq_getD_getElem?, List.getElem?_toArray, List.getElem?_cons_succ, List.getElem?_cons_zero, Option.getD_some, List.setIfInBounds_toArray, List.set_cons_zero, List.set_cons_succ])
              | (refine wk_assign _ (by first | exact wanted_none rfl | exact wanted_yes _ _ rfl rfl) rfl ?_; simp only [Act.put, Act.eval, Array.getD_eq_getD_getElem?, List.getElem?_toArray, List.getElem?_cons_succ, List.getElem?_cons_zero, Option.getD_some, List.setIfInBounds_toArray, List.set_cons_zero, List.set_cons_succ])
              | (refine wk_pickt _ _ _ _ (by first | exact wanted_none rfl | exact wanted_yes _ _ rfl rfl) rfl rfl rfl ?_; simp only [Act.put, Act.eval, Array.getD_eq_getD_getElem?, List.getElem?_toArray, List.getElem?_cons_succ, List.getElem?_cons_zero, Option.getD_some, List.setIfInBounds_toArray, List.set_cons_zero, List.set_cons_succ])
              | (refine wk_pickf _ _ _ _ (by first | exact wanted_none rfl | exact wanted_yes _ _ rfl rfl) rfl rfl rfl ?_; simp only [Act.put, Act.eval, Array.getD_eq_getD_getElem?, List.getElem?_toArray, List.getElem?_cons_succ, List.getElem?_cons_zero, Option.getD_some, List.setIfInBounds_toArray, List.set_cons_zero, List.set_cons_succ])
              | (refine wk_skip (wanted_not _ true false rfl rfl rfl) ?_; simp only [Act.put, List.setIfInBounds_toArray, List.set_cons_zero, List.set_cons_succ])
              | (refine wk_skip (wanted_not _ false true rfl rfl rfl) ?_; simp only [Act.put, List.setIfInBounds_toArray, List.set_cons_zero, List.set_cons_succ])
              | (refine wk_skip (wanted_undef _ _ rfl rfl) ?_; simp only [Act.put, List.setIfInBounds_toArray, List.set_cons_zero, List.set_cons_succ])
              | (refine wk_not true _ _ (by first | exact wanted_none rfl | exact wanted_yes _ _ rfl rfl) rfl rfl ?_; simp only [Act.put, List.setIfInBounds_toArray, List.set_cons_zero, List.set_cons_succ])
              | (refine wk_not false _ _ (by first | exact wanted_none rfl | exact wanted_yes _ _ rfl rfl) rfl rfl ?_; simp only [Act.put, List.setIfInBounds_toArray, List.set_cons_zero, List.set_cons_succ]))
            refine wk_cmp_int .eql (true) _ _ _ _ _ _ _ (by kernel_rfl) rfl rfl rfl (by simp [cmpInt]) ?_
            simp only [Act.put, List.setIfInBounds_toArray, List.set_cons_zero, List.set_cons_succ]
            repeat (first
              | (refine wk_move _ (by first | exact wanted_none rfl | exact wanted_yes _ _ rfl rfl) rfl ?_; simp only [Act.put, Act.eval, Array.getD_eq_getD_getElem?, List.getElem?_toArray, List.getElem?_cons_succ, List.getElem?_cons_zero, Option.getD_some, List.setIfInBounds_toArray, List.set_cons_zero, List.set_cons_succ])
              | (refine wk_assign _ (by first | exact wanted_none rfl | exact wanted_yes _ _ rfl rfl) rfl ?_; simp only [Act.put, Act.eval, Array.getD_eq_getD_getElem?, List.getElem?_toArray, List.getElem?_cons_succ, List.getElem?_cons_zero, Option.getD_some, List.setIfInBounds_toArray, List.set_cons_zero, List.set_cons_succ])
              | (refine wk_pickt _ _ _ _ (by first | exact wanted_none rfl | exact wanted_yes _ _ rfl rfl) rfl rfl rfl ?_; simp only [Act.put, Act.eval, Array.getD_eq_getD_getElem?, List.getElem?_toArray, List.getElem?_cons_succ, List.getElem?_cons_zero, Option.getD_some, List.setIfInBounds_toArray, List.set_cons_zero, List.set_cons_succ])
              | (refine wk_pickf _ _ _ _ (by first | exact wanted_none rfl | exact wanted_yes _ _ rfl rfl) rfl rfl rfl ?_; simp only [Act.put, Act.eval, Array.getD_eq_getD_getElem?, List.getElem?_toArray, List.getElem?_cons_succ, List.getElem?_cons_zero, Option.getD_some, List.setIfInBounds_toArray, List.set_cons_zero, List.set_cons_succ])
              | (refine wk_skip (wanted_not _ true false rfl rfl rfl) ?_; simp only [Act.put, List.setIfInBounds_toArray, List.set_cons_zero, List.set_cons_succ])
              | (refine wk_skip (wanted_not _ false true rfl rfl rfl) ?_; simp only [Act.put, List.setIfInBounds_toArray, List.set_cons_zero, List.set_cons_succ])
              | (refine wk_skip (wanted_undef _ _ rfl rfl) ?_; simp only [Act.put, List.setIfInBounds_toArray, List.set_cons_zero, List.set_cons_succ])
              | (refine wk_not true _ _ (by first | exact wanted_none rfl | exact wanted_yes _ _ rfl rfl) rfl rfl ?_; simp only [Act.put, List.setIfInBounds_toArray, List.set_cons_zero, List.set_cons_succ])
              | (refine wk_not false _ _ (by first | exact wanted_none rfl | exact wanted_yes _ _ rfl rfl) rfl rfl ?_; simp only [Act.put, List.setIfInBounds_toArray, List.set_cons_zero, List.set_cons_succ]))
            refine wk_call 9 _ _ _ _ _ (by kernel_rfl) rfl Tryd.func9 rfl (by kernel_rfl) (fun w' hC => hC.call (shhead_any (HC.out.below (R6.out.below.trans (Below.mono hC R6.out.below.size))))) ?_
            simp only [Act.put, List.setIfInBounds_toArray, List.set_cons_zero, List.set_cons_succ]
            repeat (first
              | (refine wk_move _ (by first | exact wanted_none rfl | exact wanted_yes _ _ rfl rfl) rfl ?_; simp only [Act.put, Act.eval, Array.getD_eq_getD_getElem?, List.getElem?_toArray, List.getElem?_cons_succ, List.getElem?_cons_zero, Option.getD_some, List.setIfInBounds_toArray, List.set_cons_zero, List.set_cons_succ])
              | (refine wk_assign _ (by first | exact wanted_none rfl | exact wanted_yes _ _ rfl rfl) rfl ?_; simp only [Act.put, Act.eval, Array.getD_eq_getD_getElem?, List.getElem?_toArray, List.getElem?_cons_succ, List.getElem?_cons_zero, Option.getD_some, List.setIfInBounds_toArray, List.set_cons_zero, List.set_cons_succ])
              | (refine wk_pickt _ _ _ _ (by first | exact wanted_none rfl | exact wanted_yes _ _ rfl rfl) rfl rfl rfl ?_; simp only [Act.put, Act.eval, Array.getD_eq_getD_getElem?, List.getElem?_toArray, List.getElem?_cons_succ, List.getElem?_cons_zero, Option.getD_some, List.setIfInBounds_toArray, List.set_cons_zero, List.set_cons_succ])
              | (refine wk_pickf _ _ _ _ (by first | exact wanted_none rfl | exact wanted_yes _ _ rfl rfl) rfl rfl rfl ?_; simp only [Act.put, Act.eval, Array.getD_eq_getD_getElem?, List.getElem?_toArray, List.getElem?_cons_succ, List.getElem?_cons_zero, Option.getD_some, List.setIfInBounds_toArray, List.set_cons_zero, List.set_cons_succ])
              | (refine wk_skip (wanted_not _ true false rfl rfl rfl) ?_; simp only [Act.put, List.setIfInBounds_toArray, List.set_cons_zero, List.set_cons_succ])
              | (refine wk_skip (wanted_not _ false true rfl rfl rfl) ?_; simp only [Act.put, List.setIfInBounds_toArray, List.set_cons_zero, List.set_cons_succ])
              | (refine wk_skip (wanted_undef _ _ rfl rfl) ?_; simp only [Act.put, List.setIfInBounds_toArray, List.set_cons_zero, List.set_cons_succ])
              | (refine wk_not true _ _ (by first | exact wanted_none rfl | exact wanted_yes _ _ rfl rfl) rfl rfl ?_; simp only [Act.put, List.setIfInBounds_toArray, List.set_cons_zero, List.set_cons_succ])
              | (refine wk_not false _ _ (by first | exact wanted_none rfl | exact wanted_yes _ _ rfl rfl) rfl rfl ?_; simp only [Act.put, List.setIfInBounds_toArray, List.set_cons_zero, List.set_cons_succ]))
            refine wk_nil ?_
            intro w' hC
            have HB := Lib.hid (R6.out.since hC)
            clear hC
            go_wp2_with fail
            go_ret
            exact ⟨rfl, HB.out.below⟩
        · obtain rfl : j = nL := by omega
          obtain ⟨⟨e0, e1, e2, e3⟩, _, _, _, _⟩ := I1.out.held.cells4 3 rfl
          go_wp2_with fail
          have N1 := shput_is (HC.out.below I1.out.held.below) ⟨A, n, c, l, rfl, HSH.out.below I1.out.held.below⟩
          rw [← HPB.out, ← HE.out] at N1
          refine N1.mono ?_
          rintro e w5 ⟨rfl, hb⟩
          have q1 := (I1.out.held.call hb).alloc (blk PB) 52
          clear N1 hb e0 e1 e2 e3 I1
          go_upto_region 15 with (first
            | refine wpList_alloc_row rfl 52 rfl _ zeroB ?_
            | refine wpList_store_new rfl 52 _ _ rfl _ _ 52 rfl rfl (by rw [size_blk, HPL.out]; exact sizeB) (by rw [size_zeros, size_blk, HPL.out]) (blk_one _) ?_)
          obtain ⟨W6, hW⟩ : ∃ W, W = w5.alloc (.cells (blk PB) 52) := ⟨_, rfl⟩
          rw [← hW] at q1 ⊢
          clear hW
          obtain ⟨gq, hg⟩ : ∃ g, g = w5.heap.size := ⟨_, rfl⟩
          rw [← hg] at q1 ⊢
          clear hg
          have R6 := Lib.hid q1
          clear q1
          refine wk_plain_since ?_
          refine wk_load_row 52 _ g5 52 (blk PB) (0, 0) _ (by kernel_rfl) rfl rfl (fun w' hC => hC.row (R6.out.get 3 rfl)) Tryd.underlying52 rfl (by rw [size_blk, HPL.out]; exact sizeB) ?_
          simp only [Act.put, List.setIfInBounds_toArray, List.set_cons_zero, List.set_cons_succ]
          refine wk_load_row 52 _ gq 52 (blk PB) (0, 0) _ (by kernel_rfl) rfl rfl (fun w' hC => hC.row (R6.out.get 0 rfl)) Tryd.underlying52 rfl (by rw [size_blk, HPL.out]; exact sizeB) ?_
          simp only [Act.put, List.setIfInBounds_toArray, List.set_cons_zero, List.set_cons_succ]
          refine wk_eql .eql (true) 52 52 _ _ (by first | exact wanted_none rfl | exact wanted_yes _ _ rfl rfl) rfl _ _ rfl rfl (by kernel_rfl) (fun w => by rw [run_eql_blk w 52 5 256 Tryd.underlying52 Tryd.underlying5 sizeU8 PB PB HPL.out HPL.out]; simp) ?_
          simp only [Act.put, List.setIfInBounds_toArray, List.set_cons_zero, List.set_cons_succ]
          repeat (first
            | (refine wk_move _ (by first | exact wanted_none rfl | exact wanted_yes _ _ rfl rfl) rfl ?_; simp only [Act.put, Act.eval, Array.getD_eq_getD_getElem?, List.getElem?_toArray, List.getElem?_cons_succ, List.getElem?_cons_zero, Option.getD_some, List.setIfInBounds_toArray, List.set_cons_zero, List.set_cons_succ])
            | (refine wk_assign _ (by first | exact wanted_none rfl | exact wanted_yes _ _ rfl rfl) rfl ?_; simp only [Act.put, Act.eval, Array.getD_eq_getD_getElem?, List.getElem?_toArray, List.getElem?_cons_succ, List.getElem?_cons_zero, Option.getD_some, List.setIfInBounds_toArray, List.set_cons_zero, List.set_cons_succ])
            | (refine wk_pickt _ _ _ _ (by first | exact wanted_none rfl | exact wanted_yes _ _ rfl rfl) rfl rfl rfl ?_; simp only [Act.put, Act.eval, Array.getD_eq_getD_getElem?, List.getElem?_toArray, List.getElem?_cons_succ, List.getElem?_cons_zero, Option.getD_some, List.setIfInBounds_toArray, List.set_cons_zero, List.set_cons_succ])
            | (refine wk_pickf _ _ _ _ (by first | exact wanted_none rfl | exact wanted_yes _ _ rfl rfl) rfl rfl rfl ?_; simp only [Act.put, Act.eval, Array.getD_eq_getD_getElem?, List.getElem?_toArray, List.getElem?_cons_succ, List.getElem?_cons_zero, Option.getD_some, List.setIfInBounds_toArray, List.set_cons_zero, List.set_cons_succ])
            | (refine wk_skip (wanted_not _ true false rfl rfl rfl) ?_; simp only [Act.put, List.setIfInBounds_toArray, List.set_cons_zero, List.set_cons_succ])
            | (refine wk_skip (wanted_not _ false true rfl rfl rfl) ?_; simp only [Act.put, List.setIfInBounds_toArray, List.set_cons_zero, List.set_cons_succ])
            | (refine wk_skip (wanted_undef _ _ rfl rfl) ?_; simp only [Act.put, List.setIfInBounds_toArray, List.set_cons_zero, List.set_cons_succ])
            | (refine wk_not true _ _ (by first | exact wanted_none rfl | exact wanted_yes _ _ rfl rfl) rfl rfl ?_; simp only [Act.put, List.setIfInBounds_toArray, List.set_cons_zero, List.set_cons_succ])
            | (refine wk_not false _ _ (by first | exact wanted_none rfl | exact wanted_yes _ _ rfl rfl) rfl rfl ?_; simp only [Act.put, List.setIfInBounds_toArray, List.set_cons_zero, List.set_cons_succ]))
          refine wk_cmp_int .eql (true) _ _ _ _ _ _ _ (by kernel_rfl) rfl rfl rfl (by simp [cmpInt]) ?_
          simp only [Act.put, List.setIfInBounds_toArray, List.set_cons_zero, List.set_cons_succ]
          repeat (first
            | (refine wk_move _ (by first | exact wanted_none rfl | exact wanted_yes _ _ rfl rfl) rfl ?_; simp only [Act.put, Act.eval, Array.getD_eq_getD_getElem?, List.getElem?_toArray, List.getElem?_cons_succ, List.getElem?_cons_zero, Option.getD_some, List.setIfInBounds_toArray, List.set_cons_zero, List.set_cons_succ])
            | (refine wk_assign _ (by first | exact wanted_none rfl | exact wanted_yes _ _ rfl rfl) rfl ?_; simp only [Act.put, Act.eval, Array.getD_eq_getD_getElem?, List.getElem?_toArray, List.getElem?_cons_succ, List.getElem?_cons_zero, Option.getD_some, List.setIfInBounds_toArray, List.set_cons_zero, List.set_cons_succ])
            | (refine wk_pickt _ _ _ _ (by first | exact wanted_none rfl | exact wanted_yes _ _ rfl rfl) rfl rfl rfl ?_; simp only [Act.put, Act.eval, Array.getD_eq_getD_getElem?, List.getElem?_toArray, List.getElem?_cons_succ, List.getElem?_cons_zero, Option.getD_some, List.setIfInBounds_toArray, List.set_cons_zero, List.set_cons_succ])
            | (refine wk_pickf _ _ _ _ (by first | exact wanted_none rfl | exact wanted_yes _ _ rfl rfl) rfl rfl rfl ?_; simp only [Act.put, Act.eval, Array.getD_eq_getD_getElem?, List.getElem?_toArray, List.getElem?_cons_succ, List.getElem?_cons_zero, Option.getD_some, List.setIfInBounds_toArray, List.set_cons_zero, List.set_cons_succ])
            | (refine wk_skip (wanted_not _ true false rfl rfl rfl) ?_; simp only [Act.put, List.setIfInBounds_toArray, List.set_cons_zero, List.set_cons_succ])
            | (refine wk_skip (wanted_not _ false true rfl rfl rfl) ?_; simp only [Act.put, List.setIfInBounds_toArray, List.set_cons_zero, List.set_cons_succ])
            | (refine wk_skip (wanted_undef _ _ rfl rfl) ?_; simp only [Act.put, List.setIfInBounds_toArray, List.set_cons_zero, List.set_cons_succ])
            | (refine wk_not true _ _ (by first | exact wanted_none rfl | exact wanted_yes _ _ rfl rfl) rfl rfl ?_; simp only [Act.put, List.setIfInBounds_toArray, List.set_cons_zero, List.set_cons_succ])
            | (refine wk_not false _ _ (by first | exact wanted_none rfl | exact wanted_yes _ _ rfl rfl) rfl rfl ?_; simp only [Act.put, List.setIfInBounds_toArray, List.set_cons_zero, List.set_cons_succ]))
          refine wk_call 9 _ _ _ _ _ (by kernel_rfl) rfl Tryd.func9 rfl (by kernel_rfl) (fun w' hC => hC.call (shhead_any (HC.out.below (R6.out.below.trans (Below.mono hC R6.out.below.size))))) ?_
          simp only [Act.put, List.setIfInBounds_toArray, List.set_cons_zero, List.set_cons_succ]
          repeat (first
            | (refine wk_move _ (by first | exact wanted_none rfl | exact wanted_yes _ _ rfl rfl) rfl ?_; simp only [Act.put, Act.eval, Array.getD_eq_getD_getElem?, List.getElem?_toArray, List.getElem?_cons_succ, List.getElem?_cons_zero, Option.getD_some, List.setIfInBounds_toArray, List.set_cons_zero, List.set_cons_succ])
            | (refine wk_assign _ (by first | exact wanted_none rfl | exact wanted_yes _ _ rfl rfl) rfl ?_; simp only [Act.put, Act.eval, Array.getD_eq_getD_getElem?, List.getElem?_toArray, List.getElem?_cons_succ, List.getElem?_cons_zero, Option.getD_some, List.setIfInBounds_toArray, List.set_cons_zero, List.set_cons_succ])
            | (refine wk_pickt _ _ _ _ (by first | exact wanted_none rfl | exact wanted_yes _ _ rfl rfl) rfl rfl rfl ?_; simp only [Act.put, Act.eval, Array.getD_eq_getD_getElem?, List.getElem?_toArray, List.getElem?_cons_succ, List.getElem?_cons_zero, Option.getD_some, List.setIfInBounds_toArray, List.set_cons_zero, List.set_cons_succ])
            | (refine wk_pickf _ _ _ _ (by first | exact wanted_none rfl | exact wanted_yes _ _ rfl rfl) rfl rfl rfl ?_; simp only [Act.put, Act.eval, Array.getD_eq_getD_getElem?, List.getElem?_toArray, List.getElem?_cons_succ, List.getElem?_cons_zero, Option.getD_some, List.setIfInBounds_toArray, List.set_cons_zero, List.set_cons_succ])
            | (refine wk_skip (wanted_not _ true false rfl rfl rfl) ?_; simp only [Act.put, List.setIfInBounds_toArray, List.set_cons_zero, List.set_cons_succ])
            | (refine wk_skip (wanted_not _ false true rfl rfl rfl) ?_; simp only [Act.put, List.setIfInBounds_toArray, List.set_cons_zero, List.set_cons_succ])
            | (refine wk_skip (wanted_undef _ _ rfl rfl) ?_; simp only [Act.put, List.setIfInBounds_toArray, List.set_cons_zero, List.set_cons_succ])
            | (refine wk_not true _ _ (by first | exact wanted_none rfl | exact wanted_yes _ _ rfl rfl) rfl rfl ?_; simp only [Act.put, List.setIfInBounds_toArray, List.set_cons_zero, List.set_cons_succ])
            | (refine wk_not false _ _ (by first | exact wanted_none rfl | exact wanted_yes _ _ rfl rfl) rfl rfl ?_; simp only [Act.put, List.setIfInBounds_toArray, List.set_cons_zero, List.set_cons_succ]))
          refine wk_nil ?_
          intro w' hC
          have HB := Lib.hid (R6.out.since hC)
          clear hC
          go_wp2_with fail
          go_ret
          exact ⟨rfl, HB.out.below⟩
end
end Go.Proofs.YtcepfmjebgklfaaDoor
