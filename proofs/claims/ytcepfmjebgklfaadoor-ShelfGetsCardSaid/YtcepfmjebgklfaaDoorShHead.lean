/- The shelf layer's laws: their head holds. Shelves as arguments and as variables that are overwritten. -/
import Derived.Test.YtcepfmjebgklfaaDoorSh7
import Derived.Test.YtcepfmjebgklfaaDoorShMath
namespace Go.Proofs.YtcepfmjebgklfaaDoor
open Go.RowKit
set_option linter.unusedSimpArgs false
set_option linter.unusedVariables false
set_option maxRecDepth 100000
def hdS : ShL := newS 1
def hdA : ShL := takeS hdS 5 9
def hdB : ShL := takeS hdA 6 16
def hdC : ShL := writeS hdB 0 5 8 [3]
def hdD : ShL := giveS hdC 0 5
def hdX : ShL := takeS hdD 9 10
theorem hd1 : newE 1 = 0 := by decide
theorem hd2 : takeE hdS 5 9 = 0 ∧ takeP hdS 5 9 = 0 := by decide
theorem hd3 : takeE hdA 6 16 = 0 ∧ takeP hdA 6 16 = 1 := by decide
theorem hd4 : takeE hdB 7 8 = 2 ∧ takeP hdB 7 8 = 0 := by decide
theorem hd5 : partE hdB 0 5 8 (([3] : List UInt8).length : Int) = 0 := by decide
theorem hd6 : partE hdC 0 5 7 2 = 0 ∧ readB18 hdC 0 5 7 2 = [0, 3] := by decide
theorem hd7 : partE hdC 0 5 8 2 = 211 ∧ readB18 hdC 0 5 8 2 = [] := by decide
theorem hd8 : partE hdC 0 6 0 1 = 210 ∧ readB18 hdC 0 6 0 1 = [] := by decide
theorem hd9 : findE hdC 0 5 = 0 := by decide
theorem hd10 : takeE hdD 9 10 = 0 ∧ takeP hdD 9 10 = 0 := by decide
theorem hd11 : resizeE hdX 0 9 12 = 0 := by decide
theorem hd12 : resizeE hdX 0 9 8 = 2 := by decide
theorem hd13 : classV 8 = 0 ∧ classE 8 = 0 ∧ classV 9 = 1 ∧ classE 9 = 0 ∧ classV 237 = 6 ∧ classE 237 = 0 ∧ classV 238 = 0 ∧ classE 238 = 211 := by decide
/-- A shelf's variable, with the shelf that it holds. -/
def VarAt (w : World) (g : Nat) (s : ShL) : Prop := ∃ A n c l, w.heap[g]? = some (.cells (shV s A n c) 25 (0, 0)) ∧ ShelfOf w s A n c l
theorem VarAt.below {w w' : World} {g : Nat} {s : ShL} (h : VarAt w g s) (hb : Below w.heap.size w w') : VarAt w' g s := by
  obtain ⟨A, n, c, l, h1, h2⟩ := h
  exact ⟨A, n, c, l, (hb.block g (Array.getElem?_eq_some_iff.1 h1).1).trans h1, h2.below hb⟩
/-- Some shelves' variables. -/
structure Vars (w0 W : World) (L : List (Nat × ShL)) : Prop where
  below : Below w0.heap.size w0 W
  at_ : ∀ x ∈ L, VarAt W x.1 x.2
theorem Vars.start (w : World) : Vars w w [] := ⟨Below.refl _ _, by simp⟩
theorem Vars.call {w0 W W' : World} {L : List (Nat × ShL)} (h : Vars w0 W L) (hb : Below W.heap.size W W') : Vars w0 W' L := ⟨h.below.trans (hb.mono h.below.size), fun x hx => (h.at_ x hx).below hb⟩
theorem Vars.alloc {w0 W : World} {L : List (Nat × ShL)} (h : Vars w0 W L) {s : ShL} {A : Option Addr} {n c : Nat} {l : List CellH} (hs : ShelfOf W s A n c l) : Vars w0 (W.alloc (.cells (shV s A n c) 25)) ((W.heap.size, s) :: L) := by
  have hb : Below W.heap.size W (W.alloc (.cells (shV s A n c) 25)) := (Below.refl _ _).alloc (Nat.le_refl _) _
  refine ⟨h.below.trans (hb.mono h.below.size), fun x hx => ?_⟩
  rcases List.mem_cons.1 hx with rfl | hx
  · exact ⟨A, n, c, l, heap_alloc_new _ _, hs.below hb⟩
  · exact (h.at_ x hx).below hb
theorem Vars.get {w0 W : World} {L : List (Nat × ShL)} (h : Vars w0 W L) (k : Nat) {g : Nat} {s : ShL} (e : L[k]? = some (g, s)) : ∃ A n c l, (W.cell? ⟨g, 0, none⟩ = some (.int .u8 (s.cl : Int)) ∧ W.cell? ⟨g, 1, none⟩ = some (.int .u16 (s.prev : Int)) ∧ W.cell? ⟨g, 2, none⟩ = some (.int .u16 (s.next : Int)) ∧ W.cell? ⟨g, 3, none⟩ = some (.slice A n c)) ∧ ShelfOf W s A n c l := by
  obtain ⟨A, n, c, l, h1, h2⟩ := h.at_ _ (List.mem_of_getElem? e)
  exact ⟨A, n, c, l, ⟨cell_of_row _ _ 0 _ _ _ h1, cell_of_row _ _ 1 _ _ _ h1, cell_of_row _ _ 2 _ _ _ h1, cell_of_row _ _ 3 _ _ _ h1⟩, h2⟩
section
variable {w : World}
set_option maxHeartbeats 8000000 in
theorem shhead_any (hc : ClsAt w) : Calls Tryd.prog 9 #[] w fun e w' => e = .returned (.bool true) ∧ Below w.heap.size w w' := by
  have HC := Lib.hid hc
  clear hc
  have N1 := Lib.hid (new_is (w := w) HC.out 1 (by decide))
  rw [hd1, show newS 1 = hdS from rfl] at N1
  go_enter Tryd.func9, Tryd.ntmps9
  go_wp2_with fail
  refine N1.out.mono ?_
  rintro e w1 ⟨v, rfl, ⟨A1, n1, c1, l1, rfl, hs1, hfr⟩, hb⟩
  have R0 := Lib.hid (Vars.start w)
  have q1 := (R0.out.call hb).alloc hs1
  unfold shV at q1 ⊢
  clear hb
  go_upto_region 2 with (fail)
  obtain ⟨W1, hW⟩ : ∃ W, W = w1.alloc (.cells #[.int .u8 (hdS.cl : Int), .int .u16 (hdS.prev : Int), .int .u16 (hdS.next : Int), .slice A1 n1 c1] 25) := ⟨_, rfl⟩
  rw [← hW] at q1 ⊢
  clear hW
  obtain ⟨g1, hg⟩ : ∃ g, g = w1.heap.size := ⟨_, rfl⟩
  rw [← hg] at q1 ⊢
  clear hg hs1 hfr
  have R1 := Lib.hid q1
  clear q1
  obtain ⟨A, n, c, l, ⟨k0, k1, k2, k3⟩, hs⟩ := R1.out.get 0 rfl
  have HS := Lib.hid hs
  clear hs
  go_wp2_with fail
  have N := take_is (HC.out.below R1.out.below) ⟨A, n, c, l, rfl, HS.out⟩ 5 (by decide) 9
  rw [hd2.1, hd2.2, show takeS hdS 5 9 = hdA from rfl] at N
  refine N.mono ?_
  rintro e w2 ⟨v, rfl, ⟨A1, n1, c1, l1, rfl, hs1, hfr⟩, hb⟩
  clear k0 k1 k2 k3 N HS
  have q1 := (R1.out.call hb).alloc hs1
  unfold shV at q1 ⊢
  clear hb
  go_upto_region 3 with (fail)
  obtain ⟨W2, hW⟩ : ∃ W, W = w2.alloc (.cells #[.int .u8 (hdA.cl : Int), .int .u16 (hdA.prev : Int), .int .u16 (hdA.next : Int), .slice A1 n1 c1] 25) := ⟨_, rfl⟩
  rw [← hW] at q1 ⊢
  clear hW
  obtain ⟨g2, hg⟩ : ∃ g, g = w2.heap.size := ⟨_, rfl⟩
  rw [← hg] at q1 ⊢
  clear hg hs1 hfr
  have R2 := Lib.hid q1
  clear q1
  obtain ⟨A, n, c, l, ⟨k0, k1, k2, k3⟩, hs⟩ := R2.out.get 0 rfl
  have HS := Lib.hid hs
  clear hs
  go_wp2_with fail
  have N := take_is (HC.out.below R2.out.below) ⟨A, n, c, l, rfl, HS.out⟩ 6 (by decide) 16
  rw [hd3.1, hd3.2, show takeS hdA 6 16 = hdB from rfl] at N
  refine N.mono ?_
  rintro e w3 ⟨v, rfl, ⟨A1, n1, c1, l1, rfl, hs1, hfr⟩, hb⟩
  clear k0 k1 k2 k3 N HS
  have q1 := (R2.out.call hb).alloc hs1
  unfold shV at q1 ⊢
  clear hb
  go_upto_region 4 with (fail)
  obtain ⟨W3, hW⟩ : ∃ W, W = w3.alloc (.cells #[.int .u8 (hdB.cl : Int), .int .u16 (hdB.prev : Int), .int .u16 (hdB.next : Int), .slice A1 n1 c1] 25) := ⟨_, rfl⟩
  rw [← hW] at q1 ⊢
  clear hW
  obtain ⟨g3, hg⟩ : ∃ g, g = w3.heap.size := ⟨_, rfl⟩
  rw [← hg] at q1 ⊢
  clear hg hs1 hfr
  have R3 := Lib.hid q1
  clear q1
  obtain ⟨A, n, c, l, ⟨k0, k1, k2, k3⟩, hs⟩ := R3.out.get 0 rfl
  have HS := Lib.hid hs
  clear hs
  go_wp2_with fail
  have N := take_is (HC.out.below R3.out.below) ⟨A, n, c, l, rfl, HS.out⟩ 7 (by decide) 8
  rw [hd4.1, hd4.2, show takeS hdB 7 8 = emptySh from rfl] at N
  refine N.mono ?_
  rintro e w4 ⟨v, rfl, ⟨A1, n1, c1, l1, rfl, hs1, hfr⟩, hb⟩
  clear k0 k1 k2 k3 N HS
  have q1 := (R3.out.call hb).alloc hs1
  unfold shV at q1 ⊢
  clear hb
  go_upto_region 5 with (fail)
  obtain ⟨W4, hW⟩ : ∃ W, W = w4.alloc (.cells #[.int .u8 (emptySh.cl : Int), .int .u16 (emptySh.prev : Int), .int .u16 (emptySh.next : Int), .slice A1 n1 c1] 25) := ⟨_, rfl⟩
  rw [← hW] at q1 ⊢
  clear hW
  obtain ⟨g4, hg⟩ : ∃ g, g = w4.heap.size := ⟨_, rfl⟩
  rw [← hg] at q1 ⊢
  clear hg hs1 hfr
  have R4 := Lib.hid q1
  clear q1
  obtain ⟨A, n, c, l, ⟨k0, k1, k2, k3⟩, hs⟩ := R4.out.get 1 rfl
  go_wp2_with fail
  have hb4 : Below W4.heap.size W4 (W4.alloc (.cells #[.int .u8 3] 5)) := (Below.refl _ _).alloc (Nat.le_refl _) _
  have R5 := Lib.hid (R4.out.call hb4)
  have N := write_is (w := W4.alloc (.cells #[.int .u8 3] 5)) (HC.out.below R5.out.below) ⟨A, n, c, l, rfl, hs.below hb4⟩ 0 5 8 (some ⟨W4.heap.size, 0, none⟩) 1 1 [3] (.inr ⟨_, 0, rfl, by simp, fun j hj => by
    obtain rfl : j = 0 := by simpa using hj
    rw [Nat.zero_add, cell_of_row _ _ 0 _ _ _ (heap_alloc_new _ _)]; rfl⟩) rfl (by decide)
  rw [hd5, show writeS hdB 0 5 8 [3] = hdC from rfl] at N
  refine N.mono ?_
  clear hb4 hs k0 k1 k2 k3 N
  rintro e w5 ⟨v, rfl, ⟨A1, n1, c1, l1, rfl, hs1, hfr⟩, hb⟩
  have q1 := (R5.out.call hb).alloc hs1
  unfold shV at q1 ⊢
  clear hb
  go_upto_region 6 with (fail)
  obtain ⟨W5, hW⟩ : ∃ W, W = w5.alloc (.cells #[.int .u8 (hdC.cl : Int), .int .u16 (hdC.prev : Int), .int .u16 (hdC.next : Int), .slice A1 n1 c1] 25) := ⟨_, rfl⟩
  rw [← hW] at q1 ⊢
  clear hW
  obtain ⟨g5, hg⟩ : ∃ g, g = w5.heap.size := ⟨_, rfl⟩
  rw [← hg] at q1 ⊢
  clear hg hs1 hfr
  have R6 := Lib.hid q1
  clear q1
  obtain ⟨A, n, c, l, ⟨k0, k1, k2, k3⟩, hs⟩ := R6.out.get 0 rfl
  have HS := Lib.hid hs
  clear hs
  go_wp2_with fail
  have N := read_is (HC.out.below R6.out.below) ⟨A, n, c, l, rfl, HS.out⟩ 0 5 7 2
  rw [hd6.1, hd6.2] at N
  refine N.mono ?_
  rintro e w6 ⟨A1, c1, rfl, hcap, hby, hb⟩
  have R7 := Lib.hid (R6.out.call hb)
  obtain ⟨gr, off, rfl, hgr, hat⟩ := hby.resolve_left (by simp)
  have HAT := Lib.hid (show gr < w6.heap.size ∧ BytesAt w6 gr off [0, 3] from ⟨hgr, hat⟩)
  have HR7 := R7
  clear k0 k1 k2 k3 N HS hb hcap hgr hat HR7
  go_upto_region 7 with (fail)
  have HAT := HAT
  obtain ⟨A, n, c, l, ⟨k0, k1, k2, k3⟩, hs⟩ := R7.out.get 0 rfl
  have HS := Lib.hid hs
  clear hs
  go_wp2_with fail
  have N := read_is (HC.out.below R7.out.below) ⟨A, n, c, l, rfl, HS.out⟩ 0 5 8 2
  rw [hd7.1, hd7.2] at N
  refine N.mono ?_
  rintro e w7 ⟨A2, c2, rfl, hcap, hby, hb⟩
  have R8 := Lib.hid (R7.out.call hb)
  have HAT := Lib.hid (show gr < w7.heap.size ∧ BytesAt w7 gr off [0, 3] from ⟨Nat.lt_of_lt_of_le HAT.out.1 hb.size, HAT.out.2.under HAT.out.1 hb⟩)
  clear k0 k1 k2 k3 N HS hb hcap hby
  go_upto_region 8 with (fail)
  obtain ⟨A, n, c, l, ⟨k0, k1, k2, k3⟩, hs⟩ := R8.out.get 0 rfl
  have HS := Lib.hid hs
  clear hs
  go_wp2_with fail
  have N := read_is (HC.out.below R8.out.below) ⟨A, n, c, l, rfl, HS.out⟩ 0 6 0 1
  rw [hd8.1, hd8.2] at N
  refine N.mono ?_
  rintro e w8 ⟨A3, c3, rfl, hcap, hby, hb⟩
  have R9 := Lib.hid (R8.out.call hb)
  have HAT := Lib.hid (show gr < w8.heap.size ∧ BytesAt w8 gr off [0, 3] from ⟨Nat.lt_of_lt_of_le HAT.out.1 hb.size, HAT.out.2.under HAT.out.1 hb⟩)
  clear k0 k1 k2 k3 N HS hb hcap hby
  go_upto_region 9 with (fail)
  obtain ⟨A, n, c, l, ⟨k0, k1, k2, k3⟩, hs⟩ := R9.out.get 0 rfl
  have HS := Lib.hid hs
  clear hs
  go_wp2_with fail
  have N := give_is (HC.out.below R9.out.below) ⟨A, n, c, l, rfl, HS.out⟩ 0 5
  rw [hd9, show giveS hdC 0 5 = hdD from rfl] at N
  refine N.mono ?_
  rintro e w9 ⟨v, rfl, ⟨A1, n1, c1, l1, rfl, hs1, hfr⟩, hb⟩
  have HAT := Lib.hid (show gr < (w9.alloc (.cells (shV hdD A1 n1 c1) 25)).heap.size ∧ BytesAt (w9.alloc (.cells (shV hdD A1 n1 c1) 25)) gr off [0, 3] from ⟨Nat.lt_of_lt_of_le HAT.out.1 (hb.alloc hb.size _).size, HAT.out.2.under HAT.out.1 (hb.alloc hb.size _)⟩)
  unfold shV at HAT
  clear k0 k1 k2 k3 N HS
  have q1 := (R9.out.call hb).alloc hs1
  unfold shV at q1 ⊢
  clear hb
  go_upto_region 10 with (fail)
  obtain ⟨W9, hW⟩ : ∃ W, W = w9.alloc (.cells #[.int .u8 (hdD.cl : Int), .int .u16 (hdD.prev : Int), .int .u16 (hdD.next : Int), .slice A1 n1 c1] 25) := ⟨_, rfl⟩
  rw [← hW] at q1 HAT ⊢
  clear hW
  obtain ⟨g9, hg⟩ : ∃ g, g = w9.heap.size := ⟨_, rfl⟩
  rw [← hg] at q1 ⊢
  clear hg hs1 hfr
  have R10 := Lib.hid q1
  clear q1
  obtain ⟨A, n, c, l, ⟨k0, k1, k2, k3⟩, hs⟩ := R10.out.get 0 rfl
  have HS := Lib.hid hs
  clear hs
  go_wp2_with fail
  have N := take_is (HC.out.below R10.out.below) ⟨A, n, c, l, rfl, HS.out⟩ 9 (by decide) 10
  rw [hd10.1, hd10.2, show takeS hdD 9 10 = hdX from rfl] at N
  refine N.mono ?_
  rintro e w10 ⟨v, rfl, ⟨A1, n1, c1, l1, rfl, hs1, hfr⟩, hb⟩
  have HAT := Lib.hid (show gr < (w10.alloc (.cells (shV hdX A1 n1 c1) 25)).heap.size ∧ BytesAt (w10.alloc (.cells (shV hdX A1 n1 c1) 25)) gr off [0, 3] from ⟨Nat.lt_of_lt_of_le HAT.out.1 (hb.alloc hb.size _).size, HAT.out.2.under HAT.out.1 (hb.alloc hb.size _)⟩)
  unfold shV at HAT
  clear k0 k1 k2 k3 N HS
  have q1 := (R10.out.call hb).alloc hs1
  unfold shV at q1 ⊢
  clear hb
  go_upto_region 11 with (fail)
  obtain ⟨W10, hW⟩ : ∃ W, W = w10.alloc (.cells #[.int .u8 (hdX.cl : Int), .int .u16 (hdX.prev : Int), .int .u16 (hdX.next : Int), .slice A1 n1 c1] 25) := ⟨_, rfl⟩
  rw [← hW] at q1 HAT ⊢
  clear hW
  obtain ⟨g10, hg⟩ : ∃ g, g = w10.heap.size := ⟨_, rfl⟩
  rw [← hg] at q1 ⊢
  clear hg hs1 hfr
  have R11 := Lib.hid q1
  clear q1
  obtain ⟨A, n, c, l, ⟨k0, k1, k2, k3⟩, hs⟩ := R11.out.get 0 rfl
  have HS := Lib.hid hs
  clear hs
  go_wp2_with fail
  have N := resize_is (HC.out.below R11.out.below) ⟨A, n, c, l, rfl, HS.out⟩ 0 9 12
  rw [hd11] at N
  refine N.mono ?_
  rintro e w11 ⟨v, rfl, ⟨A1, n1, c1, l1, rfl, hs1, hfr⟩, hb⟩
  have HAT := Lib.hid (show gr < (w11.alloc (.cells (shV (resizeS hdX 0 9 12) A1 n1 c1) 25)).heap.size ∧ BytesAt (w11.alloc (.cells (shV (resizeS hdX 0 9 12) A1 n1 c1) 25)) gr off [0, 3] from ⟨Nat.lt_of_lt_of_le HAT.out.1 (hb.alloc hb.size _).size, HAT.out.2.under HAT.out.1 (hb.alloc hb.size _)⟩)
  unfold shV at HAT
  clear k0 k1 k2 k3 N HS
  have q1 := (R11.out.call hb).alloc hs1
  unfold shV at q1 ⊢
  clear hb
  go_upto_region 12 with (fail)
  obtain ⟨W11, hW⟩ : ∃ W, W = w11.alloc (.cells #[.int .u8 ((resizeS hdX 0 9 12).cl : Int), .int .u16 ((resizeS hdX 0 9 12).prev : Int), .int .u16 ((resizeS hdX 0 9 12).next : Int), .slice A1 n1 c1] 25) := ⟨_, rfl⟩
  rw [← hW] at q1 HAT ⊢
  clear hW
  obtain ⟨g11, hg⟩ : ∃ g, g = w11.heap.size := ⟨_, rfl⟩
  rw [← hg] at q1 ⊢
  clear hg hs1 hfr
  have R12 := Lib.hid q1
  clear q1
  obtain ⟨A, n, c, l, ⟨k0, k1, k2, k3⟩, hs⟩ := R12.out.get 1 rfl
  have HS := Lib.hid hs
  clear hs
  go_wp2_with fail
  have N := resize_is (HC.out.below R12.out.below) ⟨A, n, c, l, rfl, HS.out⟩ 0 9 8
  rw [hd12] at N
  refine N.mono ?_
  rintro e w12 ⟨v, rfl, ⟨A1, n1, c1, l1, rfl, hs1, hfr⟩, hb⟩
  have HAT := Lib.hid (show gr < (w12.alloc (.cells (shV (resizeS hdX 0 9 8) A1 n1 c1) 25)).heap.size ∧ BytesAt (w12.alloc (.cells (shV (resizeS hdX 0 9 8) A1 n1 c1) 25)) gr off [0, 3] from ⟨Nat.lt_of_lt_of_le HAT.out.1 (hb.alloc hb.size _).size, HAT.out.2.under HAT.out.1 (hb.alloc hb.size _)⟩)
  unfold shV at HAT
  clear k0 k1 k2 k3 N HS
  have q1 := (R12.out.call hb).alloc hs1
  unfold shV at q1 ⊢
  clear hb
  go_upto_region 13 with (fail)
  obtain ⟨W12, hW⟩ : ∃ W, W = w12.alloc (.cells #[.int .u8 ((resizeS hdX 0 9 8).cl : Int), .int .u16 ((resizeS hdX 0 9 8).prev : Int), .int .u16 ((resizeS hdX 0 9 8).next : Int), .slice A1 n1 c1] 25) := ⟨_, rfl⟩
  rw [← hW] at q1 HAT ⊢
  clear hW
  obtain ⟨g12, hg⟩ : ∃ g, g = w12.heap.size := ⟨_, rfl⟩
  rw [← hg] at q1 ⊢
  clear hg hs1 hfr
  have R13 := Lib.hid q1
  clear q1
  have N := class_is (HC.out.below R13.out.below) 8
  rw [hd13.1, hd13.2.1] at N
  go_wp2_with fail
  refine N.mono ?_
  rintro e w13 ⟨rfl, hb⟩
  have R14 := Lib.hid (R13.out.call hb)
  have HAT := Lib.hid (show gr < w13.heap.size ∧ BytesAt w13 gr off [0, 3] from ⟨Nat.lt_of_lt_of_le HAT.out.1 hb.size, HAT.out.2.under HAT.out.1 hb⟩)
  clear hb N
  go_upto_region 14 with (fail)
  have N := class_is (HC.out.below R14.out.below) 9
  rw [hd13.2.2.1, hd13.2.2.2.1] at N
  go_wp2_with fail
  refine N.mono ?_
  rintro e w14 ⟨rfl, hb⟩
  have R15 := Lib.hid (R14.out.call hb)
  have HAT := Lib.hid (show gr < w14.heap.size ∧ BytesAt w14 gr off [0, 3] from ⟨Nat.lt_of_lt_of_le HAT.out.1 hb.size, HAT.out.2.under HAT.out.1 hb⟩)
  clear hb N
  go_upto_region 15 with (fail)
  have N := class_is (HC.out.below R15.out.below) 237
  rw [hd13.2.2.2.2.1, hd13.2.2.2.2.2.1] at N
  go_wp2_with fail
  refine N.mono ?_
  rintro e w15 ⟨rfl, hb⟩
  have R16 := Lib.hid (R15.out.call hb)
  have HAT := Lib.hid (show gr < w15.heap.size ∧ BytesAt w15 gr off [0, 3] from ⟨Nat.lt_of_lt_of_le HAT.out.1 hb.size, HAT.out.2.under HAT.out.1 hb⟩)
  clear hb N
  go_upto_region 16 with (fail)
  have N := class_is (HC.out.below R16.out.below) 238
  rw [hd13.2.2.2.2.2.2.1, hd13.2.2.2.2.2.2.2] at N
  go_wp2_with fail
  refine N.mono ?_
  rintro e w16 ⟨rfl, hb⟩
  have R17 := Lib.hid (R16.out.call hb)
  have HAT := Lib.hid (show gr < w16.heap.size ∧ BytesAt w16 gr off [0, 3] from ⟨Nat.lt_of_lt_of_le HAT.out.1 hb.size, HAT.out.2.under HAT.out.1 hb⟩)
  clear hb N
  go_upto_region 17 with (fail)
  have b0 : w16.cell? ⟨gr, off, none⟩ = some (.int .u8 0) := HAT.out.2 0 (by decide)
  have b1 : w16.cell? ⟨gr, off + 1, none⟩ = some (.int .u8 3) := HAT.out.2 1 (by decide)
  go_wp2_with fail
  go_ret
  exact ⟨rfl, R17.out.below⟩
end
end Go.Proofs.YtcepfmjebgklfaaDoor
namespace Go.Proofs.YtcepfmjebgklfaaDoor
open Go.RowKit
set_option linter.unusedSimpArgs false
set_option linter.unusedVariables false
set_option maxRecDepth 100000
/-- A shelf as an argument, of whatever size. -/
structure ShArg (w : World) (s : ShL) (A : Option Addr) (n c : Nat) (l : List CellH) : Prop where
  cells : CellsIn w A n l
  dat : l.map CellH.dat = s.cells
  cap : n ≤ c
  cl : s.cl < 256
  prev : s.prev < 65536
  next : s.next < 65536
  nmax : n ≤ 9223372036854775807
  mmax : ∀ x ∈ l, x.m ≤ 9223372036854775807
theorem ShArg.shelf {w : World} {s : ShL} {A : Option Addr} {n c : Nat} {l : List CellH} (h : ShArg w s A n c l) (h30 : n ≤ 30) (h4 : ∀ x ∈ l, x.m ≤ 400) : ShelfOf w s A n c l := by
  refine ⟨h.cells, h.dat, h.cap, h.cl, h.prev, h.next, ?_, ?_⟩
  · rw [← h.dat, List.length_map, h.cells.len]; exact h30
  · intro x hx
    rw [← h.dat] at hx
    obtain ⟨y, hy, rfl⟩ := List.mem_map.1 hx
    have := (h.cells.ok y hy).len
    have := h4 y hy
    show y.data.length ≤ 400
    omega
theorem ShArg.below {w w' : World} {s : ShL} {A : Option Addr} {n c : Nat} {l : List CellH} (h : ShArg w s A n c l) (hb : Below w.heap.size w w') : ShArg w' s A n c l := ⟨h.cells.below hb, h.dat, h.cap, h.cl, h.prev, h.next, h.nmax, h.mmax⟩
theorem cell_block {w w' : World} {p : Addr} (h : w'.heap[p.block]? = w.heap[p.block]?) : w'.cell? p = w.cell? p := by
  obtain ⟨b, i, f⟩ := p
  simp only [World.cell?] at h ⊢
  rw [h]
/-- A shelf where another block is written. -/
theorem ShelfOf.only {w w' : World} {s : ShL} {A : Option Addr} {n c g : Nat} {l : List CellH} (h : ShelfOf w s A n c l) (ha : Avoids g A n l) (ho : Only [g] w w') : ShelfOf w' s A n c l := by
  refine ⟨⟨h.cells.len, ?_, fun x hx => ?_⟩, h.dat, h.cap, h.cl, h.prev, h.next, h.small⟩
  · rcases h.cells.at_ with h0 | ⟨b, off, rfl, h1, h2⟩
    · exact .inl h0
    · by_cases h0 : n = 0
      · exact .inl h0
      have hne : b ≠ g := ha.1 h0 _ rfl
      exact .inr ⟨b, off, rfl, Nat.lt_of_lt_of_le h1 ho.size, fun i hi j v hj => (cell_block (ho.block b h1 (by simpa using hne))).trans (h2 i hi j v hj)⟩
  · have q := h.cells.ok x hx
    refine ⟨q.len, q.cap, q.ser, ?_⟩
    rcases q.by_ with h0 | ⟨b, off, hA, h1, h2⟩
    · exact .inl h0
    · by_cases h0 : x.data = []
      · exact .inl h0
      have hne : b ≠ g := ha.2 x hx h0 _ hA
      exact .inr ⟨b, off, hA, Nat.lt_of_lt_of_le h1 ho.size, fun i hi => (cell_block (ho.block b h1 (by simpa using hne))).trans (h2 i hi)⟩
/-- What stands in memory keeps clear of the blocks behind. -/
theorem ShelfOf.avoids {w : World} {s : ShL} {A : Option Addr} {n c g : Nat} {l : List CellH} (h : ShelfOf w s A n c l) (hg : w.heap.size ≤ g) : Avoids g A n l := by
  refine ⟨fun h0 a ha => ?_, fun x hx h0 a ha => ?_⟩
  · rcases h.cells.at_ with h1 | ⟨b, off, rfl, h1, h2⟩
    · exact absurd h1 h0
    · cases ha; show b ≠ g; omega
  · rcases (h.cells.ok x hx).by_ with h1 | ⟨b, off, hA, h1, h2⟩
    · exact absurd h1 h0
    · rw [hA] at ha; cases ha; show b ≠ g; omega
theorem only4 (w : World) (g : Nat) (a b c d : Value) : Only [g] w ((((w.setCell ⟨g, 0, none⟩ a).setCell ⟨g, 1, none⟩ b).setCell ⟨g, 2, none⟩ c).setCell ⟨g, 3, none⟩ d) :=
  ((((Only.refl _ _).setCell (.inl (by simp)) _).setCell (.inl (by simp)) _).setCell (.inl (by simp)) _).setCell (.inl (by simp)) _
/-- The classes' table lies at block 0: it is not what is written. -/
theorem ClsAt.only {w w' : World} {g : Nat} (h : ClsAt w) (hg : 0 < g) (ho : Only [g] w w') : ClsAt w' := by
  exact ⟨Nat.lt_of_lt_of_le h.1 ho.size, fun j v hv => (cell_block (ho.block 0 h.1 (by simp; omega))).trans (h.2 j v hv)⟩
section
variable {P : Program} {o : Oper} {a : Act} {w : World} {K : Act → World → Prop} {Q : Exit → Act → World → Prop}
theorem wpo_make0 (t e : TypeId) (x y : Operand) (i : TypeInfo) (z : Value) (n sz bytes : Nat) (ho : o.op = .makeSlice t x y) (ht : P.underlying t = some (.slice e)) (hi : P.info? e = some i) (hz : i.zero = some z)
    (hs : i.size = sz) (hb : i.bytes = bytes) (hx : a.eval x = .int .i64 (n : Int)) (hy : a.eval y = .int .i64 (n : Int)) (hn : n ≤ 1000) (hsz : sz ≤ 10) (hbz : bytes ≤ 100)
    (h : K (a.put o.dst (.slice (some ⟨w.heap.size, 0, none⟩) n n)) (w.alloc (.cells (madeCells z.cells (n * sz)) e))) : o.wp P a w K Q := by
  have h1 : n * sz ≤ 1000 * 10 := Nat.mul_le_mul hn hsz
  have h2 : bytes * n ≤ 100 * 1000 := Nat.mul_le_mul hbz hn
  have h3 : ((bytes * n : Nat) : Int) = (bytes : Int) * (n : Int) := by push_cast; rfl
  have := run_makeSlice w t e i z ht hi hz .i64 .i64 (n : Int) (n : Int) (by omega) (by omega) (by simp only [Int.toNat_natCast]; rw [hs]; omega) (by rw [hb]; omega) (by omega)
  simp only [Int.toNat_natCast, hs] at this
  unfold Oper.wp execOp
  simp only [ho, hx, hy, Sem.run_bind, this, Result.andThen_ok, Sem.run_pure]
  exact h
theorem wpo_neq_str (r : Bool) (t ty : TypeId) (x y : Operand) (m n : ByteArray) (ho : o.op = .binOp .neq t x y ty)
    (hx : a.eval x = .string m) (hy : a.eval y = .string n) (hr : (!decide (m = n)) = r) (h : K (a.put o.dst (.bool r)) w) : o.wp P a w K Q :=
  wpo_bin _ .neq t ty x y ho (by
    have h0 : (eqGuard .neq t x y (.string m) (.string n)).run P w = .ok () w := rfl
    simp only [hx, hy, Sem.run_bind, h0, Result.andThen_ok, run_neq_string w t, str_beq, hr]) h
end
section
variable {P : Program} {ops : Array Oper} {C : World → Prop} {Q : Act → Prop} {rest : List Oper} {o : Oper} {a : Act}
theorem wk_bytes_in (src dst e : TypeId) (x : Operand) (A : Option Addr) (n c : Nat) (l : List UInt8) (S : ByteArray) (hw : Region.wanted o (yielded ops a.tmps) = true) (ho : o.op = .convert src dst x)
    (hx : a.eval x = .slice A n c) (hs : P.underlying src = some (.slice e)) (he : P.underlying e = some (.int .u8)) (hd : P.underlying dst = some .string)
    (hl : l.length = n) (hS : S = ⟨l.toArray⟩) (hg : ∀ w, C w → BytesIn w A l) (h : WQ P ops C Q rest (a.put o.dst (.string S))) : WQ P ops C Q (o :: rest) a :=
  wk_val _ hw (fun w hC => by
    unfold execOp
    rw [hS]
    simp only [ho, hx, Sem.run_bind, run_bytes_in w src dst e A n c hs he hd l hl (hg w hC), Sem.run_pure, Result.andThen_ok]) h
end
/-- Bytes that have just been made. -/
theorem made_bytes (w : World) (n : Nat) (T : TypeId) : BytesAt (w.alloc (.cells (madeCells #[.int .u8 0] (n * 1)) T)) w.heap.size 0 (List.replicate n 0) := by
  intro i hi
  rw [made_zeros, Nat.zero_add, cell_of_row _ _ _ _ _ _ (heap_alloc_new _ _)]
  rw [List.length_replicate] at hi
  simp [List.getElem?_replicate, hi, vu8]
end Go.Proofs.YtcepfmjebgklfaaDoor
