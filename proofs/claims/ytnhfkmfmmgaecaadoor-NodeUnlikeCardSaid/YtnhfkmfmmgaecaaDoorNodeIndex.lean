/- The node layer: Index, the document's Index. -/
import Derived.Test.YtnhfkmfmmgaecaaDoorNode
import Derived.ScopeJumps
import Derived.WalkMore
namespace Go.Proofs.YtnhfkmfmmgaecaaDoor
open Go.RowKit
set_option linter.unusedSimpArgs false
set_option maxRecDepth 100000
/-- The place of a page at a level. -/
def placeN (p lev : Nat) : Nat := if p < 32768 ∧ 1 ≤ lev ∧ lev ≤ 3 then p / 32 ^ (lev - 1) % 32 else 0
def placeE (p lev : Nat) : Int := if p < 32768 ∧ 1 ≤ lev ∧ lev ≤ 3 then 0 else 2
set_option maxHeartbeats 1000000 in
theorem index_any (p lev : Nat) (hp : p < 4294967296) (hl : lev < 256) (w : World) :
    Calls Tryd.prog 44 #[.int .u32 (p : Int), .int .u8 (lev : Int)] w fun e w' => e = .returned (.tuple #[.int .i64 (placeN p lev : Int), .int .i64 (placeE p lev)]) ∧ w = w' := by
  have HN : Hid (placeN p lev = if p < 32768 ∧ 1 ≤ lev ∧ lev ≤ 3 then p / 32 ^ (lev - 1) % 32 else 0) := Lib.hid rfl
  have HE : Hid (placeE p lev = if p < 32768 ∧ 1 ≤ lev ∧ lev ≤ 3 then 0 else 2) := Lib.hid rfl
  obtain ⟨z, hz⟩ : ∃ z : Int, z = (p : Int) := ⟨_, rfl⟩
  rw [← hz]
  have z0 : 0 ≤ z := by omega
  have z1 : z < 4294967296 := by omega
  have HZ := Lib.hid hz
  have HP := Lib.hid hp
  clear hz hp
  go_enter Tryd.func44, Tryd.ntmps44
  go_wp2_with fail
  refine wp_scope_jumps 0 (fun a' w' => ∃ (y : Int) (q j : Nat) (u6 u7 u8 u9 u10 u11 u12 u13 u14 u15 u16 u17 u18 u19 u20 u21 u22 u23 u24 : Value), a' = { tmps := #[.int .u32 y, .int .u8 (j : Int), undef, undef, .int .i64 0, .int .i64 0, u6, u7, u8, u9, u10, u11, u12, u13, u14, u15, u16, u17, u18, u19, u20, u21, u22, u23, u24], defers := [] } ∧ y = (q : Int) ∧ p < 32768 ∧ q < 32768 ∧ 1 ≤ j ∧ j < lev ∧ lev ≤ 3 ∧ q = p / 32 ^ (lev - j) ∧ w = w') (fun a' _ => (intOf (a'.tmps.getD 1 undef)).toNat) rfl ?_ ?_
  · by_cases h1 : z < 32768
    · have HP1 : Hid (p < 32768) := Lib.hid (by have := HZ.out; omega)
      by_cases h2 : 1 ≤ lev
      · by_cases h3 : lev ≤ 3
        · have HNN : Hid (placeN p lev = p / 32 ^ (lev - 1) % 32) := Lib.hid (by rw [HN.out, if_pos ⟨HP1.out, h2, h3⟩])
          have HEE : Hid (placeE p lev = 0) := Lib.hid (by rw [HE.out, if_pos ⟨HP1.out, h2, h3⟩])
          by_cases h4 : 1 < lev
          · have E2 : Hid ((lev : Int) - 1 = ((lev - 1 : Nat) : Int)) := Lib.hid (by omega)
            have E3 : Hid (lev - (lev - 1) = 1) := Lib.hid (by omega)
            go_wp2_with fail
            go_step3
            go_wp2_with fail
            go_step3
            rw [E2.out]
            exact ⟨rfl, _, p / 32, lev - 1, _, _, _, _, _, _, _, _, _, _, _, _, _, _, _, _, _, _, _, rfl, by rw [HZ.out]; omega, HP1.out, by have := HP1.out; omega, by omega, by omega, h3, by rw [E3.out], rfl⟩
          · obtain rfl : lev = 1 := by omega
            have HM : Hid (placeN p 1 = p % 32) := Lib.hid (by rw [HNN.out]; simp)
            go_wp2_with fail
            go_step3
            go_wp2_with fail
            simp only [Exit.jump]
            go_ret2
            exact ⟨by rw [HM.out, HEE.out, show ((p % 32 : Nat) : Int) = z % 32 by rw [HZ.out]; omega]; rfl, rfl⟩
        · have HNN : Hid (placeN p lev = 0) := Lib.hid (by rw [HN.out, if_neg (fun h => h3 h.2.2)])
          have HEE : Hid (placeE p lev = 2) := Lib.hid (by rw [HE.out, if_neg (fun h => h3 h.2.2)])
          go_wp2_with fail
          simp only [Exit.jump]
          go_ret2
          exact ⟨by rw [HNN.out, HEE.out]; rfl, rfl⟩
      · have HNN : Hid (placeN p lev = 0) := Lib.hid (by rw [HN.out, if_neg (fun h => h2 h.2.1)])
        have HEE : Hid (placeE p lev = 2) := Lib.hid (by rw [HE.out, if_neg (fun h => h2 h.2.1)])
        go_wp2_with fail
        simp only [Exit.jump]
        go_ret2
        exact ⟨by rw [HNN.out, HEE.out]; rfl, rfl⟩
    · have HNN : Hid (placeN p lev = 0) := Lib.hid (by rw [HN.out, if_neg (fun h => h1 (by have := HZ.out; omega))])
      have HEE : Hid (placeE p lev = 2) := Lib.hid (by rw [HE.out, if_neg (fun h => h1 (by have := HZ.out; omega))])
      go_wp2_with fail
      simp only [Exit.jump]
      go_ret2
      exact ⟨by rw [HNN.out, HEE.out]; rfl, rfl⟩
  · rintro a' w' ⟨y, q, j, u6, u7, u8, u9, u10, u11, u12, u13, u14, u15, u16, u17, u18, u19, u20, u21, u22, u23, u24, rfl, hy, h1, h2, h3, h4, h5, hq, rfl⟩
    have HNN : Hid (placeN p lev = p / 32 ^ (lev - 1) % 32) := Lib.hid (by rw [HN.out, if_pos ⟨h1, by omega, h5⟩])
    have HEE : Hid (placeE p lev = 0) := Lib.hid (by rw [HE.out, if_pos ⟨h1, by omega, h5⟩])
    have y0 : 0 ≤ y := by omega
    have y1 : y < 32768 := by omega
    have HY := Lib.hid hy
    have HQ := Lib.hid hq
    have H1 := Lib.hid h1
    have H2 := Lib.hid h2
    clear hy hq h1 h2 z0 z1 HZ
    by_cases h6 : 1 < j
    · have E2 : Hid ((j : Int) - 1 = ((j - 1 : Nat) : Int)) := Lib.hid (by omega)
      have E3 : Hid (q / 32 = p / 32 ^ (lev - (j - 1))) := Lib.hid (by
        rw [HQ.out, show lev - (j - 1) = (lev - j) + 1 by omega, Nat.pow_succ, Nat.div_div_eq_div_mul])
      go_wp2_with fail
      go_step3
      rw [E2.out]
      exact ⟨rfl, ⟨_, q / 32, j - 1, _, _, _, _, _, _, _, _, _, _, _, _, _, _, _, _, _, _, _, rfl, by rw [HY.out]; omega, H1.out, by have := H2.out; omega, by omega, by omega, h5, E3.out, rfl⟩, by simp [intOf]; omega⟩
    · obtain rfl : j = 1 := by omega
      have HM : Hid (placeN p lev = q % 32) := Lib.hid (by rw [HNN.out, HQ.out])
      go_wp2_with fail
      simp only [Exit.jump]
      go_ret2
      exact ⟨by rw [HM.out, HEE.out, show ((q % 32 : Nat) : Int) = y % 32 by rw [HY.out]; omega]; rfl, rfl⟩
set_option maxHeartbeats 1000000 in
theorem refindex_any (p lev : Nat) (hp : p < 4294967296) (hl : lev < 256) (w : World) :
    Calls Tryd.prog 45 #[.int .u32 (p : Int), .int .u8 (lev : Int)] w fun e w' => e = .returned (.tuple #[.int .i64 (placeN p lev : Int), .int .i64 (placeE p lev)]) ∧ w = w' := by
  have HN : Hid (placeN p lev = if p < 32768 ∧ 1 ≤ lev ∧ lev ≤ 3 then p / 32 ^ (lev - 1) % 32 else 0) := Lib.hid rfl
  have HE : Hid (placeE p lev = if p < 32768 ∧ 1 ≤ lev ∧ lev ≤ 3 then 0 else 2) := Lib.hid rfl
  obtain ⟨z, hz⟩ : ∃ z : Int, z = (p : Int) := ⟨_, rfl⟩
  rw [← hz]
  have z0 : 0 ≤ z := by omega
  have z1 : z < 4294967296 := by omega
  have HZ := Lib.hid hz
  clear hz hp
  by_cases h1 : z < 32768
  · have HP1 : Hid (p < 32768) := Lib.hid (by have := HZ.out; omega)
    by_cases h2 : 1 ≤ lev
    · by_cases h3 : lev ≤ 3
      · have HNN : Hid (placeN p lev = p / 32 ^ (lev - 1) % 32) := Lib.hid (by rw [HN.out, if_pos ⟨HP1.out, h2, h3⟩])
        have HEE : Hid (placeE p lev = 0) := Lib.hid (by rw [HE.out, if_pos ⟨HP1.out, h2, h3⟩])
        go_enter Tryd.func45, Tryd.ntmps45
        go_wp2_with fail
        go_loop [6, 7] (fun n i => ∃ (y : Int) (k q : Nat), 1 ≤ k ∧ k ≤ lev ∧ i = .int .u8 k ∧ n = .int .u32 y ∧ 0 ≤ y ∧ y < 32768 ∧ y = (q : Int) ∧ q = p / 32 ^ (k - 1)) (fun _ i => lev - (intOf i).toNat)
        case atStart => exact ⟨z, 1, p, by omega, by omega, rfl, rfl, z0, h1, HZ.out, by simp⟩
        case round =>
          obtain ⟨y, k, q, hk1, hk, rfl, rfl, y0, y1, hy, hq⟩ := hrel
          have HY := Lib.hid hy
          have HQ := Lib.hid hq
          clear hy hq
          by_cases hlt : k < lev
          · have E3 : Hid (q / 32 = p / 32 ^ (k + 1 - 1)) := Lib.hid (by
              rw [HQ.out, show k + 1 - 1 = (k - 1) + 1 by omega, Nat.pow_succ, Nat.div_div_eq_div_mul])
            go_wp2_with fail
            exact ⟨⟨_, k + 1, q / 32, by omega, by omega, by go_num, rfl, by omega, by omega, by rw [HY.out]; omega, E3.out⟩, by simp [intOf]; omega⟩
          · obtain rfl : k = lev := by omega
            have HM : Hid (placeN p k = q % 32) := Lib.hid (by rw [HNN.out, HQ.out])
            go_wp2_with fail
            go_ret2
            exact ⟨by rw [HM.out, HEE.out, show ((q % 32 : Nat) : Int) = y % 32 by rw [HY.out]; omega]; rfl, rfl⟩
      · have HNN : Hid (placeN p lev = 0) := Lib.hid (by rw [HN.out, if_neg (fun h => h3 h.2.2)])
        have HEE : Hid (placeE p lev = 2) := Lib.hid (by rw [HE.out, if_neg (fun h => h3 h.2.2)])
        go_enter Tryd.func45, Tryd.ntmps45
        go_wp2_with fail
        go_ret2
        exact ⟨by rw [HNN.out, HEE.out]; rfl, rfl⟩
    · have HNN : Hid (placeN p lev = 0) := Lib.hid (by rw [HN.out, if_neg (fun h => h2 h.2.1)])
      have HEE : Hid (placeE p lev = 2) := Lib.hid (by rw [HE.out, if_neg (fun h => h2 h.2.1)])
      go_enter Tryd.func45, Tryd.ntmps45
      go_wp2_with fail
      go_ret2
      exact ⟨by rw [HNN.out, HEE.out]; rfl, rfl⟩
  · have HNN : Hid (placeN p lev = 0) := Lib.hid (by rw [HN.out, if_neg (fun h => h1 (by have := HZ.out; omega))])
    have HEE : Hid (placeE p lev = 2) := Lib.hid (by rw [HE.out, if_neg (fun h => h1 (by have := HZ.out; omega))])
    go_enter Tryd.func45, Tryd.ntmps45
    go_wp2_with fail
    go_ret2
    exact ⟨by rw [HNN.out, HEE.out]; rfl, rfl⟩
end Go.Proofs.YtnhfkmfmmgaecaaDoor
