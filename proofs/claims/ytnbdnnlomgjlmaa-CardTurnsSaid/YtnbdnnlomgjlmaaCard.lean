/- The card layer: what a card is; which may be (May and its five closures). -/
import Derived.Test.YtnbdnnlomgjlmaaFieldDone
namespace Go.Proofs.Ytnbdnnlomgjlmaa
open Go.RowKit
set_option linter.unusedSimpArgs false
/-- A card. -/
structure Card where
  name : ByteArray
  left : Nat
  right : Nat
  id : Nat
  parent : Nat
  root : Nat
  used : Nat
  quota : Nat
  only : Bool
def cu (n : Nat) : Value := .int .u32 (n : Int)
/-- Its cells. -/
def Card.cells (c : Card) : Array Value := #[.string c.name, cu c.left, cu c.right, cu c.id, cu c.parent, cu c.root, cu c.used, cu c.quota, .bool c.only]
def Card.vol (c : Card) : Array Value := #[cu c.id, cu c.parent, cu c.root, cu c.used, cu c.quota, .bool c.only]
/-- Its numbers are numbers of 32 bits. -/
structure Card.Ok (c : Card) : Prop where
  name : c.name.size ≤ maxLen
  left : c.left < 4294967296
  right : c.right < 4294967296
  id : c.id < 4294967296
  parent : c.parent < 4294967296
  root : c.root < 4294967296
  used : c.used < 4294967296
  quota : c.quota < 4294967296
def Card.m1 (c : Card) : Bool := decide (1 ≤ c.name.size) && decide (c.name.size ≤ 24)
def Card.m2 (c : Card) : Bool := decide (c.left = 0) || decide (c.left ≠ c.right)
def Card.m3 (c : Card) : Bool := decide (0 < c.id) && (decide (c.parent ≠ c.id) && (decide (0 < c.parent) || !c.only))
def Card.m4 (c : Card) : Bool := decide (0 < c.quota) && (decide (c.quota ≤ 32768) && decide (c.used ≤ c.quota))
def Card.m5 (c : Card) : Bool := decide (c.root = 0) == decide (c.used = 0)
def Card.may (c : Card) : Bool := c.m1 && (c.m2 && (c.m3 && (c.m4 && c.m5)))
theorem isEmpty_size (s : ByteArray) : s.toList.isEmpty = decide (s.size = 0) := by
  rw [ByteArray.toList_eq]
  by_cases h : s.size = 0
  · have : s.data.toList = [] := List.eq_nil_of_length_eq_zero (by simpa using h)
    simp [this, h]
  · have : ¬ s.data = #[] := fun e => h (by rw [show s.size = s.data.size from rfl, e]; rfl)
    simp [this, h]
theorem m1_any (c : Card) (hc : c.Ok) (w : World) (g : Nat) (hg : w.heap[g]? = some (.cells c.cells 51 (0, 0))) :
    Calls Try.prog 83 #[.pointer (some ⟨g, 0, none⟩)] w fun e w' => e = .returned (.bool c.m1) ∧ w = w' := by
  have h0 : w.cell? ⟨g, 0, none⟩ = some (.string c.name) := cell_of_row w g 0 _ _ _ hg
  have hs := hc.name
  unfold maxLen at hs
  unfold Card.m1
  have he := isEmpty_size c.name
  clear hg hc
  by_cases hz : c.name.size = 0
  · have h1 : c.name.toList.isEmpty = true := by rw [he]; simp [hz]
    have h2 : ¬ 1 ≤ c.name.size := by omega
    clear he
    go_enter Try.func83, Try.ntmps83
    go_wp2
    go_ret
    exact ⟨by simp [h2], rfl⟩
  · have h1 : c.name.toList.isEmpty = false := by rw [he]; simp [hz]
    have h2 : 1 ≤ c.name.size := by omega
    clear he
    go_enter Try.func83, Try.ntmps83
    go_wp2
    go_ret
    exact ⟨by simp [h2]; omega, rfl⟩
theorem cell_vol {w : World} {g : Nat} {c : Card} (hg : w.heap[g]? = some (.cells c.vol 49 (0, 0))) :
    w.cell? ⟨g, 0, none⟩ = some (.int .u32 (c.id : Int)) ∧ w.cell? ⟨g, 1, none⟩ = some (.int .u32 (c.parent : Int)) ∧ w.cell? ⟨g, 2, none⟩ = some (.int .u32 (c.root : Int)) ∧ w.cell? ⟨g, 3, none⟩ = some (.int .u32 (c.used : Int)) ∧
    w.cell? ⟨g, 4, none⟩ = some (.int .u32 (c.quota : Int)) ∧ w.cell? ⟨g, 5, none⟩ = some (.bool c.only) :=
  ⟨cell_of_row w g 0 _ _ _ hg, cell_of_row w g 1 _ _ _ hg, cell_of_row w g 2 _ _ _ hg, cell_of_row w g 3 _ _ _ hg, cell_of_row w g 4 _ _ _ hg, cell_of_row w g 5 _ _ _ hg⟩
theorem m2_any (c : Card) (w : World) (g : Nat) (hg : w.heap[g]? = some (.cells c.cells 51 (0, 0))) :
    Calls Try.prog 84 #[.pointer (some ⟨g, 0, none⟩)] w fun e w' => e = .returned (.bool c.m2) ∧ w = w' := by
  have h0 : w.cell? ⟨g, 1, none⟩ = some (.int .u32 (c.left : Int)) := cell_of_row w g 1 _ _ _ hg
  have h1 : w.cell? ⟨g, 2, none⟩ = some (.int .u32 (c.right : Int)) := cell_of_row w g 2 _ _ _ hg
  unfold Card.m2
  obtain ⟨l, hl⟩ : ∃ l, l = c.left := ⟨_, rfl⟩
  obtain ⟨r, hr⟩ : ∃ r, r = c.right := ⟨_, rfl⟩
  rw [← hl] at h0 ⊢
  rw [← hr] at h1 ⊢
  clear hg hl hr
  by_cases hz : l = 0
  · subst hz
    go_enter Try.func84, Try.ntmps84
    go_wp2
    go_ret
    exact ⟨by simp, rfl⟩
  · have e : ((l : Int) == 0) = false := by simp [hz]
    go_enter Try.func84, Try.ntmps84
    go_wp2
    go_ret
    refine ⟨?_, rfl⟩
    by_cases h : l = r
    · subst h; simp [hz]
    · have h' : ¬ (l : Int) = (r : Int) := by omega
      simp [hz, h, h']
theorem m5_any (c : Card) (w : World) (g : Nat) (hg : w.heap[g]? = some (.cells c.vol 49 (0, 0))) :
    Calls Try.prog 87 #[.pointer (some ⟨g, 0, none⟩)] w fun e w' => e = .returned (.bool c.m5) ∧ w = w' := by
  obtain ⟨-, -, h2, h3, -, -⟩ := cell_vol hg
  unfold Card.m5
  clear hg
  go_enter Try.func87, Try.ntmps87
  go_wp2
  go_ret
  refine ⟨?_, rfl⟩
  have e1 : ((c.root : Int) == 0) = decide (c.root = 0) := by by_cases a : c.root = 0 <;> simp [a]
  have e2 : ((c.used : Int) == 0) = decide (c.used = 0) := by by_cases a : c.used = 0 <;> simp [a]
  rw [e1, e2]; rfl
theorem m4_any (c : Card) (w : World) (g : Nat) (hg : w.heap[g]? = some (.cells c.vol 49 (0, 0))) :
    Calls Try.prog 86 #[.pointer (some ⟨g, 0, none⟩)] w fun e w' => e = .returned (.bool c.m4) ∧ w = w' := by
  obtain ⟨-, -, -, h3, h4, -⟩ := cell_vol hg
  unfold Card.m4
  obtain ⟨u, hu⟩ : ∃ l, l = c.used := ⟨_, rfl⟩
  obtain ⟨q, hq⟩ : ∃ r, r = c.quota := ⟨_, rfl⟩
  rw [← hu] at h3 ⊢
  rw [← hq] at h4 ⊢
  clear hg hu hq
  by_cases a : 0 < q
  · by_cases b : q ≤ 32768
    · go_enter Try.func86, Try.ntmps86
      go_wp2
      go_ret
      exact ⟨by simp [a, b], rfl⟩
    · have b' : 32768 < q := by omega
      go_enter Try.func86, Try.ntmps86
      go_wp2
      go_ret
      exact ⟨by simp [b], rfl⟩
  · obtain rfl : q = 0 := by omega
    go_enter Try.func86, Try.ntmps86
    go_wp2
    go_ret
    exact ⟨by simp, rfl⟩
theorem m3_any (c : Card) (w : World) (g : Nat) (hg : w.heap[g]? = some (.cells c.vol 49 (0, 0))) :
    Calls Try.prog 85 #[.pointer (some ⟨g, 0, none⟩)] w fun e w' => e = .returned (.bool c.m3) ∧ w = w' := by
  obtain ⟨h0, h1, -, -, -, h5⟩ := cell_vol hg
  unfold Card.m3
  obtain ⟨i, hi⟩ : ∃ l, l = c.id := ⟨_, rfl⟩
  obtain ⟨p, hp⟩ : ∃ r, r = c.parent := ⟨_, rfl⟩
  obtain ⟨o, ho⟩ : ∃ r, r = c.only := ⟨_, rfl⟩
  rw [← hi] at h0 ⊢
  rw [← hp] at h1 ⊢
  rw [← ho] at h5 ⊢
  clear hg hi hp ho
  by_cases a : 0 < i
  · by_cases b : p = i
    · subst b
      go_enter Try.func85, Try.ntmps85
      go_wp2
      go_ret
      exact ⟨by simp, rfl⟩
    · have b' : ((p : Int) != (i : Int)) = true := by simp; omega
      by_cases d : 0 < p
      · go_enter Try.func85, Try.ntmps85
        go_wp2
        go_ret
        exact ⟨by simp [a, b, d], rfl⟩
      · obtain rfl : p = 0 := by omega
        go_enter Try.func85, Try.ntmps85
        go_wp2
        go_ret
        exact ⟨by simp [a, b]; omega, rfl⟩
  · obtain rfl : i = 0 := by omega
    go_enter Try.func85, Try.ntmps85
    go_wp2
    go_ret
    exact ⟨by simp, rfl⟩
end Go.Proofs.Ytnbdnnlomgjlmaa
