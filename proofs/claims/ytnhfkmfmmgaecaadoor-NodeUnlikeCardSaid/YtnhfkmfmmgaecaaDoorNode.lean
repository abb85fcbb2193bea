/- The node layer: the greatest of a row of numbers; which nodes may be. -/
import Derived.Test.YtnhfkmfmmgaecaaDoorPage
import Derived.Test.YtnhfkmfmmgaecaaDoorKeep
namespace Go.Proofs.YtnhfkmfmmgaecaaDoor
open Go.RowKit
set_option linter.unusedSimpArgs false
set_option maxRecDepth 100000
/-- The greatest of some numbers; 0, if there is none. -/
def maxL : List Nat → Nat
  | [] => 0
  | x :: l => max x (maxL l)
theorem maxL_snoc (l : List Nat) (x : Nat) : maxL (l ++ [x]) = max (maxL l) x := by
  induction l with
  | nil => simp [maxL]
  | cons y l ih => simp only [List.cons_append, maxL, ih]; omega
theorem maxL_lt (l : List Nat) (b : Nat) (hb : 0 < b) : maxL l < b ↔ ∀ x ∈ l, x < b := by
  induction l with
  | nil => simp [maxL, hb]
  | cons y l ih => simp only [maxL, List.mem_cons, forall_eq_or_imp, ← ih]; omega
set_option maxHeartbeats 1000000 in
theorem max_any (w : World) (g off c : Nat) (l : List Nat) (h0 : 0 < l.length) (hl : l.length ≤ 256) (hb : ∀ x ∈ l, x < 4294967296) (h : ∀ k, (hk : k < l.length) → w.cell? ⟨g, off + k, none⟩ = some (.int .u32 (l[k] : Int))) :
    Calls Tryd.prog 92 #[.slice (some ⟨g, off, none⟩) l.length c] w fun e w' => e = .returned (.int .u32 (maxL l : Int)) ∧ w = w' := by
  obtain ⟨n, hn⟩ : ∃ n, n = l.length := ⟨_, rfl⟩
  have hfirst : w.cell? ⟨g, off, none⟩ = some (.int .u32 (maxL (l.take 1) : Int)) := by
    have := h 0 h0
    rw [Nat.add_zero] at this
    rw [this]
    obtain ⟨x, m, rfl⟩ : ∃ x m, l = x :: m := by cases l with
      | nil => simp at h0
      | cons x m => exact ⟨x, m, rfl⟩
    simp [maxL]
  have HN := Lib.hid hn
  have H := Lib.hid h
  have HB := Lib.hid hb
  rw [← hn] at h0 hl ⊢
  have h0' : 0 < (n : Int) := by omega
  clear h hb hn
  go_enter Tryd.func92, Tryd.ntmps92
  go_wp2_with fail
  go_loop [3, 4] (fun m i => ∃ k : Nat, 1 ≤ k ∧ k ≤ n ∧ i = .int .i64 k ∧ m = .int .u32 (maxL (l.take k) : Int)) (fun _ i => n - (intOf i).toNat)
  case atStart => exact ⟨1, by omega, by omega, rfl, rfl⟩
  case round =>
    obtain ⟨k, hk1, hk, rfl, rfl⟩ := hrel
    by_cases hlt : k < n
    · have hk' : k < l.length := by rw [← HN.out]; exact hlt
      have hc := H.out k hk'
      have hx := HB.out l[k] (List.getElem_mem hk')
      obtain ⟨x, hxe⟩ : ∃ x, x = l[k] := ⟨_, rfl⟩
      obtain ⟨m, hme⟩ : ∃ m, m = maxL (l.take k) := ⟨_, rfl⟩
      have HS : Hid (maxL (l.take (k + 1)) = max m x) := Lib.hid (by rw [List.take_succ_eq_append_getElem hk', maxL_snoc, hme, hxe])
      rw [← hxe] at hc hx
      rw [← hme]
      clear hxe hme hk'
      go_wp2_with fail
      refine ⟨⟨k + 1, by omega, by omega, by go_num, ?_⟩, by simp [intOf]; omega⟩
      rw [HS.out]
      congr 1
      rw [Nat.max_def]
      split <;> split <;> omega
    · obtain rfl : k = n := by omega
      rw [show l.take k = l from List.take_of_length_le (by rw [← HN.out]; exact Nat.le_refl _)]
      go_wp2_with fail
      go_ret
      exact ⟨rfl, rfl⟩
/-- A node: its level, its pointers. -/
def ncells (h : Nat) (l : List Nat) : Array Value := pcells .u8 .u32 h l
def nmay (h : Nat) (l : List Nat) : Bool := decide (0 < h) && (decide (h ≤ 3) && decide (maxL l < 1048576))
abbrev NOk (h : Nat) (l : List Nat) : Prop := POk 1 4 32 h l
set_option maxHeartbeats 1000000 in
theorem nmay_any (w : World) (g : Nat) (h : Nat) (l : List Nat) (hn : NOk h l) (hg : w.heap[g]? = some (.cells (ncells h l) 70 (0, 0))) :
    Calls Tryd.prog 74 #[.pointer (some ⟨g, 0, none⟩)] w fun e w' => e = .returned (.bool (nmay h l)) ∧ w = w' := by
  have h0 : w.cell? ⟨g, 0, none⟩ = some (.int .u8 (h : Int)) := cell_of_row w g 0 _ _ _ hg
  have HM := Lib.hid (max_any w g 1 32 l (by rw [hn.len]; omega) (by rw [hn.len]; omega) (fun x hx => hn.all x hx) (fun k hk => by
    rw [cell_of_row w g _ _ _ _ hg, Nat.add_comm]
    exact pcells_get _ _ _ _ k hk))
  rw [hn.len] at HM
  have HMay : Hid (nmay h l = (decide (0 < h) && (decide (h ≤ 3) && decide (maxL l < 1048576)))) := Lib.hid rfl
  obtain ⟨m, hm⟩ : ∃ m, m = maxL l := ⟨_, rfl⟩
  rw [← hm] at HM HMay
  have hh : h < 256 := hn.head
  obtain ⟨p, hp⟩ : ∃ p, p = decide (m < 1048576) := ⟨_, rfl⟩
  obtain ⟨z, hz⟩ : ∃ z : Int, z = (m : Int) := ⟨_, rfl⟩
  have hpi : decide (z < 1048576) = p := by rw [hp, hz, Bool.eq_iff_iff]; simp; omega
  rw [← hz] at HM
  rw [← hp] at HMay
  clear hg hm hn hp hz
  by_cases a1 : 0 < h
  · by_cases a2 : h ≤ 3
    · have HR : Hid (nmay h l = p) := Lib.hid (by rw [HMay.out]; simp [a1, a2])
      clear HMay
      go_enter Tryd.func74, Tryd.ntmps74
      go_wp2_with (go_at_call 92; refine HM.out.mono ?_; rintro e w1 ⟨rfl, rfl⟩)
      go_ret
      exact ⟨by rw [HR.out]; rfl, rfl⟩
    · have HR : Hid (nmay h l = false) := Lib.hid (by rw [HMay.out]; simp [a2])
      clear HMay
      go_enter Tryd.func74, Tryd.ntmps74
      go_wp2_with fail
      go_ret
      exact ⟨by rw [HR.out]; rfl, rfl⟩
  · have HR : Hid (nmay h l = false) := Lib.hid (by rw [HMay.out]; simp [a1])
    clear HMay
    go_enter Tryd.func74, Tryd.ntmps74
    go_wp2_with fail
    go_ret
    exact ⟨by rw [HR.out]; rfl, rfl⟩
end Go.Proofs.YtnhfkmfmmgaecaaDoor
