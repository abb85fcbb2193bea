/- How arguments read: arrays of integers, by value. -/
import Derived.Test.YtnphgaiiiiknpaaDoorLib
import Derived.WalkKit
import Derived.ProofKit
import Derived.OpenShut
import Derived.ShutString
import Derived.ChangeOld
import Derived.Below
namespace Go.Proofs.YtnphgaiiiiknpaaDoor
open Go.ChangeShapes Go.WideShapes Go.ChangeAt Go.RowKit
section
variable {H : Type} {enc : TypeId × Value → H} {P : Program} {w : World} {base : Nat} {spare : Nat → Bool} {held : Bool} {fuel : Nat} {t e : TypeId} {cs : List Value} {x : DataW H × List MemPlace}
theorem okWide_array {n : Nat} {W : World} {r : Reach} {b0 : Nat} {v : Value} (ht : P.underlying t = some (.array n e)) (h : Value.okWide P W r b0 t v) : ∃ cs, v = .agg cs := by
  unfold Value.okWide at h
  rw [ht] at h
  obtain ⟨cs, hv, _⟩ := h
  exact ⟨cs, hv⟩
theorem trod_ints {n : Nat} {k : IntKind} (ht : P.underlying t = some (.array n e)) (he : P.underlying e = some (.int k)) (hce : P.cellsOf e = 1) (hct : P.cellsOf t = n)
    (h : DataW.trod enc P w base spare held fuel t cs = some x) : ∃ zs : List Int, zs.length = n ∧ cs = zs.map (Value.int k) ∧ ∀ z ∈ zs, (Lit.int k z).wf = true := by
  obtain ⟨xs, m, rfl, _, hlen, hxl, hi⟩ := DataW.trod_array ht h
  rw [hct] at hlen
  have hcell : ∀ i, i < n → ∃ z, cs[i]? = some (.int k z) ∧ (Lit.int k z).wf = true := by
    intro i hin
    have h1 := hi i hin
    rw [hce, Nat.mul_one] at h1
    have h2 : (cs.drop i).take 1 = [cs[i]'(by omega)] := by
      rw [List.drop_eq_getElem_cons (by omega)]; rfl
    rw [h2, List.getElem?_eq_getElem (by omega)] at h1
    cases m with
    | zero => simp [DataW.trod] at h1
    | succ m =>
      unfold DataW.trod at h1
      rw [he] at h1
      rw [List.getElem?_eq_getElem (by omega)]
      generalize cs[i]'(by omega) = v at h1
      cases v <;> simp at h1
      rename_i k' z
      obtain ⟨⟨rfl, hw⟩, _⟩ := h1
      exact ⟨z, rfl, hw⟩
  refine ⟨cs.map (fun v => match v with | .int _ z => z | _ => 0), by simpa using hlen, ?_, ?_⟩
  · apply List.ext_getElem?
    intro i
    by_cases hin : i < n
    · obtain ⟨z, hz, _⟩ := hcell i hin
      simp [hz]
    · simp [List.getElem?_eq_none (by omega : cs.length ≤ i)]
  · intro z hz
    simp only [List.mem_map] at hz
    obtain ⟨v, hv, rfl⟩ := hz
    obtain ⟨i, hil, rfl⟩ := List.mem_iff_getElem.1 hv
    obtain ⟨z, hz, hw⟩ := hcell i (by omega)
    rw [List.getElem?_eq_getElem hil] at hz
    have : cs[i] = .int k z := by simpa using hz
    rw [this]; exact hw
theorem bytes_of (zs : List Int) (h : ∀ z ∈ zs, (Lit.int .u8 z).wf = true) : ∃ b : List UInt8, b.length = zs.length ∧ zs.map (Value.int .u8) = b.map vu8 := by
  refine ⟨zs.map fun z => UInt8.ofNat z.toNat, by simp, ?_⟩
  rw [List.map_map]
  apply List.map_congr_left
  intro z hz
  have := bounds_u8 (h z hz)
  simp only [Function.comp, vu8, UInt8.toNat_ofNat', Value.int.injEq, true_and]
  omega
/-- An array of bytes by value, opened. -/
theorem open_bytes {n : Nat} {W : World} {r : Reach} {b0 : Nat} {v : Value} {d : DataW H} {p : List MemPlace} (ht : P.underlying t = some (.array n e)) (he : P.underlying e = some (.int .u8)) (hce : P.cellsOf e = 1) (hct : P.cellsOf t = n)
    (hv : Value.okWide P W r b0 t v) (h : DataW.Trod enc P w base spare held t v d p) : ∃ b : List UInt8, b.length = n ∧ v = .agg (blk b) := by
  obtain ⟨cs, rfl⟩ := okWide_array ht hv
  obtain ⟨fuel, hf⟩ := h
  obtain ⟨zs, hl, hcs, hw⟩ := trod_ints ht he hce hct hf
  obtain ⟨b, hb, he⟩ := bytes_of zs hw
  refine ⟨b, by omega, ?_⟩
  have : cs.toList = b.map vu8 := by simpa [Value.cells, he] using hcs
  rw [blk, ← this]
end
end Go.Proofs.YtnphgaiiiiknpaaDoor
