import Derived.Test.YtnbdnnlomgjlmaaName
namespace Go.Proofs.Ytnbdnnlomgjlmaa
open Go.RowKit
def letterU (c : UInt8) : Bool := letterB (c.toNat : Int)
def mayU (c : UInt8) : Bool := mayB (c.toNat : Int)
def nameOk (l : List UInt8) : Bool := decide (1 ≤ l.length) && decide (l.length ≤ 24) && letterU (l.headD 0) && l.all mayU
def checkV (l : List UInt8) : Int := if nameOk l then 0 else 5
theorem may_high (c : Int) (h : 128 ≤ c) : mayB c = false := by
  unfold mayB letterB
  simp; omega
theorem checkV_bad (l : List UInt8) (k : Nat) (h : k < l.length) (hb : mayU l[k] = false) : checkV l = 5 := by
  unfold checkV nameOk
  have : l.all mayU = false := by
    rw [List.all_eq_false]
    exact ⟨l[k], List.getElem_mem h, by rw [hb]; simp⟩
  rw [this]; simp
theorem checkV_head (l : List UInt8) (h : 0 < l.length) (hb : letterU l[0] = false) : checkV l = 5 := by
  unfold checkV nameOk
  have : letterU (l.headD 0) = false := by
    cases l with
    | nil => simp at h
    | cons x l => simpa using hb
  rw [this]; simp
theorem checkV_good (l : List UInt8) (h1 : 1 ≤ l.length) (h2 : l.length ≤ 24) (h : ∀ k, (hk : k < l.length) → mayU l[k] = true) (h0 : letterU (l[0]'(by omega)) = true) : checkV l = 0 := by
  unfold checkV nameOk
  have e1 : l.all mayU = true := by
    rw [List.all_eq_true]
    intro x hx
    obtain ⟨i, hi, rfl⟩ := List.mem_iff_getElem.1 hx
    exact h i hi
  have e2 : letterU (l.headD 0) = true := by
    cases l with
    | nil => simp at h1
    | cons x l => simpa using h0
  rw [e1, e2]; simp [h1, h2]
theorem iter_below (w : World) (s : ByteArray) (p : Nat) : Below w.heap.size w (w.iter s p) := (Below.refl _ _).alloc (Nat.le_refl _) _
set_option maxHeartbeats 400000 in
theorem check_any (s : ByteArray) (w : World) (hs : s.size ≤ maxLen) : Calls Try.prog 26 #[.string s] w fun e w' => e = .returned (.int .i64 (checkV s.data.toList)) ∧ Below w.heap.size w w' := by
  have hs' : s.size ≤ 9223372036854775807 := hs
  have hlen : s.data.toList.length = s.size := by simp
  by_cases h0 : s.size = 0
  · have he : s.toList.isEmpty = true := by
      rw [ByteArray.toList_eq, List.isEmpty_iff_length_eq_zero, hlen]; exact h0
    have hv : checkV s.data.toList = 5 := by unfold checkV nameOk; simp [hlen, h0]
    have HV := Lib.hid hv
    clear hv hlen h0
    go_enter Try.func26, Try.ntmps26
    go_wp2
    go_ret
    exact ⟨by rw [HV.out]; rfl, Below.refl _ _⟩
  · have he : s.toList.isEmpty = false := by
      rw [ByteArray.toList_eq]
      cases hd : s.data.toList with
      | nil => rw [hd] at hlen; simp at hlen; omega
      | cons x l => rfl
    by_cases h1 : 24 < s.size
    · have hv : checkV s.data.toList = 5 := by unfold checkV nameOk; simp [hlen]; omega
      have HV := Lib.hid hv
      have h1' : decide ((24 : Int) < (s.size : Int)) = true := by simp; omega
      clear hv hlen h0
      go_enter Try.func26, Try.ntmps26
      go_wp2
      go_ret
      exact ⟨by rw [HV.out]; rfl, Below.refl _ _⟩
    · have h1' : decide ((24 : Int) < (s.size : Int)) = false := by simp; omega
      go_enter Try.func26, Try.ntmps26
      go_wp2_with fail
      go_loopw [3, 4] (fun _ _ wr => ∃ pos : Nat, pos ≤ s.size ∧ wr = w.iter s pos ∧ (∀ k, k < pos → mayU (s.data.toList.getD k 0) = true) ∧ (0 < pos → letterU (s.data.toList.getD 0 0) = true)) (fun _ _ wr => s.size - wr.iterPos w.heap.size)
      case atStart => exact ⟨0, by omega, rfl, fun k hk => absurd hk (by omega), fun h => absurd h (by omega)⟩
      case round =>
        obtain ⟨pos, hpos, rfl, hall, hfst⟩ := hrel
        have HA := Lib.hid hall
        have HF := Lib.hid hfst
        have HLEN := Lib.hid hlen
        clear hall hfst
        by_cases hlt : pos < s.size
        · have hbyte : s[pos] = s.data.toList[pos]'(by simpa using hlt) := rfl
          have hgd : s.data.toList.getD pos 0 = s[pos] := by simp [hbyte, hlt]
          have HG := Lib.hid hgd
          clear hgd hbyte
          by_cases hasc : s[pos].toNat < 128
          · have hnx := fun ty => run_next_ascii (P := Try.prog) w s pos ty hlt hasc
            cases hm : mayU s[pos] with
            | false =>
              have HV := Lib.hid (checkV_bad s.data.toList pos (by simpa using hlt) hm)
              have HM := Lib.hid (show mayB (s[pos].toNat : Int) = false from hm)
              clear hm
              go_wp2_with (go_at_call 54; refine (may_is _ false HM.out _).mono ?_; rintro e w' ⟨rfl, rfl⟩)
              go_ret
              exact ⟨by rw [HV.out]; rfl, iter_below w s _⟩
            | true =>
              have HM := Lib.hid (show mayB (s[pos].toNat : Int) = true from hm)
              have HMU := Lib.hid hm
              clear hm
              by_cases hp0 : pos = 0
              · subst hp0
                cases hl : letterU s[0] with
                | false =>
                  have HV := Lib.hid (checkV_head s.data.toList (by simpa using hlt) hl)
                  have HL := Lib.hid (show letterB (s[0].toNat : Int) = false from hl)
                  clear hl
                  go_wp2_with (first | (go_at_call 54; refine (may_is _ true HM.out _).mono ?_; rintro e w' ⟨rfl, rfl⟩) | (go_at_call 55; refine (letter_is _ false HL.out _).mono ?_; rintro e w' ⟨rfl, rfl⟩))
                  go_ret
                  exact ⟨by rw [HV.out]; rfl, iter_below w s _⟩
                | true =>
                  have HL := Lib.hid (show letterB (s[0].toNat : Int) = true from hl)
                  have HLU := Lib.hid hl
                  clear hl
                  go_wp2_with (first | (go_at_call 54; refine (may_is _ true HM.out _).mono ?_; rintro e w' ⟨rfl, rfl⟩) | (go_at_call 55; refine (letter_is _ true HL.out _).mono ?_; rintro e w' ⟨rfl, rfl⟩))
                  go_roundw
                  case rel =>
                    refine ⟨1, by omega, rfl, fun k hk => ?_, fun _ => ?_⟩
                    · obtain rfl : k = 0 := by omega
                      rw [HG.out]; exact HMU.out
                    · rw [HG.out]; exact HLU.out
                  case measure => simp; omega
              · have hp : ((pos : Int) == 0) = false := by simp; omega
                go_wp2_with (go_at_call 54; refine (may_is _ true HM.out _).mono ?_; rintro e w' ⟨rfl, rfl⟩)
                go_roundw
                case rel =>
                  refine ⟨pos + 1, by omega, rfl, fun k hk => ?_, fun _ => HF.out (by omega)⟩
                  by_cases h : k = pos
                  · subst h; rw [HG.out]; exact HMU.out
                  · exact HA.out k (by omega)
                case measure => simp; omega
          · have hnx := fun ty => run_next_any (P := Try.prog) w s pos ty hlt
            have hd := (decode_high s pos hlt (by omega)).1
            have HM := Lib.hid (may_high ((Utf8.decode s pos).1 : Int) (by omega))
            have hmu : mayU (s.data.toList[pos]'(by simpa using hlt)) = false := may_high _ (by have h : (s.data.toList[pos]'(by simpa using hlt)).toNat = s[pos].toNat := rfl; omega)
            have HV := Lib.hid (checkV_bad s.data.toList pos (by simpa using hlt) hmu)
            clear hmu
            go_wp2_with (go_at_call 54; refine (may_is _ false HM.out _).mono ?_; rintro e w' ⟨rfl, rfl⟩)
            go_ret
            exact ⟨by rw [HV.out]; rfl, iter_below w s _⟩
        · have hnx := fun ty => run_next_end (P := Try.prog) w s pos ty hlt
          have HV := Lib.hid (checkV_good s.data.toList (by rw [HLEN.out]; omega) (by rw [HLEN.out]; omega) (fun k hk => by
            have := HA.out k (by rw [HLEN.out] at hk; omega)
            rw [List.getD_eq_getElem?_getD, List.getElem?_eq_getElem hk] at this
            exact this) (by
            have := HF.out (by omega)
            rw [List.getD_eq_getElem?_getD, List.getElem?_eq_getElem (by rw [HLEN.out]; omega)] at this
            exact this))
          go_wp2_with fail
          go_ret
          exact ⟨by rw [HV.out]; rfl, iter_below w s _⟩
