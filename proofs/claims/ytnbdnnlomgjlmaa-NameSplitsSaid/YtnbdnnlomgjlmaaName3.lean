import Derived.Test.YtnbdnnlomgjlmaaName2
namespace Go.Proofs.Ytnbdnnlomgjlmaa
open Go.RowKit
def inB (l : List UInt8) (c : UInt8) : Bool := l.contains c
theorem in_any (c : UInt8) (s : ByteArray) (w : World) (hs : s.size ≤ maxLen) : Calls Try.prog 56 #[.int .u8 (c.toNat : Int), .string s] w fun e w' => e = .returned (.bool (inB s.data.toList c)) ∧ w = w' := by
  have hs' : s.size ≤ 9223372036854775807 := hs
  go_enter Try.func56, Try.ntmps56
  go_wp2_with fail
  go_loop [4, 5] (fun _ i => ∃ k : Nat, k ≤ s.size ∧ i = .int .i64 k ∧ ∀ j, j < k → s.data.toList[j]? ≠ some c) (fun _ i => s.size - (intOf i).toNat)
  case atStart => exact ⟨0, by omega, rfl, fun j hj => absurd hj (by omega)⟩
  case round =>
    obtain ⟨k, hk, rfl, hall⟩ := hrel
    have HA := Lib.hid hall
    clear hall
    by_cases hlt : k < s.size
    · have hk1 : s.data.toList[k]? = some s[k] := by
        rw [List.getElem?_eq_getElem (by simpa using hlt)]; rfl
      by_cases hc : s[k] = c
      · have hcc : ((s[k].toNat : Int) == (c.toNat : Int)) = true := by simp [hc]
        have HT := Lib.hid (show inB s.data.toList c = true from List.contains_iff_mem.2 (List.mem_of_getElem? (hk1.trans (by rw [hc]))))
        clear hc hk1
        go_wp2_with fail
        go_ret
        exact ⟨by rw [HT.out]; rfl, rfl⟩
      · have hcc : ((s[k].toNat : Int) == (c.toNat : Int)) = false := by
          rw [beq_eq_false_iff_ne]
          intro h
          exact hc (UInt8.toNat_inj.1 (by omega))
        have HN := Lib.hid (show s.data.toList[k]? ≠ some c from by rw [hk1]; intro h; exact hc (Option.some.inj h))
        clear hc hk1
        go_wp2_with fail
        go_round
        case rel =>
          refine ⟨k + 1, by omega, by go_num, fun j hj => ?_⟩
          by_cases h : j = k
          · subst h; exact HN.out
          · exact HA.out j (by omega)
        case measure => simp [intOf]; omega
    · obtain rfl : k = s.size := by omega
      have HF := Lib.hid (show inB s.data.toList c = false from by
        cases h : inB s.data.toList c with
        | false => rfl
        | true =>
          obtain ⟨i, hi, he⟩ := List.mem_iff_getElem.1 (List.contains_iff_mem.1 h)
          exact absurd (by rw [List.getElem?_eq_getElem hi, he]) (HA.out i (by simpa using hi)))
      go_wp2_with fail
      go_ret
      exact ⟨by rw [HF.out]; rfl, rfl⟩
def lettersL : List UInt8 := [97, 98, 99, 100, 101, 102, 103, 104, 105, 106, 107, 108, 109, 110, 111, 112, 113, 114, 115, 116, 117, 118, 119, 120, 121, 122]
def othersL : List UInt8 := [48, 49, 50, 51, 52, 53, 54, 55, 56, 57, 45, 95, 46]
theorem letters_all : ∀ n, n < 256 → lettersL.contains (UInt8.ofNat n) = letterB (n : Int) ∧ (lettersL ++ othersL).contains (UInt8.ofNat n) = mayB (n : Int) := by decide +kernel
theorem letters_in (c : UInt8) : inB lettersL c = letterU c := by
  have := (letters_all c.toNat c.toNat_lt).1
  rw [UInt8.ofNat_toNat] at this
  exact this
theorem mays_in (c : UInt8) : inB (lettersL ++ othersL) c = mayU c := by
  have := (letters_all c.toNat c.toNat_lt).2
  rw [UInt8.ofNat_toNat] at this
  exact this
theorem in_letters (c : UInt8) (r : Bool) (hr : letterU c = r) (w : World) : Calls Try.prog 56 #[.int .u8 (c.toNat : Int), .string ⟨lettersL.toArray⟩] w fun e w' => e = .returned (.bool r) ∧ w = w' :=
  hr ▸ letters_in c ▸ in_any c ⟨lettersL.toArray⟩ w (by decide)
theorem in_mays (c : UInt8) (r : Bool) (hr : mayU c = r) (w : World) : Calls Try.prog 56 #[.int .u8 (c.toNat : Int), .string ⟨(lettersL ++ othersL).toArray⟩] w fun e w' => e = .returned (.bool r) ∧ w = w' :=
  hr ▸ mays_in c ▸ in_any c ⟨(lettersL ++ othersL).toArray⟩ w (by decide)
theorem refcheck_any (s : ByteArray) (w : World) (hs : s.size ≤ maxLen) : Calls Try.prog 27 #[.string s] w fun e w' => e = .returned (.int .i64 (checkV s.data.toList)) ∧ w = w' := by
  have hs' : s.size ≤ 9223372036854775807 := hs
  have hlen : s.data.toList.length = s.size := by simp
  by_cases h0 : s.size < 1
  · have HV := Lib.hid (show checkV s.data.toList = 5 from by unfold checkV nameOk; simp [hlen]; omega)
    have d0 : decide ((s.size : Int) < 1) = true := by simp; omega
    clear hlen
    go_enter Try.func27, Try.ntmps27
    go_wp2
    go_ret
    exact ⟨by rw [HV.out]; rfl, rfl⟩
  · have d0 : decide ((s.size : Int) < 1) = false := by simp; omega
    by_cases h1 : 24 < s.size
    · have HV := Lib.hid (show checkV s.data.toList = 5 from by unfold checkV nameOk; simp [hlen]; omega)
      have d1 : decide ((24 : Int) < (s.size : Int)) = true := by simp; omega
      clear hlen
      go_enter Try.func27, Try.ntmps27
      go_wp2
      go_ret
      exact ⟨by rw [HV.out]; rfl, rfl⟩
    · have d1 : decide ((24 : Int) < (s.size : Int)) = false := by simp; omega
      have hp : 0 < s.size := by omega
      cases hl : letterU s[0] with
      | false =>
        have HV := Lib.hid (checkV_head s.data.toList (by simpa using hp) hl)
        have HL := Lib.hid hl
        clear hl hlen
        go_enter Try.func27, Try.ntmps27
        go_wp2_with (go_at_call 56; refine (in_letters _ false HL.out _).mono ?_; rintro e w' ⟨rfl, rfl⟩)
        go_ret
        exact ⟨by rw [HV.out]; rfl, rfl⟩
      | true =>
        have HL := Lib.hid hl
        have HLEN := Lib.hid hlen
        clear hl hlen
        go_enter Try.func27, Try.ntmps27
        go_wp2_with (go_at_call 56; refine (in_letters _ true HL.out _).mono ?_; rintro e w' ⟨rfl, rfl⟩)
        go_loop [4] (fun i => ∃ k : Nat, k ≤ s.size ∧ i = .int .i64 k ∧ ∀ j, j < k → mayU (s.data.toList.getD j 0) = true) (fun i => s.size - (intOf i).toNat)
        case atStart => exact ⟨0, by omega, rfl, fun j hj => absurd hj (by omega)⟩
        case round =>
          obtain ⟨k, hk, rfl, hall⟩ := hrel
          have HA := Lib.hid hall
          clear hall
          by_cases hlt : k < s.size
          · have HG := Lib.hid (show s.data.toList.getD k 0 = s[k] from by
              rw [List.getD_eq_getElem?_getD, List.getElem?_eq_getElem (by simpa using hlt)]; rfl)
            cases hm : mayU s[k] with
            | false =>
              have HV := Lib.hid (checkV_bad s.data.toList k (by simpa using hlt) hm)
              have HM := Lib.hid hm
              clear hm
              go_wp2_with (go_at_call 56; refine (in_mays _ false HM.out _).mono ?_; rintro e w' ⟨rfl, rfl⟩)
              go_ret
              exact ⟨by rw [HV.out]; rfl, rfl⟩
            | true =>
              have HM := Lib.hid hm
              clear hm
              go_wp2_with (go_at_call 56; refine (in_mays _ true HM.out _).mono ?_; rintro e w' ⟨rfl, rfl⟩)
              go_round
              case rel =>
                refine ⟨k + 1, by omega, by go_num, fun j hj => ?_⟩
                by_cases h : j = k
                · subst h; rw [HG.out]; exact HM.out
                · exact HA.out j (by omega)
              case measure => simp [intOf]; omega
          · obtain rfl : k = s.size := by omega
            have HV := Lib.hid (checkV_good s.data.toList (by rw [HLEN.out]; omega) (by rw [HLEN.out]; omega) (fun k hk => by
              have := HA.out k (by rw [HLEN.out] at hk; omega)
              rw [List.getD_eq_getElem?_getD, List.getElem?_eq_getElem hk] at this
              exact this) HL.out)
            go_wp2_with fail
            go_ret
            exact ⟨by rw [HV.out]; rfl, rfl⟩
