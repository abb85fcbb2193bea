/- split, the law's own recursion: as many are at the top once as stand in a row without repeats. By induction on the row's length. -/
import Derived.Test.YtnbdnnlomgjlmaaSplit
import Derived.OwnWalk
import Derived.Maps.AppendAt
namespace Go.Proofs.Ytnbdnnlomgjlmaa
open Go.RowKit
set_option linter.unusedSimpArgs false
theorem topall_any (A : Option Addr) (L : List ByteArray) (c : Nat) (w : World) (h0 : 0 < L.length) (hnc : L.length ≤ c) (hc : c ≤ maxLen) (ht : TextsIn w A L.length (atL L)) :
    Calls Try.prog 33 #[.slice A L.length c] w fun e w' => e = .returned (.tuple #[.string (topL L), .bool true]) ∧ Below w.heap.size w w' := by
  rcases ht with h | ⟨b, off, rfl, h⟩
  · omega
  · exact top_any b off L.length c (atL L) w h0 hnc hc h
theorem apart_grown {wa wr : World} {B : Nat} {v v1 u : Value} {L : List ByteArray} (hu : OwnList wr B u L) (hne : u.ownBlock = none ∨ u.ownBlock ≠ v.ownBlock) (hlt : wr.heap.size ≤ wa.heap.size)
    (hat : v1.ownBlock = v.ownBlock ∨ v1.ownBlock = some wa.heap.size) : u.ownBlock = none ∨ u.ownBlock ≠ v1.ownBlock := by
  cases hb : u.ownBlock with
  | none => exact .inl rfl
  | some k =>
    right
    have := (World.ownsRow.lt hu k hb).2
    rw [hb] at hne
    rcases hat with h | h
    · rw [h]; exact hne.resolve_left (by simp)
    · rw [h]; simp; omega
theorem apart_swap {u v : Value} (h : u.ownBlock = none ∨ u.ownBlock ≠ v.ownBlock) : v.ownBlock = none ∨ v.ownBlock ≠ u.ownBlock := by
  cases hv : v.ownBlock with
  | none => exact .inl rfl
  | some k =>
    right
    rcases h with h | h
    · rw [h]; simp
    · rw [hv] at h; exact fun e => h e.symm
theorem rel_push {B : Nat} {w wr w2 w4 : World} {v u v' : Value} {L M : List ByteArray} {x : ByteArray} {o : Obj} (hB : Below B w wr) (hs : B ≤ wr.heap.size) (hb2 : Below wr.heap.size wr w2) (hv : OwnList wr B v L) (hu : OwnList wr B u M)
    (hne : u.ownBlock = none ∨ u.ownBlock ≠ v.ownBlock) (hown : w4.ownsRow B 9 1 v' (L.length + 1) (L.map Value.string ++ [.string x])) (hgrow : (w2.alloc o).grownBy w4 v.ownBlock)
    (hat : v'.ownBlock = v.ownBlock ∨ v'.ownBlock = some (w2.alloc o).heap.size) :
    OwnList w4 B v' (L ++ [x]) ∧ OwnList w4 B u M ∧ (u.ownBlock = none ∨ u.ownBlock ≠ v'.ownBlock) ∧ Below B w w4 :=
  have hA : Below wr.heap.size wr (w2.alloc o) := Below.alloc hb2 hb2.size o
  ⟨OwnList.push hown, World.ownsRow.kept (OwnList.below hu hA) hgrow hne, apart_grown hu hne hA.size hat,
    (Below.trans hB (hA.mono hs)).grown hgrow (Nat.le_trans hs hA.size) (fun k hk => (World.ownsRow.lt hv k hk).1)⟩
theorem TextsIn.below {w w' : World} {A : Option Addr} {n : Nat} {f : Nat → ByteArray} (h : TextsIn w A n f) (hb : Below w.heap.size w w') : TextsIn w' A n f := by
  rcases h with h | ⟨b, off, rfl, h⟩
  · exact .inl h
  · exact .inr ⟨b, off, rfl, h.below hb⟩
theorem own_below {B : Nat} {w wr wa w1 : World} {v : Value} {L : List ByteArray} (hB : Below B w wr) (hA : Below wr.heap.size wr wa) (hs : B ≤ wr.heap.size) (hown : OwnList wr B v L) (hg : wa.grownBy w1 v.ownBlock) : Below B w w1 :=
  (Below.trans hB (hA.mono hs)).grown hg (Nat.le_trans hs hA.size) (fun k hk => (World.ownsRow.lt hown k hk).1)
set_option maxRecDepth 100000 in
set_option maxHeartbeats 2000000 in
theorem split_any : ∀ (N : Nat) (L : List ByteArray), L.length ≤ N → L.length ≤ 20 → L.Nodup → (∀ s ∈ L, s.size ≤ maxLen) → ∀ (A : Option Addr) (c : Nat) (w : World), L.length ≤ c → c ≤ maxLen → TextsIn w A L.length (atL L) →
    Calls Try.prog 35 #[.slice A L.length c] w fun e w' => e = .returned (.int .i64 (L.length : Int)) ∧ Below w.heap.size w w' := by
  intro N
  induction N with
  | zero =>
    intro L hL _ _ _ A c w _ _ _
    have h0 : L.length = 0 := by omega
    rw [h0]
    go_enter Try.func35, Try.ntmps35
    go_wp2_with (go_at_call 33; refine (top_none _ _ _).mono ?_; rintro e w1 ⟨rfl, rfl⟩)
    go_ret
    exact ⟨rfl, Below.refl _ _⟩
  | succ N ih =>
    intro L hL h20 hnd hsz A c w hnc hc ht
    by_cases h0 : L.length = 0
    · rw [h0]
      go_enter Try.func35, Try.ntmps35
      go_wp2_with (go_at_call 33; refine (top_none _ _ _).mono ?_; rintro e w1 ⟨rfl, rfl⟩)
      go_ret
      exact ⟨rfl, Below.refl _ _⟩
    have hpos : 0 < L.length := by omega
    obtain ⟨t, htop⟩ : ∃ t, t = topL L := ⟨_, rfl⟩
    have htm : t ∈ L := htop ▸ topL_mem hpos
    have hts : t.size ≤ maxLen := hsz t htm
    have hcount := split_in t L htm hnd
    obtain ⟨n, hn⟩ : ∃ n, n = L.length := ⟨_, rfl⟩
    obtain ⟨b, off, hA, htx⟩ := ht.resolve_left h0
    subst hA
    have HCT := Lib.hid (show ∀ w' : World, TextsAt w' b off n (atL L) → Calls Try.prog 33 #[.slice (some ⟨b, off, none⟩) n c] w' fun e w'' => e = .returned (.tuple #[.string t, .bool true]) ∧ Below w'.heap.size w' w'' from
      fun w' h => by subst hn; exact htop ▸ top_any b off L.length c (atL L) w' hpos hnc hc h)
    have HCA := Lib.hid (show ∀ (k : Nat) (w' : World), k < n → Calls Try.prog 31 #[.string (atL L k), .string t] w' fun e w'' => e = .returned (.bool false) ∧ Below w'.heap.size w' w'' from
      fun k w' hk => above_is _ _ _ (hsz _ (atL_mem (hn ▸ hk))) hts false (htop ▸ topL_above (hn ▸ hk)))
    have IHA := Lib.hid (ih (ahead t L) (by omega) (by omega) (ahead_nodup t hnd) (fun s hs => hsz s (ahead_mem hs)))
    have IHB := Lib.hid (ih (behind t L) (by omega) (by omega) (behind_nodup t hnd) (fun s hs => hsz s (behind_mem hs)))
    have HTX := Lib.hid (show TextsAt w b off n (atL L) from hn ▸ htx)
    have hbw : b < w.heap.size := World.block_lt_of_cell? w _ (htx 0 hpos).1
    have HSA := Lib.hid (show ∀ s ∈ ahead t L, s.size ≤ maxLen from fun s hs => hsz s (ahead_mem hs))
    have HSB := Lib.hid (show ∀ s ∈ behind t L, s.size ≤ maxLen from fun s hs => hsz s (behind_mem hs))
    have HCOUNT := Lib.hid (show (ahead t L).length + (behind t L).length + 1 = n from hn ▸ hcount)
    have HTA := Lib.hid (show ∀ k, k < n → ahead t (L.take (k + 1)) = if cmpV (atL L k).data.toList t.data.toList < 0 then ahead t (L.take k) ++ [atL L k] else ahead t (L.take k) from fun k hk => ahead_take t (hn ▸ hk))
    have HTB := Lib.hid (show ∀ k, k < n → behind t (L.take (k + 1)) = if 0 < cmpV (atL L k).data.toList t.data.toList then behind t (L.take k) ++ [atL L k] else behind t (L.take k) from fun k hk => behind_take t (hn ▸ hk))
    have HALL := Lib.hid (show L.take n = L from by rw [hn]; exact List.take_length)
    have HLA := Lib.hid (show ∀ k, (ahead t (L.take k)).length ≤ 20 from fun k => Nat.le_trans (ahead_len t _) (Nat.le_trans (List.length_take_le' _ _) h20))
    have HLB := Lib.hid (show ∀ k, (behind t (L.take k)).length ≤ 20 from fun k => Nat.le_trans (behind_len t _) (Nat.le_trans (List.length_take_le' _ _) h20))
    rw [← hn] at h20 hnc hpos ⊢
    clear htop hsz ih hts htm hcount ht htx hnd hn hL h0
    obtain ⟨i0, hi, hz0, hz1, hz2⟩ := info_parts Try.info9
    unfold maxLen at hc
    go_enter Try.func35, Try.ntmps35
    go_wp2_with (go_at_call 33; refine (HCT.out _ HTX.out).mono ?_; rintro e w1 ⟨rfl, hb1⟩)
    go_loopw [5, 6, 7] (fun v1 v2 i wr => ∃ k : Nat, k ≤ n ∧ i = .int .i64 k ∧ OwnList wr w.heap.size v1 (ahead t (L.take k)) ∧ OwnList wr w.heap.size v2 (behind t (L.take k)) ∧ (v1.ownBlock = none ∨ v1.ownBlock ≠ v2.ownBlock) ∧ Below w.heap.size w wr) (fun _ _ i _ => n - (intOf i).toNat)
    case atStart => exact ⟨0, by omega, rfl, OwnList.nil _ _, OwnList.nil _ _, .inl rfl, hb1⟩
    case round =>
      obtain ⟨k, hk, rfl, ho1, ho2, hne, hB⟩ := hrel
      have HO1 := Lib.hid ho1
      have HO2 := Lib.hid ho2
      have HNE := Lib.hid hne
      have hBs : w.heap.size ≤ wr.heap.size := hB.size
      clear ho1 ho2 hne
      by_cases hkn : k < n
      · have H1 : Hid (wr.cell? ⟨b, off + k, none⟩ = some (.string (atL L k))) := Lib.hid (Below.cell hB hbw).trans (HTX.out k hkn).1
        have h1 := H1.out
        obtain ⟨z, hz⟩ : ∃ z, z = cmpV (atL L k).data.toList t.data.toList := ⟨_, rfl⟩
        have HCMP := Lib.hid (show ∀ w' : World, Calls Try.prog 28 #[.string (atL L k), .string t] w' fun e w'' => e = .returned (.int .i64 z) ∧ w' = w'' from fun w' => hz ▸ compare_any _ _ w')
        have HTA1 := Lib.hid (HTA.out k hkn)
        have HTB1 := Lib.hid (HTB.out k hkn)
        rw [← hz] at HTA1 HTB1
        clear hz
        have HLA1 := Lib.hid (HLA.out k)
        have HLB1 := Lib.hid (HLB.out k)
        by_cases hneg : z < 0
        · have hzz : ¬ 0 < z := by omega
          go_wp2_with (first
            | (go_at_call 31; refine (HCA.out k _ hkn).mono ?_; rintro e w2 ⟨rfl, hb2⟩; have h2 : w2.cell? ⟨b, off + k, none⟩ = some (.string (atL L k)) := (Below.cell hb2 (Nat.lt_of_lt_of_le hbw hBs)).trans H1.out)
            | (go_at_call 28; refine (HCMP.out _).mono ?_; rintro e w3 ⟨rfl, rfl⟩)
            | (at_builtin; refine wpList_append_own_at _ rfl _ _ 38 rfl w.heap.size 9 i0 (.string ⟨#[]⟩) 1 16 Try.underlying38 hi hz0 hz1 hz2 rfl (by decide) _ _ _ rfl (World.ownsRow.alloc (OwnList.below HO1.out hb2) _) ⟨w2.heap.size, 0, none⟩ 1 1 [.string (atL L k)] rfl rfl (cell_one_new _ _ _) (by intro u hu; simp at hu; subst hu; rfl) (by have := HLA1.out; unfold maxLen; omega) (by have := HLA1.out; omega) (by have := hb2.size; simp; omega) ?_; intro v' w4 hown' hgrow _ hat; have HP := Lib.hid (rel_push hB hBs hb2 HO1.out HO2.out (apart_swap HNE.out) hown' hgrow hat); have h4 := (Below.cell HP.out.2.2.2 hbw).trans (HTX.out k hkn).1; clear hown' hgrow hat))
          go_roundw
          case rel => exact ⟨k + 1, by omega, by go_num, by rw [HTA1.out, if_pos (by omega)]; exact HP.out.1, by rw [HTB1.out, if_neg (by omega)]; exact HP.out.2.1, apart_swap HP.out.2.2.1, HP.out.2.2.2⟩
          case measure => simp [intOf]; omega
        · by_cases hgt : 0 < z
          · go_wp2_with (first
              | (go_at_call 31; refine (HCA.out k _ hkn).mono ?_; rintro e w2 ⟨rfl, hb2⟩; have h2 : w2.cell? ⟨b, off + k, none⟩ = some (.string (atL L k)) := (Below.cell hb2 (Nat.lt_of_lt_of_le hbw hBs)).trans H1.out)
              | (go_at_call 28; refine (HCMP.out _).mono ?_; rintro e w3 ⟨rfl, rfl⟩)
              | (at_builtin; refine wpList_append_own_at _ rfl _ _ 38 rfl w.heap.size 9 i0 (.string ⟨#[]⟩) 1 16 Try.underlying38 hi hz0 hz1 hz2 rfl (by decide) _ _ _ rfl (World.ownsRow.alloc (OwnList.below HO2.out hb2) _) ⟨w2.heap.size, 0, none⟩ 1 1 [.string (atL L k)] rfl rfl (cell_one_new _ _ _) (by intro u hu; simp at hu; subst hu; rfl) (by have := HLB1.out; unfold maxLen; omega) (by have := HLB1.out; omega) (by have := hb2.size; simp; omega) ?_; intro v' w4 hown' hgrow _ hat; have HP := Lib.hid (rel_push hB hBs hb2 HO2.out HO1.out HNE.out hown' hgrow hat); clear hown' hgrow hat))
            go_roundw
            case rel => exact ⟨k + 1, by omega, by go_num, by rw [HTA1.out, if_neg (by omega)]; exact HP.out.2.1, by rw [HTB1.out, if_pos (by omega)]; exact HP.out.1, HP.out.2.2.1, HP.out.2.2.2⟩
            case measure => simp [intOf]; omega
          · go_wp2_with (first
              | (go_at_call 31; refine (HCA.out k _ hkn).mono ?_; rintro e w2 ⟨rfl, hb2⟩; have h2 : w2.cell? ⟨b, off + k, none⟩ = some (.string (atL L k)) := (Below.cell hb2 (Nat.lt_of_lt_of_le hbw hBs)).trans H1.out)
              | (go_at_call 28; refine (HCMP.out _).mono ?_; rintro e w3 ⟨rfl, rfl⟩))
            go_roundw
            case rel => exact ⟨k + 1, by omega, by go_num, by rw [HTA1.out, if_neg (by omega)]; exact OwnList.below HO1.out hb2, by rw [HTB1.out, if_neg (by omega)]; exact OwnList.below HO2.out hb2, HNE.out, Below.trans hB (hb2.mono hBs)⟩
            case measure => simp [intOf]; omega
      · obtain rfl : k = n := by omega
        obtain ⟨A1, c1, rfl, hc1, hm1, ht1⟩ := (show OwnList wr w.heap.size _ (ahead t L) from HALL.out ▸ HO1.out).read HSA.out
        obtain ⟨A2, c2, rfl, hc2, hm2, ht2⟩ := (show OwnList wr w.heap.size _ (behind t L) from HALL.out ▸ HO2.out).read HSB.out
        have HT1 := Lib.hid ht1
        have HT2 := Lib.hid ht2
        have HM1 := Lib.hid hm1
        have HM2 := Lib.hid hm2
        have HC1 := Lib.hid hc1
        have HC2 := Lib.hid hc2
        clear ht1 ht2 hm1 hm2 hc1 hc2
        have hla : (ahead t L).length ≤ 20 := by have := HCOUNT.out; omega
        have hlb : (behind t L).length ≤ 20 := by have := HCOUNT.out; omega
        have G1 := Lib.hid trivial
        go_wp2_with (first
          | (go_at_call 35; clear G1; refine (IHA.out A1 c1 _ HC1.out HM1.out HT1.out).mono ?_; rintro e w5 ⟨rfl, hb5⟩)
          | (go_at_call 35; refine (IHB.out A2 c2 _ HC2.out HM2.out (HT2.out.below hb5)).mono ?_; rintro e w6 ⟨rfl, hb6⟩))
        go_ret
        refine ⟨?_, Below.trans hB ((hb5.trans (hb6.mono hb5.size)).mono hBs)⟩
        have HCC := HCOUNT.out
        show Ending.returned (Value.int .i64 (1 + ((ahead t L).length : Int) + ((behind t L).length : Int))) = _
        rw [show (1 + ((ahead t L).length : Int) + ((behind t L).length : Int)) = (k : Int) by omega]
end Go.Proofs.Ytnbdnnlomgjlmaa
