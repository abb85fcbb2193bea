/- The field layer's writer: Text puts a length byte, the text, and zeros up to the room. -/
import Derived.Test.YtnfmdcohacflmaaDoorFieldNum
import Derived.Test.YtnfmdcohacflmaaDoorAppend
namespace Go.Proofs.YtnfmdcohacflmaaDoor
open Go.RowKit
set_option maxRecDepth 100000
set_option linter.unusedSimpArgs false
theorem strCells_vu8 (s : ByteArray) : Lib.strCells s = s.data.toList.map vu8 := rfl
theorem zeros_vu8 (n : Nat) : List.replicate n (Value.int .u8 0) = (List.replicate n (0 : UInt8)).map vu8 := by simp [vu8]
set_option maxRecDepth 100000 in
set_option maxHeartbeats 400000 in
theorem text_any (w : World) (base g : Nat) (X : List Nat) (bad : Bool) (L : List UInt8) (s : ByteArray) (m : Nat) (hm : m ≤ 200) (hs : s.size ≤ m) (hL : L.length ≤ 90000) (hw : WriterAt w base g X bad L) :
    Calls Tryd.prog 11 #[.pointer (some ⟨g, 0, none⟩), .string s, .int .i64 (m : Int)] w fun e w' => e = .returned (.tuple #[]) ∧ WriterAt w' base g X bad (L ++ textB s.data.toList m) ∧ Leaves base X w w' := by
  have HW := Lib.hid hw
  obtain ⟨v, hv⟩ := hw
  have HV := Lib.hid hv
  have hne := hv.ne
  have hold := hv.old
  have hgs : g < w.heap.size := (Array.getElem?_eq_some_iff.1 hv.row).1
  have h0 : w.cell? ⟨g, 0, none⟩ = some v := cell_of_row w g 0 _ _ _ hv.row
  clear hv
  obtain ⟨i0, hi, hz0, hz1, hz2⟩ := info_parts infoU8
  go_enter Tryd.func11, Tryd.ntmps11
  go_wp2_with (first
    | (go_at_call 20; refine (none_any _ _ _ _ _ _ HW.out).mono ?_; rintro e w1 ⟨rfl, rfl⟩)
    | (at_builtin; refine wpList_append_own_at _ rfl _ _ 37 rfl base 5 i0 (.int .u8 0) 1 1 Tryd.underlying37 hi hz0 hz1 hz2 rfl (by decide) _ _ _ rfl (World.ownsRow.alloc HV.out.own _) ⟨w.heap.size, 0, none⟩ 1 1 [.int .u8 (s.size : Int)] rfl rfl ?c1 ?c2 ?c3 ?c4 ?c5 ?_))
  case c1 => exact news_one _ _ _
  case c2 => intro u hu; simp at hu; subst hu; rfl
  case c3 => unfold maxLen; omega
  case c4 => omega
  case c5 => simp; omega
  intro v1 w1 hown1 hgrow1 _ hat1
  obtain ⟨a1, n1, c1, rfl⟩ := own_form hown1
  have HG1 := Lib.hid hgrow1
  have HA1 := Lib.hid hat1
  have hs1 : w.heap.size ≤ w1.heap.size := Nat.le_trans (by simp) hgrow1.size
  clear hgrow1 hat1
  go_wp2_with (first
    | (refine wpList_append_str_at _ rfl (.tmp 32) (.tmp 33) 37 9 rfl base 5 i0 Tryd.underlying37 Tryd.underlying9 hi hz0 hz1 hz2 _ _ _ rfl hown1 s rfl ?d1 ?d2 ?d3 ?_))
  case d1 => unfold maxLen; omega
  case d2 => omega
  case d3 => omega
  intro v2 w2 hown2 hgrow2 hat2
  obtain ⟨a2, n2, c2, rfl⟩ := own_form hown2
  have hg2 : w.grownBy w2 v.ownBlock := grown_trans (grown_trans (World.grownBy_alloc _ _ _) HG1.out (.inl rfl)) hgrow2 (HA1.out.imp id fun e => ⟨_, Nat.le_succ _, e⟩)
  have ha2 : (Value.slice a2 n2 c2).ownBlock = v.ownBlock ∨ ∃ k, w.heap.size ≤ k ∧ (Value.slice a2 n2 c2).ownBlock = some k := by
    rcases hat2 with h | h
    · rcases HA1.out with h' | h'
      · exact .inl (h.trans h')
      · exact .inr ⟨_, Nat.le_succ _, h.trans h'⟩
    · exact .inr ⟨_, hs1, h⟩
  have hss : s.data.toList.length = s.size := by simp
  have hown : w2.ownsRow base 5 1 (.slice a2 n2 c2) (L ++ (UInt8.ofNat s.size :: s.data.toList)).length ((L ++ (UInt8.ofNat s.size :: s.data.toList)).map vu8) := by
    rw [List.length_append, List.length_cons, List.map_append, List.map_cons, vu8_of, hss, ← strCells_vu8, show L.length + (s.size + 1) = L.length + 1 + s.size by omega, show (s.size : Int) % 256 = s.size by omega]; exact hown2
  obtain ⟨hw2, hl2⟩ := writer_push HV.out hg2 ha2 (by rw [List.length_append, List.length_cons, hss]; omega) hown
  have hr2 := HV.out.row
  rw [← hg2.block g hgs (fun e => hne e.symm)] at hr2
  have h2 : w2.cell? ⟨g, 0, none⟩ = some v := cell_of_row w2 g 0 _ _ _ hr2
  have f2 : w2.frozen? ⟨g, 0, none⟩ = false := frozen_of_row w2 g 0 _ _ hr2
  have hw2s : base ≤ (w2.setCell ⟨g, 0, none⟩ (.slice a2 n2 c2)).heap.size := by have := hg2.size; simp [World.setCell]; omega
  have HL2 := Lib.hid hl2
  have HW2 := Lib.hid hw2
  obtain ⟨d, hd⟩ : ∃ d, d = m - s.size := ⟨_, rfl⟩
  have hd' : (m : Int) - (s.size : Int) = (d : Int) := by omega
  have HD := Lib.hid hd'
  have hdm : d ≤ 200 := by omega
  have HDD := Lib.hid hd
  obtain ⟨N, hN⟩ : ∃ N, N = (L ++ (UInt8.ofNat s.size :: s.data.toList)).length := ⟨_, rfl⟩
  have hN2 : N ≤ 90201 := by rw [hN, List.length_append, List.length_cons, hss]; omega
  have HN := Lib.hid hN
  have hown2' : (w2.setCell ⟨g, 0, none⟩ (.slice a2 n2 c2)).ownsRow base 5 1 (.slice a2 n2 c2) N ((L ++ (UInt8.ofNat s.size :: s.data.toList)).map vu8) := hN ▸ hw2.own
  have HO2 := Lib.hid hown2'
  clear hd hN hss hown2' hr2 hown hown2 hgrow2 hat2 ha2 hg2 hl2 hw2 hown1 h0 hd'
  go_wp2_with (refine wpList_append_zeros_at _ rfl (.tmp 41) (.tmp 45) 37 3 rfl base 5 i0 Tryd.underlying37 Tryd.underlying3 hi hz0 hz1 hz2 _ _ _ rfl HO2.out d _ rfl HD.out ?e1 ?e2 ?e3 ?_)
  case e1 => unfold maxLen; omega
  case e2 => omega
  case e3 => exact hw2s
  intro v3 w3 hown3 hgrow3 hat3
  obtain ⟨a3, n3, c3, rfl⟩ := own_form hown3
  have hr3 := HW2.out.row
  have hgs2 : g < (w2.setCell ⟨g, 0, none⟩ (.slice a2 n2 c2)).heap.size := (Array.getElem?_eq_some_iff.1 HW2.out.row).1
  rw [← hgrow3.block g hgs2 (fun e => HW2.out.ne e.symm)] at hr3
  have h3 : w3.cell? ⟨g, 0, none⟩ = some (.slice a2 n2 c2) := cell_of_row w3 g 0 _ _ _ hr3
  have f3 : w3.frozen? ⟨g, 0, none⟩ = false := frozen_of_row w3 g 0 _ _ hr3
  have hown : w3.ownsRow base 5 1 (.slice a3 n3 c3) ((L ++ (UInt8.ofNat s.size :: s.data.toList)) ++ List.replicate d 0).length (((L ++ (UInt8.ofNat s.size :: s.data.toList)) ++ List.replicate d 0).map vu8) := by
    rw [List.length_append, ← HN.out, List.length_replicate, List.map_append, ← zeros_vu8]; simpa using hown3
  obtain ⟨hw3, hl3⟩ := writer_push HW2.out hgrow3 (hat3.imp id fun e => ⟨_, by simp [World.setCell], e⟩) (by rw [List.length_append, ← HN.out, List.length_replicate]; omega) hown
  have hfin : (L ++ (UInt8.ofNat s.size :: s.data.toList)) ++ List.replicate d 0 = L ++ textB s.data.toList m := by
    rw [HDD.out, textB]; simp
  rw [hfin] at hw3
  have HW3 := Lib.hid hw3
  have HL3 := Lib.hid hl3
  clear hown hown3 hr3 hgrow3 hat3 hw3 hl3 hfin h2 f2
  go_wp2
  go_end0
  exact ⟨rfl, ⟨_, HW3.out⟩, HL2.out.trans HL3.out⟩
end Go.Proofs.YtnfmdcohacflmaaDoor
