/- The device layer: Fuse, Flush. -/
import Derived.Test.YtnbdnnlomgjlmaaDev8
namespace Go.Proofs.Ytnbdnnlomgjlmaa
open Go.RowKit
set_option linter.unusedSimpArgs false
set_option linter.unusedVariables false
set_option maxRecDepth 100000
/-- The question whether a number is below nought. -/
def negQ (k : Int) (b : Nat) : Ask := ⟨2, 69, #[], #[.pointer (some ⟨b, 0, none⟩)], decide (k < 0)⟩
theorem negQ_ok {w : World} (k : Int) (b : Nat) (hc : w.cell? ⟨b, 0, none⟩ = some (.int .i64 k)) (hb : b < w.heap.size) : (negQ k b).Ok w := by
  refine ⟨⟨_, _, Try.func69, rfl, by kernel_rfl⟩, fun w' hbe => ?_⟩
  have c0 : w'.cell? ⟨b, 0, none⟩ = some (.int .i64 k) := (hbe.cell hb).trans hc
  clear hbe hc
  show Calls Try.prog 69 #[.pointer (some ⟨b, 0, none⟩)] w' _
  go_enter Try.func69, Try.ntmps69
  go_wp2
  go_ret
  exact ⟨rfl, Below.refl _ _⟩
set_option maxHeartbeats 1000000 in
theorem fuse_dev {F : List Nat} {w : World} {g : Nat} {s : Dv} (h : (dvT g s).says F w) (hn : F.Nodup) (k : Int) (hk : k < 9223372036854775808) :
    Calls Try.prog 41 #[.pointer (some ⟨g, 0, none⟩), .int .i64 k] w fun e w' => e = .returned (.int .i64 (s.lay k).2) ∧ Turns F w w' (dvT g (s.lay k).1) := by
  have H := Lib.hid h
  have HN := Lib.hid hn
  have HK := Lib.hid hk
  clear h hn hk
  obtain ⟨i, hi, hz, hs2, hby⟩ := info_parts Try.infoAsk
  have hI := Lib.hid hi
  have hZ := Lib.hid hz
  clear hi hz
  have hmf : ∀ (fn : Fn) (first cap : Array Value) (w : World), (Instr.makeFunc fn first cap).run Try.prog w = .ok (.func fn first cap) w := fun _ _ _ _ => rfl
  obtain ⟨W0, hW0⟩ : ∃ W, W = w.alloc (.cells #[.int .i64 k] 3) := ⟨_, rfl⟩
  have hb0 : Below w.heap.size w W0 := by rw [hW0]; exact (Below.refl _ _).alloc (Nat.le_refl _) _
  obtain ⟨bk, hbk⟩ : ∃ b, b = w.heap.size := ⟨_, rfl⟩
  have HBK : Hid (W0.heap[bk]? = some (.cells #[.int .i64 k] 3 (0, 0))) := Lib.hid (by rw [hW0, hbk]; exact heap_alloc_new _ _)
  have HB0 := Lib.hid hb0
  have HAT : Hid ((dvT g s).at w) := Lib.hid ⟨F, H.out⟩
  have HBE := Lib.hid hbk
  have hx0 : (negQ k bk).Ok W0 := negQ_ok k bk (cell_of_row W0 bk 0 _ _ _ HBK.out) (Array.getElem?_eq_some_iff.1 HBK.out).1
  have HX0 := Lib.hid hx0
  have hE : upE s [negQ k bk] = (s.lay k).2 := by
    unfold upE Dv.lay
    by_cases h1 : k < 0
    · simp [negQ, h1]
    · cases h2 : s.down <;> simp [negQ, h1, h2]
  have HE := Lib.hid hE
  have hcase : ((s.lay k).2 ≠ 0 ∧ (s.lay k).1 = s) ∨ ((s.lay k).2 = 0 ∧ 0 ≤ k ∧ (s.lay k).1 = { s with fuse := some k.toNat }) := by
    unfold Dv.lay
    by_cases h1 : k < 0
    · rw [if_pos h1]; exact .inl ⟨by show (2 : Int) ≠ 0; decide, rfl⟩
    · rw [if_neg h1]
      cases h2 : s.down with
      | true => rw [if_pos rfl]; exact .inl ⟨by show (30 : Int) ≠ 0; decide, rfl⟩
      | false => rw [if_neg (by decide)]; exact .inr ⟨rfl, by omega, rfl⟩
  obtain ⟨E, hEE⟩ : ∃ E, E = (s.lay k).2 := ⟨_, rfl⟩
  rw [← hEE] at HE hcase ⊢
  have HCASE := Lib.hid hcase
  clear hEE hcase hE hx0
  go_enter Try.func41, Try.ntmps41
  go_upto_region 1 with (fail)
  rw [← hW0, ← hbk]
  clear hW0 hb0 hbk
  go_upto_region 2 with (first
    | refine wpList_plain rfl fun K hK' => wp_build_one 132 112 _ rfl (askV (negQ k bk)) rfl i _ Try.underlying132 hI.out hZ.out (by rw [hs2]; rfl) (by omega) (by omega) (hK' _ _ ?_)
    | (go_at_call 68; refine (up_dev (HAT.out.since (HB0.out.trans (((Below.refl _ _).alloc (Nat.le_refl _) _).mono HB0.out.size))) _ [negQ k bk] (by simp) (.one _ 1 _ (heap_alloc_new _ _)) (by intro z hz; simp at hz; subst hz; exact HX0.out.below ((Below.refl _ _).alloc (Nat.le_refl _) _))).mono ?_; rintro e w2 ⟨rfl, hb2⟩; have HB2 := Lib.hid hb2; clear hb2; rw [HE.out]))
  have HBW : Hid (Below W0.heap.size W0 w2) := Lib.hid (((Below.refl _ _).alloc (Nat.le_refl _) _).trans (HB2.out.mono (by simp)))
  have HBW2 := Lib.hid (HB0.out.trans (HBW.out.mono HB0.out.size))
  rcases HCASE.out with ⟨hE0, hs⟩ | ⟨rfl, hk0, hs⟩
  · have he : (E == 0) = false := by simpa using hE0
    have HS := Lib.hid hs
    clear hE0 hs
    go_wp2
    go_ret
    rw [HS.out]
    exact ⟨rfl, dv_same H.out HN.out HBW2.out⟩
  · obtain ⟨gm, pv, fv, hF, hV⟩ := H.out
    have hV2 := hV.below HBW2.out
    have hrow := hV2.row
    have c3 : w2.cell? ⟨g, 3, none⟩ = some fv := cell_of_row w2 g 3 _ _ _ hrow
    have f3 : w2.frozen? ⟨g, 3, none⟩ = false := frozen_of_row w2 g 3 _ _ hrow
    have hbk2 := (HBW.out.block bk (Array.getElem?_eq_some_iff.1 HBK.out).1).trans HBK.out
    have hap := dv_apart (hF ▸ HN.out)
    have hlt : ∀ b ∈ F, b < bk := fun b hb => by rw [HBE.out]; exact (dvT g s).lt F w H.out b hb
    have hap2 : DvApart g gm pv (.pointer (some ⟨bk, 0, none⟩)) := by
      refine ⟨hap.map, hap.pend, fun b hb => ?_⟩
      simp only [ptrBlock, List.mem_singleton] at hb
      subst hb
      have l1 := hlt g (by rw [hF]; simp [dvFoot])
      have l2 := hlt gm (by rw [hF]; simp [dvFoot])
      refine ⟨by omega, by omega, fun e => ?_⟩
      have := hlt b (by rw [hF]; simp [dvFoot, e])
      omega
    have hV3 : DvV (w2.setCell ⟨g, 3, none⟩ (.pointer (some ⟨bk, 0, none⟩))) g gm pv (.pointer (some ⟨bk, 0, none⟩)) { s with fuse := some k.toNat } := by
      have ho : ∀ b, b ≠ g → (w2.setCell ⟨g, 3, none⟩ (.pointer (some ⟨bk, 0, none⟩))).heap[b]? = w2.heap[b]? := fun b hb => heap_setCell_other _ _ _ _ hb
      refine ⟨?_, hV2.good.kept (ho gm hap.map), ownsRow_same hV2.pend (fun b hb => ho b (hap.pend b hb).1), ⟨bk, rfl, ?_⟩, ⟨hV.ok.size, hV.ok.good, hV.ok.pend, fun j hj => ?_, hV.ok.writes⟩⟩
      · rw [heap_setCell_same w2 g 3 _ _ _ hrow]; simp [dvCells]
      · rw [ho bk (hap2.fuse bk (by simp [ptrBlock])).1, hbk2, Int.toNat_of_nonneg hk0]
      · simp at hj
        have := HK.out
        omega
    have hT : Turns F w (w2.setCell ⟨g, 3, none⟩ (.pointer (some ⟨bk, 0, none⟩))) (dvT g { s with fuse := some k.toNat }) := by
      refine ⟨dvFoot g gm pv (.pointer (some ⟨bk, 0, none⟩)), ⟨gm, pv, _, rfl, hV3⟩, (Only.of_below HBW2.out).setCell (.inl (by rw [hF]; simp [dvFoot])) _, ?_, dv_foot hap2⟩
      intro b hb
      rw [hF]
      simp only [dvFoot, List.mem_cons, List.mem_append, ptrBlock, List.not_mem_nil, or_false] at hb ⊢
      rcases hb with h | h | h | h
      · exact .inl (.inl h)
      · exact .inl (.inr (.inl h))
      · exact .inl (.inr (.inr (.inl h)))
      · exact .inr (by rw [h, HBE.out]; exact Nat.le_refl _)
    have HT := Lib.hid hT
    have HS := Lib.hid hs
    clear hT hV3 hap2 hlt hap hbk2 hrow hV2 hV hF hs hk0
    go_wp2
    go_ret
    rw [HS.out]
    exact ⟨rfl, HT.out⟩
end Go.Proofs.Ytnbdnnlomgjlmaa
