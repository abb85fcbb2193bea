/- The device layer: Pending, Down, Writes, Size; burn. -/
import Derived.Test.YtnbdnnlomgjlmaaDev
namespace Go.Proofs.Ytnbdnnlomgjlmaa
open Go.RowKit
set_option linter.unusedSimpArgs false
set_option linter.unusedVariables false
set_option maxRecDepth 100000
theorem own_len {w : World} {base : Nat} {e : TypeId} {size : Nat} {v : Value} {n : Nat} {xs : List Value} (h : w.ownsRow base e size v n xs) : ∃ a c, v = .slice a n c := by
  rcases h.2 with ⟨rfl, rfl⟩ | ⟨g, cap, cur, rfl, _⟩
  · exact ⟨_, _, rfl⟩
  · exact ⟨_, _, rfl⟩
/-- What lies apart in a device. -/
structure DvApart (g gm : Nat) (pv fv : Value) : Prop where
  map : gm ≠ g
  pend : ∀ b, pv.ownBlock = some b → b ≠ g ∧ b ≠ gm
  fuse : ∀ b ∈ ptrBlock fv, b ≠ g ∧ b ≠ gm ∧ pv.ownBlock ≠ some b
theorem dv_apart {g gm : Nat} {pv fv : Value} (h : (dvFoot g gm pv fv).Nodup) : DvApart g gm pv fv := by
  unfold dvFoot at h
  rw [List.nodup_cons, List.nodup_cons, List.nodup_append] at h
  obtain ⟨h1, h2, h3, h4, h5⟩ := h
  simp only [List.mem_cons, List.mem_append, not_or] at h1 h2
  refine ⟨fun e => h1.1 e.symm, fun b hb => ⟨fun e => h1.2.1 (by subst e; simp [hb]), fun e => h2.1 (by subst e; simp [hb])⟩, fun b hb => ⟨fun e => h1.2.2 (e ▸ hb), fun e => h2.2 (e ▸ hb), fun e => h5 b (by simp [e]) b hb rfl⟩⟩
theorem dv_foot {g gm : Nat} {pv fv : Value} (h : DvApart g gm pv fv) : (dvFoot g gm pv fv).Nodup := by
  unfold dvFoot
  rw [List.nodup_cons, List.nodup_cons, List.nodup_append]
  refine ⟨?_, ?_, ?_, ?_, ?_⟩
  · simp only [List.mem_cons, List.mem_append, not_or]
    exact ⟨fun e => h.map e.symm, fun hb => (h.pend g (by simpa using hb)).1 rfl, fun hb => (h.fuse g hb).1 rfl⟩
  · simp only [List.mem_append, not_or]
    exact ⟨fun hb => (h.pend gm (by simpa using hb)).2 rfl, fun hb => (h.fuse gm hb).2.1 rfl⟩
  · cases pv.ownBlock <;> simp
  · cases fv <;> simp [ptrBlock]
    rename_i a
    cases a <;> simp [ptrBlock]
  · intro a ha b hb e
    subst e
    exact (h.fuse a hb).2.2 (by simpa using ha)
section
variable {w : World} {g : Nat} {s : Dv}
theorem pending_dev (h : (dvT g s).at w) : Calls Try.prog 49 #[.pointer (some ⟨g, 0, none⟩)] w fun e w' => e = .returned (.int .i64 (s.pend.length : Int)) ∧ w = w' := by
  have HD := Lib.hid h
  obtain ⟨gm, pv, fv, h⟩ := dv_open h
  obtain ⟨A, c, rfl⟩ := own_len h.pend
  have h2 : w.cell? ⟨g, 2, none⟩ = some (.slice A s.pend.length c) := cell_of_row w g 2 _ _ _ h.row
  clear h
  go_enter Try.func49, Try.ntmps49
  go_wp2_with (go_at_call 74; refine (none_dev HD.out).mono ?_; rintro e w1 ⟨rfl, rfl⟩)
  go_ret
  exact ⟨rfl, rfl⟩
theorem down_dev (h : (dvT g s).at w) : Calls Try.prog 46 #[.pointer (some ⟨g, 0, none⟩)] w fun e w' => e = .returned (.bool s.down) ∧ w = w' := by
  have HD := Lib.hid h
  obtain ⟨gm, pv, fv, h⟩ := dv_open h
  have h4 : w.cell? ⟨g, 4, none⟩ = some (.bool s.down) := cell_of_row w g 4 _ _ _ h.row
  clear h
  go_enter Try.func46, Try.ntmps46
  go_wp2_with (go_at_call 74; refine (none_dev HD.out).mono ?_; rintro e w1 ⟨rfl, rfl⟩)
  go_ret
  exact ⟨rfl, rfl⟩
theorem writes_dev (h : (dvT g s).at w) : Calls Try.prog 47 #[.pointer (some ⟨g, 0, none⟩)] w fun e w' => e = .returned (.int .u64 (s.writes : Int)) ∧ w = w' := by
  have HD := Lib.hid h
  obtain ⟨gm, pv, fv, h⟩ := dv_open h
  have h5 : w.cell? ⟨g, 5, none⟩ = some (.int .u64 (s.writes : Int)) := cell_of_row w g 5 _ _ _ h.row
  clear h
  go_enter Try.func47, Try.ntmps47
  go_wp2_with (go_at_call 74; refine (none_dev HD.out).mono ?_; rintro e w1 ⟨rfl, rfl⟩)
  go_ret
  exact ⟨rfl, rfl⟩
/-- A store into a cell of the device itself. -/
theorem dv_store {F : List Nat} {gm : Nat} {pv fv : Value} {s' : Dv} (h : DvV w g gm pv fv s) (hF : F = dvFoot g gm pv fv) (hn : F.Nodup) (i : Nat) (v : Value)
    (hc : (dvCells s gm pv fv).setIfInBounds i v = dvCells s' gm pv fv) (hg : s'.good = s.good) (hp : s'.pend = s.pend) (hf : s'.fuse = s.fuse) (hok : s'.Ok) : Turns F w (w.setCell ⟨g, i, none⟩ v) (dvT g s') := by
  subst hF
  have hap := dv_apart hn
  refine ⟨_, ⟨gm, pv, fv, rfl, ?_, ?_, ?_, ?_, hok⟩, (Only.refl _ _).setCell (.inl (by simp [dvFoot])) _, fun b hb => .inl hb, hn⟩
  · rw [← hc]; exact heap_setCell_same _ _ _ _ _ _ h.row
  · rw [hg]; exact h.good.kept (heap_setCell_other _ _ _ _ hap.map)
  · rw [hp]; exact ownsRow_same h.pend (fun b hb => heap_setCell_other _ _ _ _ (hap.pend b hb).1)
  · rw [hf]
    have := h.fuse
    unfold fuseAt at this ⊢
    split at this
    · exact this
    · obtain ⟨gf, rfl, hgf⟩ := this
      exact ⟨gf, rfl, (heap_setCell_other _ _ _ _ (hap.fuse gf (by simp [ptrBlock])).1).trans hgf⟩
theorem dv_turn {F : List Nat} {w' : World} {gm : Nat} {pv fv : Value} {s' : Dv} (hF : F = dvFoot g gm pv fv) (hn : F.Nodup) (hV : DvV w' g gm pv fv s') (ho : Only F w w') : Turns F w w' (dvT g s') :=
  ⟨F, ⟨gm, pv, fv, hF, hV⟩, ho, fun b hb => .inl hb, hn⟩
theorem wrap64_succ (n : Nat) : IntKind.u64.wrap ((n : Int) + 1) = (((n + 1) % 18446744073709551616 : Nat) : Int) := by
  rw [IntKind.wrap_u64]; omega
theorem burn_dev {F : List Nat} (h : (dvT g s).says F w) (hn : F.Nodup) : Calls Try.prog 70 #[.pointer (some ⟨g, 0, none⟩)] w fun e w' => e = .returned (.int .i64 s.burn.2) ∧ Turns F w w' (dvT g s.burn.1) := by
  obtain ⟨gm, pv, fv, hF, h⟩ := h
  have H := Lib.hid h
  have HF := Lib.hid hF
  have HN := Lib.hid hn
  have h3 : w.cell? ⟨g, 3, none⟩ = some fv := cell_of_row w g 3 _ _ _ h.row
  have h5 : w.cell? ⟨g, 5, none⟩ = some (.int .u64 (s.writes : Int)) := cell_of_row w g 5 _ _ _ h.row
  have h4 : w.cell? ⟨g, 4, none⟩ = some (.bool s.down) := cell_of_row w g 4 _ _ _ h.row
  have f4 : w.frozen? ⟨g, 4, none⟩ = false := frozen_of_row w g 4 _ _ h.row
  have f5 : w.frozen? ⟨g, 5, none⟩ = false := frozen_of_row w g 5 _ _ h.row
  have hw := wrap64_succ s.writes
  have hfu := h.fuse
  have hok := h.ok
  have HOK := Lib.hid hok
  clear h hF hn hok
  unfold fuseAt at hfu
  cases hs : s.fuse with
  | none =>
    rw [hs] at hfu
    simp only at hfu
    subst hfu
    have HS := Lib.hid hs
    clear hs
    go_enter Try.func70, Try.ntmps70
    go_wp2
    go_ret
    have e : s.burn = ({ s with writes := (s.writes + 1) % 18446744073709551616 }, 0) := by unfold Dv.burn; rw [HS.out]
    have hok := HOK.out.burn
    rw [e] at hok ⊢
    exact ⟨rfl, dv_store H.out HF.out HN.out 5 _ (by simp [dvCells]) rfl rfl rfl hok⟩
  | some k =>
    rw [hs] at hfu
    simp only at hfu
    obtain ⟨gf, rfl, hgf⟩ := hfu
    have c0 : w.cell? ⟨gf, 0, none⟩ = some (.int .i64 (k : Int)) := cell_of_row w gf 0 _ _ _ hgf
    have f0 : w.frozen? ⟨gf, 0, none⟩ = false := frozen_of_row w gf 0 _ _ hgf
    have HS := Lib.hid hs
    have HGF := Lib.hid hgf
    clear hs hgf
    cases k with
    | zero =>
      go_enter Try.func70, Try.ntmps70
      go_wp2
      go_ret
      have e : s.burn = ({ s with down := true }, 30) := by unfold Dv.burn; rw [HS.out]
      have hok := HOK.out.burn
      rw [e] at hok ⊢
      exact ⟨rfl, dv_store H.out HF.out HN.out 4 _ (by simp [dvCells]) rfl rfl rfl hok⟩
    | succ k =>
      have hap := dv_apart (HF.out ▸ HN.out)
      have hg1 := (hap.fuse gf (by simp [ptrBlock])).1
      have hkb := HOK.out.fuse _ HS.out
      have e5 : (w.setCell ⟨gf, 0, none⟩ (.int .i64 (k : Int))).cell? ⟨g, 5, none⟩ = some (.int .u64 (s.writes : Int)) := by
        rw [World.cell?_of_block (heap_setCell_other _ _ _ _ hg1.symm)]; exact h5
      have ff5 : (w.setCell ⟨gf, 0, none⟩ (.int .i64 (k : Int))).frozen? ⟨g, 5, none⟩ = false := by
        rw [World.frozen?_of_block (heap_setCell_other _ _ _ _ hg1.symm)]; exact f5
      have HAP := Lib.hid hap
      clear h5 f5 hap hg1
      go_enter Try.func70, Try.ntmps70
      go_wp2
      · go_ret
        have e : s.burn = ({ s with fuse := some k, writes := (s.writes + 1) % 18446744073709551616 }, 0) := by unfold Dv.burn; rw [HS.out]
        have hok := HOK.out.burn
        rw [e] at hok ⊢
        refine ⟨rfl, dv_turn HF.out HN.out ⟨?_, ?_, ?_, ?_, hok⟩ (((Only.refl _ _).setCell (.inl (by rw [HF.out]; simp [dvFoot, ptrBlock])) _).setCell (.inl (by rw [HF.out]; simp [dvFoot])) _)⟩
        · have hr : (w.setCell ⟨gf, 0, none⟩ (.int .i64 (k : Int))).heap[g]? = some (.cells (dvCells s gm pv (.pointer (some ⟨gf, 0, none⟩))) 108 (0, 0)) := (heap_setCell_other _ _ _ _ (HAP.out.fuse gf (by simp [ptrBlock])).1.symm).trans H.out.row
          have := heap_setCell_same _ g 5 _ _ (.int .u64 (((s.writes : Int) + 1) % 18446744073709551616)) hr
          rw [this]
          simp [dvCells]
        · exact (H.out.good.kept (heap_setCell_other _ _ _ _ (HAP.out.fuse gf (by simp [ptrBlock])).2.1.symm)).kept (heap_setCell_other _ _ _ _ HAP.out.map)
        · exact ownsRow_same (ownsRow_same H.out.pend (fun b hb => heap_setCell_other _ _ _ _ (fun e => (HAP.out.fuse gf (by simp [ptrBlock])).2.2 (hb.trans (congrArg some e))))) (fun b hb => heap_setCell_other _ _ _ _ (HAP.out.pend b hb).1)
        · refine ⟨gf, rfl, (heap_setCell_other _ _ _ _ (HAP.out.fuse gf (by simp [ptrBlock])).1).trans ?_⟩
          exact heap_setCell_same _ gf 0 _ _ _ HGF.out
end
end Go.Proofs.Ytnbdnnlomgjlmaa
