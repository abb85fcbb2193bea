/- Some readers of one block as a thing that a caller holds; reads of bad widths. -/
import Derived.Test.YtnfmdcohacflmaaDoorRdHeld
import Derived.Test.YtnfmdcohacflmaaDoorWr
namespace Go.Proofs.YtnfmdcohacflmaaDoor
open Go.RowKit
set_option linter.unusedSimpArgs false
set_option linter.unusedVariables false
set_option maxRecDepth 100000
def rdsT (b : List UInt8) (l : List (Nat × Nat × Bool)) : Thing where
  says F w := F.Nodup ∧ (∀ y ∈ F, y < w.heap.size) ∧ (l.map (·.1)).Nodup ∧ ∀ x ∈ l, ∃ gb, x.1 ∈ F ∧ gb ∈ F ∧ ReaderAt w x.1 gb b x.2.1 x.2.2
  lt := fun F w h => h.2.1
  loc := by
    rintro F w w' h ⟨h1, h2, h3, h4⟩
    refine ⟨h1, fun y hy => ?_, h3, fun x hx => ?_⟩
    · have := h2 y hy
      have e := h y hy
      rw [Array.getElem?_eq_getElem this] at e
      exact (Array.getElem?_eq_some_iff.1 e).1
    · obtain ⟨gb, a, c, hr⟩ := h4 x hx
      exact ⟨gb, a, c, (h _ a).trans hr.row, (h _ c).trans hr.src, hr.len, hr.lt, hr.ne⟩
section
variable {w0 W : World} {b : List UInt8} {l : List Thing} {q : List (Nat × Nat × Bool)}
theorem rds_get (R : Held w0 W (rdsT b q :: l)) (k g i : Nat) (f : Bool) (e : q[k]? = some (g, i, f)) : ∃ gb, ReaderAt W g gb b i f := by
  obtain ⟨F, _, _, _, h⟩ := R.thing 0 rfl
  obtain ⟨gb, _, _, hr⟩ := h _ (List.mem_of_getElem? e)
  exact ⟨gb, hr⟩
theorem rds_act {f : FuncId} {args : Array Value} {Q : Ending → Prop} {g i j : Nat} {fi fj : Bool} (R : Held w0 W (rdsT b q :: l)) (k : Nat) (e : q[k]? = some (g, i, fi))
    (h : ∀ gb, ReaderAt W g gb b i fi → Calls Tryd.prog f args W fun e w' => Q e ∧ ReaderAt w' g gb b j fj ∧ W.grownBy w' (some g)) :
    Calls Tryd.prog f args W fun e w' => Q e ∧ Held w0 w' (rdsT b (q.set k (g, j, fj)) :: l) := by
  refine R.act (fun F hF hn => ?_)
  obtain ⟨h1, h2, h3, h4⟩ := hF
  obtain ⟨gb, hg, hgb, hr⟩ := h4 _ (List.mem_of_getElem? e)
  refine (h gb hr).mono ?_
  rintro e' w' ⟨he, hr', hG⟩
  have hk := List.getElem?_eq_some_iff.1 e
  refine ⟨he, F, ⟨h1, fun y hy => Nat.lt_of_lt_of_le (h2 y hy) hG.size, ?_, ?_⟩, Only.of_grown hG (fun k hk => by cases hk; exact hg), fun y hy => .inl hy, h1⟩
  · have : (q.set k (g, j, fj)).map (·.1) = q.map (·.1) := by
      rw [List.map_set]
      apply List.ext_getElem?
      intro m
      rw [List.getElem?_set]
      split
      · rename_i hm
        subst hm
        rw [List.getElem?_map, e]
        simp [hk.1]
      · rfl
    rw [this]; exact h3
  · intro x hx
    obtain ⟨m, hm⟩ := List.mem_iff_getElem?.1 hx
    rw [List.getElem?_set] at hm
    split at hm
    · split at hm
      · cases hm
        exact ⟨gb, hg, hgb, hr'⟩
      · cases hm
    · rename_i hkm
      obtain ⟨gb2, a, c, hr2⟩ := h4 x (List.mem_of_getElem? hm)
      have hne : x.1 ≠ g := by
        intro hx1
        have e1 : (q.map (·.1))[m]? = some g := by rw [List.getElem?_map, hm, ← hx1]; rfl
        have e2 : (q.map (·.1))[k]? = some g := by rw [List.getElem?_map, e]; rfl
        obtain ⟨l1, q1⟩ := List.getElem?_eq_some_iff.1 e1
        obtain ⟨l2, q2⟩ := List.getElem?_eq_some_iff.1 e2
        have hpw := List.pairwise_iff_getElem.1 h3
        rcases Nat.lt_trichotomy k m with hlt | heq | hgt
        · exact hpw k m l2 l1 hlt (q2.trans q1.symm)
        · exact hkm heq
        · exact hpw m k l1 l2 hgt (q1.trans q2.symm)
      have hne2 : gb2 ≠ g := by
        rintro rfl
        have := hr2.src.symm.trans hr.row
        simp only [Option.some.injEq, Obj.cells.injEq] at this
        have h0 := congrArg Array.size this.1
        rw [size_blk, hr.len] at h0
        simp at h0
      exact ⟨gb2, a, c, (hG.block _ (h2 _ a) (fun h => hne (by cases h; rfl))).trans hr2.row, (hG.block _ (h2 _ c) (fun h => hne2 (by cases h; rfl))).trans hr2.src, hr2.len, hr2.lt, hr2.ne⟩
theorem rnum_bad (w : World) (g gb : Nat) (b : List UInt8) (i n : Nat) (f : Bool) (hr : ReaderAt w g gb b i f) (hn : widthB (n : Int) = false) (h8 : n ≤ 256) :
    Calls Tryd.prog 12 #[.pointer (some ⟨g, 0, none⟩), .int .i64 (n : Int)] w fun e w' => e = .returned (.int .u64 0) ∧ ReaderAt w' g gb b i false ∧ w.grownBy w' (some g) := by
  have HR := Lib.hid hr
  have HN : Hid (∀ w, Calls Tryd.prog 22 #[.int .i64 (n : Int)] w fun e w' => e = .returned (.bool false) ∧ w = w') := Lib.hid (fun w => by rw [← hn]; exact width_all n w)
  clear hr hn
  go_enter Tryd.func12, Tryd.ntmps12
  go_wp2_with (go_at_call 22; refine (HN.out _).mono ?_; rintro e w1 ⟨rfl, rfl⟩)
  refine (take_fail _ _ _ _ _ _ f false HR.out h8 (by simp)).mono ?_
  rintro e w1 ⟨rfl, hr1, hg1⟩
  have HR1 := Lib.hid hr1
  have HG1 := Lib.hid hg1
  clear hr1 hg1
  go_wp2_with fail
  go_ret
  exact ⟨rfl, HR1.out, HG1.out⟩
theorem rds_num {g i : Nat} {f : Bool} (R : Held w0 W (rdsT b q :: l)) (k : Nat) (e : q[k]? = some (g, i, f)) (n : Nat) (hn : n = 1 ∨ n = 2 ∨ n = 4 ∨ n = 8) (hf : i + n ≤ 252) :
    Calls Tryd.prog 12 #[.pointer (some ⟨g, 0, none⟩), .int .i64 (n : Int)] W fun e w' => e = .returned (.int .u64 (readV b i n f : Int)) ∧ Held w0 w' (rdsT b (q.set k (g, nextI i n f, f)) :: l) :=
  rds_act R k e (fun gb hr => rnum_all W g gb b i n f hr hn hf)
theorem rds_bad {g i : Nat} {f : Bool} (R : Held w0 W (rdsT b q :: l)) (k : Nat) (e : q[k]? = some (g, i, f)) (n : Nat) (hn : widthB (n : Int) = false) (h8 : n ≤ 256) :
    Calls Tryd.prog 12 #[.pointer (some ⟨g, 0, none⟩), .int .i64 (n : Int)] W fun e w' => e = .returned (.int .u64 0) ∧ Held w0 w' (rdsT b (q.set k (g, i, false)) :: l) :=
  rds_act R k e (fun gb hr => rnum_bad W g gb b i n f hr hn h8)
theorem rds_end {g i : Nat} {f : Bool} (R : Held w0 W (rdsT b q :: l)) (k : Nat) (e : q[k]? = some (g, i, f)) :
    Calls Tryd.prog 15 #[.pointer (some ⟨g, 0, none⟩)] W fun e w' => e = .returned (.int .i64 (endV b i f)) ∧ Below W.heap.size W w' := by
  obtain ⟨gb, hr⟩ := rds_get R k g i f e
  exact end_all W g gb b i f hr
theorem rds_fine {g i : Nat} {f : Bool} (R : Held w0 W (rdsT b q :: l)) (k : Nat) (e : q[k]? = some (g, i, f)) :
    Calls Tryd.prog 14 #[.pointer (some ⟨g, 0, none⟩)] W fun e w' => e = .returned (.bool f) ∧ W = w' := by
  obtain ⟨gb, hr⟩ := rds_get R k g i f e
  exact fine_any W g gb b i f hr
end
end Go.Proofs.YtnfmdcohacflmaaDoor
