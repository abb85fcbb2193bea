/- The field layer's reader: Text, whatever stands there. -/
import Derived.Test.YtnfmdcohacflmaaDoorReadS
namespace Go.Proofs.YtnfmdcohacflmaaDoor
open Go.RowKit
set_option linter.unusedSimpArgs false
set_option linter.unusedVariables false
set_option maxRecDepth 100000
def fineT (b : List UInt8) (i m : Nat) (fine : Bool) : Bool := fine && textOk (seg b i (1 + m)) m
def textV (b : List UInt8) (i m : Nat) (fine : Bool) : ByteArray := if fineT b i m fine then textOf (seg b i (1 + m)) else ⟨#[]⟩
def nextT (b : List UInt8) (i m : Nat) (fine : Bool) : Nat := if fineT b i m fine then i + (1 + m) else i
theorem textV_yes {b : List UInt8} {i m : Nat} {fine : Bool} (h : fineT b i m fine = true) : textV b i m fine = textOf (seg b i (1 + m)) ∧ nextT b i m fine = i + (1 + m) ∧ fine = true ∧ textOk (seg b i (1 + m)) m = true := by
  unfold textV nextT
  rw [h]
  unfold fineT at h
  simp only [Bool.and_eq_true] at h
  exact ⟨rfl, rfl, h.1, h.2⟩
theorem textV_no {b : List UInt8} {i m : Nat} {fine : Bool} (h : fineT b i m fine = false) : textV b i m fine = ⟨#[]⟩ ∧ nextT b i m fine = i := by
  unfold textV nextT
  rw [h]
  exact ⟨rfl, rfl⟩
theorem rtext_all (w : World) (g gb : Nat) (b : List UInt8) (i m : Nat) (fine : Bool) (hr : ReaderAt w g gb b i fine) (hm : m ≤ 200) (hf : i + (1 + m) ≤ 252) :
    Calls Tryd.prog 13 #[.pointer (some ⟨g, 0, none⟩), .int .i64 (m : Int)] w fun e w' => e = .returned (.string (textV b i m fine)) ∧ ReaderAt w' g gb b (nextT b i m fine) (fineT b i m fine) ∧ w.grownBy w' (some g) := by
  have hmf : ∀ (fn : Fn) (first cap : Array Value) (w : World), (Instr.makeFunc fn first cap).run Tryd.prog w = .ok (.func fn first cap) w := fun _ _ _ _ => rfl
  obtain ⟨W, hW⟩ : ∃ W, W = w.alloc (.cells #[.int .i64 (m : Int)] 3) := ⟨_, rfl⟩
  obtain ⟨gm, hgm⟩ : ∃ gm, gm = w.heap.size := ⟨_, rfl⟩
  have hB : Below w.heap.size w W := by rw [hW]; exact (Below.refl _ _).alloc (Nat.le_refl _) _
  have hgr : w.grownBy W (some g) := by rw [hW]; exact World.grownBy_alloc _ _ _
  have c0 : W.cell? ⟨gm, 0, none⟩ = some (.int .i64 (m : Int)) := by rw [hW, hgm, cell_of_row _ _ 0 _ _ _ (heap_alloc_new _ _)]; rfl
  have hadd : IntKind.i64.wrap ((1 : Int) + (m : Int)) = ((1 + m : Nat) : Int) := by rw [IntKind.wrap_i64]; omega
  have HR : Hid (Calls Tryd.prog 25 #[.pointer (some ⟨g, 0, none⟩), .bool true, .int .i64 ((1 + m : Nat) : Int), .func (.func 26) #[] #[.pointer (some ⟨gm, 0, none⟩)]] W fun e w' => e = .returned (.string (textV b i m fine)) ∧ ReaderAt w' g gb b (nextT b i m fine) (fineT b i m fine) ∧ W.grownBy w' (some g)) := Lib.hid (by
    cases hF : fineT b i m fine with
    | true =>
      obtain ⟨h1, h2, h3, h4⟩ := textV_yes hF
      rw [h1, h2]
      subst h3
      exact takeS_ok W g gb gm b i (1 + m) m (hr.below hB) rfl hm c0 hf h4
    | false =>
      obtain ⟨h1, h2⟩ := textV_no hF
      rw [h1, h2]
      cases fine with
      | false => exact takeS_fail W g gb gm b i (1 + m) false true (hr.below hB) (by omega) rfl
      | true => exact takeS_no W g gb gm b i (1 + m) m (hr.below hB) rfl hm c0 hf (by simpa [fineT] using hF))
  have HW := Lib.hid hW
  have HG := Lib.hid hgm
  have HGR := Lib.hid hgr
  have HD : Hid (decide ((m : Int) ≤ 200) = true) := Lib.hid (decide_eq_true (by omega))
  generalize textV b i m fine = s at HR ⊢
  generalize nextT b i m fine = j at HR ⊢
  generalize fineT b i m fine = f at HR ⊢
  clear hW hgm hB hgr hr
  rw [show (((1 + m : Nat)) : Int) = 1 + (m : Int) by omega] at HR hadd
  go_enter Tryd.func13, Tryd.ntmps13
  go_upto_region 1 with (fail)
  rw [← HW.out, ← HG.out]
  clear hadd
  go_wp2_with fail
  rw [HD.out]
  refine HR.out.mono ?_
  rintro e w1 ⟨rfl, hr1, hg1⟩
  have HR1 := Lib.hid hr1
  have HG1 := Lib.hid (grown_trans2 HGR.out hg1)
  clear hr1 hg1
  go_wp2_with fail
  go_ret
  exact ⟨rfl, HR1.out, HG1.out⟩
end Go.Proofs.YtnfmdcohacflmaaDoor
