/- The document's numbers: the low bytes, by recursion. -/
import Derived.Test.YtcepfmjebgklfaaDoorSlot
import Derived.Lib.SlBytesRow
namespace Go.Proofs.YtcepfmjebgklfaaDoor
open Go.RowKit
set_option linter.unusedSimpArgs false
set_option maxRecDepth 100000
theorem step_calls {P : Program} {ops : Array Oper} {o : Oper} {a : Act} {w : World} {K : Act → World → Prop} {Q : Exit → Act → World → Prop} {E : Prop} (hg : o.guard = none)
    (f : FuncId) (xs : List Operand) (ts : Array TypeId) (args : Array Value) (v : Value) (fn : Func) (c : Code)
    (ho : o.op = .call { callee := .value (.func f), args := xs.toArray, argTypes := ts }) (hf : P.funcs[f]? = some fn) (hb : fn.body = some c) (hn : (fn.name == "runtime.NumGoroutine") = false)
    (hx : (xs.map a.eval).toArray = args)
    (hc : ∀ w : World, Calls P f args w fun e w'' => e = .returned v ∧ Below w.heap.size w w'')
    (hK : ∀ w', Below w.heap.size w w' → K (a.put o.dst v) w') : if Region.wanted o (yielded ops a.tmps) = true then Oper.wp P o a w K Q else E := by
  have hw : Region.wanted o (yielded ops a.tmps) = true := by simp [Region.wanted, hg]
  rw [if_pos hw]
  have he : (execOp a.eval o).run P w = .ok (.enter f (xs.map a.eval).toArray) w := by
    unfold execOp
    simp only [ho, resolve]
    show ((do let d ← Deferred.ofValue (.func (.func f) #[] #[]) (xs.toArray.map a.eval); invoke d.target d.args) : Sem Next).run P w = _
    have hn' : ¬ fn.name = "runtime.NumGoroutine" := by simpa using hn
    simp [Deferred.ofValue, invoke, callFunc, hf, hb, hn']
  unfold Oper.wp
  rw [he, hx]
  refine (hc w).mono ?_
  rintro e w' ⟨rfl, h⟩
  exact hK w' h
theorem cell_kept {w w2 : World} {v : Value} {t : TypeId} (h : Below (w.alloc (.cells #[v] t)).drew.heap.size (w.alloc (.cells #[v] t)).drew w2) : w2.cell? ⟨w.heap.size, 0, none⟩ = some v :=
  cell_of_row w2 _ 0 _ _ (0, 0) ((h.block _ (by simp)).trans (heap_alloc_new w (.cells #[v] t)))
def lowsS (x k : Nat) : ByteArray := ⟨(lows x k).toArray⟩
set_option maxHeartbeats 1000000 in
theorem refnum_any : ∀ (k : Nat), k ≤ 8 → ∀ (x : Nat), x < 18446744073709551616 → ∀ w : World,
    Calls Tryd.prog 75 #[.int .u64 (x : Int), .int .i64 (k : Int)] w fun e w' => e = .returned (.string (lowsS x k)) ∧ Below w.heap.size w w' := by
  intro k
  induction k with
  | zero =>
    intro _ x hx w
    go_enter Tryd.func75, Tryd.ntmps75
    go_wp2_with fail
    go_ret
    exact ⟨rfl, Below.refl _ _⟩
  | succ k ih =>
    intro hk x hx w
    obtain ⟨r, hr⟩ : ∃ r, r = x % 256 := ⟨_, rfl⟩
    obtain ⟨q, hq⟩ : ∃ q, q = x / 256 := ⟨_, rfl⟩
    have IH := Lib.hid (ih (by omega) q (by omega))
    have e1 : IntKind.u8.wrap ((x : Int).tmod 256) = (r : Int) := by rw [Int.tmod_eq_emod_of_nonneg (by omega), IntKind.wrap_u8]; omega
    have e2 : IntKind.u64.wrap ((x : Int) / 256) = (q : Int) := by rw [IntKind.wrap_u64]; omega
    have e3 : IntKind.i64.wrap (k : Int) = (k : Int) := by rw [IntKind.wrap_i64]; omega
    have hcv : ∀ (W : World) (g : Nat), W.cell? ⟨g, 0, none⟩ = some (.int .u8 (r : Int)) → (convert 27 9 (.slice (some ⟨g, 0, none⟩) 1 1)).run Tryd.prog W = .ok (.string ⟨#[UInt8.ofNat x]⟩) W := by
      intro W g hc
      have hu : UInt8.ofNat x = UInt8.ofNat r := by rw [hr]; apply UInt8.toNat_inj.1; simp
      have hn : (UInt8.ofNat r).toNat = r := by rw [UInt8.toNat_ofNat']; omega
      rw [hu]
      refine Lib.run_convert_whole W 27 5 9 Tryd.underlying27 Tryd.underlying5 Tryd.underlying9 g 0 ⟨#[UInt8.ofNat r]⟩ ?_ 1
      intro i hi
      obtain rfl : i = 0 := by simpa [ByteArray.size] using hi
      rw [Nat.zero_add, hc]
      show some (Value.int .u8 (r : Int)) = some (.int .u8 (((UInt8.ofNat r).toNat : Nat) : Int))
      rw [hn]
    have hsz : ¬ 9223372036854775807 < 1 + (lowsS q k).size := by
      show ¬ 9223372036854775807 < 1 + (lows q k).toArray.size
      simp [length_lows]; omega
    have hcat : (⟨#[UInt8.ofNat x]⟩ : ByteArray) ++ lowsS q k = lowsS x (k + 1) := by
      subst hq
      apply ByteArray.ext
      apply Array.toList_inj.1
      simp [lowsS, lows]
    have HR := Lib.hid hr
    have HQ := Lib.hid hq
    clear ih hr hq
    go_enter Tryd.func75, Tryd.ntmps75
    go_wp2_with fail
    go_region_law (refine step_calls rfl 75 [.tmp 13, .tmp 15] _ #[.int .u64 (q : Int), .int .i64 (k : Int)] (.string (lowsS q k)) _ _ rfl Tryd.func75 rfl (by kernel_rfl) (by simp [Act.eval, Act.put]) IH.out ?_; intro w2 hb2; try have hc2 : w2.cell? ⟨w.heap.size, 0, none⟩ = some (.int .u8 (r : Int)) := cell_kept hb2)
    · go_wp2_with fail
      go_ret
      exact ⟨rfl, (((Below.refl _ _).alloc (Nat.le_refl _) _).drew).trans (hb2.mono (by simp))⟩
    · go_wp2_with fail
      go_ret
      exact ⟨rfl, (((Below.refl _ _).alloc (Nat.le_refl _) _).drew).trans (hb2.mono (by simp))⟩
    · go_wp2_with fail
      go_ret
      exact ⟨rfl, by first | exact ((Below.refl _ _).drew.trans hb2).alloc hb2.size _ | exact (((Below.refl _ _).drew.trans hb2).alloc hb2.size _).drew⟩
end Go.Proofs.YtcepfmjebgklfaaDoor
