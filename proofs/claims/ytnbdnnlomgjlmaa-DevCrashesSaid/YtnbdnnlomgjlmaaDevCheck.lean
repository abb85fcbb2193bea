/- The device layer: check asks some questions, one behind the other. -/
import Derived.Test.YtnbdnnlomgjlmaaDevMap
import Derived.Test.YtnbdnnlomgjlmaaSteps
namespace Go.Proofs.Ytnbdnnlomgjlmaa
open Go.RowKit
set_option linter.unusedSimpArgs false
set_option maxRecDepth 100000
/-- A question: the error, the function with what it holds, the answer. -/
structure Ask where
  e : Int
  f : FuncId
  first : Array Value
  cap : Array Value
  r : Bool
/-- The answer is so in every world behind w. -/
structure Ask.Ok (x : Ask) (w : World) : Prop where
  ex : ∃ fn c, Try.prog.funcs[x.f]? = some fn ∧ fn.body = some c ∧ (fn.name == "runtime.NumGoroutine") = false
  calls : ∀ w', Below w.heap.size w w' → Calls Try.prog x.f (x.first ++ x.cap) w' fun e w'' => e = .returned (.bool x.r) ∧ Below w'.heap.size w' w''
theorem Ask.Ok.below {x : Ask} {w w' : World} (h : x.Ok w) (hb : Below w.heap.size w w') : x.Ok w' := ⟨h.ex, fun w2 h2 => h.calls w2 (hb.trans (h2.mono hb.size))⟩
def askCells (l : List Ask) : List Value := l.flatMap fun x => [.int .i64 x.e, .func (.func x.f) x.first x.cap]
def checkE (l : List Ask) : Int := match l.find? (·.r) with | some x => x.e | none => 0
theorem wpList_ask {P : Program} {ops : Array Oper} {o : Oper} {a : Act} {rest : List Oper} {w : World} {Q : Exit → Act → World → Prop} (hgd : o.guard = none) (x : Operand) (ts : Array TypeId) (ho : o.op = .call { callee := .value x, args := #[], argTypes := ts })
    (F : FuncId) (first cap : Array Value) (hx : a.eval x = .func (.func F) first cap) (hf : ∃ fn c, P.funcs[F]? = some fn ∧ fn.body = some c ∧ (fn.name == "runtime.NumGoroutine") = false) (v : Value)
    (hc : Calls P F (first ++ cap) w fun e w' => e = .returned v ∧ Below w.heap.size w w') (hK : ∀ w', Below w.heap.size w w' → wpList P ops Q rest (a.put o.dst v) w') : wpList P ops Q (o :: rest) a w := by
  obtain ⟨fn, c, hf, hb, hn⟩ := hf
  refine wpList_plain hgd fun K hK' => ?_
  have he : (execOp a.eval o).run P w = .ok (.enter F (first ++ cap)) w := by
    unfold execOp
    simp only [ho, resolve, hx]
    have hn' : ¬ fn.name = "runtime.NumGoroutine" := by simpa using hn
    simp [Deferred.ofValue, invoke, callFunc, hf, hb, hn']
  unfold Oper.wp
  rw [he]
  refine hc.mono ?_
  rintro e w' ⟨rfl, h⟩
  exact hK' _ _ (hK w' h)
theorem ask_at (l : List Ask) (k : Nat) (hk : k < l.length) : (askCells l)[2 * k]? = some (.int .i64 l[k].e) ∧ (askCells l)[2 * k + 1]? = some (.func (.func l[k].f) l[k].first l[k].cap) := by
  induction l generalizing k with
  | nil => simp at hk
  | cons x l ih =>
    cases k with
    | zero => simp [askCells]
    | succ k =>
      obtain ⟨h1, h2⟩ := ih k (by simpa using hk)
      constructor
      · rw [show 2 * (k + 1) = (2 * k) + 1 + 1 by omega]; simpa [askCells] using h1
      · rw [show 2 * (k + 1) + 1 = (2 * k + 1) + 1 + 1 by omega]; simpa [askCells] using h2
theorem checkE_hit (l : List Ask) (k : Nat) (hk : k < l.length) (h0 : ∀ i, (hi : i < k) → l[i].r = false) (h1 : l[k].r = true) : checkE l = l[k].e := by
  unfold checkE
  have : l.find? (·.r) = some l[k] := by
    rw [List.find?_eq_some_iff_getElem]
    exact ⟨h1, k, hk, rfl, fun j hj => by simp [h0 j hj]⟩
  rw [this]
theorem checkE_none (l : List Ask) (h0 : ∀ i, (hi : i < l.length) → l[i].r = false) : checkE l = 0 := by
  unfold checkE
  have : l.find? (·.r) = none := by
    rw [List.find?_eq_none]
    intro x hx
    obtain ⟨i, hi, rfl⟩ := List.mem_iff_getElem.1 hx
    simp [h0 i hi]
  rw [this]
theorem zeroAsk : (Try.prog.info? 112).bind (·.zero) = some (.agg #[.int .i64 0, .nilFunc]) := by kernel_rfl
theorem sizeAsk : (Try.prog.info? 112).map (·.size) = some 2 := by kernel_rfl
theorem askOne (e : Int) (f : FuncId) (first cap : Array Value) : (#[Value.int .i64 e, .func (.func f) first cap] : Array Value).all (·.oneCell') = true := by
  rw [Array.all_eq_true_iff_forall_mem]
  intro v hv
  simp only [List.mem_toArray, List.mem_cons, List.not_mem_nil, or_false] at hv
  rcases hv with rfl | rfl <;> rfl
set_option maxHeartbeats 1000000 in
theorem check_any (w : World) (b c : Nat) (l : List Ask) (cells : Array Value) (T : TypeId) (hl : l.length < 100) (hb : w.heap[b]? = some (.cells cells T (0, 0))) (hcs : cells.toList.take (2 * l.length) = askCells l) (hok : ∀ x ∈ l, x.Ok w) :
    Calls Try.prog 73 #[.slice (some ⟨b, 0, none⟩) l.length c] w fun e w' => e = .returned (.int .i64 (checkE l)) ∧ Below w.heap.size w w' := by
  have hbl : b < w.heap.size := (Array.getElem?_eq_some_iff.1 hb).1
  have HC : Hid (∀ (k : Nat), (hk : k < l.length) → w.cell? ⟨b, 2 * k, none⟩ = some (.int .i64 l[k].e) ∧ w.cell? ⟨b, 2 * k + 1, none⟩ = some (.func (.func l[k].f) l[k].first l[k].cap)) := Lib.hid (by
    intro k hk
    obtain ⟨h1, h2⟩ := ask_at l k hk
    rw [← hcs] at h1 h2
    rw [List.getElem?_take, if_pos (by omega)] at h1 h2
    exact ⟨(cell_of_row w b _ _ _ _ hb).trans (by simpa using h1), (cell_of_row w b _ _ _ _ hb).trans (by simpa using h2)⟩)
  have HOK := Lib.hid hok
  have HBL := Lib.hid hbl
  obtain ⟨n, hn⟩ : ∃ n, n = l.length := ⟨_, rfl⟩
  have HN := Lib.hid hn
  rw [← hn] at hl
  have HLN := Lib.hid hl
  clear hb hcs hok hbl
  rw [← hn]
  clear hn
  go_enter Try.func73, Try.ntmps73
  go_wp2_with fail
  go_loopw [7] (fun i wr => ∃ (k : Nat), k ≤ n ∧ i = .int .i64 (k : Int) ∧ (∀ j, (hj : j < l.length) → j < k → l[j].r = false) ∧ Below w.heap.size w wr) (fun i _ => n - (intOf i).toNat)
  case atStart => exact ⟨0, by omega, rfl, by omega, Below.refl _ _⟩
  case round =>
    obtain ⟨k, hk, rfl, hf, hB⟩ := hrel
    have HF := Lib.hid hf
    have HB := Lib.hid hB
    clear hf hB
    by_cases hlt : k < n
    · have hkl : k < l.length := by rw [← HN.out]; exact hlt
      have hc1 : wr.cell? ⟨b, k * 2, none⟩ = some (.int .i64 l[k].e) := by rw [Nat.mul_comm]; exact (HB.out.cell HBL.out).trans (HC.out k hkl).1
      have hc2 : wr.cell? ⟨b, k * 2 + 1, none⟩ = some (.func (.func l[k].f) l[k].first l[k].cap) := by rw [Nat.mul_comm]; exact (HB.out.cell HBL.out).trans (HC.out k hkl).2
      obtain ⟨x, hx⟩ : ∃ x, x = l[k] := ⟨_, rfl⟩
      rw [← hx] at hc1 hc2
      have hxo : x.Ok wr := (HOK.out x (by rw [hx]; exact List.getElem_mem hkl)).below HB.out
      have HX := Lib.hid hxo
      have HXK := Lib.hid hx
      clear hxo hx
      obtain ⟨e0, f0, first0, cap0, r0⟩ := x
      simp only at hc1 hc2
      go_wp2_with (first
        | refine wpList_alloc_row rfl 112 rfl _ zeroAsk ?_
        | refine wpList_store_new rfl 112 _ _ rfl _ #[.int .i64 e0, .func (.func f0) first0 cap0] _ rfl rfl sizeAsk rfl (askOne _ _ _ _) ?_
        | (refine wpList_ask rfl _ _ rfl f0 first0 cap0 rfl HX.out.ex (.bool r0) ((HX.out.below (Below.refl _ _ |>.alloc (Nat.le_refl _) _)).calls _ (Below.refl _ _)) ?_; intro w2 hw2; have c0 : w2.cell? ⟨wr.heap.size, 0, none⟩ = some (.int .i64 e0) := (hw2.cell (by simp)).trans (cell_of_row _ _ 0 _ _ _ (heap_alloc_new _ _)); have HW2 := Lib.hid hw2; clear hw2))
      · rename_i hr
        go_ret
        refine ⟨?_, HB.out.trans (((Below.refl _ _).alloc HB.out.size _).trans (HW2.out.mono (by have := HB.out.size; simp; omega)))⟩
        have hx := HXK.out
        subst hr
        have := checkE_hit l k hkl (fun i hi => HF.out i (by omega) hi) (by rw [← hx])
        rw [this, ← hx]; rfl
      · rename_i hr
        have hx := HXK.out
        subst hr
        refine ⟨⟨k + 1, by omega, by simp, fun j hj hjk => ?_, HB.out.trans (((Below.refl _ _).alloc HB.out.size _).trans (HW2.out.mono (by have := HB.out.size; simp; omega)))⟩, by simp [intOf]; omega⟩
        by_cases e : j = k
        · subst e; rw [← hx]
        · exact HF.out j hj (by omega)
    · obtain rfl : k = n := by omega
      have hz : ¬ ((k : Int) < (k : Int)) := by omega
      go_wp2_with fail
      go_ret
      exact ⟨by rw [checkE_none l (fun i hi => HF.out i hi (by rw [HN.out]; exact hi))]; rfl, HB.out⟩
end Go.Proofs.Ytnbdnnlomgjlmaa
