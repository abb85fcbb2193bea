/- The card layer: Kids. -/
import Derived.Test.YtnbdnnlomgjlmaaCard4
namespace Go.Proofs.Ytnbdnnlomgjlmaa
open Go.RowKit
set_option linter.unusedSimpArgs false
theorem infoU32 : (Try.prog.info? 25).map (fun i => (i.zero, i.size, i.bytes)) = some (some (.int .u32 0), 1, 4) := by kernel_rfl
theorem sizeU32 : (Try.prog.info? 25).map (·.size) = some 1 := by kernel_rfl
/-- The slice v is the call's own and holds the numbers L, of 32 bits each. -/
def OwnNums (w : World) (base : Nat) (v : Value) (L : List Nat) : Prop := w.ownsRow base 25 1 v L.length (L.map cu)
def some3 (l : List Nat) : List Nat := l.filter (fun x => x != 0)
def Card.kids (c : Card) : List Nat := [c.left, c.right, c.root]
theorem some3_succ (l : List Nat) (k : Nat) (h : k < l.length) : some3 (l.take (k + 1)) = some3 (l.take k) ++ if l.getD k 0 = 0 then [] else [l.getD k 0] := by
  unfold some3
  have e : l.getD k 0 = l[k] := by simp [List.getD, h]
  rw [List.take_succ_eq_append_getElem h, List.filter_append, e]
  by_cases h0 : l[k] = 0 <;> simp [h0]
theorem some3_len (l : List Nat) : (some3 l).length ≤ l.length := List.length_filter_le _ _
set_option maxRecDepth 100000 in
set_option maxHeartbeats 1000000 in
theorem kids_any (c : Card) (hc : c.Ok) (w : World) :
    Calls Try.prog 66 #[.agg c.cells] w fun e w' => ∃ v, e = .returned v ∧ OwnNums w' w.heap.size v (some3 c.kids) ∧ Below w.heap.size w w' := by
  have hk3 : ∀ k, k < 3 → (#[cu c.left, cu c.right, cu c.root] : Array Value)[k]? = some (.int .u32 (c.kids.getD k 0 : Int)) := by
    intro k hk
    have : k = 0 ∨ k = 1 ∨ k = 2 := by omega
    rcases this with rfl | rfl | rfl <;> rfl
  have HK3 := Lib.hid hk3
  have HSS := Lib.hid (fun k (hk : k < 3) => some3_succ c.kids k (by simpa [Card.kids] using hk))
  have HSL := Lib.hid (fun k => Nat.le_trans (some3_len (c.kids.take k)) (List.length_take_le' _ _))
  have HKL : Hid (c.kids.length = 3) := Lib.hid rfl
  have HNN : Hid (∀ k, k < 3 → c.kids.getD k 0 < 4294967296) := Lib.hid (by
    intro k hk
    have : k = 0 ∨ k = 1 ∨ k = 2 := by omega
    rcases this with rfl | rfl | rfl
    · exact hc.left
    · exact hc.right
    · exact hc.root)
  clear hk3 hc
  obtain ⟨i0, hi, hz0, hz1, hz2⟩ := info_parts infoU32
  unfold cu at HK3
  unfold Card.cells cu
  go_enter Try.func66, Try.ntmps66
  go_wp2_with fail
  go_loopw [14, 3] (fun i v wr => ∃ k : Nat, k ≤ 3 ∧ i = .int .i64 k ∧ OwnNums wr w.heap.size v (some3 (c.kids.take k)) ∧ Below w.heap.size w wr) (fun i _ _ => 3 - (intOf i).toNat)
  case atStart => exact ⟨0, by omega, rfl, World.ownsRow_nil _ _ _ _, (Below.refl _ _).alloc (Nat.le_refl _) _⟩
  case round =>
    obtain ⟨k, hk, rfl, hwr, hbr⟩ := hrel
    have HWR := Lib.hid hwr
    have HBR := Lib.hid hbr
    have hbs : w.heap.size ≤ wr.heap.size := hbr.size
    clear hwr hbr
    by_cases hlt : k < 3
    · have H3 := Lib.hid (HK3.out k hlt)
      have H4 := Lib.hid (HSS.out k hlt)
      have hx := HNN.out k hlt
      have hsl := HSL.out k
      rw [HKL.out] at hsl
      obtain ⟨x, hxe⟩ : ∃ x, x = c.kids.getD k 0 := ⟨_, rfl⟩
      rw [← hxe] at H3 H4 hx
      clear hxe
      by_cases hx0 : x = 0
      · subst hx0
        have HE : Hid (some3 (c.kids.take (k + 1)) = some3 (c.kids.take k)) := Lib.hid (by rw [H4.out]; simp)
        go_wp2_with (refine wpList_index_one _ rfl 131 (.tmp 13) (.tmp 14) rfl 25 3 _ .i64 k _ _ rfl rfl Try.underlying131 Try.underlying25 rfl sizeU32 hlt H3.out ?_)
        go_roundw
        case rel => exact ⟨k + 1, by omega, by go_num, by rw [HE.out]; exact HWR.out, HBR.out⟩
        case measure => simp [intOf]; omega
      · have hx1 : 0 < x := by omega
        have HE : Hid (some3 (c.kids.take (k + 1)) = some3 (c.kids.take k) ++ [x]) := Lib.hid (by rw [H4.out]; simp [hx0])
        go_wp2_with (first
          | (refine wpList_index_one _ rfl 131 (.tmp 13) (.tmp 14) rfl 25 3 _ .i64 k _ _ rfl rfl Try.underlying131 Try.underlying25 rfl sizeU32 hlt H3.out ?_)
          | (at_builtin; refine wpList_append_own_at _ rfl _ _ 103 rfl w.heap.size 25 i0 (.int .u32 0) 1 4 Try.underlying103 hi hz0 hz1 hz2 rfl (by decide) _ _ _ rfl (World.ownsRow.alloc HWR.out _) ⟨wr.heap.size, 0, none⟩ 1 1 [.int .u32 (x : Int)] rfl rfl ?c1 ?c2 ?c3 ?c4 ?c5 ?_))
        case c1 => exact news_one _ _ _
        case c2 => intro u hu; simp at hu; subst hu; rfl
        case c3 => unfold maxLen; omega
        case c4 => omega
        case c5 => simp; omega
        intro v' w1 hown' hgrow _ hat
        have HO1 : Hid (OwnNums w1 w.heap.size v' (some3 (c.kids.take (k + 1)))) := Lib.hid (by
          rw [HE.out]; unfold OwnNums
          rw [List.length_append, List.map_append]; exact hown')
        have HB1 : Hid (Below w.heap.size w w1) := Lib.hid ((HBR.out.alloc hbs _).grown hgrow (by simp; omega) (fun j hj => (World.ownsRow.lt HWR.out j hj).1))
        clear hown' hgrow hat
        go_wp2_with fail
        go_roundw
        case rel => exact ⟨k + 1, by omega, by go_num, HO1.out, HB1.out⟩
        case measure => simp [intOf]; omega
    · obtain rfl : k = 3 := by omega
      have HT : Hid (c.kids.take 3 = c.kids) := Lib.hid rfl
      rw [HT.out] at HWR
      go_wp2_with fail
      go_ret
      exact ⟨_, rfl, HWR.out, HBR.out⟩
end Go.Proofs.Ytnbdnnlomgjlmaa
