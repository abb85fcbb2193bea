/- The field layer's laws: their head holds. -/
import Derived.Test.YtnfmdcohacflmaaDoorRds
import Derived.Test.YtnfmdcohacflmaaDoorPredS
import Derived.Test.YtnfmdcohacflmaaDoorPack
import Derived.Test.YtnfmdcohacflmaaDoorKeep
namespace Go.Proofs.YtnfmdcohacflmaaDoor
open Go.RowKit
set_option linter.unusedSimpArgs false
set_option linter.unusedVariables false
set_option maxRecDepth 100000
/-- A reader of the block B, made since. -/
def rdNew (N : Nat) (B : List UInt8) (f : Bool) (v : Value) (w : World) : Prop := ∃ g gb, v = .pointer (some ⟨g, 0, none⟩) ∧ N ≤ g ∧ N ≤ gb ∧ ReaderAt w g gb B 1 f
theorem rdNew_below {N : Nat} {B : List UInt8} {f : Bool} {v : Value} {w w' : World} (h : rdNew N B f v w) (hb : Below w.heap.size w w') : rdNew N B f v w' := by
  obtain ⟨g, gb, e, h1, h2, h3⟩ := h
  exact ⟨g, gb, e, h1, h2, h3.below hb⟩
theorem rdNew_in {N : Nat} {B : List UInt8} {f : Bool} {v : Value} {w : World} (h : rdNew N B f v w) : InW v w := by
  obtain ⟨g, gb, e, h1, h2, h3⟩ := h
  exact ⟨_, e, (Array.getElem?_eq_some_iff.1 h3.row).1⟩
theorem rdNew_open (N : Nat) (B : List UInt8) (hB : B.length = 256) (m : UInt8) (w : World) (hN : N ≤ w.heap.size) :
    Calls Tryd.prog 16 #[.agg (blk B), .int .u8 (m.toNat : Int)] w fun e w' => ∃ v, e = .returned v ∧ (rdNew N B (fineB B m) v w' ∧ ¬ InW v w) ∧ Below w.heap.size w w' := by
  refine (open_any w B hB m).mono ?_
  rintro e w' ⟨g, rfl, hg, hr, hb⟩
  refine ⟨_, rfl, ⟨⟨g, _, rfl, by omega, hN, hr⟩, ?_⟩, hb⟩
  rintro ⟨p, hp, hlt⟩
  cases hp
  simp at hlt
  omega
def opensR (N : Nat) (B : List UInt8) (t : Tmp) (v : Value) (w : World) : Prop :=
  match t with
  | 28 => v = .agg (blk B)
  | 29 => rdNew N B true v w
  | 30 => v = .agg (blk B)
  | 31 => rdNew N B false v w
  | 32 => v = .agg (blk B)
  | 33 => rdNew N B true v w
  | 34 => v = .agg (blk B)
  | 35 => rdNew N B true v w
  | 4 => rdNew N B true v w
  | 5 => rdNew N B false v w
  | 6 => rdNew N B true v w
  | 7 => rdNew N B true v w
  | _ => True
theorem opensR_stab (N : Nat) (B : List UInt8) : ∀ t v w w', opensR N B t v w → Below w.heap.size w w' → opensR N B t v w' := by
  intro t v w1 w2 h hb
  revert h
  unfold opensR
  split <;> first | exact id | exact fun h => rdNew_below h hb
def opensF (t : Tmp) : Bool := t == 29 || (t == 31 || (t == 33 || t == 35))
theorem opensR_in (N : Nat) (B : List UInt8) : ∀ t v w, opensF t = true → opensR N B t v w → InW v w := by
  intro t v w ht h
  have : t = 29 ∨ t = 31 ∨ t = 33 ∨ t = 35 := by simpa [opensF] using ht
  rcases this with rfl | rfl | rfl | rfl <;> exact rdNew_in h
def opensC (t : Tmp) : Option Tmp :=
  match t with
  | 4 => some 29
  | 5 => some 31
  | 6 => some 33
  | 7 => some 35
  | _ => none
set_option maxHeartbeats 4000000 in
theorem fieldhead_any (w0 : World) : Calls Tryd.prog 6 #[] w0 fun e w' => e = .returned (.bool true) ∧ Below w0.heap.size w0 w' := by
  obtain ⟨L, hL⟩ : ∃ L, L = [] ++ lows 300 2 ++ lows 5 1 := ⟨_, rfl⟩
  obtain ⟨B, hB⟩ : ∃ B, B = doneB 7 L := ⟨_, rfl⟩
  have hll : L.length ≤ 251 := by rw [hL]; decide
  have HLL := Lib.hid hll
  have hbl : B.length = 256 := by rw [hB]; exact length_doneB _ _ hll
  have HBL := Lib.hid hbl
  have HBS : Hid ((blk B).size = 256) := Lib.hid (by rw [size_blk, hbl])
  have hp := (parse_iff B hbl 7 3 (by decide)).1 (by
    have h := seg_done 7 L hll
    rw [show L.length = 3 by rw [hL]; rfl, ← hB] at h
    rw [h, ← hB])
  have hs : seg B 1 3 = L := by
    have h := seg_done 7 L hll
    rw [show L.length = 3 by rw [hL]; rfl, ← hB] at h
    exact h
  have f7 : fineB B 7 = true := by unfold fineB; simp only [hp.1, hp.2.1, decide_true, Bool.and_true]
  have f8 : fineB B 8 = false := by
    unfold fineB; simp [hp.2.1]
  have g0 : B[0]? = some 7 := hp.2.1
  have g123 : ∀ j, j < 3 → B[1 + j]? = L[j]? := fun j hj => by rw [← hs, get_seg B 1 3 j hj]
  have HC0 : Hid ((blk B)[0]? = some (.int .u8 7)) := Lib.hid (by rw [blk, List.getElem?_toArray, List.getElem?_map, g0]; rfl)
  have HC1 : Hid ((blk B)[1]? = some (.int .u8 44)) := Lib.hid (by rw [blk, List.getElem?_toArray, List.getElem?_map, g123 0 (by decide), hL]; rfl)
  have HC2 : Hid ((blk B)[2]? = some (.int .u8 1)) := Lib.hid (by rw [blk, List.getElem?_toArray, List.getElem?_map, g123 1 (by decide), hL]; rfl)
  have HC3 : Hid ((blk B)[3]? = some (.int .u8 5)) := Lib.hid (by rw [blk, List.getElem?_toArray, List.getElem?_map, g123 2 (by decide), hL]; rfl)
  have HV1 : Hid (readV B 1 2 true = 300) := Lib.hid (by
    unfold readV
    have : seg B 1 2 = L.take 2 := by rw [← hs]; unfold seg; rw [List.take_take]; rfl
    rw [if_pos rfl, this, hL]; rfl)
  have HV2 : Hid (readV B 3 1 true = 5) := Lib.hid (by
    unfold readV
    have : seg B 3 1 = (L.drop 2).take 1 := by rw [← hs]; unfold seg; rw [List.drop_take, List.drop_drop, List.take_take]; rfl
    rw [if_pos rfl, this, hL]; rfl)
  have HZ : zerosFrom B 4 := hp.2.2
  have HE1 : Hid (endV B 4 true = 0) := Lib.hid (by
    unfold endV
    have : allZero (seg B 4 (252 - 4)) = true := by
      rw [allZero_iff, length_seg B 4 _ (by omega)]
      intro i hi
      rw [get_seg B 4 _ i hi]
      exact HZ _ (by omega) (by omega)
    rw [this]; rfl)
  have HE2 : Hid (endV B 3 true = 250) := Lib.hid (by
    unfold endV
    have : allZero (seg B 3 (252 - 3)) = false := by
      rw [Bool.eq_false_iff]
      intro h
      rw [allZero_iff, length_seg B 3 _ (by omega)] at h
      have := h 0 (by decide)
      rw [get_seg B 3 _ 0 (by decide), show (3 + 0 : Nat) = 1 + 2 from rfl, g123 2 (by decide), hL] at this
      revert this
      decide
    rw [this]; rfl)
  have HL := Lib.hid hL
  have HB := Lib.hid hB
  clear hL hB hll hp hs g0 g123 HZ
  go_enter Tryd.func6, Tryd.ntmps6
  go_wp2_with fail
  refine (wrnew_is (Held.start w0)).mono ?_
  rintro e w1 ⟨g1, rfl, hR⟩
  have R1 := Lib.hid hR
  clear hR
  go_wp2_with fail
  refine (wrnum_is R1.out 300 2 (by omega) (by decide) (by decide)).mono ?_
  rintro e w2 ⟨rfl, hR⟩
  have R2 := Lib.hid hR
  clear hR R1
  go_wp2_with fail
  refine (wrnum_is R2.out 5 1 (by omega) (by decide) (by decide)).mono ?_
  rintro e w3 ⟨rfl, hR⟩
  rw [← HL.out] at hR
  have R3 := Lib.hid hR
  clear hR R2
  go_wp2_with fail
  refine (wrdone_is R3.out 7 HLL.out).mono ?_
  rintro e w4 ⟨rfl, hb⟩
  rw [← HB.out]
  have q1 := (R3.out.call hb).alloc (blk B) 33
  clear hb
  go_upto_region 7 with (first | refine wpList_alloc_row rfl 33 rfl _ zeroB ?_ | refine wpList_store_new rfl 33 _ _ rfl _ (blk B) _ rfl rfl (by rw [HBS.out]; exact sizeB) (by rw [HBS.out, size_zeros]) (blk_one _) ?_)
  obtain ⟨W5, hW⟩ : ∃ W, W = w4.alloc (.cells (blk B) 33) := ⟨_, rfl⟩
  rw [← hW] at q1 ⊢
  clear hW
  obtain ⟨g2, hg⟩ : ∃ g, g = w4.heap.size := ⟨_, rfl⟩
  rw [← hg] at q1 ⊢
  clear hg
  have R5 := Lib.hid q1
  clear q1
  obtain ⟨N, hN⟩ : ∃ N, N = W5.heap.size := ⟨_, rfl⟩
  have HO7 : Hid (∀ w, W5.heap.size ≤ w.heap.size → Calls Tryd.prog 16 #[.agg (blk B), .int .u8 7] w fun e w' => ∃ v, e = .returned v ∧ (rdNew N B true v w' ∧ ¬ InW v w) ∧ Below w.heap.size w w') := Lib.hid (fun w hw => by
    have := rdNew_open N B hbl 7 w (by omega)
    rwa [f7] at this)
  have HO8 : Hid (∀ w, W5.heap.size ≤ w.heap.size → Calls Tryd.prog 16 #[.agg (blk B), .int .u8 8] w fun e w' => ∃ v, e = .returned v ∧ (rdNew N B false v w' ∧ ¬ InW v w) ∧ Below w.heap.size w w') := Lib.hid (fun w hw => by
    have := rdNew_open N B hbl 8 w (by omega)
    rwa [f8] at this)
  refine wp_region_predS (by kernel_rfl) (opensR N B) opensF opensC (opensR_stab N B) (opensR_in N B) (by kernel_rfl) (by kernel_rfl) (by kernel_rfl) ?pops ?pfin
  case pops =>
    refine ⟨⟨28, rfl, fun a w hB hO hD K hK => ?_⟩, ?_⟩
    · rw [if_pos (wanted_none rfl)]
      exact wp_load_all 33 (.tmp 2) g2 33 (blk B) (0, 0) _ rfl (eval_of (v := .pointer (some ⟨g2, 0, none⟩)) (hO 2 (not_dst 2 (by kernel_rfl)))) ((R5.out.since hB).get 0 rfl) Tryd.underlying33 rfl (by rw [HBS.out]; exact sizeB) (hK _ w (Below.refl _ _) rfl (fun h => absurd h (by decide)) (fun s h => by cases h))
    refine ⟨⟨29, rfl, fun a w hB hO hD K hK => ?_⟩, ?_⟩
    · rw [if_pos (wanted_none rfl)]
      refine wpo_call 16 [.tmp 28, .const (.int .u8 7)] _ #[.agg (blk B), .int .u8 7] _ _ _ rfl Tryd.func16 rfl (by kernel_rfl) ?_ (HO7.out w (Nat.le_trans (Nat.le_refl _) hB.size)) (fun v w' hb h => hK v w' hb h.1 (fun _ => h.2) (fun s h => by cases h))
      show #[a.eval (.tmp 28), a.eval (.const (.int .u8 7))] = _
      rw [show a.eval (.tmp 28) = .agg (blk B) from pred_val (R := opensR N B) hD 0 (by kernel_rfl) 28 rfl (.agg (blk B)) (fun v h => h)]
      rfl
    refine ⟨⟨30, rfl, fun a w hB hO hD K hK => ?_⟩, ?_⟩
    · rw [if_pos (wanted_none rfl)]
      exact wp_load_all 33 (.tmp 2) g2 33 (blk B) (0, 0) _ rfl (eval_of (v := .pointer (some ⟨g2, 0, none⟩)) (hO 2 (not_dst 2 (by kernel_rfl)))) ((R5.out.since hB).get 0 rfl) Tryd.underlying33 rfl (by rw [HBS.out]; exact sizeB) (hK _ w (Below.refl _ _) rfl (fun h => absurd h (by decide)) (fun s h => by cases h))
    refine ⟨⟨31, rfl, fun a w hB hO hD K hK => ?_⟩, ?_⟩
    · rw [if_pos (wanted_none rfl)]
      refine wpo_call 16 [.tmp 30, .const (.int .u8 8)] _ #[.agg (blk B), .int .u8 8] _ _ _ rfl Tryd.func16 rfl (by kernel_rfl) ?_ (HO8.out w (Nat.le_trans (Nat.le_refl _) hB.size)) (fun v w' hb h => hK v w' hb h.1 (fun _ => h.2) (fun s h => by cases h))
      show #[a.eval (.tmp 30), a.eval (.const (.int .u8 8))] = _
      rw [show a.eval (.tmp 30) = .agg (blk B) from pred_val (R := opensR N B) hD 2 (by kernel_rfl) 30 rfl (.agg (blk B)) (fun v h => h)]
      rfl
    refine ⟨⟨32, rfl, fun a w hB hO hD K hK => ?_⟩, ?_⟩
    · rw [if_pos (wanted_none rfl)]
      exact wp_load_all 33 (.tmp 2) g2 33 (blk B) (0, 0) _ rfl (eval_of (v := .pointer (some ⟨g2, 0, none⟩)) (hO 2 (not_dst 2 (by kernel_rfl)))) ((R5.out.since hB).get 0 rfl) Tryd.underlying33 rfl (by rw [HBS.out]; exact sizeB) (hK _ w (Below.refl _ _) rfl (fun h => absurd h (by decide)) (fun s h => by cases h))
    refine ⟨⟨33, rfl, fun a w hB hO hD K hK => ?_⟩, ?_⟩
    · rw [if_pos (wanted_none rfl)]
      refine wpo_call 16 [.tmp 32, .const (.int .u8 7)] _ #[.agg (blk B), .int .u8 7] _ _ _ rfl Tryd.func16 rfl (by kernel_rfl) ?_ (HO7.out w (Nat.le_trans (Nat.le_refl _) hB.size)) (fun v w' hb h => hK v w' hb h.1 (fun _ => h.2) (fun s h => by cases h))
      show #[a.eval (.tmp 32), a.eval (.const (.int .u8 7))] = _
      rw [show a.eval (.tmp 32) = .agg (blk B) from pred_val (R := opensR N B) hD 4 (by kernel_rfl) 32 rfl (.agg (blk B)) (fun v h => h)]
      rfl
    refine ⟨⟨34, rfl, fun a w hB hO hD K hK => ?_⟩, ?_⟩
    · rw [if_pos (wanted_none rfl)]
      exact wp_load_all 33 (.tmp 2) g2 33 (blk B) (0, 0) _ rfl (eval_of (v := .pointer (some ⟨g2, 0, none⟩)) (hO 2 (not_dst 2 (by kernel_rfl)))) ((R5.out.since hB).get 0 rfl) Tryd.underlying33 rfl (by rw [HBS.out]; exact sizeB) (hK _ w (Below.refl _ _) rfl (fun h => absurd h (by decide)) (fun s h => by cases h))
    refine ⟨⟨35, rfl, fun a w hB hO hD K hK => ?_⟩, ?_⟩
    · rw [if_pos (wanted_none rfl)]
      refine wpo_call 16 [.tmp 34, .const (.int .u8 7)] _ #[.agg (blk B), .int .u8 7] _ _ _ rfl Tryd.func16 rfl (by kernel_rfl) ?_ (HO7.out w (Nat.le_trans (Nat.le_refl _) hB.size)) (fun v w' hb h => hK v w' hb h.1 (fun _ => h.2) (fun s h => by cases h))
      show #[a.eval (.tmp 34), a.eval (.const (.int .u8 7))] = _
      rw [show a.eval (.tmp 34) = .agg (blk B) from pred_val (R := opensR N B) hD 6 (by kernel_rfl) 34 rfl (.agg (blk B)) (fun v h => h)]
      rfl
    refine ⟨⟨4, rfl, fun a w hB hO hD K hK => ?_⟩, ?_⟩
    · rw [if_pos (wanted_none rfl)]
      obtain ⟨u, h1, h2⟩ := pred_dep (R := opensR N B) hD 1 (by kernel_rfl) 29 rfl
      exact wpo_assign (.tmp 29) u rfl (eval_of h1) (hK u w (Below.refl _ _) h2 (fun h => absurd h (by decide)) (fun s h => by cases h; exact ⟨h1, 1, _, rfl, rfl, by kernel_rfl⟩))
    refine ⟨⟨5, rfl, fun a w hB hO hD K hK => ?_⟩, ?_⟩
    · rw [if_pos (wanted_none rfl)]
      obtain ⟨u, h1, h2⟩ := pred_dep (R := opensR N B) hD 3 (by kernel_rfl) 31 rfl
      exact wpo_assign (.tmp 31) u rfl (eval_of h1) (hK u w (Below.refl _ _) h2 (fun h => absurd h (by decide)) (fun s h => by cases h; exact ⟨h1, 3, _, rfl, rfl, by kernel_rfl⟩))
    refine ⟨⟨6, rfl, fun a w hB hO hD K hK => ?_⟩, ?_⟩
    · rw [if_pos (wanted_none rfl)]
      obtain ⟨u, h1, h2⟩ := pred_dep (R := opensR N B) hD 5 (by kernel_rfl) 33 rfl
      exact wpo_assign (.tmp 33) u rfl (eval_of h1) (hK u w (Below.refl _ _) h2 (fun h => absurd h (by decide)) (fun s h => by cases h; exact ⟨h1, 5, _, rfl, rfl, by kernel_rfl⟩))
    refine ⟨⟨7, rfl, fun a w hB hO hD K hK => ?_⟩, ?_⟩
    · rw [if_pos (wanted_none rfl)]
      obtain ⟨u, h1, h2⟩ := pred_dep (R := opensR N B) hD 7 (by kernel_rfl) 35 rfl
      exact wpo_assign (.tmp 35) u rfl (eval_of h1) (hK u w (Below.refl _ _) h2 (fun h => absurd h (by decide)) (fun s h => by cases h; exact ⟨h1, 7, _, rfl, rfl, by kernel_rfl⟩))
    exact trivial
  case pfin =>
    intro V w6 hB6 hV hA hCp
    simp only [putAll, List.setIfInBounds_toArray, List.set_cons_zero, List.set_cons_succ]
    have e4 : V 4 = V 29 := hCp 8 _ 4 29 rfl rfl rfl
    have e5 : V 5 = V 31 := hCp 9 _ 5 31 rfl rfl rfl
    have e6 : V 6 = V 33 := hCp 10 _ 6 33 rfl rfl rfl
    have e7 : V 7 = V 35 := hCp 11 _ 7 35 rfl rfl rfl
    have a1 : V 29 ≠ V 31 := hA 1 3 _ _ 29 31 rfl rfl rfl rfl rfl rfl (by decide)
    have a2 : V 29 ≠ V 33 := hA 1 5 _ _ 29 33 rfl rfl rfl rfl rfl rfl (by decide)
    have a3 : V 29 ≠ V 35 := hA 1 7 _ _ 29 35 rfl rfl rfl rfl rfl rfl (by decide)
    have a4 : V 31 ≠ V 33 := hA 3 5 _ _ 31 33 rfl rfl rfl rfl rfl rfl (by decide)
    have a5 : V 31 ≠ V 35 := hA 3 7 _ _ 31 35 rfl rfl rfl rfl rfl rfl (by decide)
    have a6 : V 33 ≠ V 35 := hA 5 7 _ _ 33 35 rfl rfl rfl rfl rfl rfl (by decide)
    have v29 : rdNew N B true (V 29) w6 := hV 1 _ 29 rfl rfl
    have v31 : rdNew N B false (V 31) w6 := hV 3 _ 31 rfl rfl
    have v33 : rdNew N B true (V 33) w6 := hV 5 _ 33 rfl rfl
    have v35 : rdNew N B true (V 35) w6 := hV 7 _ 35 rfl rfl
    rw [e4, e5, e6, e7]
    obtain ⟨r, br, er, r1, r2, r3⟩ := v29
    obtain ⟨s, bs, es, s1, s2, s3⟩ := v31
    obtain ⟨t, bt, et, t1, t2, t3⟩ := v33
    obtain ⟨u, bu, eu, u1, u2, u3⟩ := v35
    rw [er, es, et, eu]
    rw [er, es] at a1
    rw [er, et] at a2
    rw [er, eu] at a3
    rw [es, et] at a4
    rw [es, eu] at a5
    rw [et, eu] at a6
    have hne : ([r, s, t, u] : List Nat).Nodup := by
      have k : ∀ x y : Nat, Value.pointer (some ⟨x, 0, none⟩) ≠ Value.pointer (some ⟨y, 0, none⟩) → x ≠ y := fun x y h e => h (by rw [e])
      simp [k _ _ a1, k _ _ a2, k _ _ a3, k _ _ a4, k _ _ a5, k _ _ a6]
    have hR6 : Held w0 w6 [rdsT B [(r, 1, true), (s, 1, false), (t, 1, true), (u, 1, true)], rowT g2 (blk B) 33, wrT g1 false L] := by
      have row : ∀ {x : Nat} {gb : Nat} {f : Bool}, ReaderAt w6 x gb B 1 f → x < w6.heap.size ∧ gb < w6.heap.size := fun h => ⟨(Array.getElem?_eq_some_iff.1 h.row).1, (Array.getElem?_eq_some_iff.1 h.src).1⟩
      refine R5.out.more hB6 (F := (List.range w6.heap.size).filter (fun k => decide (N ≤ k))) ⟨List.nodup_range.filter _, fun y hy => by simpa using (List.mem_filter.1 hy).1, by simpa using hne, ?_⟩ (fun b hb => by have := (List.mem_filter.1 hb).2; simp at this; omega) (List.nodup_range.filter _)
      intro x hx
      have mem : ∀ k, N ≤ k → k < w6.heap.size → k ∈ (List.range w6.heap.size).filter (fun k => decide (N ≤ k)) := fun k h1 h2 => List.mem_filter.2 ⟨by simpa using h2, by simpa using h1⟩
      simp only [List.mem_cons, List.not_mem_nil, or_false] at hx
      rcases hx with rfl | rfl | rfl | rfl
      · exact ⟨br, mem _ r1 (row r3).1, mem _ r2 (row r3).2, r3⟩
      · exact ⟨bs, mem _ s1 (row s3).1, mem _ s2 (row s3).2, s3⟩
      · exact ⟨bt, mem _ t1 (row t3).1, mem _ t2 (row t3).2, t3⟩
      · exact ⟨bu, mem _ u1 (row u3).1, mem _ u2 (row u3).2, u3⟩
    have R6 := Lib.hid hR6
    clear hR6 hne e4 e5 e6 e7 a1 a2 a3 a4 a5 a6 r1 r2 r3 s1 s2 s3 t1 t2 t3 u1 u2 u3 er es et eu hV hA hCp hB6 R5 HO7 HO8 f7 f8 hbl
    generalize V 28 = v28
    generalize V 30 = v30
    generalize V 32 = v32
    generalize V 34 = v34
    clear V hN
    go_wp2_with fail
    refine (rds_num R6.out 0 rfl 2 (by omega) (by omega)).mono ?_
    rintro e w7 ⟨rfl, hR⟩
    rw [HV1.out]
    have R7 := Lib.hid hR
    clear hR R6
    go_wp2_with fail
    refine (rds_num R7.out 0 rfl 1 (by omega) (by decide)).mono ?_
    rintro e w8 ⟨rfl, hR⟩
    have R8 := Lib.hid hR
    clear hR R7
    rw [show readV B (nextI 1 2 true) 1 true = 5 from HV2.out]
    go_wp2_with fail
    refine (rds_end R8.out 0 rfl).mono ?_
    rintro e w9 ⟨rfl, hb⟩
    rw [show endV B (nextI (nextI 1 2 true) 1 true) true = 0 from HE1.out]
    have R9 := Lib.hid (R8.out.call hb)
    clear hb R8
    go_wp2_with fail
    refine (rds_bad R9.out 2 rfl 3 rfl (by decide)).mono ?_
    rintro e w10 ⟨rfl, hR⟩
    have R10 := Lib.hid hR
    clear hR R9
    go_wp2_with fail
    refine (rds_num R10.out 3 rfl 2 (by omega) (by omega)).mono ?_
    rintro e w11 ⟨rfl, hR⟩
    rw [HV1.out]
    have R11 := Lib.hid hR
    clear hR R10
    go_wp2_with fail
    refine (rds_end R11.out 3 rfl).mono ?_
    rintro e w12 ⟨rfl, hb⟩
    rw [show endV B (nextI 1 2 true) true = 250 from HE2.out]
    have R12 := Lib.hid ((R11.out.call hb).pull 2 rfl)
    clear hb R11
    go_wp2_with fail
    refine (wrtext_bad R12.out ⟨#[97, 98, 99]⟩ 2 (by right; right; decide)).mono ?_
    rintro e w13 ⟨rfl, hR⟩
    have R13 := Lib.hid hR
    clear hR R12
    go_wp2_with fail
    refine (wrdone_long R13.out 7 (.inl rfl)).mono ?_
    rintro e w14 ⟨rfl, hb⟩
    have q1 := (((R13.out.call hb).pull 1 rfl)).alloc (zeros 256 (.int .u8 0)) 33
    clear hb R13
    go_upto_region 15 with (first | refine wpList_alloc_row rfl 33 rfl _ zeroB ?_ | refine wpList_store_new rfl 33 _ _ rfl _ (zeros 256 (.int .u8 0)) _ rfl rfl (by rw [size_zeros]; exact sizeB) rfl zeros_one ?_)
    obtain ⟨W15, hW⟩ : ∃ W, W = w14.alloc (.cells (zeros 256 (.int .u8 0)) 33) := ⟨_, rfl⟩
    rw [← hW] at q1 ⊢
    clear hW
    obtain ⟨g15, hg⟩ : ∃ g, g = w14.heap.size := ⟨_, rfl⟩
    rw [← hg] at q1 ⊢
    clear hg
    have R15 := Lib.hid q1
    clear q1
    have R15 := Lib.hid (R15.out.drop 1)
    have b0 := R15.out.cell 2 0 rfl HC0.out
    have b1 := R15.out.cell 2 1 rfl HC1.out
    have b2 := R15.out.cell 2 2 rfl HC2.out
    have b3 := R15.out.cell 2 3 rfl HC3.out
    have HF := Lib.hid R15.out.below
    go_wp2_with fail
    refine (rds_fine R15.out 1 rfl).mono ?_
    rintro e w16 ⟨rfl, rfl⟩
    go_wp2_with fail
    refine (rds_fine R15.out 2 rfl).mono ?_
    rintro e w17 ⟨rfl, rfl⟩
    go_wp2_with fail
    go_ret
    exact ⟨rfl, HF.out⟩
end Go.Proofs.YtnfmdcohacflmaaDoor
