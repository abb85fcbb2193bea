/- The device layer: Fuse, Flush. The device layer: Flush. The device layer: New, Read. The device layer: Read. The device layer: torn. The device layer: Crash. The device layer's laws: their own small functions: full, block, great. The device layer's laws: great. The device layer: the methods over what a call owns. -/
import Derived.Test.YtnphgaiiiiknpaaDoorDev3
import Derived.Scope
import Derived.Test.YtnphgaiiiiknpaaDoorWpq
import Derived.Test.YtnphgaiiiiknpaaDoorAppend
import Derived.Test.YtnphgaiiiiknpaaDoorDevMath
import Derived.Test.YtnphgaiiiiknpaaDoorPair
import Derived.Test.YtnphgaiiiiknpaaDoorKeep
import Derived.Test.YtnphgaiiiiknpaaDoorSeal
import Derived.Laws.CopyOwn
import Derived.Laws.BitsAllLaws
import Derived.Test.YtnphgaiiiiknpaaDoorSteps
namespace Go.Proofs.YtnphgaiiiiknpaaDoor
open Go.RowKit
set_option linter.unusedSimpArgs false
set_option linter.unusedVariables false
set_option maxRecDepth 100000
/-- The question whether a number is below nought. -/
def negQ (k : Int) (b : Nat) : Ask := ⟨2, 29, #[], #[.pointer (some ⟨b, 0, none⟩)], decide (k < 0)⟩
theorem negQ_ok {w : World} (k : Int) (b : Nat) (hc : w.cell? ⟨b, 0, none⟩ = some (.int .i64 k)) (hb : b < w.heap.size) : (negQ k b).Ok w := by
  refine ⟨⟨_, _, Tryd.func29, rfl, by kernel_rfl⟩, fun w' hbe => ?_⟩
  have c0 : w'.cell? ⟨b, 0, none⟩ = some (.int .i64 k) := (hbe.cell hb).trans hc
  clear hbe hc
  show Calls Tryd.prog 29 #[.pointer (some ⟨b, 0, none⟩)] w' _
  go_enter Tryd.func29, Tryd.ntmps29
  go_wp2
  go_ret
  exact ⟨rfl, Below.refl _ _⟩
set_option maxHeartbeats 1000000 in
theorem fuse_dev {F : List Nat} {w : World} {g : Nat} {s : Dv} (h : (dvT g s).says F w) (hn : F.Nodup) (k : Int) (hk : k < 9223372036854775808) :
    Calls Tryd.prog 12 #[.pointer (some ⟨g, 0, none⟩), .int .i64 k] w fun e w' => e = .returned (.int .i64 (s.lay k).2) ∧ Turns F w w' (dvT g (s.lay k).1) := by
  have H := Lib.hid h
  have HN := Lib.hid hn
  have HK := Lib.hid hk
  clear h hn hk
  obtain ⟨i, hi, hz, hs2, hby⟩ := info_parts Tryd.infoAsk
  have hI := Lib.hid hi
  have hZ := Lib.hid hz
  clear hi hz
  have hmf : ∀ (fn : Fn) (first cap : Array Value) (w : World), (Instr.makeFunc fn first cap).run Tryd.prog w = .ok (.func fn first cap) w := fun _ _ _ _ => rfl
  obtain ⟨W0, hW0⟩ : ∃ W, W = w.alloc (.cells #[.int .i64 k] 3) := ⟨_, rfl⟩
  have hb0 : Below w.heap.size w W0 := by rw [hW0]; exact (Below.refl _ _).alloc (Nat.le_refl _) _
  obtain ⟨bk, hbk⟩ : ∃ b, b = w.heap.size := ⟨_, rfl⟩
  have HBK : Hid (W0.heap[bk]? = some (.cells #[.int .i64 k] 3 (0, 0))) := Lib.hid (by rw [hW0, hbk]; exact heap_alloc_new _ _)
  have HB0 := Lib.hid hb0
  have HAT : Hid ((dvT g s).at w) := Lib.hid ⟨F, H.out⟩
  have HBE := Lib.hid hbk
  have hx0 : (negQ k bk).Ok W0 := negQ_ok k bk (cell_of_row W0 bk 0 _ _ _ HBK.out) (Array.getElem?_eq_some_iff.1 HBK.out).1
  have HX0 := Lib.hid hx0
  have hE : upE s [negQ k bk] = (s.lay k).2 := by
    unfold upE Dv.lay
    by_cases h1 : k < 0
    · simp [negQ, h1]
    · cases h2 : s.down <;> simp [negQ, h1, h2]
  have HE := Lib.hid hE
  have hcase : ((s.lay k).2 ≠ 0 ∧ (s.lay k).1 = s) ∨ ((s.lay k).2 = 0 ∧ 0 ≤ k ∧ (s.lay k).1 = { s with fuse := some k.toNat }) := by
    unfold Dv.lay
    by_cases h1 : k < 0
    · rw [if_pos h1]; exact .inl ⟨by show (2 : Int) ≠ 0; decide, rfl⟩
    · rw [if_neg h1]
      cases h2 : s.down with
      | true => rw [if_pos rfl]; exact .inl ⟨by show (30 : Int) ≠ 0; decide, rfl⟩
      | false => rw [if_neg (by decide)]; exact .inr ⟨rfl, by omega, rfl⟩
  obtain ⟨E, hEE⟩ : ∃ E, E = (s.lay k).2 := ⟨_, rfl⟩
  rw [← hEE] at HE hcase ⊢
  have HCASE := Lib.hid hcase
  clear hEE hcase hE hx0
  go_enter Tryd.func12, Tryd.ntmps12
  go_upto_region 1 with (fail)
  rw [← hW0, ← hbk]
  clear hW0 hb0 hbk
  go_upto_region 2 with (first
    | refine wpList_plain rfl fun K hK' => wp_build_one 97 71 _ rfl (askV (negQ k bk)) rfl i _ Tryd.underlying97 hI.out hZ.out (by rw [hs2]; rfl) (by omega) (by omega) (hK' _ _ ?_)
    | (go_at_call 28; refine (up_dev (HAT.out.since (HB0.out.trans (((Below.refl _ _).alloc (Nat.le_refl _) _).mono HB0.out.size))) _ [negQ k bk] (by simp) (.one _ 1 _ (heap_alloc_new _ _)) (by intro z hz; simp at hz; subst hz; exact HX0.out.below ((Below.refl _ _).alloc (Nat.le_refl _) _))).mono ?_; rintro e w2 ⟨rfl, hb2⟩; have HB2 := Lib.hid hb2; clear hb2; rw [HE.out]))
  have HBW : Hid (Below W0.heap.size W0 w2) := Lib.hid (((Below.refl _ _).alloc (Nat.le_refl _) _).trans (HB2.out.mono (by simp)))
  have HBW2 := Lib.hid (HB0.out.trans (HBW.out.mono HB0.out.size))
  rcases HCASE.out with ⟨hE0, hs⟩ | ⟨rfl, hk0, hs⟩
  · have he : (E == 0) = false := by simpa using hE0
    have HS := Lib.hid hs
    clear hE0 hs
    go_wp2
    go_ret
    rw [HS.out]
    exact ⟨rfl, dv_same H.out HN.out HBW2.out⟩
  · obtain ⟨gm, pv, fv, hF, hV⟩ := H.out
    have hV2 := hV.below HBW2.out
    have hrow := hV2.row
    have c3 : w2.cell? ⟨g, 3, none⟩ = some fv := cell_of_row w2 g 3 _ _ _ hrow
    have f3 : w2.frozen? ⟨g, 3, none⟩ = false := frozen_of_row w2 g 3 _ _ hrow
    have hbk2 := (HBW.out.block bk (Array.getElem?_eq_some_iff.1 HBK.out).1).trans HBK.out
    have hap := dv_apart (hF ▸ HN.out)
    have hlt : ∀ b ∈ F, b < bk := fun b hb => by rw [HBE.out]; exact (dvT g s).lt F w H.out b hb
    have hap2 : DvApart g gm pv (.pointer (some ⟨bk, 0, none⟩)) := by
      refine ⟨hap.map, hap.pend, fun b hb => ?_⟩
      simp only [ptrBlock, List.mem_singleton] at hb
      subst hb
      have l1 := hlt g (by rw [hF]; simp [dvFoot])
      have l2 := hlt gm (by rw [hF]; simp [dvFoot])
      refine ⟨by omega, by omega, fun e => ?_⟩
      have := hlt b (by rw [hF]; simp [dvFoot, e])
      omega
    have hV3 : DvV (w2.setCell ⟨g, 3, none⟩ (.pointer (some ⟨bk, 0, none⟩))) g gm pv (.pointer (some ⟨bk, 0, none⟩)) { s with fuse := some k.toNat } := by
      have ho : ∀ b, b ≠ g → (w2.setCell ⟨g, 3, none⟩ (.pointer (some ⟨bk, 0, none⟩))).heap[b]? = w2.heap[b]? := fun b hb => heap_setCell_other _ _ _ _ hb
      refine ⟨?_, hV2.good.kept (ho gm hap.map), ownsRow_same hV2.pend (fun b hb => ho b (hap.pend b hb).1), ⟨bk, rfl, ?_⟩, ⟨hV.ok.size, hV.ok.good, hV.ok.pend, fun j hj => ?_, hV.ok.writes⟩⟩
      · rw [heap_setCell_same w2 g 3 _ _ _ hrow]; simp [dvCells]
      · rw [ho bk (hap2.fuse bk (by simp [ptrBlock])).1, hbk2, Int.toNat_of_nonneg hk0]
      · simp at hj
        have := HK.out
        omega
    have hT : Turns F w (w2.setCell ⟨g, 3, none⟩ (.pointer (some ⟨bk, 0, none⟩))) (dvT g { s with fuse := some k.toNat }) := by
      refine ⟨dvFoot g gm pv (.pointer (some ⟨bk, 0, none⟩)), ⟨gm, pv, _, rfl, hV3⟩, (Only.of_below HBW2.out).setCell (.inl (by rw [hF]; simp [dvFoot])) _, ?_, dv_foot hap2⟩
      intro b hb
      rw [hF]
      simp only [dvFoot, List.mem_cons, List.mem_append, ptrBlock, List.not_mem_nil, or_false] at hb ⊢
      rcases hb with h | h | h | h
      · exact .inl (.inl h)
      · exact .inl (.inr (.inl h))
      · exact .inl (.inr (.inr (.inl h)))
      · exact .inr (by rw [h, HBE.out]; exact Nat.le_refl _)
    have HT := Lib.hid hT
    have HS := Lib.hid hs
    clear hT hV3 hap2 hlt hap hbk2 hrow hV2 hV hF hs hk0
    go_wp2
    go_ret
    rw [HS.out]
    exact ⟨rfl, HT.out⟩
end Go.Proofs.YtnphgaiiiiknpaaDoor
namespace Go.Proofs.YtnphgaiiiiknpaaDoor
open Go.RowKit
set_option linter.unusedSimpArgs false
set_option linter.unusedVariables false
set_option maxRecDepth 100000
theorem putCells_get (l : List (Nat × List UInt8)) (hl : ∀ x ∈ l, x.2.length = 256) (k j : Nat) (a : Nat) (b : List UInt8) (hk : l[k]? = some (a, b)) (hj : j < 257) : (putCells l)[k * 257 + j]? = (putV a b).toList[j]? := by
  induction l generalizing k with
  | nil => simp at hk
  | cons x l ih =>
    have hx : (.int .u32 (x.1 : Int) :: x.2.map vu8 : List Value).length = 257 := by simp [hl x (by simp)]
    have e : putCells (x :: l) = (.int .u32 (x.1 : Int) :: x.2.map vu8) ++ putCells l := by simp [putCells]
    rw [e]
    cases k with
    | zero =>
      simp at hk
      subst hk
      rw [Nat.zero_mul, Nat.zero_add, List.getElem?_append_left (by rw [hx]; exact hj)]
      simp [putV]
    | succ k =>
      rw [List.getElem?_append_right (by rw [hx]; omega), hx]
      have := ih (fun y hy => hl y (by simp [hy])) k (by simpa using hk)
      rw [show (k + 1) * 257 + j - 257 = k * 257 + j by omega]
      exact this
theorem pend_range {w : World} {gp n cap : Nat} {l : List (Nat × List UInt8)} (h : w.ownsRow 0 47 257 (.slice (some ⟨gp, 0, none⟩) n cap) l.length (putCells l)) (hl : ∀ x ∈ l, x.2.length = 256) (k a : Nat) (b : List UInt8) (hk : l[k]? = some (a, b)) : w.rangeAt gp (k * 257) (putV a b).toList := by
  intro j v hv
  rcases h.2 with ⟨h0, _⟩ | ⟨g, cap', cur, e, _, hg, _, _, _, hcur⟩
  · cases h0
  · simp only [Value.slice.injEq, Option.some.injEq, Addr.mk.injEq] at e
    obtain ⟨⟨rfl, _, _⟩, _, _⟩ := e
    rw [cell_of_row w gp _ _ _ _ hg]
    have hb : b.length = 256 := hl (a, b) (List.mem_of_getElem? hk)
    have hj : j < 257 := by
      have := (List.getElem?_eq_some_iff.1 hv).1
      simpa [size_putV a b hb] using this
    have hkl : k < l.length := (List.getElem?_eq_some_iff.1 hk).1
    have h1 := putCells_get l hl k j a b hk hj
    rw [hv, ← hcur, List.getElem?_take, if_pos (by
      have : (k + 1) * 257 ≤ l.length * 257 := Nat.mul_le_mul_right _ hkl
      omega)] at h1
    simpa using h1
set_option maxHeartbeats 2000000 in
theorem flush_dev {F : List Nat} {w : World} {g : Nat} {s : Dv} (h : (dvT g s).says F w) (hn : F.Nodup) :
    Calls Tryd.prog 19 #[.pointer (some ⟨g, 0, none⟩)] w fun e w' => e = .returned (.int .i64 s.flush.2) ∧ Turns F w w' (dvT g s.flush.1) := by
  have H := Lib.hid h
  have HN := Lib.hid hn
  have HAT : Hid ((dvT g s).at w) := Lib.hid ⟨F, h⟩
  clear h hn
  have hE : upE s [] = if s.down then 30 else 0 := rfl
  have HE := Lib.hid hE
  clear hE
  cases hd : s.down with
  | true =>
    have HD := Lib.hid hd
    clear hd
    have HFL : Hid (s.flush = (s, 30)) := Lib.hid (by unfold Dv.flush; rw [HD.out, if_pos rfl])
    go_enter Tryd.func19, Tryd.ntmps19
    go_wp2_with (go_at_call 28; refine (up_dev HAT.out _ [] (by simp) .none (by simp)).mono ?_; rintro e w1 ⟨rfl, hb⟩; have HB1 := Lib.hid hb; clear hb; rw [HE.out, HD.out, if_pos rfl])
    go_ret
    rw [HFL.out]
    exact ⟨rfl, dv_same H.out HN.out HB1.out⟩
  | false =>
    have HD := Lib.hid hd
    clear hd
    by_cases hf : s.fuse = some 0
    · have HFL : Hid (s.flush = s.burn ∧ s.burn.2 = 30) := Lib.hid ⟨by unfold Dv.flush; rw [HD.out, if_neg (by decide), if_pos hf], by unfold Dv.burn; rw [hf]⟩
      clear hf
      go_enter Tryd.func19, Tryd.ntmps19
      go_wp2_with (first
        | (go_at_call 28; refine (up_dev HAT.out _ [] (by simp) .none (by simp)).mono ?_; rintro e w1 ⟨rfl, hb⟩; have HB1 := Lib.hid hb; clear hb; rw [HE.out, HD.out, if_neg (by decide)])
        | (go_at_call 43; refine (burn_dev ((dvT g s).loc F w w1 (fun b hb' => HB1.out.block b ((dvT g s).lt F w H.out b hb')) H.out) HN.out).mono ?_; rintro e w2 ⟨rfl, ht⟩; have HT := Lib.hid ht; clear ht; rw [HFL.out.2]))
      go_ret
      rw [HFL.out.1]
      exact ⟨by rw [HFL.out.2]; rfl, (Only.of_below HB1.out).turns (fun b hb => .inl hb) HT.out⟩
    · have HFL : Hid (s.flush = ({ s.burn.1 with good := putAllB s.good s.pend, pend := [] }, 0) ∧ s.burn.2 = 0 ∧ s.burn.1.good = s.good ∧ s.burn.1.pend = s.pend) := Lib.hid (by
        refine ⟨by unfold Dv.flush; rw [HD.out, if_neg (by decide), if_neg hf], ?_⟩
        unfold Dv.burn
        split
        · rename_i h; exact absurd h hf
        · exact ⟨rfl, rfl, rfl⟩
        · exact ⟨rfl, rfl, rfl⟩)
      clear hf
      go_enter Tryd.func19, Tryd.ntmps19
      go_upto_region 7 with (first
        | (go_at_call 28; refine (up_dev HAT.out _ [] (by simp) .none (by simp)).mono ?_; rintro e w1 ⟨rfl, hb⟩; have HB1 := Lib.hid hb; clear hb; rw [HE.out, HD.out, if_neg (by decide)])
        | (go_at_call 43; refine (burn_dev ((dvT g s).loc F w w1 (fun b hb' => HB1.out.block b ((dvT g s).lt F w H.out b hb')) H.out) HN.out).mono ?_; rintro e w2 ⟨rfl, ht⟩; have HT := Lib.hid ht; clear ht; rw [HFL.out.2.1]))
      obtain ⟨G, ⟨gm, pv, fv, hG, hV⟩, hO, hGF, hGN⟩ := HT.out
      obtain ⟨d, hd⟩ : ∃ d, d = s.burn.1 := ⟨_, rfl⟩
      rw [← hd] at hV
      have hdp : d.pend = s.pend := by rw [hd]; exact HFL.out.2.2.2
      have hdg : d.good = s.good := by rw [hd]; exact HFL.out.2.2.1
      obtain ⟨A, c, hpv⟩ := own_len hV.pend
      subst hpv
      have h2 : w2.cell? ⟨g, 2, none⟩ = some (.slice A d.pend.length c) := cell_of_row w2 g 2 _ _ _ hV.row
      have HV := Lib.hid hV
      have HG := Lib.hid hG
      have HGN := Lib.hid hGN
      have HAP := Lib.hid (dv_apart (hG ▸ hGN))
      have HOW : Hid (Only F w w2) := Lib.hid ((Only.of_below HB1.out).trans hO)
      have HGW : Hid (∀ b ∈ G, b ∈ F ∨ w.heap.size ≤ b) := Lib.hid (fun b hb => by
        rcases hGF b hb with h | h
        · exact .inl h
        · exact .inr (Nat.le_trans HB1.out.size h))
      have HDP := Lib.hid hdp
      have HDG := Lib.hid hdg
      have HDD := Lib.hid hd
      obtain ⟨n, hn⟩ : ∃ n, n = d.pend.length := ⟨_, rfl⟩
      rw [← hn] at h2
      have HNN := Lib.hid hn
      have hnb : n ≤ 9223372036854775807 := by
        rw [hn]
        rcases hV.pend.2 with ⟨_, h0⟩ | ⟨_, cap, _, _, _, _, hc, hm, _⟩
        · omega
        · unfold maxLen at hm; omega
      clear hV hG hGN hO hGF hd hdp hdg hn
      go_wp2_with fail
      go_loopw [22] (fun i wr => ∃ k : Nat, k ≤ n ∧ i = .int .i64 (k : Int) ∧ DvV wr g gm (.slice A d.pend.length c) fv { d with good := putAllB d.good (d.pend.take k) } ∧ Only [gm] w2 wr) (fun i _ => n - (intOf i).toNat)
      case atStart => exact ⟨0, by omega, rfl, HV.out, Only.refl _ _⟩
      case round =>
        obtain ⟨k, hk, rfl, hVr, hOr⟩ := hrel
        have HVR := Lib.hid hVr
        have HOR := Lib.hid hOr
        clear hVr hOr
        by_cases hlt : k < n
        · have hkl : k < d.pend.length := by rw [← HNN.out]; exact hlt
          obtain ⟨⟨a, b⟩, hab⟩ : ∃ x, x = d.pend[k] := ⟨_, rfl⟩
          have hgk : d.pend[k]? = some (a, b) := by rw [List.getElem?_eq_getElem hkl, hab]
          obtain ⟨gp, hA⟩ : ∃ gp, A = some ⟨gp, 0, none⟩ := by
            rcases HVR.out.pend.2 with ⟨_, h0⟩ | ⟨gp, _, _, e, _⟩
            · simp only at h0; omega
            · simp only [Value.slice.injEq] at e; exact ⟨gp, e.1⟩
          subst hA
          have hbl := HV.out.ok.pend (a, b) (List.mem_of_getElem? hgk)
          have hrange : wr.rangeAt gp (k * 257) (putV a b).toList := pend_range HVR.out.pend (fun x hx => (HV.out.ok.pend x hx).2) k a b hgk
          have hps := size_putV a b hbl.2
          have HRG := Lib.hid hrange
          have HPS := Lib.hid hps
          have HBL := Lib.hid hbl
          have HGK := Lib.hid hgk
          have hgood : putAllB d.good (d.pend.take (k + 1)) = updB (putAllB d.good (d.pend.take k)) a b := by
            rw [List.take_succ_eq_append_getElem hkl, putAllB_snoc, ← hab]
          have HGD := Lib.hid hgood
          have hnd : (dvFoot g gm (.slice (some ⟨gp, 0, none⟩) d.pend.length c) fv).Nodup := HG.out ▸ HGN.out
          have HND := Lib.hid hnd
          clear hrange hps hbl hgk hab hgood hnd
          go_wp2_with (first
            | refine wpList_load_arr rfl 47 _ rfl gp (k * 257) rfl (putV a b) _ HRG.out Tryd.underlying47 rfl (by rw [HPS.out]; exact sizePut) ?_
            | refine wpList_alloc_row rfl 47 rfl _ zeroPut ?_
            | refine wpList_store_new rfl 47 _ _ rfl _ (putV a b) _ rfl rfl (by rw [HPS.out]; exact sizePut) (by rw [HPS.out]; rfl) (putV_one a b) ?_
            | refine wpList_load_row rfl 47 _ rfl wr.heap.size rfl 47 (putV a b) (0, 0) _ (heap_alloc_new _ _) Tryd.underlying47 rfl (by rw [HPS.out]; exact sizePut) ?_
            | (go_at_call 34; refine (put_devV (HVR.out.below ((Below.refl _ _).alloc (Nat.le_refl _) _)) HND.out a b HBL.out.1 HBL.out.2).mono ?_; rintro e w4 ⟨rfl, hv4, ho4⟩; have HV4 := Lib.hid hv4; have HO4 := Lib.hid ho4; clear hv4 ho4))
          refine ⟨⟨k + 1, by omega, rfl, by rw [HGD.out]; exact HV4.out, ?_⟩, by simp [intOf]; omega⟩
          exact (HOR.out.trans (Only.of_below ((Below.refl _ _).alloc (Nat.le_refl _) _))).trans' HO4.out (fun x hx _ => hx)
        · obtain rfl : k = n := by omega
          have hz : ¬ ((k : Int) < (k : Int)) := by omega
          have hrow := HVR.out.row
          have c2 : wr.cell? ⟨g, 2, none⟩ = some (.slice A d.pend.length c) := cell_of_row wr g 2 _ _ _ hrow
          have f2 : wr.frozen? ⟨g, 2, none⟩ = false := frozen_of_row wr g 2 _ _ hrow
          have htk : d.pend.take k = d.pend := List.take_of_length_le (by rw [HNN.out]; exact Nat.le_refl _)
          have hap2 : DvApart g gm (.slice none 0 0) fv := ⟨HAP.out.map, fun b hb => by simp [Value.ownBlock] at hb, fun b hb => ⟨(HAP.out.fuse b hb).1, (HAP.out.fuse b hb).2.1, by simp [Value.ownBlock]⟩⟩
          have hV3 : DvV (wr.setCell ⟨g, 2, none⟩ (.slice none 0 0)) g gm (.slice none 0 0) fv { d with good := putAllB d.good d.pend, pend := [] } := by
            have ho : ∀ b, b ≠ g → (wr.setCell ⟨g, 2, none⟩ (.slice none 0 0)).heap[b]? = wr.heap[b]? := fun b hb => heap_setCell_other _ _ _ _ hb
            refine ⟨?_, ?_, World.ownsRow_nil _ _ _ _, ?_, ⟨HV.out.ok.size, putAllB_length HV.out.ok.good _ (fun y hy => (HV.out.ok.pend y hy).2), by simp, HV.out.ok.fuse, HV.out.ok.writes⟩⟩
            · rw [heap_setCell_same wr g 2 _ _ _ hrow]; simp [dvCells]
            · have := HVR.out.good.kept (ho gm HAP.out.map)
              rwa [htk] at this
            · have hfu := HVR.out.fuse
              simp only at hfu ⊢
              unfold fuseAt at hfu ⊢
              split at hfu
              · exact hfu
              · obtain ⟨gf, rfl, hgf⟩ := hfu
                exact ⟨gf, rfl, (ho gf (HAP.out.fuse gf (by simp [ptrBlock])).1).trans hgf⟩
          have hT : Turns F w (wr.setCell ⟨g, 2, none⟩ (.slice none 0 0)) (dvT g { d with good := putAllB d.good d.pend, pend := [] }) := by
            have hgG : g ∈ G := by rw [HG.out]; simp [dvFoot]
            have hgmG : gm ∈ G := by rw [HG.out]; simp [dvFoot]
            have hO1 : Only F w wr := HOW.out.trans' HOR.out (fun x hx hlt => by
              simp at hx; subst hx
              rcases HGW.out x hgmG with h | h
              · exact h
              · omega)
            refine ⟨_, ⟨gm, _, fv, rfl, hV3⟩, hO1.setCell ?_ _, ?_, dv_foot hap2⟩
            · exact HGW.out g hgG
            · intro b hb
              refine HGW.out b ?_
              rw [HG.out]
              simp only [dvFoot, List.mem_cons, List.mem_append, Value.ownBlock, Option.toList_none, List.not_mem_nil, false_or] at hb ⊢
              rcases hb with h | h | h
              · exact .inl h
              · exact .inr (.inl h)
              · exact .inr (.inr (.inr h))
          have HT3 := Lib.hid hT
          clear hT hV3 hap2 hrow htk
          go_wp2
          go_ret
          have := HT3.out
          rw [HDG.out, HDP.out, HDD.out] at this
          rw [HFL.out.1]
          exact ⟨rfl, this⟩
end Go.Proofs.YtnphgaiiiiknpaaDoor
namespace Go.Proofs.YtnphgaiiiiknpaaDoor
open Go.RowKit
set_option linter.unusedSimpArgs false
set_option linter.unusedVariables false
set_option maxRecDepth 100000
theorem lastB_hit (l : List (Nat × List UInt8)) (a : Nat) (d : List UInt8) (j : Nat) (hj : j < l.length) (ha : l[j].1 = a) (hn : ∀ i, (hi : i < l.length) → j < i → l[i].1 ≠ a) : lastB l a d = l[j].2 := by
  have h : ∀ k, j < k → k ≤ l.length → lastB (l.take k) a d = l[j].2 := by
    intro k
    induction k with
    | zero => intro h; omega
    | succ k ih =>
      intro h1 h2
      rw [List.take_succ_eq_append_getElem (by omega), lastB_snoc]
      by_cases e : k = j
      · subst e; rw [if_pos ha]
      · rw [if_neg (hn k (by omega) (by omega))]
        exact ih (by omega) (by omega)
  have := h l.length hj (Nat.le_refl _)
  rwa [List.take_length] at this
theorem lastB_none (l : List (Nat × List UInt8)) (a : Nat) (d : List UInt8) (hn : ∀ i, (hi : i < l.length) → l[i].1 ≠ a) : lastB l a d = d := by
  have h : ∀ k, k ≤ l.length → lastB (l.take k) a d = d := by
    intro k
    induction k with
    | zero => intro _; rfl
    | succ k ih =>
      intro h2
      rw [List.take_succ_eq_append_getElem (by omega), lastB_snoc, if_neg (hn k (by omega))]
      exact ih (by omega)
  have := h l.length (Nat.le_refl _)
  rwa [List.take_length] at this
/-- A new thing, in blocks that were not there. -/
def MadeT (w w' : World) (x : Thing) : Prop := ∃ F, x.says F w' ∧ (∀ b ∈ F, w.heap.size ≤ b) ∧ F.Nodup ∧ Below w.heap.size w w'
theorem Held.made {w0 W W' : World} {l : List Thing} {x : Thing} (R : Held w0 W l) (h : MadeT W W' x) : Held w0 W' (x :: l) := by
  obtain ⟨F, h1, h2, h3, h4⟩ := h
  exact R.more h4 h1 h2 h3
/-- A new device. -/
theorem new_dev (w : World) (n : Nat) (h1 : 64 ≤ n) (h2 : n ≤ 1048576) : Calls Tryd.prog 10 #[.int .u32 (n : Int)] w fun e w' => ∃ g, e = .returned (.tuple #[.pointer (some ⟨g, 0, none⟩), .int .i64 0]) ∧ MadeT w w' (dvT g (newDv n)) := by
  have hmm := @run_makeMap Tryd.prog
  have e1 : ¬ ((n : Int) < 64) := by omega
  have e2 : ¬ ((1048576 : Int) < (n : Int)) := by omega
  go_enter Tryd.func10, Tryd.ntmps10
  go_wp2
  go_ret2
  refine ⟨w.heap.size + 1, rfl, dvFoot (w.heap.size + 1) w.heap.size (.slice none 0 0) (.pointer none), ⟨w.heap.size, .slice none 0 0, .pointer none, rfl, ⟨?_, ?_, World.ownsRow_nil _ _ _ _, rfl, newDv_ok n (by omega)⟩⟩, ?_, ?_, ((Below.refl _ _).alloc (Nat.le_refl _) _).alloc (by simp) _⟩
  · have := heap_alloc_new (w.alloc (.map #[] 0)) (.cells (dvCells (newDv n) w.heap.size (.slice none 0 0) (.pointer none)) 65 (0, 0))
    rw [show (w.alloc (.map #[] 0)).heap.size = w.heap.size + 1 by simp] at this
    exact this
  · refine (MapAt.made w).kept ?_
    exact Go.heap_alloc_old _ _ (by simp)
  · intro b hb
    simp [dvFoot, Value.ownBlock, ptrBlock] at hb
    omega
  · simp [dvFoot, Value.ownBlock, ptrBlock]
theorem new_far (w : World) (n : Nat) (h : n < 64 ∨ 1048576 < n) : Calls Tryd.prog 10 #[.int .u32 (n : Int)] w fun e w' => e = .returned (.tuple #[.pointer none, .int .i64 2]) ∧ w = w' := by
  rcases Nat.lt_or_ge n 64 with h1 | h1
  · have e1 : ((n : Int) < 64) := by omega
    go_enter Tryd.func10, Tryd.ntmps10
    go_wp2
    go_ret2
    exact ⟨rfl, rfl⟩
  · have e1 : ¬ ((n : Int) < 64) := by omega
    have e2 : ((1048576 : Int) < (n : Int)) := by omega
    go_enter Tryd.func10, Tryd.ntmps10
    go_wp2
    go_ret2
    exact ⟨rfl, rfl⟩
end Go.Proofs.YtnphgaiiiiknpaaDoor
namespace Go.Proofs.YtnphgaiiiiknpaaDoor
open Go.RowKit
set_option linter.unusedSimpArgs false
set_option linter.unusedVariables false
set_option maxRecDepth 100000
def readB (s : Dv) (a : Nat) : List UInt8 := if s.size ≤ a then zeroBlk else s.read a
def readE (s : Dv) (a : Nat) : Int := if s.size ≤ a then 2 else 0
theorem length_readB (s : Dv) (h : s.Ok) (a : Nat) : (readB s a).length = 256 := by
  unfold readB
  split
  · exact length_zeroBlk
  · unfold Dv.read lastB
    have : ∀ (l : List (Nat × List UInt8)) (d : List UInt8), d.length = 256 → (∀ x ∈ l, x.2.length = 256) → (l.foldl (fun r x => if x.1 = a then x.2 else r) d).length = 256 := by
      intro l
      induction l with
      | nil => intro d hd _; exact hd
      | cons x l ih =>
        intro d hd hl
        refine ih _ ?_ (fun y hy => hl y (by simp [hy]))
        show (if x.1 = a then x.2 else d).length = 256
        split
        · exact hl x (by simp)
        · exact hd
    exact this _ _ (h.good a) (fun x hx => (h.pend x hx).2)
theorem wpList_look_map {ops : Array Oper} {o : Oper} {act : Act} {rest : List Oper} {w : World} {Q : Exit → Act → World → Prop} (hgd : o.guard = none) (m x : Operand) (ho : o.op = Op.lookup 62 m x false)
    (gm : Nat) (f : Nat → List UInt8) (hm : act.eval m = .map (some gm)) (hown : MapAt w gm f) (a : Nat) (ha : a < 4294967296) (hx : act.eval x = .int .u32 (a : Int))
    (hK : wpList Tryd.prog ops Q rest (act.put o.dst (.agg (blk (f a)))) w) : wpList Tryd.prog ops Q (o :: rest) act w := by
  refine wpList_plain hgd fun K hK' => ?_
  have hrun := (hown.look a ha).1
  unfold Oper.wp
  simp [execOp, ho, hm, hx, hrun, Result.andThen]
  exact hK' _ _ hK
/-- A slice literal of two elements. -/
theorem wp_build_two {P : Program} {o : Oper} {a : Act} {w : World} {K : Act → World → Prop} {Q : Exit → Act → World → Prop} (t e : TypeId) (p q : Operand) (ho : o.op = .buildSlice t 2 #[(0, p), (1, q)]) (c1 c2 : Array Value) (hx : a.eval p = .agg c1) (hy : a.eval q = .agg c2)
    (ie : TypeInfo) (z : Value) (hu : P.underlying t = some (.slice e)) (hie : P.info? e = some ie) (hz : ie.zero = some z) (hs : c1.size = ie.size) (hs2 : c2.size = ie.size) (h0 : 0 < ie.size) (h1 : ie.size ≤ 1000)
    (h : K (a.put o.dst (.slice (some ⟨w.heap.size, 0, none⟩) 2 2)) (w.alloc (.cells (c1 ++ c2) e))) : o.wp P a w K Q := by
  refine wp_buildSlice t e 2 _ ho (c1 ++ c2) ie z hu hie hz (by omega) (by omega) ?_ h
  have := Great.fill_whole (s := ie.size) h0 [Value.agg c1, Value.agg c2] ((Array.range (2 * ie.size)).map (z.cells[· % z.cells.size]!)) (by
    intro v hv
    simp only [List.mem_cons, List.not_mem_nil, or_false] at hv
    rcases hv with rfl | rfl
    · simpa [Value.cells] using hs
    · simpa [Value.cells] using hs2) (by simp)
  have e1 : ((#[(0, p), (1, q)] : Array (Nat × Operand)).map fun (i, x) => (i, a.eval x)).toList = (([Value.agg c1, Value.agg c2].zipIdx 0).map fun x => (x.2, x.1)) := by simp [hx, hy]
  rw [e1, this]
  simp [Value.cells]
/-- The slots of Read's region. -/
def rdV (g a gp c n k : Nat) (a' : Nat) (b' : List UInt8) (base : Nat) (t : Tmp) (v : Value) (w : World) : Prop :=
  match t with
  | 36 => v = .pointer (some ⟨g, 0, none⟩)
  | 37 => v = .pointer (some ⟨g, 0, none⟩)
  | 38 => v = .pointer (some ⟨g, 2, none⟩)
  | 39 => v = .slice (some ⟨gp, 0, none⟩) n c
  | 40 => v = .pointer (some ⟨g, 0, none⟩)
  | 41 => v = .pointer (some ⟨g, 0, none⟩)
  | 42 => v = .pointer (some ⟨g, 2, none⟩)
  | 43 => v = .slice (some ⟨gp, 0, none⟩) n c
  | 44 => v = .int .i64 (n : Int)
  | 45 => v = .int .i64 ((n - 1 : Nat) : Int)
  | 46 => v = .int .i64 (k : Int)
  | 47 => v = .int .i64 ((n - 1 - k : Nat) : Int)
  | 48 => v = .pointer (some ⟨gp, (n - 1 - k) * 257, none⟩)
  | 49 => v = .agg (putV a' b')
  | 9 => ∃ b, v = .pointer (some ⟨b, 0, none⟩) ∧ w.heap[b]? = some (.cells (putV 0 zeroBlk) 47 (0, 0)) ∧ base ≤ b
  | _ => True
set_option maxHeartbeats 4000000 in
theorem read_dev {w : World} {g : Nat} {s : Dv} (h : (dvT g s).at w) (a : Nat) (ha : a < 4294967296) :
    Calls Tryd.prog 16 #[.pointer (some ⟨g, 0, none⟩), .int .u32 (a : Int)] w fun e w' => e = .returned (.tuple #[.agg (blk (readB s a)), .int .i64 (readE s a)]) ∧ Below w.heap.size w w' := by
  have H := Lib.hid h
  have HA := Lib.hid ha
  clear h ha
  obtain ⟨i, hi, hz, hs2, hby⟩ := info_parts Tryd.infoAsk
  have hI := Lib.hid hi
  have hZ := Lib.hid hz
  clear hi hz
  have hmf : ∀ (fn : Fn) (first cap : Array Value) (w : World), (Instr.makeFunc fn first cap).run Tryd.prog w = .ok (.func fn first cap) w := fun _ _ _ _ => rfl
  obtain ⟨W0, hW0⟩ : ∃ W, W = w.alloc (.cells (zeros 256 (.int .u8 0)) 45) := ⟨_, rfl⟩
  obtain ⟨g4, hg4⟩ : ∃ b, b = w.heap.size := ⟨_, rfl⟩
  have R0 : Rows w W0 [(g4, blk zeroBlk, 45)] := by rw [hW0, hg4, zero_cells]; exact (Rows.start w).alloc _ _
  have HR0 := Lib.hid R0
  have HG4 := Lib.hid hg4
  clear R0
  have hE : ∀ x : Ask, x.e = 2 → x.r = decide (s.size ≤ a) → checkE [noneQ g, x] = readE s a := by
    intro x e1 e2
    unfold checkE readE
    by_cases hs : s.size ≤ a
    · rw [if_pos hs, List.find?_cons_of_neg (by simp [noneQ]), List.find?_cons_of_pos (by simp [e2, hs])]; exact e1
    · rw [if_neg hs, List.find?_cons_of_neg (by simp [noneQ]), List.find?_cons_of_neg (by simp [e2, hs])]; rfl
  have HE := Lib.hid hE
  clear hE
  go_enter Tryd.func16, Tryd.ntmps16
  go_upto_region 1 with (refine wpList_alloc_row rfl 45 rfl _ zeroB ?_)
  rw [← hW0, ← hg4]
  clear hW0 hg4
  refine wp_scope_straight ?_
  go_upto_region 2 with (first
    | (go_at_call 40; refine (far_dev (H.out.since HR0.out.below) a).mono ?_; rintro e w1 ⟨x, rfl, hxo, hxe, hxr, hb1⟩; have HXO := Lib.hid hxo; have HXE := Lib.hid hxe; have HXR := Lib.hid hxr; have HB1 := Lib.hid hb1; clear hxo hxe hxr hb1)
    | refine wpList_plain rfl fun K hK' => wp_build_two 97 71 _ _ rfl (askV (noneQ g)) (askV x) rfl rfl i _ Tryd.underlying97 hI.out hZ.out (by rw [hs2]; rfl) (by rw [hs2]; rfl) (by omega) (by omega) (hK' _ _ ?_)
    | (go_at_call 39; refine (check_any _ w1.heap.size 2 [noneQ g, x] (askV (noneQ g) ++ askV x) 71 (by simp) (heap_alloc_new _ _) (by simp [askV, askCells]) (by
        intro z hz
        simp only [List.mem_cons, List.not_mem_nil, or_false] at hz
        rcases hz with rfl | rfl
        · exact noneQ_ok (H.out.since (HR0.out.below.trans ((HB1.out.trans ((Below.refl _ _).alloc HB1.out.size _)).mono HR0.out.below.size)))
        · exact HXO.out.below ((Below.refl _ _).alloc (Nat.le_refl _) _))).mono ?_; rintro e w2 ⟨rfl, hb2⟩; have HB2 := Lib.hid hb2; clear hb2; rw [HE.out x HXE.out HXR.out]))
  have HR2 := Lib.hid (HR0.out.call (HB1.out.trans (((Below.refl _ _).alloc HB1.out.size _).trans (HB2.out.mono (by have := HB1.out.size; simp; omega)))))
  clear HB1 HB2 HXO HXE HXR HE HR0 hI hZ hs2 hby
  by_cases hfar : s.size ≤ a
  · have hre : readE s a = 2 := by unfold readE; rw [if_pos hfar]
    have HRB : Hid (readB s a = zeroBlk) := Lib.hid (by unfold readB; rw [if_pos hfar])
    have HRE := Lib.hid hre
    rw [hre]
    clear hre hfar
    go_wp2_with (first
      | refine wpList_build_none rfl 45 rfl _ zeroB Tryd.underlying45 rfl ?_
      | refine wpList_store_row rfl 45 _ _ rfl g4 (zeros 256 (.int .u8 0)) rfl rfl 45 _ (HR2.out.get 0 rfl) (by rw [size_zeros]; exact sizeB) (by rw [size_zeros, size_blk, length_zeroBlk]) (by rw [zero_cells]; exact blk_one _) ?_)
    have R3 := HR2.out.setRow 0 (zeros 256 (.int .u8 0)) rfl
    simp only [Exit.noGoto]
    refine bodyPost_ret (v := .tuple #[.agg (zeros 256 (.int .u8 0)), .int .i64 2]) (results_cell_slot rfl _ _ g4 45 _ (0, 0) _ _ rfl rfl (R3.get 0 rfl) Tryd.underlying45 rfl (by rw [size_zeros]; exact sizeB)) rfl ⟨?_, R3.below⟩
    rw [HRB.out, HRE.out, zero_cells]
  · have hre : readE s a = 0 := by unfold readE; rw [if_neg hfar]
    have HRB : Hid (readB s a = s.read a) := Lib.hid (by unfold readB; rw [if_neg hfar])
    have HRE := Lib.hid hre
    rw [hre]
    clear hre hfar
    obtain ⟨gm, pv, fv, hV⟩ := dv_open (H.out.since HR2.out.below)
    have hgl := (MapAt.look hV.good a HA.out).2
    obtain ⟨A, c, hpv⟩ := own_len hV.pend
    subst hpv
    have h1 : w2.cell? ⟨g, 1, none⟩ = some (.map (some gm)) := cell_of_row w2 g 1 _ _ _ hV.row
    have HV := Lib.hid hV
    have HGL : Hid ((blk (s.good a)).size = 256) := Lib.hid (by rw [size_blk, hgl])
    have HGL2 := Lib.hid hgl
    have hnb : s.pend.length ≤ 9223372036854775807 := by
      rcases hV.pend.2 with ⟨_, h0⟩ | ⟨_, cap, _, _, _, _, hc, hm, _⟩
      · omega
      · unfold maxLen at hm; omega
    clear hV hgl
    have q1 := HR2.out.alloc (blk (s.good a)) 45
    go_upto_region 5 with (first
      | refine wpList_look_map rfl _ _ rfl gm s.good rfl HV.out.good a HA.out rfl ?_
      | refine wpList_alloc_row rfl 45 rfl _ zeroB ?_
      | refine wpList_store_new rfl 45 _ _ rfl _ (blk (s.good a)) _ rfl rfl (by rw [HGL.out]; exact sizeB) (by rw [HGL.out, size_zeros]) (blk_one _) ?_)
    have hb3 : Below w2.heap.size w2 (w2.alloc (.cells (blk (s.good a)) 45)) := (Below.refl _ _).alloc (Nat.le_refl _) _
    obtain ⟨W3, hW3⟩ : ∃ W, W = w2.alloc (.cells (blk (s.good a)) 45) := ⟨_, rfl⟩
    rw [← hW3] at q1 hb3 ⊢
    obtain ⟨g7, hg7⟩ : ∃ b, b = w2.heap.size := ⟨_, rfl⟩
    rw [← hg7] at q1 ⊢
    simp only [Act.put, List.setIfInBounds_toArray, List.set_cons_zero, List.set_cons_succ]
    have HR3 := Lib.hid q1
    have hV3 := HV.out.below hb3
    have h2 : W3.cell? ⟨g, 2, none⟩ = some (.slice A s.pend.length c) := cell_of_row W3 g 2 _ _ _ hV3.row
    have HV3 := Lib.hid hV3
    obtain ⟨n, hn⟩ : ∃ n, n = s.pend.length := ⟨_, rfl⟩
    have hV3s := hV3
    rw [← hn] at h2 hnb
    have HNN := Lib.hid hn
    clear hV3 h1 hn q1 hW3 hg7 hb3 HV HR2 hV3s hmf
    go_step3
    go_wp2_with fail
    go_loopw [33, 8, 9] (fun i _ _ wr => ∃ k : Nat, k ≤ n ∧ i = .int .i64 (k : Int) ∧ (∀ j, (hj : j < s.pend.length) → n - k ≤ j → s.pend[j].1 ≠ a) ∧ Rows w wr [(g7, blk (s.good a), 45), (g4, blk zeroBlk, 45)] ∧ Below W3.heap.size W3 wr) (fun i _ _ _ => n - (intOf i).toNat)
    case atStart => exact ⟨0, by omega, rfl, by intro j hj h1; have := HNN.out; omega, HR3.out, Below.refl _ _⟩
    case round =>
      obtain ⟨k, hk, rfl, hne, hRr, hBr⟩ := hrel
      have HNE := Lib.hid hne
      have HRR := Lib.hid hRr
      have HBR := Lib.hid hBr
      clear hne hRr hBr
      by_cases hlt : k < n
      · have hjl : n - 1 - k < s.pend.length := by have := HNN.out; omega
        obtain ⟨⟨a', b'⟩, hab⟩ : ∃ x, x = s.pend[n - 1 - k] := ⟨_, rfl⟩
        have hgk : s.pend[n - 1 - k]? = some (a', b') := by rw [List.getElem?_eq_getElem hjl, hab]
        obtain ⟨gp, hA⟩ : ∃ gp, A = some ⟨gp, 0, none⟩ := by
          rcases HV3.out.pend.2 with ⟨_, h0⟩ | ⟨gp, _, _, e, _⟩
          · omega
          · simp only [Value.slice.injEq] at e; exact ⟨gp, e.1⟩
        subst hA
        have HVR := Lib.hid (HV3.out.below HBR.out)
        have hbl := HV3.out.ok.pend (a', b') (List.mem_of_getElem? hgk)
        have hrange : wr.rangeAt gp ((n - 1 - k) * 257) (putV a' b').toList := pend_range HVR.out.pend (fun x hx => (HV3.out.ok.pend x hx).2) (n - 1 - k) a' b' hgk
        have hps := size_putV a' b' hbl.2
        have c2 : wr.cell? ⟨g, 2, none⟩ = some (.slice (some ⟨gp, 0, none⟩) n c) := by rw [HNN.out]; exact cell_of_row wr g 2 _ _ _ HVR.out.row
        have HRG := Lib.hid hrange
        have HPS := Lib.hid hps
        have HBL := Lib.hid hbl
        have HAB := Lib.hid hab
        have HC2 := Lib.hid c2
        clear hrange hps hbl hab c2 hgk
        go_upto_region 8 with (fail)
        refine wp_region_flow (by kernel_rfl) 15 (rdV g a gp c n k a' b' wr.heap.size) ?stab (by kernel_rfl) (by kernel_rfl) (by kernel_rfl) (by kernel_rfl) ?heads ?tail
        case stab =>
          intro t v x y h hb
          unfold rdV at h ⊢
          split at h
          all_goals first | exact h | skip
          obtain ⟨b, e1, e2, e3⟩ := h
          exact ⟨b, e1, (hb.block b (Array.getElem?_eq_some_iff.1 e2).1).trans e2, e3⟩
        case heads =>
          refine ⟨.inr ⟨rfl, 36, rfl, fun a1 v hB hO hD K hK => ?_⟩, .inr ⟨rfl, 37, rfl, fun a1 v hB hO hD K hK => ?_⟩, .inr ⟨rfl, 38, rfl, fun a1 v hB hO hD K hK => ?_⟩, .inr ⟨rfl, 39, rfl, fun a1 v hB hO hD K hK => ?_⟩, .inr ⟨rfl, 40, rfl, fun a1 v hB hO hD K hK => ?_⟩, .inr ⟨rfl, 41, rfl, fun a1 v hB hO hD K hK => ?_⟩, .inr ⟨rfl, 42, rfl, fun a1 v hB hO hD K hK => ?_⟩, .inr ⟨rfl, 43, rfl, fun a1 v hB hO hD K hK => ?_⟩, .inr ⟨rfl, 44, rfl, fun a1 v hB hO hD K hK => ?_⟩, .inr ⟨rfl, 45, rfl, fun a1 v hB hO hD K hK => ?_⟩, .inr ⟨rfl, 46, rfl, fun a1 v hB hO hD K hK => ?_⟩, .inr ⟨rfl, 47, rfl, fun a1 v hB hO hD K hK => ?_⟩, .inr ⟨rfl, 48, rfl, fun a1 v hB hO hD K hK => ?_⟩, .inr ⟨rfl, 49, rfl, fun a1 v hB hO hD K hK => ?_⟩, .inr ⟨rfl, 9, rfl, fun a1 v hB hO hD K hK => ?_⟩, .inl (by decide), trivial⟩
          · skip
            exact wp_move _ _ rfl (eval_of (t := 0) (by rw [hO 0 (not_dst 0 (by kernel_rfl))]; rfl)) (hK _ _ rfl (Below.refl _ _))
          · skip
            obtain ⟨u, hu, hv⟩ := flow_of hD 0 (by kernel_rfl) 36 (by kernel_rfl)
            exact wp_nilcheck _ _ rfl (hu.trans hv) (hK _ _ rfl (Below.refl _ _))
          · skip
            obtain ⟨u, hu, hv⟩ := flow_of hD 1 (by kernel_rfl) 37 (by kernel_rfl)
            exact wp_field 65 2 35 2 0 _ g 0 rfl (by kernel_rfl) (by kernel_rfl) (by kernel_rfl) (hu.trans hv) (hK _ _ rfl (Below.refl _ _))
          · skip
            obtain ⟨u, hu, hv⟩ := flow_of hD 2 (by kernel_rfl) 38 (by kernel_rfl)
            exact wp_load_cell 35 _ ⟨g, 2, none⟩ (.slice (some ⟨gp, 0, none⟩) n c) _ rfl rfl (hu.trans hv) ((hB.cell (by have := (Array.getElem?_eq_some_iff.1 HVR.out.row).1; exact this)).trans HC2.out) Tryd.underlying35 (hK _ _ rfl (Below.refl _ _))
          · skip
            exact wp_move _ _ rfl (eval_of (t := 0) (by rw [hO 0 (not_dst 0 (by kernel_rfl))]; rfl)) (hK _ _ rfl (Below.refl _ _))
          · skip
            obtain ⟨u, hu, hv⟩ := flow_of hD 4 (by kernel_rfl) 40 (by kernel_rfl)
            exact wp_nilcheck _ _ rfl (hu.trans hv) (hK _ _ rfl (Below.refl _ _))
          · skip
            obtain ⟨u, hu, hv⟩ := flow_of hD 5 (by kernel_rfl) 41 (by kernel_rfl)
            exact wp_field 65 2 35 2 0 _ g 0 rfl (by kernel_rfl) (by kernel_rfl) (by kernel_rfl) (hu.trans hv) (hK _ _ rfl (Below.refl _ _))
          · skip
            obtain ⟨u, hu, hv⟩ := flow_of hD 6 (by kernel_rfl) 42 (by kernel_rfl)
            exact wp_load_cell 35 _ ⟨g, 2, none⟩ (.slice (some ⟨gp, 0, none⟩) n c) _ rfl rfl (hu.trans hv) ((hB.cell (by have := (Array.getElem?_eq_some_iff.1 HVR.out.row).1; exact this)).trans HC2.out) Tryd.underlying35 (hK _ _ rfl (Below.refl _ _))
          · skip
            obtain ⟨u, hu, hv⟩ := flow_of hD 7 (by kernel_rfl) 43 (by kernel_rfl)
            refine wp_of_wq rfl (wk_len_slice 35 47 _ (some ⟨gp, 0, none⟩) n c Tryd.underlying35 (by exact wanted_none rfl) rfl (hu.trans hv) ?_)
            refine wk_nil ?_
            intro w' hC
            exact hK _ _ rfl hC
          · skip
            obtain ⟨u, hu, hv⟩ := flow_of hD 8 (by kernel_rfl) 44 (by kernel_rfl)
            refine wp_of_wq rfl (wk_sub _ _ _ _ (n : Int) 1 ((n - 1 : Nat) : Int) (by exact wanted_none rfl) rfl (hu.trans hv) rfl (by rw [IntKind.wrap_i64]; omega) ?_)
            refine wk_nil ?_
            intro w' hC
            exact hK _ _ rfl hC
          · skip
            exact wp_move _ _ rfl (eval_of (t := 8) (by rw [hO 8 (not_dst 8 (by kernel_rfl))]; rfl)) (hK _ _ rfl (Below.refl _ _))
          · skip
            obtain ⟨u, hu, hv⟩ := flow_of hD 9 (by kernel_rfl) 45 (by kernel_rfl)
            obtain ⟨u', hu', hv'⟩ := flow_of hD 10 (by kernel_rfl) 46 (by kernel_rfl)
            refine wp_of_wq rfl (wk_sub _ _ _ _ ((n - 1 : Nat) : Int) (k : Int) ((n - 1 - k : Nat) : Int) (by exact wanted_none rfl) rfl (hu.trans hv) (hu'.trans hv') (by rw [IntKind.wrap_i64]; omega) ?_)
            refine wk_nil ?_
            intro w' hC
            exact hK _ _ rfl hC
          · skip
            obtain ⟨u, hu, hv⟩ := flow_of hD 3 (by kernel_rfl) 39 (by kernel_rfl)
            obtain ⟨u', hu', hv'⟩ := flow_of hD 11 (by kernel_rfl) 47 (by kernel_rfl)
            refine wp_of_wq rfl (wk_index 35 47 _ _ gp 0 n c (n - 1 - k) 257 .i64 (by exact wanted_none rfl) rfl Tryd.underlying35 sizePut (hu.trans hv) (hu'.trans hv') (by omega) ?_)
            rw [Nat.zero_add]
            refine wk_nil ?_
            intro w' hC
            exact hK _ _ rfl hC
          · skip
            obtain ⟨u, hu, hv⟩ := flow_of hD 12 (by kernel_rfl) 48 (by kernel_rfl)
            refine wp_of_wq rfl (wk_load_mid 47 _ gp ((n - 1 - k) * 257) (putV a' b') _ (by exact wanted_none rfl) rfl (hu.trans hv) (fun w' hC => ?_) Tryd.underlying47 rfl (by rw [HPS.out]; exact sizePut) ?_)
            · exact pend_range ((HVR.out.below hB).below hC).pend (fun x hx => (HV3.out.ok.pend x hx).2) (n - 1 - k) a' b' (by rw [List.getElem?_eq_getElem hjl, HAB.out])
            refine wk_nil ?_
            intro w' hC
            exact hK _ _ rfl hC
          · exact wp_alloc_row 47 rfl _ zeroPut (hK _ _ ⟨_, rfl, heap_alloc_new _ _, hB.size⟩ ((Below.refl _ _).alloc (Nat.le_refl _) _))
        case tail =>
          intro F v hV hB
          obtain ⟨g9, e9, hr9, hb9⟩ : ∃ b, F 9 = .pointer (some ⟨b, 0, none⟩) ∧ v.heap[b]? = some (.cells (putV 0 zeroBlk) 47 (0, 0)) ∧ wr.heap.size ≤ b := hV _ (List.mem_of_getElem? (i := 14) rfl) 9 rfl
          have e49 : F 49 = .agg (putV a' b') := hV _ (List.mem_of_getElem? (i := 13) rfl) 49 rfl
          simp only [List.take_succ_cons, List.take_zero, List.drop_succ_cons, List.drop_zero, putAll, List.setIfInBounds_toArray, List.set_cons_zero, List.set_cons_succ]
          rw [e9, e49]
          clear hV e9 e49
          refine wpList_store_row rfl 47 _ _ rfl g9 (putV a' b') rfl rfl 47 _ hr9 (by rw [HPS.out]; exact sizePut) (by rw [HPS.out]; rfl) (putV_one _ _) ?_
          simp only [Act.put, List.setIfInBounds_toArray, List.set_cons_zero, List.set_cons_succ]
          have hb5 : Below wr.heap.size wr (v.setRow g9 (putV a' b')) := below_setRow hB hb9 _
          have hr5 : (v.setRow g9 (putV a' b')).heap[g9]? = some (.cells (putV a' b') 47 (0, 0)) := setRow_heap _ _ _ _ _ _ hr9
          obtain ⟨W5, hW5⟩ : ∃ W, W = v.setRow g9 (putV a' b') := ⟨_, rfl⟩
          rw [← hW5] at hb5 hr5 ⊢
          have HR5 := Lib.hid hr5
          have HRR5 := Lib.hid (HRR.out.call hb5)
          have HBR5 := Lib.hid (HBR.out.trans (hb5.mono HBR.out.size))
          have c0 : W5.cell? ⟨g9, 0, none⟩ = some (.int .u32 (a' : Int)) := cell_of_row W5 g9 0 _ _ _ hr5
          clear hW5 hr9 hb9 hr5 hb5 hB
          by_cases e : a' = a
          · have hcmp : ((a' : Int) == (a : Int)) = true := by simp [e]
            have HSB : Hid ((blk b').size = 256) := Lib.hid (by rw [size_blk, HBL.out.2])
            have R6 := Lib.hid (HRR5.out.setRow 0 (blk b') rfl)
            have HEA := Lib.hid e
            clear e
            go_wp2_with (first
              | refine wpList_load_arr rfl 45 _ rfl g9 1 rfl (blk b') _ (putV_range HR5.out) Tryd.underlying45 rfl (by rw [HSB.out]; exact sizeB) ?_
              | refine wpList_store_row rfl 45 _ _ rfl g7 (blk b') rfl rfl 45 _ (HRR5.out.get 0 rfl) (by rw [HSB.out]; exact sizeB) (by rw [HSB.out, size_blk, HGL2.out]) (blk_one _) ?_
              | refine wpList_load_row rfl 45 _ rfl g7 rfl 45 (blk b') (0, 0) _ (R6.out.get 0 rfl) Tryd.underlying45 rfl (by rw [HSB.out]; exact sizeB) ?_
              | refine wpList_store_row rfl 45 _ _ rfl g4 (blk b') rfl rfl 45 _ (R6.out.get 1 rfl) (by rw [HSB.out]; exact sizeB) (by rw [HSB.out, size_blk, length_zeroBlk]) (blk_one _) ?_)
            have R8 := R6.out.setRow 1 (blk (b')) rfl
            refine bodyPost_ret (v := .tuple #[.agg (blk (b')), .int .i64 0]) (results_cell_slot rfl _ _ g4 45 _ (0, 0) _ _ rfl rfl (R8.get 1 rfl) Tryd.underlying45 rfl (by rw [HSB.out]; exact sizeB)) rfl ⟨?_, R8.below⟩
            rw [HRB.out, HRE.out]
            have : s.read a = b' := by
              unfold Dv.read
              rw [lastB_hit s.pend a _ (n - 1 - k) hjl (by rw [← HAB.out]; exact HEA.out) (fun j hj hlt => HNE.out j hj (by omega)), ← HAB.out]
            rw [this]
          · have hcmp : ((a' : Int) == (a : Int)) = false := by
              simp only [beq_eq_false_iff_ne, ne_eq]
              omega
            have HEA := Lib.hid e
            clear e
            go_wp2_with fail
            refine ⟨⟨k + 1, by omega, by simp, fun j hj h1 => ?_, HRR5.out, HBR5.out⟩, by simp [intOf]; omega⟩
            by_cases hj2 : n - k ≤ j
            · exact HNE.out j hj hj2
            · have : j = n - 1 - k := by omega
              subst this
              rw [← HAB.out]; exact HEA.out
      · obtain rfl : k = n := by omega
        have hz : ¬ ((k : Int) < (k : Int)) := by omega
        have HSB : Hid ((blk (s.good a)).size = 256) := HGL
        go_wp2_with (first
          | refine wpList_load_row rfl 45 _ rfl g7 rfl 45 (blk (s.good a)) (0, 0) _ (HRR.out.get 0 rfl) Tryd.underlying45 rfl (by rw [HSB.out]; exact sizeB) ?_
          | refine wpList_store_row rfl 45 _ _ rfl g4 (blk (s.good a)) rfl rfl 45 _ (HRR.out.get 1 rfl) (by rw [HSB.out]; exact sizeB) (by rw [HSB.out, size_blk, length_zeroBlk]) (blk_one _) ?_)
        have R8 := HRR.out.setRow 1 (blk (s.good a)) rfl
        refine bodyPost_ret (v := .tuple #[.agg (blk (s.good a)), .int .i64 0]) (results_cell_slot rfl _ _ g4 45 _ (0, 0) _ _ rfl rfl (R8.get 1 rfl) Tryd.underlying45 rfl (by rw [HSB.out]; exact sizeB)) rfl ⟨?_, R8.below⟩
        rw [HRB.out, HRE.out]
        have : s.read a = s.good a := by
          unfold Dv.read
          exact lastB_none s.pend a _ (fun j hj => HNE.out j hj (by omega))
        rw [this]
end Go.Proofs.YtnphgaiiiiknpaaDoor
namespace Go.Proofs.YtnphgaiiiiknpaaDoor
open Go.RowKit
set_option linter.unusedSimpArgs false
set_option linter.unusedVariables false
set_option maxRecDepth 100000
def dbit (m j : Nat) : Bool := decide (m / 2 ^ j % 2 = 1)
/-- The bytes of sector j. -/
def dsector (b : List UInt8) (j : Nat) : List UInt8 := (b.drop (64 * j)).take 64
theorem dtorn_sector (a b : List UInt8) (hb : b.length = 256) (s j : Nat) (hj : j < 4) (h : dbit s j = true) :
    splice ((dtornTo j a b s).map vu8) (64 * j) ((dsector b j).map vu8) = (dtornTo (j + 1) a b s).map vu8 := by
  have h : s / 2 ^ j % 2 = 1 := by simpa [dbit] using h
  have hl : (dsector b j).length = 64 := by simp [dsector]; omega
  have e : splice (dtornTo j a b s) (64 * j) (dsector b j) = dtornTo (j + 1) a b s := by
    apply List.ext_getElem?
    intro i
    have ht := length_dtornTo j a b s
    have hlt : (List.take (64 * j) (dtornTo j a b s)).length = 64 * j := by simp [ht]; omega
    unfold splice
    rw [hl]
    by_cases h1 : i < 64 * j
    · rw [List.getElem?_append_left (by omega), List.getElem?_take_of_lt h1]
      have hi : i < 256 := by omega
      simp only [dtornTo, List.getElem?_map, List.getElem?_range hi, Option.map_some]
      have q1 : i / 64 < j ↔ True := by simp; omega
      have q2 : i / 64 < j + 1 ↔ True := by simp; omega
      simp only [q1, q2]
    · rw [List.getElem?_append_right (by omega), hlt]
      by_cases h2 : i < 64 * j + 64
      · rw [List.getElem?_append_left (by omega)]
        have hi : i < 256 := by omega
        have hd : i / 64 = j := by omega
        simp only [dtornTo, List.getElem?_map, List.getElem?_range hi, Option.map_some, hd, h, and_true]
        rw [if_pos (by omega), dsector, List.getElem?_take_of_lt (by omega), List.getElem?_drop]
        have : 64 * j + (i - 64 * j) = i := by omega
        rw [this]
        simp [show i < b.length by omega]
      · rw [List.getElem?_append_right (by omega), List.getElem?_drop, hl]
        have q : 64 * j + 64 + (i - 64 * j - 64) = i := by omega
        rw [q]
        by_cases hi : i < 256
        · simp only [dtornTo, List.getElem?_map, List.getElem?_range hi, Option.map_some]
          have q1 : ¬ i / 64 < j := by omega
          have q2 : ¬ i / 64 < j + 1 := by omega
          simp only [q1, q2]
        · rw [List.getElem?_eq_none (by omega), List.getElem?_eq_none (by rw [length_dtornTo]; omega)]
  rw [← e]
  simp [splice, List.map_append, List.map_take, List.map_drop]
theorem dtorn_keep (a b : List UInt8) (s j : Nat) (h : dbit s j = false) : dtornTo j a b s = dtornTo (j + 1) a b s := by
  have h : ¬ s / 2 ^ j % 2 = 1 := by simpa [dbit] using h
  unfold dtornTo
  apply List.map_congr_left
  intro i _
  by_cases e : i / 64 = j
  · rw [e]; simp [h]
  · have : i / 64 < j ↔ i / 64 < j + 1 := by omega
    simp only [this]
section
variable {P : Program} {ops : Array Oper} {C : World → Prop} {o : Oper} {a : Act} {rest : List Oper}
/-- b[lo:hi] of an array in a block of its own. -/
theorem wk_slice_arrD {Q : Act → Prop} (lo hi N : Nat) (k k' : IntKind) (t e : TypeId) (x l h' : Operand) (g : Nat) (hw : Region.wanted o (yielded ops a.tmps) = true) (ho : o.op = .slice t x (some l) (some h') none) (ht : P.underlying t = some (.array N e))
    (hs : (P.info? e).map (·.size) = some 1) (hx : a.eval x = .pointer (some ⟨g, 0, none⟩)) (hl : a.eval l = .int k (lo : Int)) (hh : a.eval h' = .int k' (hi : Int)) (h1 : lo ≤ hi) (h2 : hi ≤ N) (h3 : lo < N)
    (h : WQ P ops C Q rest (a.put o.dst (.slice (some ⟨g, lo, none⟩) (hi - lo) (N - lo)))) : WQ P ops C Q (o :: rest) a :=
  wk_val _ hw (fun w _ => by
    obtain ⟨f, hf, hf1⟩ : ∃ f, P.info? e = some f ∧ f.size = 1 := by
      cases hq : P.info? e with
      | none => simp [hq] at hs
      | some f => exact ⟨f, rfl, by simpa [hq] using hs⟩
    have h0 : ¬ N = lo := by omega
    unfold execOp
    simp only [ho, hx, Option.map_some, hl, hh]
    simp [Instr.sliceAt, Instr.slice, run_underlying ht, Instr.sliceBounds, Instr.sliceBound, asIntOf, h1, h2, sizeOf, typeInfo, hf, hf1, Addr.add_lit, h0, Instr.sureAddr]) h
/-- b[lo:] of an array in a block of its own. -/
theorem wk_slice_arrL {Q : Act → Prop} (lo N : Nat) (k : IntKind) (t e : TypeId) (x l : Operand) (g : Nat) (hw : Region.wanted o (yielded ops a.tmps) = true) (ho : o.op = .slice t x (some l) none none) (ht : P.underlying t = some (.array N e))
    (hs : (P.info? e).map (·.size) = some 1) (hx : a.eval x = .pointer (some ⟨g, 0, none⟩)) (hl : a.eval l = .int k (lo : Int)) (h3 : lo < N)
    (h : WQ P ops C Q rest (a.put o.dst (.slice (some ⟨g, lo, none⟩) (N - lo) (N - lo)))) : WQ P ops C Q (o :: rest) a :=
  wk_val _ hw (fun w _ => by
    obtain ⟨f, hf, hf1⟩ : ∃ f, P.info? e = some f ∧ f.size = 1 := by
      cases hq : P.info? e with
      | none => simp [hq] at hs
      | some f => exact ⟨f, rfl, by simpa [hq] using hs⟩
    have h0 : ¬ N = lo := by omega
    have h1 : lo ≤ N := by omega
    unfold execOp
    simp only [ho, hx, Option.map_some, Option.map_none, hl]
    simp [Instr.sliceAt, Instr.slice, run_underlying ht, Instr.sliceBounds, Instr.sliceBound, asIntOf, h1, sizeOf, typeInfo, hf, hf1, Addr.add_lit, h0, Instr.sureAddr]) h
theorem wpList_copyD {w : World} {Q : Exit → Act → World → Prop} (hgd : o.guard = none) (d s : Operand) (dT sT : TypeId)
    (ho : o.op = .call { callee := .builtin .copy, args := #[d, s], argTypes := #[dT, sT] }) (elem : TypeId) (hu : P.underlying dT = some (.slice elem)) (hsz : (P.info? elem).map (·.size) = some 1)
    (g off dLen dCap sLen sCap : Nat) (ad : Addr) (hd : a.eval d = .slice (some ⟨g, off, none⟩) dLen dCap) (hs : a.eval s = .slice (some ad) sLen sCap)
    (cur : List Value) (t : TypeId) (hg : w.heap[g]? = some (.cells cur.toArray t (0, 0))) (cs : List Value) (hn : cs.length = Nat.min sLen dLen)
    (hsrc : ∀ j v, cs[j]? = some v → w.cell? (ad.add j) = some v)
    (hfit : off + cs.length ≤ cur.length) (h1 : ∀ v ∈ cs, v.oneCell' = true)
    (h : wpList P ops Q rest (a.put o.dst (goInt cs.length)) (w.setRow g (splice cur off cs).toArray)) : wpList P ops Q (o :: rest) a w :=
  wpList_plain hgd fun _ hK => by
    have hrun := run_copy_row (P := P) w dT sT o.type elem g off dLen dCap ad sLen sCap cur.toArray t cs hu hsz hg hn hsrc (by simpa using hfit) h1
    unfold Oper.wp
    have h' := h
    simp [splice] at h'
    simp [execOp, ho, resolve, invoke, builtin, hd, hs, hrun, Result.andThen]
    exact hK _ _ h'
end
theorem shr_u8 (w : World) (s j : Nat) (hs : s < 256) (hj : j < 4) : (binOp .shr 5 (.int .u8 (s : Int)) (.int .i64 (j : Int))).run Tryd.prog w = .ok (.int .u8 ((s / 2 ^ j : Nat) : Int)) w := by
  rcases (by omega : j = 0 ∨ j = 1 ∨ j = 2 ∨ j = 3) with rfl | rfl | rfl | rfl <;> simp [binOp, Op.shift]
section
variable {ops : Array Oper} {C : World → Prop} {o : Oper} {a : Act} {rest : List Oper}
theorem wk_shr {Q : Act → Prop} (s j : Nat) (hs : s < 256) (hj : j < 4) (ty : TypeId) (x y : Operand) (hw : Region.wanted o (yielded ops a.tmps) = true) (ho : o.op = .binOp .shr 5 x y ty) (hx : a.eval x = .int .u8 (s : Int)) (hy : a.eval y = .int .i64 (j : Int))
    (h : WQ Tryd.prog ops C Q rest (a.put o.dst (.int .u8 ((s / 2 ^ j : Nat) : Int)))) : WQ Tryd.prog ops C Q (o :: rest) a :=
  wk_bin _ .shr _ ty x y hw ho (fun w => by
    have h1 := shr_u8 w s j hs hj
    have h0 : (eqGuard .shr 5 x y (.int .u8 (s : Int)) (.int .i64 (j : Int))).run Tryd.prog w = .ok () w := rfl
    simp only [hx, hy, Sem.run_bind, h0, Result.andThen_ok, h1]) h
theorem wk_and1 {Q : Act → Prop} (n : Nat) (hn : n < 256) (ty : TypeId) (x y : Operand) (hw : Region.wanted o (yielded ops a.tmps) = true) (ho : o.op = .binOp .and 5 x y ty) (hx : a.eval x = .int .u8 (n : Int)) (hy : a.eval y = .int .u8 1)
    (h : WQ Tryd.prog ops C Q rest (a.put o.dst (.int .u8 ((n % 2 : Nat) : Int)))) : WQ Tryd.prog ops C Q (o :: rest) a :=
  wk_bin _ .and _ ty x y hw ho (fun w => by
    have hb : bits .and .u8 (n : Int) ((1 : Nat) : Int) = ((n &&& 1 : Nat) : Int) := u8_and_nat n 1 hn (by decide)
    rw [Nat.and_one_is_mod] at hb
    have h1 : (binOp .and 5 (.int .u8 (n : Int)) (.int .u8 1)).run Tryd.prog w = .ok (.int .u8 (bits .and .u8 (n : Int) 1)) w := rfl
    have h0 : (eqGuard .and 5 x y (.int .u8 (n : Int)) (.int .u8 1)).run Tryd.prog w = .ok () w := rfl
    simp only [hx, hy, Sem.run_bind, h0, Result.andThen_ok, h1]
    rw [show (1 : Int) = ((1 : Nat) : Int) from rfl, hb]) h
end
set_option maxHeartbeats 2000000 in
theorem torn_dev (a b : List UInt8) (ha : a.length = 256) (hb : b.length = 256) (s : Nat) (hs : s < 256) (w : World) :
    Calls Tryd.prog 35 #[.agg (blk a), .agg (blk b), .int .u8 (s : Int)] w fun e w' => e = .returned (.agg (blk (dtorn a b s))) ∧ Below w.heap.size w w' := by
  have q := (((Rows.start w).alloc (blk a) 45).alloc (blk b) 45).alloc (zeros 256 (.int .u8 0)) 45
  rw [show ((w.alloc (.cells (blk a) 45)).alloc (.cells (blk b) 45)).heap.size = w.heap.size + 1 + 1 by simp, show (w.alloc (.cells (blk a) 45)).heap.size = w.heap.size + 1 by simp] at q
  have HQ := Lib.hid q
  have HLA := Lib.hid ha
  have HLB := Lib.hid hb
  clear q ha hb
  go_enter Tryd.func35, Tryd.ntmps35
  go_upto_region 1 with (refine wpList_alloc_row rfl 45 rfl _ zeroB ?_)
  obtain ⟨W, hW⟩ : ∃ W, W = ((w.alloc (.cells (blk a) 45)).alloc (.cells (blk b) 45)).alloc (.cells (zeros 256 (.int .u8 0)) 45) := ⟨_, rfl⟩
  rw [← hW]
  rw [show ((w.alloc (.cells (blk a) 45)).alloc (.cells (blk b) 45)).heap.size = w.heap.size + 1 + 1 by simp]
  have R := HQ.out
  rw [← hW] at R
  obtain ⟨g0, hg0⟩ : ∃ g, g = w.heap.size := ⟨_, rfl⟩
  rw [← hg0] at R ⊢
  rw [← dtornTo_zero a b s HLA.out] at R
  have HR := Lib.hid R
  clear R HQ hW hg0
  go_wp2_with fail
  go_loopw [9] (fun i wr => ∃ (k : Nat) (z : Int), z = (k : Int) ∧ k ≤ 4 ∧ i = .int .i64 z ∧ Rows w wr [(g0 + 1 + 1, zeros 256 (.int .u8 0), 45), (g0 + 1, blk b, 45), (g0, blk (dtornTo k a b s), 45)]) (fun i _ => 4 - (intOf i).toNat)
  case atStart => exact ⟨0, 0, rfl, by omega, rfl, HR.out⟩
  case round =>
    obtain ⟨k, z, hz, hk, rfl, hR⟩ := hrel
    have HRR := Lib.hid hR
    clear hR HR
    rcases (show (k = 0 ∧ z = 0) ∨ (k = 1 ∧ z = 1) ∨ (k = 2 ∧ z = 2) ∨ (k = 3 ∧ z = 3) ∨ (k = 4 ∧ z = 4) by omega) with ⟨rfl, rfl⟩ | ⟨rfl, rfl⟩ | ⟨rfl, rfl⟩ | ⟨rfl, rfl⟩ | ⟨rfl, rfl⟩
    · clear hz hk
      go_upto_region 4 with (fail)
      refine wk_plain_since ?_
      repeat (first
        | (refine wk_move _ (by first | exact wanted_none rfl | exact wanted_yes _ _ rfl rfl) rfl ?_; simp only [Act.put, Act.eval, Array.getD_eq_getD_getElem?, List.getElem?_toArray, List.getElem?_cons_succ, List.getElem?_cons_zero, Option.getD_some, List.setIfInBounds_toArray, List.set_cons_zero, List.set_cons_succ])
        | (refine wk_assign _ (by first | exact wanted_none rfl | exact wanted_yes _ _ rfl rfl) rfl ?_; simp only [Act.put, Act.eval, Array.getD_eq_getD_getElem?, List.getElem?_toArray, List.getElem?_cons_succ, List.getElem?_cons_zero, Option.getD_some, List.setIfInBounds_toArray, List.set_cons_zero, List.set_cons_succ])
        | (refine wk_pickt _ _ _ _ (by first | exact wanted_none rfl | exact wanted_yes _ _ rfl rfl) rfl rfl rfl ?_; simp only [Act.put, Act.eval, Array.getD_eq_getD_getElem?, List.getElem?_toArray, List.getElem?_cons_succ, List.getElem?_cons_zero, Option.getD_some, List.setIfInBounds_toArray, List.set_cons_zero, List.set_cons_succ])
        | (refine wk_pickf _ _ _ _ (by first | exact wanted_none rfl | exact wanted_yes _ _ rfl rfl) rfl rfl rfl ?_; simp only [Act.put, Act.eval, Array.getD_eq_getD_getElem?, List.getElem?_toArray, List.getElem?_cons_succ, List.getElem?_cons_zero, Option.getD_some, List.setIfInBounds_toArray, List.set_cons_zero, List.set_cons_succ])
        | (refine wk_skip (wanted_not _ true false rfl rfl rfl) ?_; simp only [Act.put, List.setIfInBounds_toArray, List.set_cons_zero, List.set_cons_succ])
        | (refine wk_skip (wanted_not _ false true rfl rfl rfl) ?_; simp only [Act.put, List.setIfInBounds_toArray, List.set_cons_zero, List.set_cons_succ])
        | (refine wk_skip (wanted_undef _ _ rfl rfl) ?_; simp only [Act.put, List.setIfInBounds_toArray, List.set_cons_zero, List.set_cons_succ])
        | (refine wk_not true _ _ (by first | exact wanted_none rfl | exact wanted_yes _ _ rfl rfl) rfl rfl ?_; simp only [Act.put, List.setIfInBounds_toArray, List.set_cons_zero, List.set_cons_succ])
        | (refine wk_not false _ _ (by first | exact wanted_none rfl | exact wanted_yes _ _ rfl rfl) rfl rfl ?_; simp only [Act.put, List.setIfInBounds_toArray, List.set_cons_zero, List.set_cons_succ]))
      refine wk_shr s 0 hs (by omega) _ _ _ (by exact wanted_none rfl) rfl rfl rfl ?_
      simp only [Act.put, List.setIfInBounds_toArray, List.set_cons_zero, List.set_cons_succ]
      refine wk_and1 (s / 2 ^ 0) (Nat.lt_of_le_of_lt (Nat.div_le_self _ _) hs) _ _ _ (by exact wanted_none rfl) rfl rfl rfl ?_
      simp only [Act.put, List.setIfInBounds_toArray, List.set_cons_zero, List.set_cons_succ]
      cases hn : dbit s 0 with
      | true =>
        have hc : s / 2 ^ 0 % 2 = 1 := by simpa [dbit] using hn
        refine wk_cmp_int .gtr (true) _ _ _ _ _ _ _ (by kernel_rfl) rfl rfl rfl (by rw [hc]; rfl) ?_
        simp only [Act.put, List.setIfInBounds_toArray, List.set_cons_zero, List.set_cons_succ]
        refine wk_nil ?_
        intro w' hC
        have HR4 := Lib.hid (HRR.out.since hC)
        clear hC HRR
        have HT := Lib.hid (dtorn_sector a b HLB.out s 0 (by omega) hn)
        have HLS : Hid (((dsector b 0).map vu8).length = Nat.min (256 - 0) 64) := Lib.hid (by have := HLB.out; simp [dsector]; omega)
        have HLT : Hid ((0 : Nat) + ((dsector b 0).map vu8).length ≤ ((dtornTo 0 a b s).map vu8).length) := Lib.hid (by rw [HLS.out, List.length_map, length_dtornTo]; decide)
        have HON : Hid (∀ v ∈ (dsector b 0).map vu8, v.oneCell' = true) := Lib.hid (by intro u hu; simp only [List.mem_map] at hu; obtain ⟨i, _, rfl⟩ := hu; rfl)
        have ew : IntKind.i64.wrap 64 = 64 := by rw [IntKind.wrap_i64]; rfl
        clear hn hc
        go_upto_region 6 with (fail)
        refine wk_region_tail 6 (by kernel_rfl) (by kernel_rfl) ?_
        simp only [List.take_succ_cons, List.take_zero, List.drop_succ_cons, List.drop_zero]
        repeat (first
          | (refine wk_move _ (by first | exact wanted_none rfl | exact wanted_yes _ _ rfl rfl) rfl ?_; simp only [Act.put, Act.eval, Array.getD_eq_getD_getElem?, List.getElem?_toArray, List.getElem?_cons_succ, List.getElem?_cons_zero, Option.getD_some, List.setIfInBounds_toArray, List.set_cons_zero, List.set_cons_succ])
          | (refine wk_assign _ (by first | exact wanted_none rfl | exact wanted_yes _ _ rfl rfl) rfl ?_; simp only [Act.put, Act.eval, Array.getD_eq_getD_getElem?, List.getElem?_toArray, List.getElem?_cons_succ, List.getElem?_cons_zero, Option.getD_some, List.setIfInBounds_toArray, List.set_cons_zero, List.set_cons_succ])
          | (refine wk_pickt _ _ _ _ (by first | exact wanted_none rfl | exact wanted_yes _ _ rfl rfl) rfl rfl rfl ?_; simp only [Act.put, Act.eval, Array.getD_eq_getD_getElem?, List.getElem?_toArray, List.getElem?_cons_succ, List.getElem?_cons_zero, Option.getD_some, List.setIfInBounds_toArray, List.set_cons_zero, List.set_cons_succ])
          | (refine wk_pickf _ _ _ _ (by first | exact wanted_none rfl | exact wanted_yes _ _ rfl rfl) rfl rfl rfl ?_; simp only [Act.put, Act.eval, Array.getD_eq_getD_getElem?, List.getElem?_toArray, List.getElem?_cons_succ, List.getElem?_cons_zero, Option.getD_some, List.setIfInBounds_toArray, List.set_cons_zero, List.set_cons_succ])
          | (refine wk_skip (wanted_not _ true false rfl rfl rfl) ?_; simp only [Act.put, List.setIfInBounds_toArray, List.set_cons_zero, List.set_cons_succ])
          | (refine wk_skip (wanted_not _ false true rfl rfl rfl) ?_; simp only [Act.put, List.setIfInBounds_toArray, List.set_cons_zero, List.set_cons_succ])
          | (refine wk_skip (wanted_undef _ _ rfl rfl) ?_; simp only [Act.put, List.setIfInBounds_toArray, List.set_cons_zero, List.set_cons_succ])
          | (refine wk_not true _ _ (by first | exact wanted_none rfl | exact wanted_yes _ _ rfl rfl) rfl rfl ?_; simp only [Act.put, List.setIfInBounds_toArray, List.set_cons_zero, List.set_cons_succ])
          | (refine wk_not false _ _ (by first | exact wanted_none rfl | exact wanted_yes _ _ rfl rfl) rfl rfl ?_; simp only [Act.put, List.setIfInBounds_toArray, List.set_cons_zero, List.set_cons_succ]))
        refine wk_add _ _ _ _ _ _ _ (by kernel_rfl) rfl rfl rfl ew ?_
        simp only [Act.put, List.setIfInBounds_toArray, List.set_cons_zero, List.set_cons_succ]
        refine wk_slice_arrD 0 64 256 .i64 .i64 _ _ _ _ _ _ (by kernel_rfl) rfl Tryd.underlying45 sizeU8 rfl rfl rfl (by omega) (by omega) (by omega) ?_
        simp only [Act.put, List.setIfInBounds_toArray, List.set_cons_zero, List.set_cons_succ]
        repeat (first
          | (refine wk_move _ (by first | exact wanted_none rfl | exact wanted_yes _ _ rfl rfl) rfl ?_; simp only [Act.put, Act.eval, Array.getD_eq_getD_getElem?, List.getElem?_toArray, List.getElem?_cons_succ, List.getElem?_cons_zero, Option.getD_some, List.setIfInBounds_toArray, List.set_cons_zero, List.set_cons_succ])
          | (refine wk_assign _ (by first | exact wanted_none rfl | exact wanted_yes _ _ rfl rfl) rfl ?_; simp only [Act.put, Act.eval, Array.getD_eq_getD_getElem?, List.getElem?_toArray, List.getElem?_cons_succ, List.getElem?_cons_zero, Option.getD_some, List.setIfInBounds_toArray, List.set_cons_zero, List.set_cons_succ])
          | (refine wk_pickt _ _ _ _ (by first | exact wanted_none rfl | exact wanted_yes _ _ rfl rfl) rfl rfl rfl ?_; simp only [Act.put, Act.eval, Array.getD_eq_getD_getElem?, List.getElem?_toArray, List.getElem?_cons_succ, List.getElem?_cons_zero, Option.getD_some, List.setIfInBounds_toArray, List.set_cons_zero, List.set_cons_succ])
          | (refine wk_pickf _ _ _ _ (by first | exact wanted_none rfl | exact wanted_yes _ _ rfl rfl) rfl rfl rfl ?_; simp only [Act.put, Act.eval, Array.getD_eq_getD_getElem?, List.getElem?_toArray, List.getElem?_cons_succ, List.getElem?_cons_zero, Option.getD_some, List.setIfInBounds_toArray, List.set_cons_zero, List.set_cons_succ])
          | (refine wk_skip (wanted_not _ true false rfl rfl rfl) ?_; simp only [Act.put, List.setIfInBounds_toArray, List.set_cons_zero, List.set_cons_succ])
          | (refine wk_skip (wanted_not _ false true rfl rfl rfl) ?_; simp only [Act.put, List.setIfInBounds_toArray, List.set_cons_zero, List.set_cons_succ])
          | (refine wk_skip (wanted_undef _ _ rfl rfl) ?_; simp only [Act.put, List.setIfInBounds_toArray, List.set_cons_zero, List.set_cons_succ])
          | (refine wk_not true _ _ (by first | exact wanted_none rfl | exact wanted_yes _ _ rfl rfl) rfl rfl ?_; simp only [Act.put, List.setIfInBounds_toArray, List.set_cons_zero, List.set_cons_succ])
          | (refine wk_not false _ _ (by first | exact wanted_none rfl | exact wanted_yes _ _ rfl rfl) rfl rfl ?_; simp only [Act.put, List.setIfInBounds_toArray, List.set_cons_zero, List.set_cons_succ]))
        refine wk_slice_arrL 0 256 .i64 _ _ _ _ _ (by kernel_rfl) rfl Tryd.underlying45 sizeU8 rfl rfl (by omega) ?_
        simp only [Act.put, List.setIfInBounds_toArray, List.set_cons_zero, List.set_cons_succ]
        refine wk_nil ?_
        intro w' hC
        have HR6 := Lib.hid (HR4.out.since hC)
        clear hC ew HR4
        have HSR : Hid (∀ j v, ((dsector b 0).map vu8)[j]? = some v → w'.cell? ((⟨g0 + 1, 0, none⟩ : Addr).add j) = some v) := Lib.hid (by
          intro j v hv
          rw [Addr.add_lit, cell_of_row w' _ _ _ _ _ (HR6.out.get 1 rfl), ← hv]
          have hj : j < 64 := by
            have := (List.getElem?_eq_some_iff.1 hv).1
            rw [HLS.out] at this
            exact this
          have := HLB.out
          simp only [blk, dsector, List.getElem?_map, List.getElem?_toArray]
          rw [List.getElem?_take_of_lt hj, List.getElem?_drop])
        refine wpList_copyD rfl _ _ _ _ rfl 5 Tryd.underlying99 sizeU8 g0 0 _ _ _ _ ⟨g0 + 1, 0, none⟩ rfl rfl ((dtornTo 0 a b s).map vu8) 45 (HR6.out.get 2 rfl) ((dsector b 0).map vu8) HLS.out HSR.out HLT.out HON.out ?_
        rw [HT.out]
        have R7 := Lib.hid (HR6.out.setRow 2 (blk (dtornTo (0 + 1) a b s)) rfl)
        clear HR6 HSR HLS HLT HON HT
        go_wp2_with fail
        exact ⟨⟨0 + 1, _, by rfl, by omega, rfl, R7.out⟩, by simp [intOf]⟩
      | false =>
        have hc : s / 2 ^ 0 % 2 = 0 := by
          have : ¬ s / 2 ^ 0 % 2 = 1 := by simpa [dbit] using hn
          omega
        refine wk_cmp_int .gtr (false) _ _ _ _ _ _ _ (by kernel_rfl) rfl rfl rfl (by rw [hc]; rfl) ?_
        simp only [Act.put, List.setIfInBounds_toArray, List.set_cons_zero, List.set_cons_succ]
        refine wk_nil ?_
        intro w' hC
        have HR4 := Lib.hid (HRR.out.since hC)
        clear hC HRR
        have HT := Lib.hid (dtorn_keep a b s 0 hn)
        clear hn hc
        go_wp2_with fail
        exact ⟨⟨0 + 1, _, by rfl, by omega, rfl, by rw [← HT.out]; exact HR4.out⟩, by simp [intOf]⟩
    · clear hz hk
      go_upto_region 4 with (fail)
      refine wk_plain_since ?_
      repeat (first
        | (refine wk_move _ (by first | exact wanted_none rfl | exact wanted_yes _ _ rfl rfl) rfl ?_; simp only [Act.put, Act.eval, Array.getD_eq_getD_getElem?, List.getElem?_toArray, List.getElem?_cons_succ, List.getElem?_cons_zero, Option.getD_some, List.setIfInBounds_toArray, List.set_cons_zero, List.set_cons_succ])
        | (refine wk_assign _ (by first | exact wanted_none rfl | exact wanted_yes _ _ rfl rfl) rfl ?_; simp only [Act.put, Act.eval, Array.getD_eq_getD_getElem?, List.getElem?_toArray, List.getElem?_cons_succ, List.getElem?_cons_zero, Option.getD_some, List.setIfInBounds_toArray, List.set_cons_zero, List.set_cons_succ])
        | (refine wk_pickt _ _ _ _ (by first | exact wanted_none rfl | exact wanted_yes _ _ rfl rfl) rfl rfl rfl ?_; simp only [Act.put, Act.eval, Array.getD_eq_getD_getElem?, List.getElem?_toArray, List.getElem?_cons_succ, List.getElem?_cons_zero, Option.getD_some, List.setIfInBounds_toArray, List.set_cons_zero, List.set_cons_succ])
        | (refine wk_pickf _ _ _ _ (by first | exact wanted_none rfl | exact wanted_yes _ _ rfl rfl) rfl rfl rfl ?_; simp only [Act.put, Act.eval, Array.getD_eq_getD_getElem?, List.getElem?_toArray, List.getElem?_cons_succ, List.getElem?_cons_zero, Option.getD_some, List.setIfInBounds_toArray, List.set_cons_zero, List.set_cons_succ])
        | (refine wk_skip (wanted_not _ true false rfl rfl rfl) ?_; simp only [Act.put, List.setIfInBounds_toArray, List.set_cons_zero, List.set_cons_succ])
        | (refine wk_skip (wanted_not _ false true rfl rfl rfl) ?_; simp only [Act.put, List.setIfInBounds_toArray, List.set_cons_zero, List.set_cons_succ])
        | (refine wk_skip (wanted_undef _ _ rfl rfl) ?_; simp only [Act.put, List.setIfInBounds_toArray, List.set_cons_zero, List.set_cons_succ])
        | (refine wk_not true _ _ (by first | exact wanted_none rfl | exact wanted_yes _ _ rfl rfl) rfl rfl ?_; simp only [Act.put, List.setIfInBounds_toArray, List.set_cons_zero, List.set_cons_succ])
        | (refine wk_not false _ _ (by first | exact wanted_none rfl | exact wanted_yes _ _ rfl rfl) rfl rfl ?_; simp only [Act.put, List.setIfInBounds_toArray, List.set_cons_zero, List.set_cons_succ]))
      refine wk_shr s 1 hs (by omega) _ _ _ (by exact wanted_none rfl) rfl rfl rfl ?_
      simp only [Act.put, List.setIfInBounds_toArray, List.set_cons_zero, List.set_cons_succ]
      refine wk_and1 (s / 2 ^ 1) (Nat.lt_of_le_of_lt (Nat.div_le_self _ _) hs) _ _ _ (by exact wanted_none rfl) rfl rfl rfl ?_
      simp only [Act.put, List.setIfInBounds_toArray, List.set_cons_zero, List.set_cons_succ]
      cases hn : dbit s 1 with
      | true =>
        have hc : s / 2 ^ 1 % 2 = 1 := by simpa [dbit] using hn
        refine wk_cmp_int .gtr (true) _ _ _ _ _ _ _ (by kernel_rfl) rfl rfl rfl (by rw [hc]; rfl) ?_
        simp only [Act.put, List.setIfInBounds_toArray, List.set_cons_zero, List.set_cons_succ]
        refine wk_nil ?_
        intro w' hC
        have HR4 := Lib.hid (HRR.out.since hC)
        clear hC HRR
        have HT := Lib.hid (dtorn_sector a b HLB.out s 1 (by omega) hn)
        have HLS : Hid (((dsector b 1).map vu8).length = Nat.min (256 - 64) 64) := Lib.hid (by have := HLB.out; simp [dsector]; omega)
        have HLT : Hid ((64 : Nat) + ((dsector b 1).map vu8).length ≤ ((dtornTo 1 a b s).map vu8).length) := Lib.hid (by rw [HLS.out, List.length_map, length_dtornTo]; decide)
        have HON : Hid (∀ v ∈ (dsector b 1).map vu8, v.oneCell' = true) := Lib.hid (by intro u hu; simp only [List.mem_map] at hu; obtain ⟨i, _, rfl⟩ := hu; rfl)
        have ew : IntKind.i64.wrap 128 = 128 := by rw [IntKind.wrap_i64]; rfl
        clear hn hc
        go_upto_region 6 with (fail)
        refine wk_region_tail 6 (by kernel_rfl) (by kernel_rfl) ?_
        simp only [List.take_succ_cons, List.take_zero, List.drop_succ_cons, List.drop_zero]
        repeat (first
          | (refine wk_move _ (by first | exact wanted_none rfl | exact wanted_yes _ _ rfl rfl) rfl ?_; simp only [Act.put, Act.eval, Array.getD_eq_getD_getElem?, List.getElem?_toArray, List.getElem?_cons_succ, List.getElem?_cons_zero, Option.getD_some, List.setIfInBounds_toArray, List.set_cons_zero, List.set_cons_succ])
          | (refine wk_assign _ (by first | exact wanted_none rfl | exact wanted_yes _ _ rfl rfl) rfl ?_; simp only [Act.put, Act.eval, Array.getD_eq_getD_getElem?, List.getElem?_toArray, List.getElem?_cons_succ, List.getElem?_cons_zero, Option.getD_some, List.setIfInBounds_toArray, List.set_cons_zero, List.set_cons_succ])
          | (refine wk_pickt _ _ _ _ (by first | exact wanted_none rfl | exact wanted_yes _ _ rfl rfl) rfl rfl rfl ?_; simp only [Act.put, Act.eval, Array.getD_eq_getD_getElem?, List.getElem?_toArray, List.getElem?_cons_succ, List.getElem?_cons_zero, Option.getD_some, List.setIfInBounds_toArray, List.set_cons_zero, List.set_cons_succ])
          | (refine wk_pickf _ _ _ _ (by first | exact wanted_none rfl | exact wanted_yes _ _ rfl rfl) rfl rfl rfl ?_; simp only [Act.put, Act.eval, Array.getD_eq_getD_getElem?, List.getElem?_toArray, List.getElem?_cons_succ, List.getElem?_cons_zero, Option.getD_some, List.setIfInBounds_toArray, List.set_cons_zero, List.set_cons_succ])
          | (refine wk_skip (wanted_not _ true false rfl rfl rfl) ?_; simp only [Act.put, List.setIfInBounds_toArray, List.set_cons_zero, List.set_cons_succ])
          | (refine wk_skip (wanted_not _ false true rfl rfl rfl) ?_; simp only [Act.put, List.setIfInBounds_toArray, List.set_cons_zero, List.set_cons_succ])
          | (refine wk_skip (wanted_undef _ _ rfl rfl) ?_; simp only [Act.put, List.setIfInBounds_toArray, List.set_cons_zero, List.set_cons_succ])
          | (refine wk_not true _ _ (by first | exact wanted_none rfl | exact wanted_yes _ _ rfl rfl) rfl rfl ?_; simp only [Act.put, List.setIfInBounds_toArray, List.set_cons_zero, List.set_cons_succ])
          | (refine wk_not false _ _ (by first | exact wanted_none rfl | exact wanted_yes _ _ rfl rfl) rfl rfl ?_; simp only [Act.put, List.setIfInBounds_toArray, List.set_cons_zero, List.set_cons_succ]))
        refine wk_add _ _ _ _ _ _ _ (by kernel_rfl) rfl rfl rfl ew ?_
        simp only [Act.put, List.setIfInBounds_toArray, List.set_cons_zero, List.set_cons_succ]
        refine wk_slice_arrD 64 128 256 .i64 .i64 _ _ _ _ _ _ (by kernel_rfl) rfl Tryd.underlying45 sizeU8 rfl rfl rfl (by omega) (by omega) (by omega) ?_
        simp only [Act.put, List.setIfInBounds_toArray, List.set_cons_zero, List.set_cons_succ]
        repeat (first
          | (refine wk_move _ (by first | exact wanted_none rfl | exact wanted_yes _ _ rfl rfl) rfl ?_; simp only [Act.put, Act.eval, Array.getD_eq_getD_getElem?, List.getElem?_toArray, List.getElem?_cons_succ, List.getElem?_cons_zero, Option.getD_some, List.setIfInBounds_toArray, List.set_cons_zero, List.set_cons_succ])
          | (refine wk_assign _ (by first | exact wanted_none rfl | exact wanted_yes _ _ rfl rfl) rfl ?_; simp only [Act.put, Act.eval, Array.getD_eq_getD_getElem?, List.getElem?_toArray, List.getElem?_cons_succ, List.getElem?_cons_zero, Option.getD_some, List.setIfInBounds_toArray, List.set_cons_zero, List.set_cons_succ])
          | (refine wk_pickt _ _ _ _ (by first | exact wanted_none rfl | exact wanted_yes _ _ rfl rfl) rfl rfl rfl ?_; simp only [Act.put, Act.eval, Array.getD_eq_getD_getElem?, List.getElem?_toArray, List.getElem?_cons_succ, List.getElem?_cons_zero, Option.getD_some, List.setIfInBounds_toArray, List.set_cons_zero, List.set_cons_succ])
          | (refine wk_pickf _ _ _ _ (by first | exact wanted_none rfl | exact wanted_yes _ _ rfl rfl) rfl rfl rfl ?_; simp only [Act.put, Act.eval, Array.getD_eq_getD_getElem?, List.getElem?_toArray, List.getElem?_cons_succ, List.getElem?_cons_zero, Option.getD_some, List.setIfInBounds_toArray, List.set_cons_zero, List.set_cons_succ])
          | (refine wk_skip (wanted_not _ true false rfl rfl rfl) ?_; simp only [Act.put, List.setIfInBounds_toArray, List.set_cons_zero, List.set_cons_succ])
          | (refine wk_skip (wanted_not _ false true rfl rfl rfl) ?_; simp only [Act.put, List.setIfInBounds_toArray, List.set_cons_zero, List.set_cons_succ])
          | (refine wk_skip (wanted_undef _ _ rfl rfl) ?_; simp only [Act.put, List.setIfInBounds_toArray, List.set_cons_zero, List.set_cons_succ])
          | (refine wk_not true _ _ (by first | exact wanted_none rfl | exact wanted_yes _ _ rfl rfl) rfl rfl ?_; simp only [Act.put, List.setIfInBounds_toArray, List.set_cons_zero, List.set_cons_succ])
          | (refine wk_not false _ _ (by first | exact wanted_none rfl | exact wanted_yes _ _ rfl rfl) rfl rfl ?_; simp only [Act.put, List.setIfInBounds_toArray, List.set_cons_zero, List.set_cons_succ]))
        refine wk_slice_arrL 64 256 .i64 _ _ _ _ _ (by kernel_rfl) rfl Tryd.underlying45 sizeU8 rfl rfl (by omega) ?_
        simp only [Act.put, List.setIfInBounds_toArray, List.set_cons_zero, List.set_cons_succ]
        refine wk_nil ?_
        intro w' hC
        have HR6 := Lib.hid (HR4.out.since hC)
        clear hC ew HR4
        have HSR : Hid (∀ j v, ((dsector b 1).map vu8)[j]? = some v → w'.cell? ((⟨g0 + 1, 64, none⟩ : Addr).add j) = some v) := Lib.hid (by
          intro j v hv
          rw [Addr.add_lit, cell_of_row w' _ _ _ _ _ (HR6.out.get 1 rfl), ← hv]
          have hj : j < 64 := by
            have := (List.getElem?_eq_some_iff.1 hv).1
            rw [HLS.out] at this
            exact this
          have := HLB.out
          simp only [blk, dsector, List.getElem?_map, List.getElem?_toArray]
          rw [List.getElem?_take_of_lt hj, List.getElem?_drop])
        refine wpList_copyD rfl _ _ _ _ rfl 5 Tryd.underlying99 sizeU8 g0 64 _ _ _ _ ⟨g0 + 1, 64, none⟩ rfl rfl ((dtornTo 1 a b s).map vu8) 45 (HR6.out.get 2 rfl) ((dsector b 1).map vu8) HLS.out HSR.out HLT.out HON.out ?_
        rw [HT.out]
        have R7 := Lib.hid (HR6.out.setRow 2 (blk (dtornTo (1 + 1) a b s)) rfl)
        clear HR6 HSR HLS HLT HON HT
        go_wp2_with fail
        exact ⟨⟨1 + 1, _, by rfl, by omega, rfl, R7.out⟩, by simp [intOf]⟩
      | false =>
        have hc : s / 2 ^ 1 % 2 = 0 := by
          have : ¬ s / 2 ^ 1 % 2 = 1 := by simpa [dbit] using hn
          omega
        refine wk_cmp_int .gtr (false) _ _ _ _ _ _ _ (by kernel_rfl) rfl rfl rfl (by rw [hc]; rfl) ?_
        simp only [Act.put, List.setIfInBounds_toArray, List.set_cons_zero, List.set_cons_succ]
        refine wk_nil ?_
        intro w' hC
        have HR4 := Lib.hid (HRR.out.since hC)
        clear hC HRR
        have HT := Lib.hid (dtorn_keep a b s 1 hn)
        clear hn hc
        go_wp2_with fail
        exact ⟨⟨1 + 1, _, by rfl, by omega, rfl, by rw [← HT.out]; exact HR4.out⟩, by simp [intOf]⟩
    · clear hz hk
      go_upto_region 4 with (fail)
      refine wk_plain_since ?_
      repeat (first
        | (refine wk_move _ (by first | exact wanted_none rfl | exact wanted_yes _ _ rfl rfl) rfl ?_; simp only [Act.put, Act.eval, Array.getD_eq_getD_getElem?, List.getElem?_toArray, List.getElem?_cons_succ, List.getElem?_cons_zero, Option.getD_some, List.setIfInBounds_toArray, List.set_cons_zero, List.set_cons_succ])
        | (refine wk_assign _ (by first | exact wanted_none rfl | exact wanted_yes _ _ rfl rfl) rfl ?_; simp only [Act.put, Act.eval, Array.getD_eq_getD_getElem?, List.getElem?_toArray, List.getElem?_cons_succ, List.getElem?_cons_zero, Option.getD_some, List.setIfInBounds_toArray, List.set_cons_zero, List.set_cons_succ])
        | (refine wk_pickt _ _ _ _ (by first | exact wanted_none rfl | exact wanted_yes _ _ rfl rfl) rfl rfl rfl ?_; simp only [Act.put, Act.eval, Array.getD_eq_getD_getElem?, List.getElem?_toArray, List.getElem?_cons_succ, List.getElem?_cons_zero, Option.getD_some, List.setIfInBounds_toArray, List.set_cons_zero, List.set_cons_succ])
        | (refine wk_pickf _ _ _ _ (by first | exact wanted_none rfl | exact wanted_yes _ _ rfl rfl) rfl rfl rfl ?_; simp only [Act.put, Act.eval, Array.getD_eq_getD_getElem?, List.getElem?_toArray, List.getElem?_cons_succ, List.getElem?_cons_zero, Option.getD_some, List.setIfInBounds_toArray, List.set_cons_zero, List.set_cons_succ])
        | (refine wk_skip (wanted_not _ true false rfl rfl rfl) ?_; simp only [Act.put, List.setIfInBounds_toArray, List.set_cons_zero, List.set_cons_succ])
        | (refine wk_skip (wanted_not _ false true rfl rfl rfl) ?_; simp only [Act.put, List.setIfInBounds_toArray, List.set_cons_zero, List.set_cons_succ])
        | (refine wk_skip (wanted_undef _ _ rfl rfl) ?_; simp only [Act.put, List.setIfInBounds_toArray, List.set_cons_zero, List.set_cons_succ])
        | (refine wk_not true _ _ (by first | exact wanted_none rfl | exact wanted_yes _ _ rfl rfl) rfl rfl ?_; simp only [Act.put, List.setIfInBounds_toArray, List.set_cons_zero, List.set_cons_succ])
        | (refine wk_not false _ _ (by first | exact wanted_none rfl | exact wanted_yes _ _ rfl rfl) rfl rfl ?_; simp only [Act.put, List.setIfInBounds_toArray, List.set_cons_zero, List.set_cons_succ]))
      refine wk_shr s 2 hs (by omega) _ _ _ (by exact wanted_none rfl) rfl rfl rfl ?_
      simp only [Act.put, List.setIfInBounds_toArray, List.set_cons_zero, List.set_cons_succ]
      refine wk_and1 (s / 2 ^ 2) (Nat.lt_of_le_of_lt (Nat.div_le_self _ _) hs) _ _ _ (by exact wanted_none rfl) rfl rfl rfl ?_
      simp only [Act.put, List.setIfInBounds_toArray, List.set_cons_zero, List.set_cons_succ]
      cases hn : dbit s 2 with
      | true =>
        have hc : s / 2 ^ 2 % 2 = 1 := by simpa [dbit] using hn
        refine wk_cmp_int .gtr (true) _ _ _ _ _ _ _ (by kernel_rfl) rfl rfl rfl (by rw [hc]; rfl) ?_
        simp only [Act.put, List.setIfInBounds_toArray, List.set_cons_zero, List.set_cons_succ]
        refine wk_nil ?_
        intro w' hC
        have HR4 := Lib.hid (HRR.out.since hC)
        clear hC HRR
        have HT := Lib.hid (dtorn_sector a b HLB.out s 2 (by omega) hn)
        have HLS : Hid (((dsector b 2).map vu8).length = Nat.min (256 - 128) 64) := Lib.hid (by have := HLB.out; simp [dsector]; omega)
        have HLT : Hid ((128 : Nat) + ((dsector b 2).map vu8).length ≤ ((dtornTo 2 a b s).map vu8).length) := Lib.hid (by rw [HLS.out, List.length_map, length_dtornTo]; decide)
        have HON : Hid (∀ v ∈ (dsector b 2).map vu8, v.oneCell' = true) := Lib.hid (by intro u hu; simp only [List.mem_map] at hu; obtain ⟨i, _, rfl⟩ := hu; rfl)
        have ew : IntKind.i64.wrap 192 = 192 := by rw [IntKind.wrap_i64]; rfl
        clear hn hc
        go_upto_region 6 with (fail)
        refine wk_region_tail 6 (by kernel_rfl) (by kernel_rfl) ?_
        simp only [List.take_succ_cons, List.take_zero, List.drop_succ_cons, List.drop_zero]
        repeat (first
          | (refine wk_move _ (by first | exact wanted_none rfl | exact wanted_yes _ _ rfl rfl) rfl ?_; simp only [Act.put, Act.eval, Array.getD_eq_getD_getElem?, List.getElem?_toArray, List.getElem?_cons_succ, List.getElem?_cons_zero, Option.getD_some, List.setIfInBounds_toArray, List.set_cons_zero, List.set_cons_succ])
          | (refine wk_assign _ (by first | exact wanted_none rfl | exact wanted_yes _ _ rfl rfl) rfl ?_; simp only [Act.put, Act.eval, Array.getD_eq_getD_getElem?, List.getElem?_toArray, List.getElem?_cons_succ, List.getElem?_cons_zero, Option.getD_some, List.setIfInBounds_toArray, List.set_cons_zero, List.set_cons_succ])
          | (refine wk_pickt _ _ _ _ (by first | exact wanted_none rfl | exact wanted_yes _ _ rfl rfl) rfl rfl rfl ?_; simp only [Act.put, Act.eval, Array.getD_eq_getD_getElem?, List.getElem?_toArray, List.getElem?_cons_succ, List.getElem?_cons_zero, Option.getD_some, List.setIfInBounds_toArray, List.set_cons_zero, List.set_cons_succ])
          | (refine wk_pickf _ _ _ _ (by first | exact wanted_none rfl | exact wanted_yes _ _ rfl rfl) rfl rfl rfl ?_; simp only [Act.put, Act.eval, Array.getD_eq_getD_getElem?, List.getElem?_toArray, List.getElem?_cons_succ, List.getElem?_cons_zero, Option.getD_some, List.setIfInBounds_toArray, List.set_cons_zero, List.set_cons_succ])
          | (refine wk_skip (wanted_not _ true false rfl rfl rfl) ?_; simp only [Act.put, List.setIfInBounds_toArray, List.set_cons_zero, List.set_cons_succ])
          | (refine wk_skip (wanted_not _ false true rfl rfl rfl) ?_; simp only [Act.put, List.setIfInBounds_toArray, List.set_cons_zero, List.set_cons_succ])
          | (refine wk_skip (wanted_undef _ _ rfl rfl) ?_; simp only [Act.put, List.setIfInBounds_toArray, List.set_cons_zero, List.set_cons_succ])
          | (refine wk_not true _ _ (by first | exact wanted_none rfl | exact wanted_yes _ _ rfl rfl) rfl rfl ?_; simp only [Act.put, List.setIfInBounds_toArray, List.set_cons_zero, List.set_cons_succ])
          | (refine wk_not false _ _ (by first | exact wanted_none rfl | exact wanted_yes _ _ rfl rfl) rfl rfl ?_; simp only [Act.put, List.setIfInBounds_toArray, List.set_cons_zero, List.set_cons_succ]))
        refine wk_add _ _ _ _ _ _ _ (by kernel_rfl) rfl rfl rfl ew ?_
        simp only [Act.put, List.setIfInBounds_toArray, List.set_cons_zero, List.set_cons_succ]
        refine wk_slice_arrD 128 192 256 .i64 .i64 _ _ _ _ _ _ (by kernel_rfl) rfl Tryd.underlying45 sizeU8 rfl rfl rfl (by omega) (by omega) (by omega) ?_
        simp only [Act.put, List.setIfInBounds_toArray, List.set_cons_zero, List.set_cons_succ]
        repeat (first
          | (refine wk_move _ (by first | exact wanted_none rfl | exact wanted_yes _ _ rfl rfl) rfl ?_; simp only [Act.put, Act.eval, Array.getD_eq_getD_getElem?, List.getElem?_toArray, List.getElem?_cons_succ, List.getElem?_cons_zero, Option.getD_some, List.setIfInBounds_toArray, List.set_cons_zero, List.set_cons_succ])
          | (refine wk_assign _ (by first | exact wanted_none rfl | exact wanted_yes _ _ rfl rfl) rfl ?_; simp only [Act.put, Act.eval, Array.getD_eq_getD_getElem?, List.getElem?_toArray, List.getElem?_cons_succ, List.getElem?_cons_zero, Option.getD_some, List.setIfInBounds_toArray, List.set_cons_zero, List.set_cons_succ])
          | (refine wk_pickt _ _ _ _ (by first | exact wanted_none rfl | exact wanted_yes _ _ rfl rfl) rfl rfl rfl ?_; simp only [Act.put, Act.eval, Array.getD_eq_getD_getElem?, List.getElem?_toArray, List.getElem?_cons_succ, List.getElem?_cons_zero, Option.getD_some, List.setIfInBounds_toArray, List.set_cons_zero, List.set_cons_succ])
          | (refine wk_pickf _ _ _ _ (by first | exact wanted_none rfl | exact wanted_yes _ _ rfl rfl) rfl rfl rfl ?_; simp only [Act.put, Act.eval, Array.getD_eq_getD_getElem?, List.getElem?_toArray, List.getElem?_cons_succ, List.getElem?_cons_zero, Option.getD_some, List.setIfInBounds_toArray, List.set_cons_zero, List.set_cons_succ])
          | (refine wk_skip (wanted_not _ true false rfl rfl rfl) ?_; simp only [Act.put, List.setIfInBounds_toArray, List.set_cons_zero, List.set_cons_succ])
          | (refine wk_skip (wanted_not _ false true rfl rfl rfl) ?_; simp only [Act.put, List.setIfInBounds_toArray, List.set_cons_zero, List.set_cons_succ])
          | (refine wk_skip (wanted_undef _ _ rfl rfl) ?_; simp only [Act.put, List.setIfInBounds_toArray, List.set_cons_zero, List.set_cons_succ])
          | (refine wk_not true _ _ (by first | exact wanted_none rfl | exact wanted_yes _ _ rfl rfl) rfl rfl ?_; simp only [Act.put, List.setIfInBounds_toArray, List.set_cons_zero, List.set_cons_succ])
          | (refine wk_not false _ _ (by first | exact wanted_none rfl | exact wanted_yes _ _ rfl rfl) rfl rfl ?_; simp only [Act.put, List.setIfInBounds_toArray, List.set_cons_zero, List.set_cons_succ]))
        refine wk_slice_arrL 128 256 .i64 _ _ _ _ _ (by kernel_rfl) rfl Tryd.underlying45 sizeU8 rfl rfl (by omega) ?_
        simp only [Act.put, List.setIfInBounds_toArray, List.set_cons_zero, List.set_cons_succ]
        refine wk_nil ?_
        intro w' hC
        have HR6 := Lib.hid (HR4.out.since hC)
        clear hC ew HR4
        have HSR : Hid (∀ j v, ((dsector b 2).map vu8)[j]? = some v → w'.cell? ((⟨g0 + 1, 128, none⟩ : Addr).add j) = some v) := Lib.hid (by
          intro j v hv
          rw [Addr.add_lit, cell_of_row w' _ _ _ _ _ (HR6.out.get 1 rfl), ← hv]
          have hj : j < 64 := by
            have := (List.getElem?_eq_some_iff.1 hv).1
            rw [HLS.out] at this
            exact this
          have := HLB.out
          simp only [blk, dsector, List.getElem?_map, List.getElem?_toArray]
          rw [List.getElem?_take_of_lt hj, List.getElem?_drop])
        refine wpList_copyD rfl _ _ _ _ rfl 5 Tryd.underlying99 sizeU8 g0 128 _ _ _ _ ⟨g0 + 1, 128, none⟩ rfl rfl ((dtornTo 2 a b s).map vu8) 45 (HR6.out.get 2 rfl) ((dsector b 2).map vu8) HLS.out HSR.out HLT.out HON.out ?_
        rw [HT.out]
        have R7 := Lib.hid (HR6.out.setRow 2 (blk (dtornTo (2 + 1) a b s)) rfl)
        clear HR6 HSR HLS HLT HON HT
        go_wp2_with fail
        exact ⟨⟨2 + 1, _, by rfl, by omega, rfl, R7.out⟩, by simp [intOf]⟩
      | false =>
        have hc : s / 2 ^ 2 % 2 = 0 := by
          have : ¬ s / 2 ^ 2 % 2 = 1 := by simpa [dbit] using hn
          omega
        refine wk_cmp_int .gtr (false) _ _ _ _ _ _ _ (by kernel_rfl) rfl rfl rfl (by rw [hc]; rfl) ?_
        simp only [Act.put, List.setIfInBounds_toArray, List.set_cons_zero, List.set_cons_succ]
        refine wk_nil ?_
        intro w' hC
        have HR4 := Lib.hid (HRR.out.since hC)
        clear hC HRR
        have HT := Lib.hid (dtorn_keep a b s 2 hn)
        clear hn hc
        go_wp2_with fail
        exact ⟨⟨2 + 1, _, by rfl, by omega, rfl, by rw [← HT.out]; exact HR4.out⟩, by simp [intOf]⟩
    · clear hz hk
      go_upto_region 4 with (fail)
      refine wk_plain_since ?_
      repeat (first
        | (refine wk_move _ (by first | exact wanted_none rfl | exact wanted_yes _ _ rfl rfl) rfl ?_; simp only [Act.put, Act.eval, Array.getD_eq_getD_getElem?, List.getElem?_toArray, List.getElem?_cons_succ, List.getElem?_cons_zero, Option.getD_some, List.setIfInBounds_toArray, List.set_cons_zero, List.set_cons_succ])
        | (refine wk_assign _ (by first | exact wanted_none rfl | exact wanted_yes _ _ rfl rfl) rfl ?_; simp only [Act.put, Act.eval, Array.getD_eq_getD_getElem?, List.getElem?_toArray, List.getElem?_cons_succ, List.getElem?_cons_zero, Option.getD_some, List.setIfInBounds_toArray, List.set_cons_zero, List.set_cons_succ])
        | (refine wk_pickt _ _ _ _ (by first | exact wanted_none rfl | exact wanted_yes _ _ rfl rfl) rfl rfl rfl ?_; simp only [Act.put, Act.eval, Array.getD_eq_getD_getElem?, List.getElem?_toArray, List.getElem?_cons_succ, List.getElem?_cons_zero, Option.getD_some, List.setIfInBounds_toArray, List.set_cons_zero, List.set_cons_succ])
        | (refine wk_pickf _ _ _ _ (by first | exact wanted_none rfl | exact wanted_yes _ _ rfl rfl) rfl rfl rfl ?_; simp only [Act.put, Act.eval, Array.getD_eq_getD_getElem?, List.getElem?_toArray, List.getElem?_cons_succ, List.getElem?_cons_zero, Option.getD_some, List.setIfInBounds_toArray, List.set_cons_zero, List.set_cons_succ])
        | (refine wk_skip (wanted_not _ true false rfl rfl rfl) ?_; simp only [Act.put, List.setIfInBounds_toArray, List.set_cons_zero, List.set_cons_succ])
        | (refine wk_skip (wanted_not _ false true rfl rfl rfl) ?_; simp only [Act.put, List.setIfInBounds_toArray, List.set_cons_zero, List.set_cons_succ])
        | (refine wk_skip (wanted_undef _ _ rfl rfl) ?_; simp only [Act.put, List.setIfInBounds_toArray, List.set_cons_zero, List.set_cons_succ])
        | (refine wk_not true _ _ (by first | exact wanted_none rfl | exact wanted_yes _ _ rfl rfl) rfl rfl ?_; simp only [Act.put, List.setIfInBounds_toArray, List.set_cons_zero, List.set_cons_succ])
        | (refine wk_not false _ _ (by first | exact wanted_none rfl | exact wanted_yes _ _ rfl rfl) rfl rfl ?_; simp only [Act.put, List.setIfInBounds_toArray, List.set_cons_zero, List.set_cons_succ]))
      refine wk_shr s 3 hs (by omega) _ _ _ (by exact wanted_none rfl) rfl rfl rfl ?_
      simp only [Act.put, List.setIfInBounds_toArray, List.set_cons_zero, List.set_cons_succ]
      refine wk_and1 (s / 2 ^ 3) (Nat.lt_of_le_of_lt (Nat.div_le_self _ _) hs) _ _ _ (by exact wanted_none rfl) rfl rfl rfl ?_
      simp only [Act.put, List.setIfInBounds_toArray, List.set_cons_zero, List.set_cons_succ]
      cases hn : dbit s 3 with
      | true =>
        have hc : s / 2 ^ 3 % 2 = 1 := by simpa [dbit] using hn
        refine wk_cmp_int .gtr (true) _ _ _ _ _ _ _ (by kernel_rfl) rfl rfl rfl (by rw [hc]; rfl) ?_
        simp only [Act.put, List.setIfInBounds_toArray, List.set_cons_zero, List.set_cons_succ]
        refine wk_nil ?_
        intro w' hC
        have HR4 := Lib.hid (HRR.out.since hC)
        clear hC HRR
        have HT := Lib.hid (dtorn_sector a b HLB.out s 3 (by omega) hn)
        have HLS : Hid (((dsector b 3).map vu8).length = Nat.min (256 - 192) 64) := Lib.hid (by have := HLB.out; simp [dsector]; omega)
        have HLT : Hid ((192 : Nat) + ((dsector b 3).map vu8).length ≤ ((dtornTo 3 a b s).map vu8).length) := Lib.hid (by rw [HLS.out, List.length_map, length_dtornTo]; decide)
        have HON : Hid (∀ v ∈ (dsector b 3).map vu8, v.oneCell' = true) := Lib.hid (by intro u hu; simp only [List.mem_map] at hu; obtain ⟨i, _, rfl⟩ := hu; rfl)
        have ew : IntKind.i64.wrap 256 = 256 := by rw [IntKind.wrap_i64]; rfl
        clear hn hc
        go_upto_region 6 with (fail)
        refine wk_region_tail 6 (by kernel_rfl) (by kernel_rfl) ?_
        simp only [List.take_succ_cons, List.take_zero, List.drop_succ_cons, List.drop_zero]
        repeat (first
          | (refine wk_move _ (by first | exact wanted_none rfl | exact wanted_yes _ _ rfl rfl) rfl ?_; simp only [Act.put, Act.eval, Array.getD_eq_getD_getElem?, List.getElem?_toArray, List.getElem?_cons_succ, List.getElem?_cons_zero, Option.getD_some, List.setIfInBounds_toArray, List.set_cons_zero, List.set_cons_succ])
          | (refine wk_assign _ (by first | exact wanted_none rfl | exact wanted_yes _ _ rfl rfl) rfl ?_; simp only [Act.put, Act.eval, Array.getD_eq_getD_getElem?, List.getElem?_toArray, List.getElem?_cons_succ, List.getElem?_cons_zero, Option.getD_some, List.setIfInBounds_toArray, List.set_cons_zero, List.set_cons_succ])
          | (refine wk_pickt _ _ _ _ (by first | exact wanted_none rfl | exact wanted_yes _ _ rfl rfl) rfl rfl rfl ?_; simp only [Act.put, Act.eval, Array.getD_eq_getD_getElem?, List.getElem?_toArray, List.getElem?_cons_succ, List.getElem?_cons_zero, Option.getD_some, List.setIfInBounds_toArray, List.set_cons_zero, List.set_cons_succ])
          | (refine wk_pickf _ _ _ _ (by first | exact wanted_none rfl | exact wanted_yes _ _ rfl rfl) rfl rfl rfl ?_; simp only [Act.put, Act.eval, Array.getD_eq_getD_getElem?, List.getElem?_toArray, List.getElem?_cons_succ, List.getElem?_cons_zero, Option.getD_some, List.setIfInBounds_toArray, List.set_cons_zero, List.set_cons_succ])
          | (refine wk_skip (wanted_not _ true false rfl rfl rfl) ?_; simp only [Act.put, List.setIfInBounds_toArray, List.set_cons_zero, List.set_cons_succ])
          | (refine wk_skip (wanted_not _ false true rfl rfl rfl) ?_; simp only [Act.put, List.setIfInBounds_toArray, List.set_cons_zero, List.set_cons_succ])
          | (refine wk_skip (wanted_undef _ _ rfl rfl) ?_; simp only [Act.put, List.setIfInBounds_toArray, List.set_cons_zero, List.set_cons_succ])
          | (refine wk_not true _ _ (by first | exact wanted_none rfl | exact wanted_yes _ _ rfl rfl) rfl rfl ?_; simp only [Act.put, List.setIfInBounds_toArray, List.set_cons_zero, List.set_cons_succ])
          | (refine wk_not false _ _ (by first | exact wanted_none rfl | exact wanted_yes _ _ rfl rfl) rfl rfl ?_; simp only [Act.put, List.setIfInBounds_toArray, List.set_cons_zero, List.set_cons_succ]))
        refine wk_add _ _ _ _ _ _ _ (by kernel_rfl) rfl rfl rfl ew ?_
        simp only [Act.put, List.setIfInBounds_toArray, List.set_cons_zero, List.set_cons_succ]
        refine wk_slice_arrD 192 256 256 .i64 .i64 _ _ _ _ _ _ (by kernel_rfl) rfl Tryd.underlying45 sizeU8 rfl rfl rfl (by omega) (by omega) (by omega) ?_
        simp only [Act.put, List.setIfInBounds_toArray, List.set_cons_zero, List.set_cons_succ]
        repeat (first
          | (refine wk_move _ (by first | exact wanted_none rfl | exact wanted_yes _ _ rfl rfl) rfl ?_; simp only [Act.put, Act.eval, Array.getD_eq_getD_getElem?, List.getElem?_toArray, List.getElem?_cons_succ, List.getElem?_cons_zero, Option.getD_some, List.setIfInBounds_toArray, List.set_cons_zero, List.set_cons_succ])
          | (refine wk_assign _ (by first | exact wanted_none rfl | exact wanted_yes _ _ rfl rfl) rfl ?_; simp only [Act.put, Act.eval, Array.getD_eq_getD_getElem?, List.getElem?_toArray, List.getElem?_cons_succ, List.getElem?_cons_zero, Option.getD_some, List.setIfInBounds_toArray, List.set_cons_zero, List.set_cons_succ])
          | (refine wk_pickt _ _ _ _ (by first | exact wanted_none rfl | exact wanted_yes _ _ rfl rfl) rfl rfl rfl ?_; simp only [Act.put, Act.eval, Array.getD_eq_getD_getElem?, List.getElem?_toArray, List.getElem?_cons_succ, List.getElem?_cons_zero, Option.getD_some, List.setIfInBounds_toArray, List.set_cons_zero, List.set_cons_succ])
          | (refine wk_pickf _ _ _ _ (by first | exact wanted_none rfl | exact wanted_yes _ _ rfl rfl) rfl rfl rfl ?_; simp only [Act.put, Act.eval, Array.getD_eq_getD_getElem?, List.getElem?_toArray, List.getElem?_cons_succ, List.getElem?_cons_zero, Option.getD_some, List.setIfInBounds_toArray, List.set_cons_zero, List.set_cons_succ])
          | (refine wk_skip (wanted_not _ true false rfl rfl rfl) ?_; simp only [Act.put, List.setIfInBounds_toArray, List.set_cons_zero, List.set_cons_succ])
          | (refine wk_skip (wanted_not _ false true rfl rfl rfl) ?_; simp only [Act.put, List.setIfInBounds_toArray, List.set_cons_zero, List.set_cons_succ])
          | (refine wk_skip (wanted_undef _ _ rfl rfl) ?_; simp only [Act.put, List.setIfInBounds_toArray, List.set_cons_zero, List.set_cons_succ])
          | (refine wk_not true _ _ (by first | exact wanted_none rfl | exact wanted_yes _ _ rfl rfl) rfl rfl ?_; simp only [Act.put, List.setIfInBounds_toArray, List.set_cons_zero, List.set_cons_succ])
          | (refine wk_not false _ _ (by first | exact wanted_none rfl | exact wanted_yes _ _ rfl rfl) rfl rfl ?_; simp only [Act.put, List.setIfInBounds_toArray, List.set_cons_zero, List.set_cons_succ]))
        refine wk_slice_arrL 192 256 .i64 _ _ _ _ _ (by kernel_rfl) rfl Tryd.underlying45 sizeU8 rfl rfl (by omega) ?_
        simp only [Act.put, List.setIfInBounds_toArray, List.set_cons_zero, List.set_cons_succ]
        refine wk_nil ?_
        intro w' hC
        have HR6 := Lib.hid (HR4.out.since hC)
        clear hC ew HR4
        have HSR : Hid (∀ j v, ((dsector b 3).map vu8)[j]? = some v → w'.cell? ((⟨g0 + 1, 192, none⟩ : Addr).add j) = some v) := Lib.hid (by
          intro j v hv
          rw [Addr.add_lit, cell_of_row w' _ _ _ _ _ (HR6.out.get 1 rfl), ← hv]
          have hj : j < 64 := by
            have := (List.getElem?_eq_some_iff.1 hv).1
            rw [HLS.out] at this
            exact this
          have := HLB.out
          simp only [blk, dsector, List.getElem?_map, List.getElem?_toArray]
          rw [List.getElem?_take_of_lt hj, List.getElem?_drop])
        refine wpList_copyD rfl _ _ _ _ rfl 5 Tryd.underlying99 sizeU8 g0 192 _ _ _ _ ⟨g0 + 1, 192, none⟩ rfl rfl ((dtornTo 3 a b s).map vu8) 45 (HR6.out.get 2 rfl) ((dsector b 3).map vu8) HLS.out HSR.out HLT.out HON.out ?_
        rw [HT.out]
        have R7 := Lib.hid (HR6.out.setRow 2 (blk (dtornTo (3 + 1) a b s)) rfl)
        clear HR6 HSR HLS HLT HON HT
        go_wp2_with fail
        exact ⟨⟨3 + 1, _, by rfl, by omega, rfl, R7.out⟩, by simp [intOf]⟩
      | false =>
        have hc : s / 2 ^ 3 % 2 = 0 := by
          have : ¬ s / 2 ^ 3 % 2 = 1 := by simpa [dbit] using hn
          omega
        refine wk_cmp_int .gtr (false) _ _ _ _ _ _ _ (by kernel_rfl) rfl rfl rfl (by rw [hc]; rfl) ?_
        simp only [Act.put, List.setIfInBounds_toArray, List.set_cons_zero, List.set_cons_succ]
        refine wk_nil ?_
        intro w' hC
        have HR4 := Lib.hid (HRR.out.since hC)
        clear hC HRR
        have HT := Lib.hid (dtorn_keep a b s 3 hn)
        clear hn hc
        go_wp2_with fail
        exact ⟨⟨3 + 1, _, by rfl, by omega, rfl, by rw [← HT.out]; exact HR4.out⟩, by simp [intOf]⟩
    · clear hz hk
      have HS : Hid ((blk (dtornTo 4 a b s)).size = 256) := Lib.hid (by rw [size_blk, length_dtornTo])
      obtain ⟨T, hT⟩ : ∃ T, T = dtornTo 4 a b s := ⟨_, rfl⟩
      rw [← hT] at HRR HS
      have HT := Lib.hid hT
      clear hT
      go_wp2_with (first
       | refine wpList_load_row rfl 45 _ rfl g0 rfl 45 (blk T) (0, 0) _ (HRR.out.get 2 rfl) Tryd.underlying45 rfl (by rw [HS.out]; exact sizeB) ?_
       | refine wpList_store_row rfl 45 _ _ rfl (g0 + 1 + 1) (blk T) rfl rfl 45 _ (HRR.out.get 0 rfl) (by rw [HS.out]; exact sizeB) (by rw [HS.out, size_zeros]) (blk_one _) ?_)
      have R9 := HRR.out.setRow 0 (blk T) rfl
      refine bodyPost_ret (v := .agg (blk T)) (results_cell_row rfl _ _ (g0 + 1 + 1) 45 _ (0, 0) _ rfl (R9.get 0 rfl) Tryd.underlying45 rfl (by rw [HS.out]; exact sizeB)) rfl ⟨by rw [HT.out]; rfl, R9.below⟩
end Go.Proofs.YtnphgaiiiiknpaaDoor
namespace Go.Proofs.YtnphgaiiiiknpaaDoor
open Go.RowKit
set_option linter.unusedSimpArgs false
set_option linter.unusedVariables false
set_option maxRecDepth 100000
/-- A slice of what a crash keeps. -/
structure KeepsIn (w : World) (A : Option Addr) (n : Nat) (ks : List (Nat × Nat)) (F : List Nat) : Prop where
  len : ks.length = n
  at_ : n = 0 ∨ ∃ b off, A = some ⟨b, off, none⟩ ∧ b < w.heap.size ∧ b ∉ F ∧ ∀ i, (hi : i < ks.length) → w.cell? ⟨b, off + i * 2, none⟩ = some (.int .u16 (ks[i].1 : Int)) ∧ w.cell? ⟨b, off + i * 2 + 1, none⟩ = some (.int .u8 (ks[i].2 : Int))
  lt : ∀ k ∈ ks, k.1 < 65536 ∧ k.2 < 256
theorem KeepsIn.only {w w' : World} {A : Option Addr} {n : Nat} {ks : List (Nat × Nat)} {F : List Nat} (h : KeepsIn w A n ks F) (ho : Only F w w') : KeepsIn w' A n ks F := by
  refine ⟨h.len, ?_, h.lt⟩
  rcases h.at_ with h0 | ⟨b, off, rfl, h1, h2, h3⟩
  · exact .inl h0
  · refine .inr ⟨b, off, rfl, Nat.lt_of_lt_of_le h1 ho.size, h2, fun i hi => ?_⟩
    have e : ∀ o, w'.cell? ⟨b, o, none⟩ = w.cell? ⟨b, o, none⟩ := fun o => World.cell?_of_block (w := w) (ho.block b h1 h2)
    rw [e, e]; exact h3 i hi
theorem wk_look_map {ops : Array Oper} {C : World → Prop} {o : Oper} {act : Act} {rest : List Oper} {Q : Act → Prop} (m x : Operand) (hw : Region.wanted o (yielded ops act.tmps) = true) (ho : o.op = Op.lookup 62 m x false)
    (gm : Nat) (f : Nat → List UInt8) (hm : act.eval m = .map (some gm)) (hown : ∀ w, C w → MapAt w gm f) (a : Nat) (ha : a < 4294967296) (hx : act.eval x = .int .u32 (a : Int))
    (hK : WQ Tryd.prog ops C Q rest (act.put o.dst (.agg (blk (f a))))) : WQ Tryd.prog ops C Q (o :: rest) act :=
  wk_val _ hw (fun w hC => by
    have hrun := ((hown w hC).look a ha).1
    unfold execOp
    simp [ho, hm, hx, hrun, Result.andThen]) hK
theorem sizeKeep : (Tryd.prog.info? 77).map (·.size) = some 2 := by kernel_rfl
theorem zeroKeep : (Tryd.prog.info? 77).bind (·.zero) = some (.agg #[.int .u16 0, .int .u8 0]) := by kernel_rfl
def keepV (k : Nat × Nat) : Array Value := #[.int .u16 (k.1 : Int), .int .u8 (k.2 : Int)]
theorem keepOne (k : Nat × Nat) : (keepV k).all (·.oneCell') = true := by
  rw [Array.all_eq_true_iff_forall_mem]
  intro v hv
  simp only [keepV, List.mem_toArray, List.mem_cons, List.not_mem_nil, or_false] at hv
  rcases hv with rfl | rfl <;> rfl
/-- The slots of Crash's region. -/
def crV (g gp c n j gk : Nat) (a' : Nat) (b' : List UInt8) (base : Nat) (t : Tmp) (v : Value) (w : World) : Prop :=
  match t with
  | 25 => v = .pointer (some ⟨g, 0, none⟩)
  | 26 => v = .pointer (some ⟨g, 0, none⟩)
  | 27 => v = .pointer (some ⟨g, 2, none⟩)
  | 28 => v = .slice (some ⟨gp, 0, none⟩) n c
  | 29 => v = .pointer (some ⟨gk, 0, none⟩)
  | 30 => v = .int .u16 (j : Int)
  | 31 => v = .pointer (some ⟨gp, j * 257, none⟩)
  | 32 => v = .agg (putV a' b')
  | 7 => ∃ b, v = .pointer (some ⟨b, 0, none⟩) ∧ w.heap[b]? = some (.cells (putV 0 zeroBlk) 47 (0, 0)) ∧ base ≤ b
  | _ => True
set_option maxHeartbeats 4000000 in
theorem crash_dev {F : List Nat} {w : World} {g : Nat} {s : Dv} (h : (dvT g s).says F w) (hn : F.Nodup) (A : Option Addr) (n c : Nat) (hn63 : n ≤ 9223372036854775807) (ks : List (Nat × Nat)) (hks : KeepsIn w A n ks F) :
    Calls Tryd.prog 14 #[.pointer (some ⟨g, 0, none⟩), .slice A n c] w fun e w' => e = .returned (.int .i64 0) ∧ Turns F w w' (dvT g (s.crash ks)) := by
  have HAT : Hid ((dvT g s).at w) := Lib.hid ⟨F, h⟩
  obtain ⟨gm, pv, fv, hG, hV⟩ := h
  have HV := Lib.hid hV
  have HG := Lib.hid hG
  have HN := Lib.hid hn
  have HAP := Lib.hid (dv_apart (hG ▸ hn))
  have HKS := Lib.hid hks
  have HKL : Hid (n = ks.length) := Lib.hid hks.len.symm
  have HND : Hid (dvFoot g gm pv fv).Nodup := Lib.hid (hG ▸ hn)
  obtain ⟨A', c', hpv⟩ := own_len hV.pend
  subst hpv
  have hnb : s.pend.length ≤ 9223372036854775807 := by
    rcases hV.pend.2 with ⟨_, h0⟩ | ⟨_, cap, _, _, _, _, hc, hm, _⟩
    · omega
    · unfold maxLen at hm; omega
  clear hV hG hn hks
  go_enter Tryd.func14, Tryd.ntmps14
  go_wp2_with (go_at_call 33; refine (none_dev HAT.out).mono ?_; rintro e w1 ⟨rfl, rfl⟩)
  go_loopw [12] (fun i wr => ∃ k : Nat, k ≤ n ∧ i = .int .i64 (k : Int) ∧ DvV wr g gm (.slice A' s.pend.length c') fv { s with good := keepsB s.pend s.good (ks.take k) } ∧ Only [gm] w wr) (fun i _ => n - (intOf i).toNat)
  case atStart => exact ⟨0, by omega, rfl, HV.out, Only.refl _ _⟩
  case round =>
    obtain ⟨k, hk, rfl, hVr, hOr⟩ := hrel
    have HVR := Lib.hid hVr
    have HOR := Lib.hid hOr
    clear hVr hOr
    by_cases hlt : k < n
    · have hkl : k < ks.length := by rw [← HKL.out]; exact hlt
      obtain ⟨⟨ka, km⟩, hkk⟩ : ∃ x, x = ks[k] := ⟨_, rfl⟩
      have hkb := HKS.out.lt (ka, km) (by rw [hkk]; exact List.getElem_mem hkl)
      have hgmF : gm ∈ F := by rw [HG.out]; simp [dvFoot]
      have hks2 := HKS.out.only (HOR.out.mono (fun x hx _ => by simp at hx; subst hx; exact hgmF))
      obtain ⟨b, off, hA, hb1, hb2, hb3⟩ := hks2.at_.resolve_left (by omega)
      subst hA
      have hc := hb3 k hkl
      rw [← hkk] at hc
      have c1 := hc.1
      have c2 := hc.2
      simp only at c1 c2
      have HKB := Lib.hid hkb
      have HKK := Lib.hid hkk
      have hgood : keepsB s.pend s.good (ks.take (k + 1)) = keepB s.pend (keepsB s.pend s.good (ks.take k)) (ka, km) := by
        rw [List.take_succ_eq_append_getElem hkl, keepsB_snoc, ← hkk]
      have HGD := Lib.hid hgood
      clear hkb hkk hgood hks2 hb1 hb2 hb3 hc hgmF
      go_upto_region 6 with (first
        | refine wpList_alloc_row rfl 77 rfl _ zeroKeep ?_
        | refine wpList_store_new rfl 77 _ _ rfl _ (keepV (ka, km)) _ rfl rfl sizeKeep rfl (keepOne _) ?_)
      simp only [Act.put, List.setIfInBounds_toArray, List.set_cons_zero, List.set_cons_succ]
      have hb4 : Below wr.heap.size wr (wr.alloc (.cells (keepV (ka, km)) 77)) := (Below.refl _ _).alloc (Nat.le_refl _) _
      have hk4 : (wr.alloc (.cells (keepV (ka, km)) 77)).heap[wr.heap.size]? = some (.cells (keepV (ka, km)) 77 (0, 0)) := heap_alloc_new _ _
      obtain ⟨W4, hW4⟩ : ∃ W, W = wr.alloc (.cells (keepV (ka, km)) 77) := ⟨_, rfl⟩
      obtain ⟨gk, hgk⟩ : ∃ b, b = wr.heap.size := ⟨_, rfl⟩
      rw [← hW4] at hb4 hk4 ⊢
      rw [← hgk] at hk4 ⊢
      have hV4 := HVR.out.below hb4
      have c0 : W4.cell? ⟨gk, 0, none⟩ = some (.int .u16 (ka : Int)) := cell_of_row W4 gk 0 _ _ _ hk4
      have h2 : W4.cell? ⟨g, 2, none⟩ = some (.slice A' s.pend.length c') := cell_of_row W4 g 2 _ _ _ hV4.row
      have HB4 := Lib.hid hb4
      have HK4 := Lib.hid hk4
      have HV4 := Lib.hid hV4
      clear hb4 hk4 hV4 hW4 hgk c1 c2
      refine wk_region_since (by kernel_rfl) (by kernel_rfl) ?_
      refine wk_field 77 _ 75 0 0 _ _ _ (by first | exact wanted_none rfl | exact wanted_yes _ _ rfl rfl) rfl (by kernel_rfl) (by kernel_rfl) (by kernel_rfl) rfl ?_
      simp only [Act.put, List.setIfInBounds_toArray, List.set_cons_zero, List.set_cons_succ, Nat.zero_add]
      refine wk_load1 _ _ _ _ _ rfl (by kernel_rfl) rfl rfl (fun w' hC => hC.cell c0) Tryd.underlying75 ?_
      simp only [Act.put, List.setIfInBounds_toArray, List.set_cons_zero, List.set_cons_succ]
      refine wk_convert 75 3 _ _ (.int .i64 (ka : Int)) (by exact wanted_none rfl) rfl rfl (fun w => run_conv_int _ _ .u16 .i64 Tryd.underlying75 Tryd.underlying3 _ (by have := HKB.out.1; rw [IntKind.wrap_i64]; omega) w) ?_
      simp only [Act.put, List.setIfInBounds_toArray, List.set_cons_zero, List.set_cons_succ]
      repeat (first
        | (refine wk_move _ (by first | exact wanted_none rfl | exact wanted_yes _ _ rfl rfl) rfl ?_; simp only [Act.put, Act.eval, Array.getD_eq_getD_getElem?, List.getElem?_toArray, List.getElem?_cons_succ, List.getElem?_cons_zero, Option.getD_some, List.setIfInBounds_toArray, List.set_cons_zero, List.set_cons_succ])
        | (refine wk_assign _ (by first | exact wanted_none rfl | exact wanted_yes _ _ rfl rfl) rfl ?_; simp only [Act.put, Act.eval, Array.getD_eq_getD_getElem?, List.getElem?_toArray, List.getElem?_cons_succ, List.getElem?_cons_zero, Option.getD_some, List.setIfInBounds_toArray, List.set_cons_zero, List.set_cons_succ])
        | (refine wk_pickt _ _ _ _ (by first | exact wanted_none rfl | exact wanted_yes _ _ rfl rfl) rfl rfl rfl ?_; simp only [Act.put, Act.eval, Array.getD_eq_getD_getElem?, List.getElem?_toArray, List.getElem?_cons_succ, List.getElem?_cons_zero, Option.getD_some, List.setIfInBounds_toArray, List.set_cons_zero, List.set_cons_succ])
        | (refine wk_pickf _ _ _ _ (by first | exact wanted_none rfl | exact wanted_yes _ _ rfl rfl) rfl rfl rfl ?_; simp only [Act.put, Act.eval, Array.getD_eq_getD_getElem?, List.getElem?_toArray, List.getElem?_cons_succ, List.getElem?_cons_zero, Option.getD_some, List.setIfInBounds_toArray, List.set_cons_zero, List.set_cons_succ])
        | (refine wk_skip (wanted_not _ true false rfl rfl rfl) ?_; simp only [Act.put, List.setIfInBounds_toArray, List.set_cons_zero, List.set_cons_succ])
        | (refine wk_skip (wanted_not _ false true rfl rfl rfl) ?_; simp only [Act.put, List.setIfInBounds_toArray, List.set_cons_zero, List.set_cons_succ])
        | (refine wk_skip (wanted_undef _ _ rfl rfl) ?_; simp only [Act.put, List.setIfInBounds_toArray, List.set_cons_zero, List.set_cons_succ])
        | (refine wk_not true _ _ (by first | exact wanted_none rfl | exact wanted_yes _ _ rfl rfl) rfl rfl ?_; simp only [Act.put, List.setIfInBounds_toArray, List.set_cons_zero, List.set_cons_succ])
        | (refine wk_not false _ _ (by first | exact wanted_none rfl | exact wanted_yes _ _ rfl rfl) rfl rfl ?_; simp only [Act.put, List.setIfInBounds_toArray, List.set_cons_zero, List.set_cons_succ]))
      refine wk_nilcheck _ _ (by first | exact wanted_none rfl | exact wanted_yes _ _ rfl rfl) rfl rfl ?_
      simp only [Act.put, List.setIfInBounds_toArray, List.set_cons_zero, List.set_cons_succ]
      refine wk_field 65 _ 35 2 0 _ _ _ (by first | exact wanted_none rfl | exact wanted_yes _ _ rfl rfl) rfl (by kernel_rfl) (by kernel_rfl) (by kernel_rfl) rfl ?_
      simp only [Act.put, List.setIfInBounds_toArray, List.set_cons_zero, List.set_cons_succ, Nat.zero_add]
      refine wk_load1 _ _ _ _ _ rfl (by kernel_rfl) rfl rfl (fun w' hC => hC.cell h2) Tryd.underlying35 ?_
      simp only [Act.put, List.setIfInBounds_toArray, List.set_cons_zero, List.set_cons_succ]
      refine wk_len_slice _ _ _ _ _ _ Tryd.underlying35 (by kernel_rfl) rfl rfl ?_
      simp only [Act.put, List.setIfInBounds_toArray, List.set_cons_zero, List.set_cons_succ]
      refine wk_cmp_int .lss (decide (ka < s.pend.length)) _ _ _ _ _ _ _ (by kernel_rfl) rfl rfl rfl (by simp [cmpInt]) ?_
      simp only [Act.put, List.setIfInBounds_toArray, List.set_cons_zero, List.set_cons_succ]
      repeat (first
        | (refine wk_move _ (by first | exact wanted_none rfl | exact wanted_yes _ _ rfl rfl) rfl ?_; simp only [Act.put, Act.eval, Array.getD_eq_getD_getElem?, List.getElem?_toArray, List.getElem?_cons_succ, List.getElem?_cons_zero, Option.getD_some, List.setIfInBounds_toArray, List.set_cons_zero, List.set_cons_succ])
        | (refine wk_assign _ (by first | exact wanted_none rfl | exact wanted_yes _ _ rfl rfl) rfl ?_; simp only [Act.put, Act.eval, Array.getD_eq_getD_getElem?, List.getElem?_toArray, List.getElem?_cons_succ, List.getElem?_cons_zero, Option.getD_some, List.setIfInBounds_toArray, List.set_cons_zero, List.set_cons_succ])
        | (refine wk_pickt _ _ _ _ (by first | exact wanted_none rfl | exact wanted_yes _ _ rfl rfl) rfl rfl rfl ?_; simp only [Act.put, Act.eval, Array.getD_eq_getD_getElem?, List.getElem?_toArray, List.getElem?_cons_succ, List.getElem?_cons_zero, Option.getD_some, List.setIfInBounds_toArray, List.set_cons_zero, List.set_cons_succ])
        | (refine wk_pickf _ _ _ _ (by first | exact wanted_none rfl | exact wanted_yes _ _ rfl rfl) rfl rfl rfl ?_; simp only [Act.put, Act.eval, Array.getD_eq_getD_getElem?, List.getElem?_toArray, List.getElem?_cons_succ, List.getElem?_cons_zero, Option.getD_some, List.setIfInBounds_toArray, List.set_cons_zero, List.set_cons_succ])
        | (refine wk_skip (wanted_not _ true false rfl rfl rfl) ?_; simp only [Act.put, List.setIfInBounds_toArray, List.set_cons_zero, List.set_cons_succ])
        | (refine wk_skip (wanted_not _ false true rfl rfl rfl) ?_; simp only [Act.put, List.setIfInBounds_toArray, List.set_cons_zero, List.set_cons_succ])
        | (refine wk_skip (wanted_undef _ _ rfl rfl) ?_; simp only [Act.put, List.setIfInBounds_toArray, List.set_cons_zero, List.set_cons_succ])
        | (refine wk_not true _ _ (by first | exact wanted_none rfl | exact wanted_yes _ _ rfl rfl) rfl rfl ?_; simp only [Act.put, List.setIfInBounds_toArray, List.set_cons_zero, List.set_cons_succ])
        | (refine wk_not false _ _ (by first | exact wanted_none rfl | exact wanted_yes _ _ rfl rfl) rfl rfl ?_; simp only [Act.put, List.setIfInBounds_toArray, List.set_cons_zero, List.set_cons_succ]))
      refine wk_nil ?_
      intro w' hC
      have HC5 := Lib.hid hC
      have HB5 := Lib.hid (HB4.out.trans (hC.mono HB4.out.size))
      have HV5 := Lib.hid (HV4.out.below hC)
      have HK5 := Lib.hid (hC.row HK4.out)
      clear hC h2 c0 HB4 HK4 HV4
      by_cases hin : ka < s.pend.length
      · have hd : decide (ka < s.pend.length) = true := by simp [hin]
        rw [hd]
        obtain ⟨⟨a', b'⟩, hab⟩ : ∃ x, x = s.pend[ka] := ⟨_, rfl⟩
        have hgt : s.pend[ka]? = some (a', b') := by rw [List.getElem?_eq_getElem hin, hab]
        obtain ⟨gp, hA⟩ : ∃ gp, A' = some ⟨gp, 0, none⟩ := by
          rcases HV.out.pend.2 with ⟨_, h0⟩ | ⟨gp, _, _, e, _⟩
          · omega
          · simp only [Value.slice.injEq] at e; exact ⟨gp, e.1⟩
        subst hA
        have hbl := HV.out.ok.pend (a', b') (List.mem_of_getElem? hgt)
        have hps := size_putV a' b' hbl.2
        have c2 : w'.cell? ⟨g, 2, none⟩ = some (.slice (some ⟨gp, 0, none⟩) s.pend.length c') := cell_of_row w' g 2 _ _ _ HV5.out.row
        have c0 : w'.cell? ⟨gk, 0, none⟩ = some (.int .u16 (ka : Int)) := cell_of_row w' gk 0 _ _ _ HK5.out
        have HPS := Lib.hid hps
        have HBL := Lib.hid hbl
        have HGT := Lib.hid hgt
        have HC2 := Lib.hid c2
        have HC0 := Lib.hid c0
        clear hps hbl hab c2 c0 hgt hd
        go_upto_region 7 with (fail)
        refine wp_region_flow (by kernel_rfl) 9 (crV g gp c' s.pend.length ka gk a' b' w'.heap.size) ?stab (by kernel_rfl) (by kernel_rfl) (by kernel_rfl) (by kernel_rfl) ?heads ?tail
        case stab =>
          intro t v x y h hb
          unfold crV at h ⊢
          split at h
          all_goals first | exact h | skip
          obtain ⟨b, e1, e2, e3⟩ := h
          exact ⟨b, e1, (hb.block b (Array.getElem?_eq_some_iff.1 e2).1).trans e2, e3⟩
        case heads =>
          refine ⟨.inr ⟨rfl, 25, rfl, fun a1 v hB hO hD K hK => ?_⟩, .inr ⟨rfl, 26, rfl, fun a1 v hB hO hD K hK => ?_⟩, .inr ⟨rfl, 27, rfl, fun a1 v hB hO hD K hK => ?_⟩, .inr ⟨rfl, 28, rfl, fun a1 v hB hO hD K hK => ?_⟩, .inr ⟨rfl, 29, rfl, fun a1 v hB hO hD K hK => ?_⟩, .inr ⟨rfl, 30, rfl, fun a1 v hB hO hD K hK => ?_⟩, .inr ⟨rfl, 31, rfl, fun a1 v hB hO hD K hK => ?_⟩, .inr ⟨rfl, 32, rfl, fun a1 v hB hO hD K hK => ?_⟩, .inr ⟨rfl, 7, rfl, fun a1 v hB hO hD K hK => ?_⟩, .inl (by decide), trivial⟩
          · skip
            exact wp_move _ _ rfl (eval_of (t := 0) (by rw [hO 0 (not_dst 0 (by kernel_rfl))]; rfl)) (hK _ _ rfl (Below.refl _ _))
          · skip
            obtain ⟨u, hu, hv⟩ := flow_of hD 0 (by kernel_rfl) 25 (by kernel_rfl)
            exact wp_nilcheck _ _ rfl (hu.trans hv) (hK _ _ rfl (Below.refl _ _))
          · skip
            obtain ⟨u, hu, hv⟩ := flow_of hD 1 (by kernel_rfl) 26 (by kernel_rfl)
            exact wp_field 65 2 35 2 0 _ g 0 rfl (by kernel_rfl) (by kernel_rfl) (by kernel_rfl) (hu.trans hv) (hK _ _ rfl (Below.refl _ _))
          · skip
            obtain ⟨u, hu, hv⟩ := flow_of hD 2 (by kernel_rfl) 27 (by kernel_rfl)
            exact wp_load_cell 35 _ ⟨g, 2, none⟩ (.slice (some ⟨gp, 0, none⟩) s.pend.length c') _ rfl rfl (hu.trans hv) ((hB.cell (by have := (Array.getElem?_eq_some_iff.1 HV5.out.row).1; exact this)).trans HC2.out) Tryd.underlying35 (hK _ _ rfl (Below.refl _ _))
          · exact wp_field 77 0 75 0 0 _ gk 0 rfl (by kernel_rfl) (by kernel_rfl) (by kernel_rfl) (eval_of (t := 6) (by rw [hO 6 (not_dst 6 (by kernel_rfl))]; rfl)) (hK _ _ rfl (Below.refl _ _))
          · skip
            obtain ⟨u, hu, hv⟩ := flow_of hD 4 (by kernel_rfl) 29 (by kernel_rfl)
            exact wp_load_cell 75 _ ⟨gk, 0, none⟩ (.int .u16 (ka : Int)) _ rfl rfl (hu.trans hv) ((hB.cell (by have := (Array.getElem?_eq_some_iff.1 HK5.out).1; exact this)).trans HC0.out) Tryd.underlying75 (hK _ _ rfl (Below.refl _ _))
          · skip
            obtain ⟨u, hu, hv⟩ := flow_of hD 3 (by kernel_rfl) 28 (by kernel_rfl)
            obtain ⟨u', hu', hv'⟩ := flow_of hD 5 (by kernel_rfl) 30 (by kernel_rfl)
            refine wp_of_wq rfl (wk_index 35 47 _ _ gp 0 s.pend.length c' ka 257 .u16 (by exact wanted_none rfl) rfl Tryd.underlying35 sizePut (hu.trans hv) (hu'.trans hv') hin ?_)
            rw [Nat.zero_add]
            refine wk_nil ?_
            intro w' hC
            exact hK _ _ rfl hC
          · skip
            obtain ⟨u, hu, hv⟩ := flow_of hD 6 (by kernel_rfl) 31 (by kernel_rfl)
            refine wp_of_wq rfl (wk_load_mid 47 _ gp (ka * 257) (putV a' b') _ (by exact wanted_none rfl) rfl (hu.trans hv) (fun w' hC => ?_) Tryd.underlying47 rfl (by rw [HPS.out]; exact sizePut) ?_)
            · exact pend_range ((HV5.out.below hB).below hC).pend (fun x hx => (HV.out.ok.pend x hx).2) ka a' b' HGT.out
            refine wk_nil ?_
            intro w' hC
            exact hK _ _ rfl hC
          · exact wp_alloc_row 47 rfl _ zeroPut (hK _ _ ⟨_, rfl, heap_alloc_new _ _, hB.size⟩ ((Below.refl _ _).alloc (Nat.le_refl _) _))
        case tail =>
          intro F1 v hFV hB
          obtain ⟨gx, e7, hr7, hb7⟩ : ∃ b, F1 7 = .pointer (some ⟨b, 0, none⟩) ∧ v.heap[b]? = some (.cells (putV 0 zeroBlk) 47 (0, 0)) ∧ w'.heap.size ≤ b := hFV _ (List.mem_of_getElem? (i := 8) rfl) 7 rfl
          have e32 : F1 32 = .agg (putV a' b') := hFV _ (List.mem_of_getElem? (i := 7) rfl) 32 rfl
          simp only [List.take_succ_cons, List.take_zero, List.drop_succ_cons, List.drop_zero, putAll, List.setIfInBounds_toArray, List.set_cons_zero, List.set_cons_succ]
          rw [e7, e32]
          clear hFV e7 e32
          refine wpList_store_row rfl 47 _ _ rfl gx (putV a' b') rfl rfl 47 _ hr7 (by rw [HPS.out]; exact sizePut) (by rw [HPS.out]; rfl) (putV_one _ _) ?_
          simp only [Act.put, List.setIfInBounds_toArray, List.set_cons_zero, List.set_cons_succ]
          have hb6 : Below w'.heap.size w' (v.setRow gx (putV a' b')) := below_setRow hB hb7 _
          have hr6 : (v.setRow gx (putV a' b')).heap[gx]? = some (.cells (putV a' b') 47 (0, 0)) := setRow_heap _ _ _ _ _ _ hr7
          obtain ⟨W6, hW6⟩ : ∃ W, W = v.setRow gx (putV a' b') := ⟨_, rfl⟩
          rw [← hW6] at hb6 hr6 ⊢
          have HX6 := Lib.hid hr6
          have HV6 := Lib.hid (HV5.out.below hb6)
          have hk6 := (hb6.block gk (Array.getElem?_eq_some_iff.1 HK5.out).1).trans HK5.out
          have HB6 := Lib.hid (HB5.out.trans (hb6.mono HB5.out.size))
          have x0 : W6.cell? ⟨gx, 0, none⟩ = some (.int .u32 (a' : Int)) := cell_of_row W6 gx 0 _ _ _ hr6
          have k1 : W6.cell? ⟨gk, 1, none⟩ = some (.int .u8 (km : Int)) := cell_of_row W6 gk 1 _ _ _ hk6
          have m1 : W6.cell? ⟨g, 1, none⟩ = some (.map (some gm)) := cell_of_row W6 g 1 _ _ _ HV6.out.row
          clear hW6 hr7 hb7 hr6 hb6 hB hk6
          go_upto_region 8 with (fail)
          refine wk_region_tail 16 (by kernel_rfl) (by kernel_rfl) ?_
          simp only [List.take_succ_cons, List.take_zero, List.drop_succ_cons, List.drop_zero]
          repeat (first
            | (refine wk_move _ (by first | exact wanted_none rfl | exact wanted_yes _ _ rfl rfl) rfl ?_; simp only [Act.put, Act.eval, Array.getD_eq_getD_getElem?, List.getElem?_toArray, List.getElem?_cons_succ, List.getElem?_cons_zero, Option.getD_some, List.setIfInBounds_toArray, List.set_cons_zero, List.set_cons_succ])
            | (refine wk_assign _ (by first | exact wanted_none rfl | exact wanted_yes _ _ rfl rfl) rfl ?_; simp only [Act.put, Act.eval, Array.getD_eq_getD_getElem?, List.getElem?_toArray, List.getElem?_cons_succ, List.getElem?_cons_zero, Option.getD_some, List.setIfInBounds_toArray, List.set_cons_zero, List.set_cons_succ])
            | (refine wk_pickt _ _ _ _ (by first | exact wanted_none rfl | exact wanted_yes _ _ rfl rfl) rfl rfl rfl ?_; simp only [Act.put, Act.eval, Array.getD_eq_getD_getElem?, List.getElem?_toArray, List.getElem?_cons_succ, List.getElem?_cons_zero, Option.getD_some, List.setIfInBounds_toArray, List.set_cons_zero, List.set_cons_succ])
            | (refine wk_pickf _ _ _ _ (by first | exact wanted_none rfl | exact wanted_yes _ _ rfl rfl) rfl rfl rfl ?_; simp only [Act.put, Act.eval, Array.getD_eq_getD_getElem?, List.getElem?_toArray, List.getElem?_cons_succ, List.getElem?_cons_zero, Option.getD_some, List.setIfInBounds_toArray, List.set_cons_zero, List.set_cons_succ])
            | (refine wk_skip (wanted_not _ true false rfl rfl rfl) ?_; simp only [Act.put, List.setIfInBounds_toArray, List.set_cons_zero, List.set_cons_succ])
            | (refine wk_skip (wanted_not _ false true rfl rfl rfl) ?_; simp only [Act.put, List.setIfInBounds_toArray, List.set_cons_zero, List.set_cons_succ])
            | (refine wk_skip (wanted_undef _ _ rfl rfl) ?_; simp only [Act.put, List.setIfInBounds_toArray, List.set_cons_zero, List.set_cons_succ])
            | (refine wk_not true _ _ (by first | exact wanted_none rfl | exact wanted_yes _ _ rfl rfl) rfl rfl ?_; simp only [Act.put, List.setIfInBounds_toArray, List.set_cons_zero, List.set_cons_succ])
            | (refine wk_not false _ _ (by first | exact wanted_none rfl | exact wanted_yes _ _ rfl rfl) rfl rfl ?_; simp only [Act.put, List.setIfInBounds_toArray, List.set_cons_zero, List.set_cons_succ]))
          refine wk_field 47 _ 22 0 0 _ _ _ (by first | exact wanted_none rfl | exact wanted_yes _ _ rfl rfl) rfl (by kernel_rfl) (by kernel_rfl) (by kernel_rfl) rfl ?_
          simp only [Act.put, List.setIfInBounds_toArray, List.set_cons_zero, List.set_cons_succ, Nat.zero_add]
          refine wk_load1 _ _ _ _ _ rfl (by kernel_rfl) rfl rfl (fun w' hC => hC.cell x0) Tryd.underlying22 ?_
          simp only [Act.put, List.setIfInBounds_toArray, List.set_cons_zero, List.set_cons_succ]
          repeat (first
            | (refine wk_move _ (by first | exact wanted_none rfl | exact wanted_yes _ _ rfl rfl) rfl ?_; simp only [Act.put, Act.eval, Array.getD_eq_getD_getElem?, List.getElem?_toArray, List.getElem?_cons_succ, List.getElem?_cons_zero, Option.getD_some, List.setIfInBounds_toArray, List.set_cons_zero, List.set_cons_succ])
            | (refine wk_assign _ (by first | exact wanted_none rfl | exact wanted_yes _ _ rfl rfl) rfl ?_; simp only [Act.put, Act.eval, Array.getD_eq_getD_getElem?, List.getElem?_toArray, List.getElem?_cons_succ, List.getElem?_cons_zero, Option.getD_some, List.setIfInBounds_toArray, List.set_cons_zero, List.set_cons_succ])
            | (refine wk_pickt _ _ _ _ (by first | exact wanted_none rfl | exact wanted_yes _ _ rfl rfl) rfl rfl rfl ?_; simp only [Act.put, Act.eval, Array.getD_eq_getD_getElem?, List.getElem?_toArray, List.getElem?_cons_succ, List.getElem?_cons_zero, Option.getD_some, List.setIfInBounds_toArray, List.set_cons_zero, List.set_cons_succ])
            | (refine wk_pickf _ _ _ _ (by first | exact wanted_none rfl | exact wanted_yes _ _ rfl rfl) rfl rfl rfl ?_; simp only [Act.put, Act.eval, Array.getD_eq_getD_getElem?, List.getElem?_toArray, List.getElem?_cons_succ, List.getElem?_cons_zero, Option.getD_some, List.setIfInBounds_toArray, List.set_cons_zero, List.set_cons_succ])
            | (refine wk_skip (wanted_not _ true false rfl rfl rfl) ?_; simp only [Act.put, List.setIfInBounds_toArray, List.set_cons_zero, List.set_cons_succ])
            | (refine wk_skip (wanted_not _ false true rfl rfl rfl) ?_; simp only [Act.put, List.setIfInBounds_toArray, List.set_cons_zero, List.set_cons_succ])
            | (refine wk_skip (wanted_undef _ _ rfl rfl) ?_; simp only [Act.put, List.setIfInBounds_toArray, List.set_cons_zero, List.set_cons_succ])
            | (refine wk_not true _ _ (by first | exact wanted_none rfl | exact wanted_yes _ _ rfl rfl) rfl rfl ?_; simp only [Act.put, List.setIfInBounds_toArray, List.set_cons_zero, List.set_cons_succ])
            | (refine wk_not false _ _ (by first | exact wanted_none rfl | exact wanted_yes _ _ rfl rfl) rfl rfl ?_; simp only [Act.put, List.setIfInBounds_toArray, List.set_cons_zero, List.set_cons_succ]))
          refine wk_nilcheck _ _ (by first | exact wanted_none rfl | exact wanted_yes _ _ rfl rfl) rfl rfl ?_
          simp only [Act.put, List.setIfInBounds_toArray, List.set_cons_zero, List.set_cons_succ]
          refine wk_field 65 _ 62 1 0 _ _ _ (by first | exact wanted_none rfl | exact wanted_yes _ _ rfl rfl) rfl (by kernel_rfl) (by kernel_rfl) (by kernel_rfl) rfl ?_
          simp only [Act.put, List.setIfInBounds_toArray, List.set_cons_zero, List.set_cons_succ, Nat.zero_add]
          refine wk_load1 _ _ _ _ _ rfl (by kernel_rfl) rfl rfl (fun w' hC => hC.cell m1) Tryd.underlying62 ?_
          simp only [Act.put, List.setIfInBounds_toArray, List.set_cons_zero, List.set_cons_succ]
          refine wk_field 47 _ 22 0 0 _ _ _ (by first | exact wanted_none rfl | exact wanted_yes _ _ rfl rfl) rfl (by kernel_rfl) (by kernel_rfl) (by kernel_rfl) rfl ?_
          simp only [Act.put, List.setIfInBounds_toArray, List.set_cons_zero, List.set_cons_succ, Nat.zero_add]
          refine wk_load1 _ _ _ _ _ rfl (by kernel_rfl) rfl rfl (fun w' hC => hC.cell x0) Tryd.underlying22 ?_
          simp only [Act.put, List.setIfInBounds_toArray, List.set_cons_zero, List.set_cons_succ]
          refine wk_look_map _ _ (by exact wanted_none rfl) rfl gm _ rfl (fun w' hC => (HV6.out.below hC).good) a' HBL.out.1 rfl ?_
          simp only [Act.put, List.setIfInBounds_toArray, List.set_cons_zero, List.set_cons_succ]
          refine wk_field 47 _ 45 1 255 _ _ _ (by first | exact wanted_none rfl | exact wanted_yes _ _ rfl rfl) rfl (by kernel_rfl) (by kernel_rfl) (by kernel_rfl) rfl ?_
          simp only [Act.put, List.setIfInBounds_toArray, List.set_cons_zero, List.set_cons_succ, Nat.zero_add]
          refine wk_load_mid 45 _ gx 1 (blk b') _ (by first | exact wanted_none rfl | exact wanted_yes _ _ rfl rfl) rfl rfl (fun w' hC => putV_range (hC.row HX6.out)) Tryd.underlying45 rfl (by rw [size_blk, HBL.out.2]; exact sizeB) ?_
          simp only [Act.put, List.setIfInBounds_toArray, List.set_cons_zero, List.set_cons_succ]
          refine wk_field 77 _ 5 1 0 _ _ _ (by first | exact wanted_none rfl | exact wanted_yes _ _ rfl rfl) rfl (by kernel_rfl) (by kernel_rfl) (by kernel_rfl) rfl ?_
          simp only [Act.put, List.setIfInBounds_toArray, List.set_cons_zero, List.set_cons_succ, Nat.zero_add]
          refine wk_load1 _ _ _ _ _ rfl (by kernel_rfl) rfl rfl (fun w' hC => hC.cell k1) Tryd.underlying5 ?_
          simp only [Act.put, List.setIfInBounds_toArray, List.set_cons_zero, List.set_cons_succ]
          have hgl : (keepsB s.pend s.good (ks.take k) a').length = 256 := HV6.out.ok.good a'
          refine wk_call 35 _ _ _ _ _ (by kernel_rfl) rfl Tryd.func35 rfl (by kernel_rfl) (fun w' hC => hC.call (torn_dev (keepsB s.pend s.good (ks.take k) a') b' hgl HBL.out.2 km HKB.out.2 w')) ?_
          simp only [Act.put, List.setIfInBounds_toArray, List.set_cons_zero, List.set_cons_succ]
          refine wk_build 47 _ [(0, .int .u32 (a' : Int)), (1, .agg (blk (dtorn (keepsB s.pend s.good (ks.take k) a') b' km)))] (putV a' (dtorn (keepsB s.pend s.good (ks.take k) a') b' km)) (by exact wanted_none rfl) rfl (by simp [Act.eval]) (builtPut _ _ (length_dtorn _ _ _)) ?_
          simp only [Act.put, List.setIfInBounds_toArray, List.set_cons_zero, List.set_cons_succ]
          refine wk_nil ?_
          intro w' hC
          have HV7 := Lib.hid (HV6.out.below hC)
          have HB7 := Lib.hid (HB6.out.trans (hC.mono HB6.out.size))
          have HKP : Hid (keepB s.pend (keepsB s.pend s.good (ks.take k)) (ka, km) = updB (keepsB s.pend s.good (ks.take k)) a' (dtorn (keepsB s.pend s.good (ks.take k) a') b' km)) := Lib.hid (by
            unfold keepB
            rw [show s.pend[(ka, km).1]? = some (a', b') from HGT.out])
          clear hC hgl x0 k1 m1 HV6 HX6 HB6
          obtain ⟨tb, htb⟩ : ∃ tb, tb = dtorn (keepsB s.pend s.good (ks.take k) a') b' km := ⟨_, rfl⟩
          have htl : tb.length = 256 := by rw [htb]; exact length_dtorn _ _ _
          rw [← htb] at HKP ⊢
          have HTL := Lib.hid htl
          clear htb htl
          go_wp2_with (go_at_call 34; refine (put_devV HV7.out HND.out a' tb HBL.out.1 HTL.out).mono ?_; rintro e w8 ⟨rfl, hv8, ho8⟩; have HV8 := Lib.hid hv8; have HO8 := Lib.hid ho8; clear hv8 ho8)
          refine ⟨⟨k + 1, by omega, by simp, by rw [HGD.out, HKP.out]; exact HV8.out, (HOR.out.trans (Only.of_below HB7.out)).trans HO8.out⟩, by simp [intOf]; omega⟩
      · have hd : decide (ka < s.pend.length) = false := by simp [hin]
        rw [hd]
        have HKP : Hid (keepB s.pend (keepsB s.pend s.good (ks.take k)) (ka, km) = keepsB s.pend s.good (ks.take k)) := Lib.hid (by
          unfold keepB
          rw [List.getElem?_eq_none (by omega)])
        clear hin hd
        go_wp2_with fail
        refine ⟨⟨k + 1, by omega, by simp, by rw [HGD.out, HKP.out]; exact HV5.out, HOR.out.trans (Only.of_below HB5.out)⟩, by simp [intOf]; omega⟩
    · obtain rfl : k = n := by omega
      have hz : ¬ ((k : Int) < (k : Int)) := by omega
      have htk : ks.take k = ks := List.take_of_length_le (by rw [HKL.out]; exact Nat.le_refl _)
      have hVe := HVR.out
      rw [htk] at hVe
      have hrow := hVe.row
      have hap2 : DvApart g gm (.slice none 0 0) (.pointer none) := ⟨HAP.out.map, fun b hb => by simp [Value.ownBlock] at hb, fun b hb => by simp [ptrBlock] at hb⟩
      have c2 : wr.cell? ⟨g, 2, none⟩ = some (.slice A' s.pend.length c') := cell_of_row wr g 2 _ _ _ hrow
      have f2 : wr.frozen? ⟨g, 2, none⟩ = false := frozen_of_row wr g 2 _ _ hrow
      have hr1 := heap_setCell_same wr g 2 _ _ (.slice none 0 0) hrow
      have c3 : (wr.setCell ⟨g, 2, none⟩ (.slice none 0 0)).cell? ⟨g, 3, none⟩ = some fv := cell_of_row _ g 3 _ _ _ hr1
      have f3 : (wr.setCell ⟨g, 2, none⟩ (.slice none 0 0)).frozen? ⟨g, 3, none⟩ = false := frozen_of_row _ g 3 _ _ hr1
      have hr2 := heap_setCell_same _ g 3 _ _ (.pointer none) hr1
      have c4 : ((wr.setCell ⟨g, 2, none⟩ (.slice none 0 0)).setCell ⟨g, 3, none⟩ (.pointer none)).cell? ⟨g, 4, none⟩ = some (.bool s.down) := cell_of_row _ g 4 _ _ _ hr2
      have f4 : ((wr.setCell ⟨g, 2, none⟩ (.slice none 0 0)).setCell ⟨g, 3, none⟩ (.pointer none)).frozen? ⟨g, 4, none⟩ = false := frozen_of_row _ g 4 _ _ hr2
      have hr3 := heap_setCell_same _ g 4 _ _ (.bool false) hr2
      have hT : Turns F w (((wr.setCell ⟨g, 2, none⟩ (.slice none 0 0)).setCell ⟨g, 3, none⟩ (.pointer none)).setCell ⟨g, 4, none⟩ (.bool false)) (dvT g (s.crash ks)) := by
        have hgF : g ∈ F := by rw [HG.out]; simp [dvFoot]
        have hgmF : gm ∈ F := by rw [HG.out]; simp [dvFoot]
        have hO1 : Only F w wr := HOR.out.mono (fun x hx _ => by simp at hx; subst hx; exact hgmF)
        refine ⟨_, ⟨gm, _, _, rfl, ?_, ?_, World.ownsRow_nil _ _ _ _, rfl, HV.out.ok.crash ks⟩, ((hO1.setCell (.inl hgF) _).setCell (.inl hgF) _).setCell (.inl hgF) _, ?_, dv_foot hap2⟩
        · rw [hr3]; simp [dvCells, Dv.crash]
        · have e : (((wr.setCell ⟨g, 2, none⟩ (.slice none 0 0)).setCell ⟨g, 3, none⟩ (.pointer none)).setCell ⟨g, 4, none⟩ (.bool false)).heap[gm]? = wr.heap[gm]? := by
            rw [heap_setCell_other _ _ _ _ HAP.out.map, heap_setCell_other _ _ _ _ HAP.out.map, heap_setCell_other _ _ _ _ HAP.out.map]
          exact hVe.good.kept e
        · intro b hb
          simp only [dvFoot, List.mem_cons, Value.ownBlock, Option.toList_none, ptrBlock, List.append_nil, List.not_mem_nil, or_false] at hb
          rcases hb with rfl | rfl
          · exact .inl hgF
          · exact .inl hgmF
      have HT := Lib.hid hT
      clear hT hr1 hr2 hr3 hap2 hrow hVe htk
      go_wp2
      go_ret
      exact ⟨rfl, HT.out⟩
end Go.Proofs.YtnphgaiiiiknpaaDoor
namespace Go.Proofs.YtnphgaiiiiknpaaDoor
open Go.RowKit
set_option linter.unusedSimpArgs false
set_option linter.unusedVariables false
set_option maxRecDepth 100000
def fullK (c : UInt8) (k : Nat) : List UInt8 := List.replicate k c ++ List.replicate (256 - k) 0
theorem fullK_zero (c : UInt8) : fullK c 0 = zeroBlk := rfl
theorem length_fullK (c : UInt8) (k : Nat) (h : k ≤ 256) : (fullK c k).length = 256 := by simp [fullK]; omega
theorem fullK_set (c : UInt8) (k : Nat) (h : k < 256) : (fullK c k).set k c = fullK c (k + 1) := by
  apply List.ext_getElem?
  intro i
  rw [List.getElem?_set, length_fullK c k (by omega)]
  by_cases e : k = i
  · subst e
    rw [if_pos rfl, if_pos h]
    unfold fullK
    rw [List.getElem?_append_left (by simp)]
    simp
  · rw [if_neg e]
    unfold fullK
    by_cases h1 : i < k
    · rw [List.getElem?_append_left (by simp; omega), List.getElem?_append_left (by simp; omega)]
      simp [h1, show i < k + 1 by omega]
    · rw [List.getElem?_append_right (by simp; omega), List.getElem?_append_right (by simp; omega)]
      simp only [List.length_replicate, List.getElem?_replicate]
      by_cases h2 : i < 256
      · rw [if_pos (by omega), if_pos (by omega)]
      · rw [if_neg (by omega), if_neg (by omega)]
theorem blk_cell {w : World} {g : Nat} {b : List UInt8} {T : TypeId} (h : w.heap[g]? = some (.cells (blk b) T (0, 0))) (k : Nat) (hk : k < b.length) : w.cell? ⟨g, k, none⟩ = some (.int .u8 ((b[k]'hk).toNat : Int)) := by
  rw [cell_of_row w g k _ _ _ h]; exact blk_get b k hk
/-- An act. -/
structure ActL where
  what : Nat
  a : Nat
  c : UInt8
  lA : Option Addr
  ln : Nat
  lc : Nat
  keeps : List (Nat × Nat)
  k : Int
def actV (x : ActL) : Array Value := #[.int .u8 (x.what : Int), .int .u32 (x.a : Int), .int .u8 (x.c.toNat : Int), .slice x.lA x.ln x.lc, .int .i64 x.k]
/-- A row of acts. -/
structure ActsIn (w : World) (A : Option Addr) (n : Nat) (l : List ActL) : Prop where
  len : l.length = n
  at_ : n = 0 ∨ ∃ b off, A = some ⟨b, off, none⟩ ∧ b < w.heap.size ∧ ∀ i, (hi : i < l.length) → w.rangeAt b (off + i * 5) (actV l[i]).toList
  ok : ∀ x ∈ l, x.what < 256 ∧ x.a < 4294967296 ∧ x.k < 9223372036854775808 ∧ x.ln ≤ 9223372036854775807 ∧ KeepsIn w x.lA x.ln x.keeps []
/-- An act's block. -/
def actB (c : UInt8) : List UInt8 := (((zeroBlk.set 0 c).set 64 (c + 1)).set 128 (c + 2)).set 192 (c + 3)
theorem length_actB (c : UInt8) : (actB c).length = 256 := by simp [actB, length_zeroBlk]
def actK (c : UInt8) : Nat → List UInt8
  | 0 => zeroBlk
  | 1 => zeroBlk.set 0 c
  | 2 => (zeroBlk.set 0 c).set 64 (c + 1)
  | 3 => ((zeroBlk.set 0 c).set 64 (c + 1)).set 128 (c + 2)
  | _ => actB c
theorem length_actK (c : UInt8) (k : Nat) : (actK c k).length = 256 := by
  unfold actK; split <;> simp [length_zeroBlk, actB]
theorem add_u8 (c : UInt8) (k : Nat) (hk : k < 256) : IntKind.u8.wrap ((c.toNat : Int) + (k : Int)) = ((c + UInt8.ofNat k).toNat : Int) := by
  rw [UInt8.toNat_add, UInt8.toNat_ofNat', IntKind.wrap_u8]
  omega
end Go.Proofs.YtnphgaiiiiknpaaDoor
namespace Go.Proofs.YtnphgaiiiiknpaaDoor
open Go.RowKit
set_option linter.unusedSimpArgs false
set_option linter.unusedVariables false
set_option maxRecDepth 100000
theorem rangeAt_cell {w : World} {b off : Nat} {cs : List Value} (h : w.rangeAt b off cs) (j : Nat) (v : Value) (hv : cs[j]? = some v) : w.cell? ⟨b, off + j, none⟩ = some v := h j v hv
theorem ActsIn.below {w w' : World} {A : Option Addr} {n : Nat} {l : List ActL} (h : ActsIn w A n l) (hb : Below w.heap.size w w') : ActsIn w' A n l := by
  refine ⟨h.len, ?_, fun x hx => ?_⟩
  · rcases h.at_ with h0 | ⟨b, off, rfl, h1, h2⟩
    · exact .inl h0
    · refine .inr ⟨b, off, rfl, Nat.lt_of_lt_of_le h1 hb.size, fun i hi j v hv => ?_⟩
      exact (hb.cell h1).trans (h2 i hi j v hv)
  · obtain ⟨h1, h2, h3, h4, h5⟩ := h.ok x hx
    exact ⟨h1, h2, h3, h4, h5.only (Only.of_below hb)⟩
/-- The cells of act number i. -/
theorem ActsIn.cells {w : World} {A : Option Addr} {n : Nat} {l : List ActL} (h : ActsIn w A n l) (i : Nat) (hi : i < l.length) : ∃ b off, A = some ⟨b, off, none⟩ ∧ b < w.heap.size ∧ w.rangeAt b (off + i * 5) (actV l[i]).toList := by
  rcases h.at_ with h0 | ⟨b, off, e, h1, h2⟩
  · have := h.len; omega
  · exact ⟨b, off, e, h1, h2 i hi⟩
def GreatPost (n : Nat) (w : World) (e : Ending) (w' : World) : Prop := ∃ r, e = .returned (.bool r) ∧ (r = false → n ≤ 60) ∧ w = w'
end Go.Proofs.YtnphgaiiiiknpaaDoor
namespace Go.Proofs.YtnphgaiiiiknpaaDoor
open Go.RowKit
set_option linter.unusedSimpArgs false
set_option linter.unusedVariables false
set_option maxRecDepth 100000
section
variable {w0 W W' : World} {l : List Thing}
theorem Held.act2 {P : Program} {f : FuncId} {args : Array Value} {x y : Thing} {Q : Ending → Prop} (R : Held w0 W (x :: l)) (h : ∀ F, x.says F W → F.Nodup → (∀ b ∈ F, w0.heap.size ≤ b) → (∀ b cs T, rowT b cs T ∈ l → b ∉ F) → Calls P f args W fun e w' => Q e ∧ Turns F W w' y) :
    Calls P f args W fun e w' => Q e ∧ Held w0 w' (y :: l) := by
  obtain ⟨Z, hZ, R⟩ := R
  cases Z with
  | nil => simp at hZ
  | cons z Z =>
    simp only [List.map_cons, List.cons.injEq] at hZ
    obtain ⟨rfl, rfl⟩ := hZ
    have hap := R.apart
    rw [List.flatMap_cons, List.nodup_append] at hap
    refine (h z.2 (R.says z (by simp)) hap.1 (R.ge z (by simp)) ?_).mono ?_
    · intro b cs T hm hb
      obtain ⟨q, hq, he⟩ := List.mem_map.1 hm
      have := R.says q (List.mem_cons_of_mem _ hq)
      rw [he] at this
      exact hap.2.2 b hb b (List.mem_flatMap.2 ⟨q, hq, by rw [this.1]; simp⟩) rfl
    · rintro e w' ⟨he, G, h1, h2, h3, h4⟩
      exact ⟨he, (y, G) :: Z, rfl, R.head h2 h1 h3 h4⟩
/-- A new row, behind the head. -/
theorem Held.alloc2 {x : Thing} (R : Held w0 W (x :: l)) (cs : Array Value) (T : TypeId) : Held w0 (W.alloc (.cells cs T)) (x :: rowT W.heap.size cs T :: l) := (R.alloc cs T).perm (.swap _ _ _)
end
section
variable {w0 W : World} {g : Nat} {s s' : Dv} {l : List Thing} {E : Int}
theorem write_is (R : Held w0 W (dvT g s :: l)) (hlen : s.pend.length < 100000) (a : Nat) (b : List UInt8) (ha : a < 4294967296) (hb : b.length = 256) (he : s.write a b = (s', E)) :
    Calls Tryd.prog 18 #[.pointer (some ⟨g, 0, none⟩), .int .u32 (a : Int), .agg (blk b)] W fun e w' => e = .returned (.int .i64 E) ∧ Held w0 w' (dvT g s' :: l) :=
  R.act (fun F hF hN => by have := write_dev hF hN hlen a b ha hb; rwa [he] at this)
theorem flush_is (R : Held w0 W (dvT g s :: l)) (he : s.flush = (s', E)) :
    Calls Tryd.prog 19 #[.pointer (some ⟨g, 0, none⟩)] W fun e w' => e = .returned (.int .i64 E) ∧ Held w0 w' (dvT g s' :: l) :=
  R.act (fun F hF hN => by have := flush_dev hF hN; rwa [he] at this)
theorem fuse_is (R : Held w0 W (dvT g s :: l)) (k : Int) (hk : k < 9223372036854775808) (he : s.lay k = (s', E)) :
    Calls Tryd.prog 12 #[.pointer (some ⟨g, 0, none⟩), .int .i64 k] W fun e w' => e = .returned (.int .i64 E) ∧ Held w0 w' (dvT g s' :: l) :=
  R.act (fun F hF hN => by have := fuse_dev hF hN k hk; rwa [he] at this)
/-- A crash that keeps nothing. -/
theorem crash_nil (R : Held w0 W (dvT g s :: l)) (he : s.crash [] = s') :
    Calls Tryd.prog 14 #[.pointer (some ⟨g, 0, none⟩), .slice none 0 0] W fun e w' => e = .returned (.int .i64 0) ∧ Held w0 w' (dvT g s' :: l) :=
  R.act (fun F hF hN => by have := crash_dev hF hN none 0 0 (by omega) [] ⟨rfl, .inl rfl, by simp⟩; rwa [he] at this)
/-- A crash whose slice lies in a row of one's own. -/
theorem crash_own (R : Held w0 W (dvT g s :: l)) (b : Nat) (k : Nat × Nat) (c : Nat) (hk : k.1 < 65536 ∧ k.2 < 256) (hm : rowT b (keepV k) 77 ∈ l) (he : s.crash [k] = s') :
    Calls Tryd.prog 14 #[.pointer (some ⟨g, 0, none⟩), .slice (some ⟨b, 0, none⟩) 1 c] W fun e w' => e = .returned (.int .i64 0) ∧ Held w0 w' (dvT g s' :: l) :=
  R.act2 (fun F hF hN _ hd => by
    obtain ⟨i, hi⟩ := List.mem_iff_getElem?.1 hm
    have hr := R.get (i + 1) (g := b) (cs := keepV k) (T := 77) (by simpa using hi)
    have := crash_dev hF hN (some ⟨b, 0, none⟩) 1 c (by omega) [k] ⟨rfl, .inr ⟨b, 0, rfl, (Array.getElem?_eq_some_iff.1 hr).1, hd b _ _ hm, fun i hi => by
      obtain rfl : i = 0 := by simp at hi; omega
      exact ⟨cell_of_row W b 0 _ _ _ hr, cell_of_row W b 1 _ _ _ hr⟩⟩, by simp; exact hk⟩
    rwa [he] at this)
/-- A crash whose slice is an elder one. -/
theorem crash_old (R : Held w0 W (dvT g s :: l)) (A : Option Addr) (n c : Nat) (hn : n ≤ 9223372036854775807) (ks : List (Nat × Nat)) (hks : KeepsIn w0 A n ks []) (he : s.crash ks = s') :
    Calls Tryd.prog 14 #[.pointer (some ⟨g, 0, none⟩), .slice A n c] W fun e w' => e = .returned (.int .i64 0) ∧ Held w0 w' (dvT g s' :: l) :=
  R.act2 (fun F hF hN hge _ => by
    have hk : KeepsIn W A n ks F := by
      refine ⟨hks.len, ?_, hks.lt⟩
      rcases hks.at_ with h0 | ⟨b, off, rfl, h1, _, h3⟩
      · exact .inl h0
      · refine .inr ⟨b, off, rfl, Nat.lt_of_lt_of_le h1 R.below.size, fun hm => by have := hge b hm; omega, fun i hi => ?_⟩
        have e : ∀ o, W.cell? ⟨b, o, none⟩ = w0.cell? ⟨b, o, none⟩ := fun o => R.below.cell h1
        rw [e, e]; exact h3 i hi
    have := crash_dev hF hN A n c hn ks hk
    rwa [he] at this)
end
end Go.Proofs.YtnphgaiiiiknpaaDoor
