/- The device layer: Flush. -/
import Derived.Test.YtnbdnnlomgjlmaaDev9
namespace Go.Proofs.Ytnbdnnlomgjlmaa
open Go.RowKit
set_option linter.unusedSimpArgs false
set_option linter.unusedVariables false
set_option maxRecDepth 100000
theorem putCells_get (l : List (Nat × List UInt8)) (hl : ∀ x ∈ l, x.2.length = 256) (k j : Nat) (a : Nat) (b : List UInt8) (hk : l[k]? = some (a, b)) (hj : j < 257) : (putCells l)[k * 257 + j]? = (putV a b).toList[j]? := by
  induction l generalizing k with
  | nil => simp at hk
  | cons x l ih =>
    have hx : (.int .u32 (x.1 : Int) :: x.2.map vu8 : List Value).length = 257 := by simp [hl x (by simp)]
    have e : putCells (x :: l) = (.int .u32 (x.1 : Int) :: x.2.map vu8) ++ putCells l := by simp [putCells]
    rw [e]
    cases k with
    | zero =>
      simp at hk
      subst hk
      rw [Nat.zero_mul, Nat.zero_add, List.getElem?_append_left (by rw [hx]; exact hj)]
      simp [putV]
    | succ k =>
      rw [List.getElem?_append_right (by rw [hx]; omega), hx]
      have := ih (fun y hy => hl y (by simp [hy])) k (by simpa using hk)
      rw [show (k + 1) * 257 + j - 257 = k * 257 + j by omega]
      exact this
theorem pend_range {w : World} {gp n cap : Nat} {l : List (Nat × List UInt8)} (h : w.ownsRow 0 114 257 (.slice (some ⟨gp, 0, none⟩) n cap) l.length (putCells l)) (hl : ∀ x ∈ l, x.2.length = 256) (k a : Nat) (b : List UInt8) (hk : l[k]? = some (a, b)) : w.rangeAt gp (k * 257) (putV a b).toList := by
  intro j v hv
  rcases h.2 with ⟨h0, _⟩ | ⟨g, cap', cur, e, _, hg, _, _, _, hcur⟩
  · cases h0
  · simp only [Value.slice.injEq, Option.some.injEq, Addr.mk.injEq] at e
    obtain ⟨⟨rfl, _, _⟩, _, _⟩ := e
    rw [cell_of_row w gp _ _ _ _ hg]
    have hb : b.length = 256 := hl (a, b) (List.mem_of_getElem? hk)
    have hj : j < 257 := by
      have := (List.getElem?_eq_some_iff.1 hv).1
      simpa [size_putV a b hb] using this
    have hkl : k < l.length := (List.getElem?_eq_some_iff.1 hk).1
    have h1 := putCells_get l hl k j a b hk hj
    rw [hv, ← hcur, List.getElem?_take, if_pos (by
      have : (k + 1) * 257 ≤ l.length * 257 := Nat.mul_le_mul_right _ hkl
      omega)] at h1
    simpa using h1
set_option maxHeartbeats 2000000 in
theorem flush_dev {F : List Nat} {w : World} {g : Nat} {s : Dv} (h : (dvT g s).says F w) (hn : F.Nodup) :
    Calls Try.prog 42 #[.pointer (some ⟨g, 0, none⟩)] w fun e w' => e = .returned (.int .i64 s.flush.2) ∧ Turns F w w' (dvT g s.flush.1) := by
  have H := Lib.hid h
  have HN := Lib.hid hn
  have HAT : Hid ((dvT g s).at w) := Lib.hid ⟨F, h⟩
  clear h hn
  have hE : upE s [] = if s.down then 30 else 0 := rfl
  have HE := Lib.hid hE
  clear hE
  cases hd : s.down with
  | true =>
    have HD := Lib.hid hd
    clear hd
    have HFL : Hid (s.flush = (s, 30)) := Lib.hid (by unfold Dv.flush; rw [HD.out, if_pos rfl])
    go_enter Try.func42, Try.ntmps42
    go_wp2_with (go_at_call 68; refine (up_dev HAT.out _ [] (by simp) .none (by simp)).mono ?_; rintro e w1 ⟨rfl, hb⟩; have HB1 := Lib.hid hb; clear hb; rw [HE.out, HD.out, if_pos rfl])
    go_ret
    rw [HFL.out]
    exact ⟨rfl, dv_same H.out HN.out HB1.out⟩
  | false =>
    have HD := Lib.hid hd
    clear hd
    by_cases hf : s.fuse = some 0
    · have HFL : Hid (s.flush = s.burn ∧ s.burn.2 = 30) := Lib.hid ⟨by unfold Dv.flush; rw [HD.out, if_neg (by decide), if_pos hf], by unfold Dv.burn; rw [hf]⟩
      clear hf
      go_enter Try.func42, Try.ntmps42
      go_wp2_with (first
        | (go_at_call 68; refine (up_dev HAT.out _ [] (by simp) .none (by simp)).mono ?_; rintro e w1 ⟨rfl, hb⟩; have HB1 := Lib.hid hb; clear hb; rw [HE.out, HD.out, if_neg (by decide)])
        | (go_at_call 70; refine (burn_dev ((dvT g s).loc F w w1 (fun b hb' => HB1.out.block b ((dvT g s).lt F w H.out b hb')) H.out) HN.out).mono ?_; rintro e w2 ⟨rfl, ht⟩; have HT := Lib.hid ht; clear ht; rw [HFL.out.2]))
      go_ret
      rw [HFL.out.1]
      exact ⟨by rw [HFL.out.2]; rfl, (Only.of_below HB1.out).turns (fun b hb => .inl hb) HT.out⟩
    · have HFL : Hid (s.flush = ({ s.burn.1 with good := putAllB s.good s.pend, pend := [] }, 0) ∧ s.burn.2 = 0 ∧ s.burn.1.good = s.good ∧ s.burn.1.pend = s.pend) := Lib.hid (by
        refine ⟨by unfold Dv.flush; rw [HD.out, if_neg (by decide), if_neg hf], ?_⟩
        unfold Dv.burn
        split
        · rename_i h; exact absurd h hf
        · exact ⟨rfl, rfl, rfl⟩
        · exact ⟨rfl, rfl, rfl⟩)
      clear hf
      go_enter Try.func42, Try.ntmps42
      go_upto_region 7 with (first
        | (go_at_call 68; refine (up_dev HAT.out _ [] (by simp) .none (by simp)).mono ?_; rintro e w1 ⟨rfl, hb⟩; have HB1 := Lib.hid hb; clear hb; rw [HE.out, HD.out, if_neg (by decide)])
        | (go_at_call 70; refine (burn_dev ((dvT g s).loc F w w1 (fun b hb' => HB1.out.block b ((dvT g s).lt F w H.out b hb')) H.out) HN.out).mono ?_; rintro e w2 ⟨rfl, ht⟩; have HT := Lib.hid ht; clear ht; rw [HFL.out.2.1]))
      obtain ⟨G, ⟨gm, pv, fv, hG, hV⟩, hO, hGF, hGN⟩ := HT.out
      obtain ⟨d, hd⟩ : ∃ d, d = s.burn.1 := ⟨_, rfl⟩
      rw [← hd] at hV
      have hdp : d.pend = s.pend := by rw [hd]; exact HFL.out.2.2.2
      have hdg : d.good = s.good := by rw [hd]; exact HFL.out.2.2.1
      obtain ⟨A, c, hpv⟩ := own_len hV.pend
      subst hpv
      have h2 : w2.cell? ⟨g, 2, none⟩ = some (.slice A d.pend.length c) := cell_of_row w2 g 2 _ _ _ hV.row
      have HV := Lib.hid hV
      have HG := Lib.hid hG
      have HGN := Lib.hid hGN
      have HAP := Lib.hid (dv_apart (hG ▸ hGN))
      have HOW : Hid (Only F w w2) := Lib.hid ((Only.of_below HB1.out).trans hO)
      have HGW : Hid (∀ b ∈ G, b ∈ F ∨ w.heap.size ≤ b) := Lib.hid (fun b hb => by
        rcases hGF b hb with h | h
        · exact .inl h
        · exact .inr (Nat.le_trans HB1.out.size h))
      have HDP := Lib.hid hdp
      have HDG := Lib.hid hdg
      have HDD := Lib.hid hd
      obtain ⟨n, hn⟩ : ∃ n, n = d.pend.length := ⟨_, rfl⟩
      rw [← hn] at h2
      have HNN := Lib.hid hn
      have hnb : n ≤ 9223372036854775807 := by
        rw [hn]
        rcases hV.pend.2 with ⟨_, h0⟩ | ⟨_, cap, _, _, _, _, hc, hm, _⟩
        · omega
        · unfold maxLen at hm; omega
      clear hV hG hGN hO hGF hd hdp hdg hn
      go_wp2_with fail
      go_loopw [22] (fun i wr => ∃ k : Nat, k ≤ n ∧ i = .int .i64 (k : Int) ∧ DvV wr g gm (.slice A d.pend.length c) fv { d with good := putAllB d.good (d.pend.take k) } ∧ Only [gm] w2 wr) (fun i _ => n - (intOf i).toNat)
      case atStart => exact ⟨0, by omega, rfl, HV.out, Only.refl _ _⟩
      case round =>
        obtain ⟨k, hk, rfl, hVr, hOr⟩ := hrel
        have HVR := Lib.hid hVr
        have HOR := Lib.hid hOr
        clear hVr hOr
        by_cases hlt : k < n
        · have hkl : k < d.pend.length := by rw [← HNN.out]; exact hlt
          obtain ⟨⟨a, b⟩, hab⟩ : ∃ x, x = d.pend[k] := ⟨_, rfl⟩
          have hgk : d.pend[k]? = some (a, b) := by rw [List.getElem?_eq_getElem hkl, hab]
          obtain ⟨gp, hA⟩ : ∃ gp, A = some ⟨gp, 0, none⟩ := by
            rcases HVR.out.pend.2 with ⟨_, h0⟩ | ⟨gp, _, _, e, _⟩
            · simp only at h0; omega
            · simp only [Value.slice.injEq] at e; exact ⟨gp, e.1⟩
          subst hA
          have hbl := HV.out.ok.pend (a, b) (List.mem_of_getElem? hgk)
          have hrange : wr.rangeAt gp (k * 257) (putV a b).toList := pend_range HVR.out.pend (fun x hx => (HV.out.ok.pend x hx).2) k a b hgk
          have hps := size_putV a b hbl.2
          have HRG := Lib.hid hrange
          have HPS := Lib.hid hps
          have HBL := Lib.hid hbl
          have HGK := Lib.hid hgk
          have hgood : putAllB d.good (d.pend.take (k + 1)) = updB (putAllB d.good (d.pend.take k)) a b := by
            rw [List.take_succ_eq_append_getElem hkl, putAllB_snoc, ← hab]
          have HGD := Lib.hid hgood
          have hnd : (dvFoot g gm (.slice (some ⟨gp, 0, none⟩) d.pend.length c) fv).Nodup := HG.out ▸ HGN.out
          have HND := Lib.hid hnd
          clear hrange hps hbl hgk hab hgood hnd
          go_wp2_with (first
            | refine wpList_load_arr rfl 114 _ rfl gp (k * 257) rfl (putV a b) _ HRG.out Try.underlying114 rfl (by rw [HPS.out]; exact sizePut) ?_
            | refine wpList_alloc_row rfl 114 rfl _ zeroPut ?_
            | refine wpList_store_new rfl 114 _ _ rfl _ (putV a b) _ rfl rfl (by rw [HPS.out]; exact sizePut) (by rw [HPS.out]; rfl) (putV_one a b) ?_
            | refine wpList_load_row rfl 114 _ rfl wr.heap.size rfl 114 (putV a b) (0, 0) _ (heap_alloc_new _ _) Try.underlying114 rfl (by rw [HPS.out]; exact sizePut) ?_
            | (go_at_call 71; refine (put_devV (HVR.out.below ((Below.refl _ _).alloc (Nat.le_refl _) _)) HND.out a b HBL.out.1 HBL.out.2).mono ?_; rintro e w4 ⟨rfl, hv4, ho4⟩; have HV4 := Lib.hid hv4; have HO4 := Lib.hid ho4; clear hv4 ho4))
          refine ⟨⟨k + 1, by omega, rfl, by rw [HGD.out]; exact HV4.out, ?_⟩, by simp [intOf]; omega⟩
          exact (HOR.out.trans (Only.of_below ((Below.refl _ _).alloc (Nat.le_refl _) _))).trans' HO4.out (fun x hx _ => hx)
        · obtain rfl : k = n := by omega
          have hz : ¬ ((k : Int) < (k : Int)) := by omega
          have hrow := HVR.out.row
          have c2 : wr.cell? ⟨g, 2, none⟩ = some (.slice A d.pend.length c) := cell_of_row wr g 2 _ _ _ hrow
          have f2 : wr.frozen? ⟨g, 2, none⟩ = false := frozen_of_row wr g 2 _ _ hrow
          have htk : d.pend.take k = d.pend := List.take_of_length_le (by rw [HNN.out]; exact Nat.le_refl _)
          have hap2 : DvApart g gm (.slice none 0 0) fv := ⟨HAP.out.map, fun b hb => by simp [Value.ownBlock] at hb, fun b hb => ⟨(HAP.out.fuse b hb).1, (HAP.out.fuse b hb).2.1, by simp [Value.ownBlock]⟩⟩
          have hV3 : DvV (wr.setCell ⟨g, 2, none⟩ (.slice none 0 0)) g gm (.slice none 0 0) fv { d with good := putAllB d.good d.pend, pend := [] } := by
            have ho : ∀ b, b ≠ g → (wr.setCell ⟨g, 2, none⟩ (.slice none 0 0)).heap[b]? = wr.heap[b]? := fun b hb => heap_setCell_other _ _ _ _ hb
            refine ⟨?_, ?_, World.ownsRow_nil _ _ _ _, ?_, ⟨HV.out.ok.size, putAllB_length HV.out.ok.good _ (fun y hy => (HV.out.ok.pend y hy).2), by simp, HV.out.ok.fuse, HV.out.ok.writes⟩⟩
            · rw [heap_setCell_same wr g 2 _ _ _ hrow]; simp [dvCells]
            · have := HVR.out.good.kept (ho gm HAP.out.map)
              rwa [htk] at this
            · have hfu := HVR.out.fuse
              simp only at hfu ⊢
              unfold fuseAt at hfu ⊢
              split at hfu
              · exact hfu
              · obtain ⟨gf, rfl, hgf⟩ := hfu
                exact ⟨gf, rfl, (ho gf (HAP.out.fuse gf (by simp [ptrBlock])).1).trans hgf⟩
          have hT : Turns F w (wr.setCell ⟨g, 2, none⟩ (.slice none 0 0)) (dvT g { d with good := putAllB d.good d.pend, pend := [] }) := by
            have hgG : g ∈ G := by rw [HG.out]; simp [dvFoot]
            have hgmG : gm ∈ G := by rw [HG.out]; simp [dvFoot]
            have hO1 : Only F w wr := HOW.out.trans' HOR.out (fun x hx hlt => by
              simp at hx; subst hx
              rcases HGW.out x hgmG with h | h
              · exact h
              · omega)
            refine ⟨_, ⟨gm, _, fv, rfl, hV3⟩, hO1.setCell ?_ _, ?_, dv_foot hap2⟩
            · exact HGW.out g hgG
            · intro b hb
              refine HGW.out b ?_
              rw [HG.out]
              simp only [dvFoot, List.mem_cons, List.mem_append, Value.ownBlock, Option.toList_none, List.not_mem_nil, false_or] at hb ⊢
              rcases hb with h | h | h
              · exact .inl h
              · exact .inr (.inl h)
              · exact .inr (.inr (.inr h))
          have HT3 := Lib.hid hT
          clear hT hV3 hap2 hrow htk
          go_wp2
          go_ret
          have := HT3.out
          rw [HDG.out, HDP.out, HDD.out] at this
          rw [HFL.out.1]
          exact ⟨rfl, this⟩
end Go.Proofs.Ytnbdnnlomgjlmaa
