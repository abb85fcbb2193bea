/- The root layer: turn's parts: the closure that writes blocks, the closure that writes the root, steps. The root layer: Commit. -/
import Derived.Test.YtnphgaiiiiknpaaDoorRootMath
namespace Go.Proofs.YtnphgaiiiiknpaaDoor
open Go.RowKit
set_option linter.unusedSimpArgs false
set_option linter.unusedVariables false
set_option maxRecDepth 100000
/-- A row of blocks that are to be written. -/
structure PutsIn (w : World) (A : Option Addr) (n : Nat) (l : List (Nat × List UInt8)) : Prop where
  len : l.length = n
  at_ : n = 0 ∨ ∃ b off, A = some ⟨b, off, none⟩ ∧ b < w.heap.size ∧ ∀ i, (hi : i < l.length) → w.rangeAt b (off + i * 257) (putV l[i].1 l[i].2).toList
  ok : ∀ x ∈ l, x.1 < 4294967296 ∧ x.2.length = 256
theorem PutsIn.below {w w' : World} {A : Option Addr} {n : Nat} {l : List (Nat × List UInt8)} (h : PutsIn w A n l) (hb : Below w.heap.size w w') : PutsIn w' A n l := by
  refine ⟨h.len, ?_, h.ok⟩
  rcases h.at_ with h0 | ⟨b, off, rfl, h1, h2⟩
  · exact .inl h0
  · exact .inr ⟨b, off, rfl, Nat.lt_of_lt_of_le h1 hb.size, fun i hi => rangeAt_bel (h2 i hi) h1 hb⟩
theorem PutsIn.nil (w : World) : PutsIn w none 0 [] := ⟨rfl, .inl rfl, by simp⟩
theorem PutsIn.cells {w : World} {A : Option Addr} {n : Nat} {l : List (Nat × List UInt8)} (h : PutsIn w A n l) (i : Nat) (hi : i < l.length) : ∃ b off, A = some ⟨b, off, none⟩ ∧ b < w.heap.size ∧ w.rangeAt b (off + i * 257) (putV l[i].1 l[i].2).toList := by
  rcases h.at_ with h0 | ⟨b, off, e, h1, h2⟩
  · have := h.len; omega
  · exact ⟨b, off, e, h1, h2 i hi⟩
theorem write_pend (s : Dv) (a : Nat) (b : List UInt8) : (s.write a b).1.pend.length ≤ s.pend.length + 1 := by
  unfold Dv.write
  split
  · simp
  · split
    · simp
    · unfold Dv.burn
      split <;> simp
theorem Held.from2 {w0 W : World} {x : Thing} {l : List Thing} (k : Nat) (R : Held w0 W (x :: l)) : Held w0 W (x :: l.drop k) := by
  have p : (x :: l).Perm (l.take k ++ x :: l.drop k) := by
    conv => lhs; rw [← List.take_append_drop k l]
    exact List.perm_middle.symm
  have h := (R.perm p).drop (l.take k).length
  rwa [List.drop_left] at h
section
variable {w0 W : World} {g : Nat} {s : Dv} {tl : List Thing}
set_option maxHeartbeats 2000000 in
theorem blocks_is (gr gl gd : Nat) (rc : Array Value) (A : Option Addr) (n c : Nat) (l : List (Nat × List UInt8)) (hn : n ≤ 9223372036854775807)
    (R : Held w0 W (dvT g s :: rowT gr rc 34 :: rowT gl #[.slice A n c] 35 :: rowT gd #[.pointer (some ⟨g, 0, none⟩)] 39 :: tl))
    (hp : ∀ (W' : World) (t : Dv), Held w0 W' (dvT g t :: tl) → PutsIn W' A n l) (hlen : s.pend.length + n < 100000) :
    Calls Tryd.prog 47 #[.pointer (some ⟨gl, 0, none⟩), .pointer (some ⟨gd, 0, none⟩)] W fun e w' => e = .returned (.int .i64 (writeAll l s).2) ∧
      Held w0 w' (dvT g (writeAll l s).1 :: rowT gr rc 34 :: rowT gl #[.slice A n c] 35 :: rowT gd #[.pointer (some ⟨g, 0, none⟩)] 39 :: tl) := by
  have HP := Lib.hid hp
  have R0 := Lib.hid R
  have hll : l.length = n := (hp W s (R.from2 3)).len
  have HLL := Lib.hid hll
  have HLEN := Lib.hid hlen
  obtain ⟨p, hpE⟩ : ∃ p, p = writeAll l s := ⟨_, rfl⟩
  have HPE := Lib.hid hpE
  rw [← hpE]
  obtain ⟨m, hm⟩ : ∃ m, m = s.pend.length := ⟨_, rfl⟩
  have HMM := Lib.hid hm
  clear hp hll hlen R hpE hm
  have cl : W.cell? ⟨gl, 0, none⟩ = some (.slice A n c) := R0.out.cell 2 0 rfl rfl
  go_enter Tryd.func47, Tryd.ntmps47
  go_wp2_with fail
  clear cl
  go_loopw [8] (fun i wr => ∃ (k : Nat) (t : Dv), k ≤ n ∧ i = .int .i64 (k : Int) ∧ Held w0 wr (dvT g t :: rowT gr rc 34 :: rowT gl #[.slice A n c] 35 :: rowT gd #[.pointer (some ⟨g, 0, none⟩)] 39 :: tl) ∧ t.pend.length ≤ m + k ∧ p = writeAll (l.drop k) t) (fun i _ => n - (intOf i).toNat)
  case atStart => exact ⟨0, s, by omega, rfl, R0.out, by rw [HMM.out]; omega, HPE.out⟩
  case round =>
    obtain ⟨k, t, hk, rfl, hR, hpl, hw⟩ := hrel
    have HR := Lib.hid hR
    have HPL := Lib.hid hpl
    have HWA := Lib.hid hw
    clear hR hpl hw
    by_cases hlt : k < n
    · have hkl : k < l.length := by rw [HLL.out]; exact hlt
      have hpi := HP.out wr t (HR.out.from2 3)
      obtain ⟨b, off, hA, hb, hr⟩ := hpi.cells k hkl
      subst hA
      have hx := hpi.ok _ (List.getElem_mem hkl)
      have hdr : l.drop k = l[k] :: l.drop (k + 1) := List.drop_eq_getElem_cons hkl
      generalize l[k]'hkl = x at hr hx hdr
      obtain ⟨a, B⟩ := x
      simp only at hr hx
      obtain ⟨t', E, hE⟩ : ∃ t' E, t.write a B = (t', E) := ⟨_, _, rfl⟩
      have hw2 := HWA.out
      rw [hdr] at hw2
      have hw3 : p = thenE (t', E) (fun t => writeAll (l.drop (k + 1)) t) := by rw [hw2]; show thenE (t.write a B) _ = _; rw [hE]
      have hpl2 : t'.pend.length ≤ m + (k + 1) := by have h1 := write_pend t a B; rw [hE] at h1; have h2 := HPL.out; simp only at h1; omega
      have hpl3 : t.pend.length < 100000 := by have h2 := HPL.out; have h1 := HLEN.out; rw [← HMM.out] at h1; omega
      have HPS : Hid ((putV a B).size = 257) := Lib.hid (size_putV a B hx.2)
      have HRG := Lib.hid hr
      have HE := Lib.hid hE
      have HX := Lib.hid hx
      have HW3 := Lib.hid hw3
      have HPL2 := Lib.hid hpl2
      have HPL3 := Lib.hid hpl3
      have HBL := Lib.hid hb
      clear hr hx hdr hE hw2 hw3 hpl2 hpl3 hpi hb hkl
      have q1 := HR.out.alloc2 (putV a B) 47
      go_upto_region 4 with (first
        | refine wpList_load_arr rfl 47 _ rfl b (off + k * 257) rfl (putV a B) _ HRG.out Tryd.underlying47 rfl (by rw [HPS.out]; exact sizePut) ?_
        | refine wpList_alloc_row rfl 47 rfl _ zeroPut ?_
        | refine wpList_store_new rfl 47 _ _ rfl _ (putV a B) _ rfl rfl (by rw [HPS.out]; exact sizePut) (by rw [HPS.out]; rfl) (putV_one a B) ?_)
      obtain ⟨W4, hW⟩ : ∃ W, W = wr.alloc (.cells (putV a B) 47) := ⟨_, rfl⟩
      rw [← hW] at q1 ⊢
      clear hW
      obtain ⟨g4, hg⟩ : ∃ g, g = wr.heap.size := ⟨_, rfl⟩
      rw [← hg] at q1 ⊢
      clear hg
      have R4 := Lib.hid q1
      clear q1
      have cd : W4.cell? ⟨gd, 0, none⟩ = some (.pointer (some ⟨g, 0, none⟩)) := R4.out.cell 4 0 rfl rfl
      have ca : W4.cell? ⟨g4, 0, none⟩ = some (.int .u32 (a : Int)) := R4.out.cell 1 0 rfl rfl
      have hmid := putV_range (R4.out.get 1 rfl)
      have HMID := Lib.hid hmid
      clear hmid
      have hBs : (blk B).size = 256 := by rw [size_blk, HX.out.2]
      have HBS := Lib.hid hBs
      clear hBs
      go_upto_region 5 with (first
        | refine wpList_load_arr rfl 45 _ rfl g4 1 rfl (blk B) _ HMID.out Tryd.underlying45 rfl (by rw [HBS.out]; exact sizeB) ?_
        | (go_at_call 18; refine (write_is R4.out HPL3.out a B HX.out.1 HX.out.2 HE.out).mono ?_; rintro e w5 ⟨rfl, hR⟩; have R5 := Lib.hid (hR.from2 1); clear hR))
      clear cd ca HMID R4
      have R6 := Lib.hid (show Held w0 w5 (dvT g t' :: rowT gr rc 34 :: rowT gl #[.slice (some ⟨b, off, none⟩) n c] 35 :: rowT gd #[.pointer (some ⟨g, 0, none⟩)] 39 :: tl) from R5.out)
      clear R5
      by_cases hE0 : E = 0
      · subst hE0
        have HW4 : Hid (p = writeAll (l.drop (k + 1)) t') := Lib.hid (by rw [HW3.out]; rfl)
        go_wp2_with fail
        exact ⟨⟨k + 1, t', by omega, by simp, R6.out, HPL2.out, HW4.out⟩, by simp [intOf]; omega⟩
      · have HW4 : Hid (p = (t', E)) := Lib.hid (by rw [HW3.out]; exact thenE_no rfl hE0)
        go_wp2_with fail
        go_ret
        exact ⟨by rw [HW4.out]; rfl, by rw [HW4.out]; exact R6.out⟩
    · obtain rfl : k = n := by omega
      have hz : ¬ ((k : Int) < (k : Int)) := by omega
      have HW4 : Hid (p = (t, 0)) := Lib.hid (by rw [HWA.out, List.drop_of_length_le (by rw [HLL.out]; exact Nat.le_refl _)]; rfl)
      go_wp2_with fail
      go_ret
      exact ⟨by rw [HW4.out]; rfl, by rw [HW4.out]; exact HR.out⟩
set_option maxHeartbeats 2000000 in
theorem last_is (gr gl gd : Nat) (r : Root) (hr : r.Ok) (lv : Value)
    (R : Held w0 W (dvT g s :: rowT gr r.cells 34 :: rowT gl #[lv] 35 :: rowT gd #[.pointer (some ⟨g, 0, none⟩)] 39 :: tl)) (hlen : s.pend.length < 100000) :
    Calls Tryd.prog 48 #[.pointer (some ⟨gr, 0, none⟩), .pointer (some ⟨gd, 0, none⟩)] W fun e w' => e = .returned (.int .i64 (s.lastW r).2) ∧
      Held w0 w' (dvT g (s.lastW r).1 :: rowT gr r.cells 34 :: rowT gl #[lv] 35 :: rowT gd #[.pointer (some ⟨g, 0, none⟩)] 39 :: tl) := by
  have R0 := Lib.hid R
  have HPUT := Lib.hid (rput_all r hr)
  have HLEN := Lib.hid hlen
  have hbl := length_rputB r
  have hs2 : s.lastW r = if r.putE = 0 then s.write (r.gen % 2) r.putB else (s, r.putE) := rfl
  obtain ⟨t, E, hE⟩ : ∃ t E, s.write (r.gen % 2) r.putB = (t, E) := ⟨_, _, rfl⟩
  obtain ⟨B, hB⟩ : ∃ B, B = r.putB := ⟨_, rfl⟩
  obtain ⟨PE, hPE⟩ : ∃ E, E = r.putE := ⟨_, rfl⟩
  rw [hE] at hs2
  rw [← hPE] at HPUT hs2
  rw [← hB] at hE HPUT hbl
  rw [hs2]
  have hgl := hr.gen
  have HE := Lib.hid hE
  have HBL := Lib.hid hbl
  have cg : ∀ V : World, Held w0 V (dvT g s :: rowT gr r.cells 34 :: rowT gl #[lv] 35 :: rowT gd #[.pointer (some ⟨g, 0, none⟩)] 39 :: tl) → V.cell? ⟨gr, 0, none⟩ = some (.int .u64 (r.gen : Int)) := fun V h => h.cell 1 0 rfl rfl
  have CG := Lib.hid cg
  obtain ⟨gen, hgen⟩ : ∃ x, x = r.gen := ⟨_, rfl⟩
  rw [← hgen] at HE CG hgl
  obtain ⟨a, ha⟩ : ∃ x, x = gen % 2 := ⟨_, rfl⟩
  rw [← ha] at HE
  obtain ⟨rc, hrc⟩ : ∃ x, x = r.cells := ⟨_, rfl⟩
  have hrs : rc.size = 8 := by rw [hrc]; rfl
  rw [← hrc] at HPUT CG R0 ⊢
  have HRS := Lib.hid hrs
  have hmd : ((gen : Int) % 2) = (a : Int) := by omega
  have hmd2 : Int.tmod (gen : Int) 2 = (a : Int) := by rw [Int.tmod_eq_emod_of_nonneg (by omega)]; omega
  have hw3 : IntKind.u32.wrap (a : Int) = (a : Int) := by rw [IntKind.wrap_u32]; omega
  have ha2 : a < 2 := by omega
  have HA2 := Lib.hid ha2
  clear hs2 hE hB hPE hbl hlen R cg hgen ha hgl hr hrc hrs ha2
  go_enter Tryd.func48, Tryd.ntmps48
  go_upto_region 1 with (fail)
  go_upto_region 2 with (first
    | refine wpList_load_row rfl 34 _ rfl gr rfl 34 rc (0, 0) _ (R0.out.get 1 rfl) Tryd.underlying34 rfl (by rw [HRS.out]; exact sizeR) ?_
    | (go_at_call 49; refine (HPUT.out _).mono ?_; rintro e w1 ⟨rfl, hb⟩; have R1 := Lib.hid (R0.out.call hb); clear hb)
    | refine wpList_alloc_row rfl 45 rfl _ zeroB ?_
    | refine wpList_store_new rfl 45 _ _ rfl _ (blk B) _ rfl rfl (by rw [size_blk, HBL.out]; exact sizeB) (by rw [size_blk, HBL.out, size_zeros]) (blk_one _) ?_)
  have cg1 := CG.out w1 R1.out
  have q1 := R1.out.alloc2 (blk B) 45
  obtain ⟨W2, hW⟩ : ∃ W, W = w1.alloc (.cells (blk B) 45) := ⟨_, rfl⟩
  rw [← hW] at q1 ⊢
  clear hW
  obtain ⟨g2, hg⟩ : ∃ g, g = w1.heap.size := ⟨_, rfl⟩
  rw [← hg] at q1 ⊢
  clear hg
  have R2 := Lib.hid q1
  clear q1
  have cd : W2.cell? ⟨gd, 0, none⟩ = some (.pointer (some ⟨g, 0, none⟩)) := R2.out.cell 4 0 rfl rfl
  have cg : W2.cell? ⟨gr, 0, none⟩ = some (.int .u64 (gen : Int)) := by
    have := CG.out W2 (R2.out.from2 1)
    exact this
  clear cg1 R1 CG
  by_cases h0 : PE = 0
  · subst h0
    go_wp2_with (first
      | refine wpList_load_row rfl 45 _ rfl g2 rfl 45 (blk B) (0, 0) _ (R2.out.get 1 rfl) Tryd.underlying45 rfl (by rw [size_blk, HBL.out]; exact sizeB) ?_
      | (go_at_call 18; refine (write_is R2.out HLEN.out a B (by have := HA2.out; omega) HBL.out HE.out).mono ?_; rintro e w5 ⟨rfl, hR⟩; have R5 := Lib.hid (hR.from2 1); clear hR))
    go_ret
    exact ⟨rfl, R5.out⟩
  · have h0' : (PE != 0) = true := by simp [h0]
    go_wp2_with fail
    go_ret
    exact ⟨rfl, R2.out.from2 1⟩
/-- A call of a function's value, whatever it answers. -/
theorem wpList_askR {P : Program} {ops : Array Oper} {o : Oper} {a : Act} {rest : List Oper} {w : World} {Q : Exit → Act → World → Prop} (hgd : o.guard = none) (x : Operand) (ts : Array TypeId) (ho : o.op = .call { callee := .value x, args := #[], argTypes := ts })
    (F : FuncId) (first cap : Array Value) (hx : a.eval x = .func (.func F) first cap) (hf : ∃ fn c, P.funcs[F]? = some fn ∧ fn.body = some c ∧ (fn.name == "runtime.NumGoroutine") = false) (v : Value) (R : World → Prop)
    (hc : Calls P F (first ++ cap) w fun e w' => e = .returned v ∧ R w') (hK : ∀ w', R w' → wpList P ops Q rest (a.put o.dst v) w') : wpList P ops Q (o :: rest) a w := by
  obtain ⟨fn, c, hf, hb, hn⟩ := hf
  refine wpList_plain hgd fun K hK' => ?_
  have he : (execOp a.eval o).run P w = .ok (.enter F (first ++ cap)) w := by
    unfold execOp
    simp only [ho, resolve, hx]
    have hn' : ¬ fn.name = "runtime.NumGoroutine" := by simpa using hn
    simp [Deferred.ofValue, invoke, callFunc, hf, hb, hn']
  unfold Oper.wp
  rw [he]
  refine hc.mono ?_
  rintro e w' ⟨rfl, h⟩
  exact hK' _ _ (hK w' h)
/-- What four steps come to. -/
def stepsR (S : Nat → Dv) (E : Nat → Int) : Dv × Int := if E 0 ≠ 0 then (S 1, E 0) else if E 1 ≠ 0 then (S 2, E 1) else if E 2 ≠ 0 then (S 3, E 2) else (S 4, E 3)
theorem stepsR_no (S : Nat → Dv) (E : Nat → Int) (k : Nat) (hk : k < 4) (h : ∀ j, j < k → E j = 0) (hE : E k ≠ 0) : stepsR S E = (S (k + 1), E k) := by
  unfold stepsR
  rcases (by omega : k = 0 ∨ k = 1 ∨ k = 2 ∨ k = 3) with rfl | rfl | rfl | rfl
  · rw [if_pos hE]
  · rw [if_neg (by simp [h 0 (by omega)]), if_pos hE]
  · rw [if_neg (by simp [h 0 (by omega)]), if_neg (by simp [h 1 (by omega)]), if_pos hE]
  · rw [if_neg (by simp [h 0 (by omega)]), if_neg (by simp [h 1 (by omega)]), if_neg (by simp [h 2 (by omega)])]
theorem stepsR_all (S : Nat → Dv) (E : Nat → Int) (h : ∀ j, j < 4 → E j = 0) : stepsR S E = (S 4, 0) := by
  unfold stepsR
  rw [if_neg (by simp [h 0 (by omega)]), if_neg (by simp [h 1 (by omega)]), if_neg (by simp [h 2 (by omega)]), h 3 (by omega)]
set_option maxHeartbeats 2000000 in
theorem steps_is (b : Nat) (T : TypeId) (cs : Array Value) (S : Nat → Dv) (E : Nat → Int) (F : Nat → FuncId) (first cap : Nat → Array Value)
    (hcs : ∀ k, k < 4 → cs[k]? = some (.func (.func (F k)) (first k) (cap k)))
    (hex : ∀ k, k < 4 → ∃ fn c, Tryd.prog.funcs[F k]? = some fn ∧ fn.body = some c ∧ (fn.name == "runtime.NumGoroutine") = false)
    (R : Held w0 W (dvT g (S 0) :: rowT b cs T :: tl))
    (hc : ∀ k, k < 4 → (∀ j, j < k → E j = 0) → ∀ W', Held w0 W' (dvT g (S k) :: rowT b cs T :: tl) → Calls Tryd.prog (F k) (first k ++ cap k) W' fun e w' => e = .returned (.int .i64 (E k)) ∧ Held w0 w' (dvT g (S (k + 1)) :: rowT b cs T :: tl)) :
    Calls Tryd.prog 50 #[.slice (some ⟨b, 0, none⟩) 4 4] W fun e w' => e = .returned (.int .i64 (stepsR S E).2) ∧ Held w0 w' (dvT g (stepsR S E).1 :: rowT b cs T :: tl) := by
  have HCS := Lib.hid hcs
  have HEX := Lib.hid hex
  have R0 := Lib.hid R
  have HC := Lib.hid hc
  clear hcs hex R hc
  go_enter Tryd.func50, Tryd.ntmps50
  go_wp2_with fail
  go_loopw [8] (fun i wr => ∃ (k : Nat), k ≤ 4 ∧ i = .int .i64 (k : Int) ∧ (∀ j, j < k → E j = 0) ∧ Held w0 wr (dvT g (S k) :: rowT b cs T :: tl)) (fun i _ => 4 - (intOf i).toNat)
  case atStart => exact ⟨0, by omega, rfl, by omega, R0.out⟩
  case round =>
    obtain ⟨k, hk, rfl, hz, hR⟩ := hrel
    have HZ := Lib.hid hz
    have HR := Lib.hid hR
    clear hz hR
    by_cases hlt : k < 4
    · have hcell : wr.cell? ⟨b, k, none⟩ = some (.func (.func (F k)) (first k) (cap k)) := HR.out.cell 1 k rfl (HCS.out k hlt)
      have HCK := Lib.hid (HC.out k hlt HZ.out)
      have HXK := Lib.hid (HEX.out k hlt)
      obtain ⟨f, hf⟩ : ∃ f, f = F k := ⟨_, rfl⟩
      obtain ⟨f1, hf1⟩ : ∃ f, f = first k := ⟨_, rfl⟩
      obtain ⟨f2, hf2⟩ : ∃ f, f = cap k := ⟨_, rfl⟩
      obtain ⟨ek, hek⟩ : ∃ f, f = E k := ⟨_, rfl⟩
      have HEK := Lib.hid hek
      rw [← hf, ← hf1, ← hf2] at hcell
      rw [← hf, ← hf1, ← hf2, ← hek] at HCK
      rw [← hf] at HXK
      clear hf hf1 hf2 hek
      go_wp2_with (refine wpList_askR rfl _ _ rfl f f1 f2 rfl HXK.out _ _ (HCK.out _ HR.out) ?_; intro w2 hR2; have R2 := Lib.hid hR2; clear hR2)
      · rename_i hr
        go_ret
        have hr' : E k ≠ 0 := by rw [← HEK.out]; simpa using hr
        have := stepsR_no S E k hlt HZ.out hr'
        rw [this, ← HEK.out]
        exact ⟨rfl, R2.out⟩
      · rename_i hr
        have hr' : E k = 0 := by rw [← HEK.out]; simpa using hr
        refine ⟨⟨k + 1, by omega, by simp, fun j hj => ?_, R2.out⟩, by simp [intOf]; omega⟩
        rcases (by omega : j < k ∨ j = k) with h | rfl
        · exact HZ.out j h
        · exact hr'
    · obtain rfl : k = 4 := by omega
      go_wp2_with fail
      go_ret
      rw [stepsR_all S E HZ.out]
      exact ⟨rfl, HR.out⟩
def turnS (s : Dv) (l : List (Nat × List UInt8)) (r : Root) : Nat → Dv
  | 0 => s
  | 1 => (writeAll l s).1
  | 2 => (writeAll l s).1.flush.1
  | 3 => ((writeAll l s).1.flush.1.lastW r).1
  | _ => ((writeAll l s).1.flush.1.lastW r).1.flush.1
def turnE (s : Dv) (l : List (Nat × List UInt8)) (r : Root) : Nat → Int
  | 0 => (writeAll l s).2
  | 1 => (writeAll l s).1.flush.2
  | 2 => ((writeAll l s).1.flush.1.lastW r).2
  | _ => ((writeAll l s).1.flush.1.lastW r).1.flush.2
theorem turn_steps (s : Dv) (l : List (Nat × List UInt8)) (r : Root) : stepsR (turnS s l r) (turnE s l r) = s.turn l r := by
  unfold Dv.turn
  have hth : ∀ (p : Dv × Int) (f : Dv → Dv × Int), thenE p f = if p.2 ≠ 0 then (p.1, p.2) else f p.1 := fun p f => by
    unfold thenE; by_cases h : p.2 = 0 <;> simp [h]
  unfold stepsR turnS turnE
  simp only [hth]
  by_cases h0 : (writeAll l s).2 = 0
  · by_cases h1 : (writeAll l s).1.flush.2 = 0
    · by_cases h2 : ((writeAll l s).1.flush.1.lastW r).2 = 0 <;> simp [h0, h1, h2]
    · simp [h0, h1]
  · simp [h0]
theorem flush_pend (s : Dv) (h : s.flush.2 = 0) : s.flush.1.pend = [] := by
  unfold Dv.flush at h ⊢
  by_cases hd : s.down = true
  · rw [if_pos hd] at h; cases h
  · rw [if_neg hd] at h ⊢
    by_cases hf : s.fuse = some 0
    · rw [if_pos hf] at h
      unfold Dv.burn at h
      simp only [hf] at h
      cases h
    · rw [if_neg hf]
/-- The four functions that turn hands to steps. -/
def turnF : Nat → FuncId
  | 0 => 47
  | 1 => 19
  | 2 => 48
  | _ => 19
def turnA (g : Nat) : Nat → Array Value
  | 0 => #[]
  | 1 => #[.pointer (some ⟨g, 0, none⟩)]
  | 2 => #[]
  | _ => #[.pointer (some ⟨g, 0, none⟩)]
def turnC (gr gl gd : Nat) : Nat → Array Value
  | 0 => #[.pointer (some ⟨gl, 0, none⟩), .pointer (some ⟨gd, 0, none⟩)]
  | 1 => #[]
  | 2 => #[.pointer (some ⟨gr, 0, none⟩), .pointer (some ⟨gd, 0, none⟩)]
  | _ => #[]
def turnCells (g gr gl gd : Nat) : Array Value := #[.func (.func 47) #[] #[.pointer (some ⟨gl, 0, none⟩), .pointer (some ⟨gd, 0, none⟩)], .func (.func 19) #[.pointer (some ⟨g, 0, none⟩)] #[], .func (.func 48) #[] #[.pointer (some ⟨gr, 0, none⟩), .pointer (some ⟨gd, 0, none⟩)], .func (.func 19) #[.pointer (some ⟨g, 0, none⟩)] #[]]
theorem turn_have (k : Nat) (hk : k < 4) : ∃ fn c, Tryd.prog.funcs[turnF k]? = some fn ∧ fn.body = some c ∧ (fn.name == "runtime.NumGoroutine") = false := by
  rcases (by omega : k = 0 ∨ k = 1 ∨ k = 2 ∨ k = 3) with rfl | rfl | rfl | rfl
  · exact ⟨_, _, Tryd.func47, rfl, by kernel_rfl⟩
  · exact ⟨_, _, Tryd.func19, rfl, by kernel_rfl⟩
  · exact ⟨_, _, Tryd.func48, rfl, by kernel_rfl⟩
  · exact ⟨_, _, Tryd.func19, rfl, by kernel_rfl⟩
theorem turn_call (gr gl gd b : Nat) (r : Root) (hr : r.Ok) (A : Option Addr) (n c : Nat) (l : List (Nat × List UInt8)) (hn : n ≤ 9223372036854775807) (cs : Array Value) (T : TypeId)
    (hp : ∀ (W' : World) (t : Dv), Held w0 W' (dvT g t :: tl) → PutsIn W' A n l) (hlen : s.pend.length + n < 90000) (k : Nat) (hk : k < 4) (hz : ∀ j, j < k → turnE s l r j = 0) (W' : World)
    (R : Held w0 W' (dvT g (turnS s l r k) :: rowT b cs T :: rowT gr r.cells 34 :: rowT gl #[.slice A n c] 35 :: rowT gd #[.pointer (some ⟨g, 0, none⟩)] 39 :: tl)) :
    Calls Tryd.prog (turnF k) (turnA g k ++ turnC gr gl gd k) W' fun e w' => e = .returned (.int .i64 (turnE s l r k)) ∧
      Held w0 w' (dvT g (turnS s l r (k + 1)) :: rowT b cs T :: rowT gr r.cells 34 :: rowT gl #[.slice A n c] 35 :: rowT gd #[.pointer (some ⟨g, 0, none⟩)] 39 :: tl) := by
  have pm : ∀ t : Dv, (dvT g t :: rowT b cs T :: rowT gr r.cells 34 :: rowT gl #[.slice A n c] 35 :: rowT gd #[.pointer (some ⟨g, 0, none⟩)] 39 :: tl).Perm (dvT g t :: rowT gr r.cells 34 :: rowT gl #[.slice A n c] 35 :: rowT gd #[.pointer (some ⟨g, 0, none⟩)] 39 :: rowT b cs T :: tl) := fun t =>
    List.Perm.cons _ (List.perm_middle (l₁ := [rowT gr r.cells 34, rowT gl #[.slice A n c] 35, rowT gd #[.pointer (some ⟨g, 0, none⟩)] 39]) (a := rowT b cs T) (l₂ := tl)).symm
  rcases (by omega : k = 0 ∨ k = 1 ∨ k = 2 ∨ k = 3) with rfl | rfl | rfl | rfl
  · refine (blocks_is gr gl gd r.cells A n c l hn (R.perm (pm _)) (fun V t h => hp V t (h.from2 1)) (by show s.pend.length + n < 100000; omega)).mono ?_
    rintro e w' ⟨rfl, h⟩
    exact ⟨rfl, h.perm (pm _).symm⟩
  · exact flush_is R rfl
  · have h1 := hz 1 (by omega)
    refine (last_is gr gl gd r hr (.slice A n c) (R.perm (pm _)) ?_).mono ?_
    · show ((writeAll l s).1.flush.1).pend.length < 100000
      rw [flush_pend _ h1]; decide
    rintro e w' ⟨rfl, h⟩
    exact ⟨rfl, h.perm (pm _).symm⟩
  · exact flush_is R rfl
set_option maxHeartbeats 2000000 in
theorem turn_is (r : Root) (hr : r.Ok) (A : Option Addr) (n c : Nat) (l : List (Nat × List UInt8)) (hn : n ≤ 9223372036854775807)
    (R : Held w0 W (dvT g s :: tl)) (hp : ∀ (W' : World) (t : Dv), Held w0 W' (dvT g t :: tl) → PutsIn W' A n l) (hlen : s.pend.length + n < 90000) :
    Calls Tryd.prog 27 #[.pointer (some ⟨g, 0, none⟩), .slice A n c, .agg r.cells] W fun e w' => e = .returned (.int .i64 (s.turn l r).2) ∧ Held w0 w' (dvT g (s.turn l r).1 :: tl) := by
  have q1 := ((R.alloc2 #[.pointer (some ⟨g, 0, none⟩)] 39).alloc2 #[.slice A n c] 35).alloc2 r.cells 34
  have h0 : W.heap.size + 1 = (W.alloc (.cells #[.pointer (some ⟨g, 0, none⟩)] 39)).heap.size := by simp
  have h1 : W.heap.size + 1 + 1 = ((W.alloc (.cells #[.pointer (some ⟨g, 0, none⟩)] 39)).alloc (.cells #[.slice A n c] 35)).heap.size := by simp
  rw [← h1, ← h0] at q1
  clear h0 h1
  obtain ⟨V, hV⟩ : ∃ V, V = ((W.alloc (.cells #[.pointer (some ⟨g, 0, none⟩)] 39)).alloc (.cells #[.slice A n c] 35)).alloc (.cells r.cells 34) := ⟨_, rfl⟩
  obtain ⟨gd, hgd⟩ : ∃ b, b = W.heap.size := ⟨_, rfl⟩
  rw [← hV, ← hgd] at q1
  have HV := Lib.hid hV
  have HGD := Lib.hid hgd
  have R0 := Lib.hid q1
  have HTS := Lib.hid (turn_steps s l r)
  have HST := Lib.hid (steps_is (w0 := w0) (W := V.alloc (.cells (turnCells g (gd + 1 + 1) (gd + 1) gd) 56)) (g := g) (tl := rowT (gd + 1 + 1) r.cells 34 :: rowT (gd + 1) #[.slice A n c] 35 :: rowT gd #[.pointer (some ⟨g, 0, none⟩)] 39 :: tl)
    V.heap.size 56 (turnCells g (gd + 1 + 1) (gd + 1) gd) (turnS s l r) (turnE s l r) turnF (turnA g) (turnC (gd + 1 + 1) (gd + 1) gd)
    (fun k hk => by rcases (by omega : k = 0 ∨ k = 1 ∨ k = 2 ∨ k = 3) with rfl | rfl | rfl | rfl <;> rfl) turn_have (q1.alloc2 _ _) (fun k hk hz W' h => turn_call _ _ _ _ r hr A n c l hn _ _ hp hlen k hk hz W' h))
  rw [HTS.out] at HST
  unfold turnCells at HST
  clear q1 hV hgd R hp hlen
  have cd : V.cell? ⟨gd, 0, none⟩ = some (.pointer (some ⟨g, 0, none⟩)) := R0.out.cell 3 0 rfl rfl
  clear HTS
  obtain ⟨p, hp⟩ : ∃ p, p = s.turn l r := ⟨_, rfl⟩
  rw [← hp] at HST ⊢
  clear hp
  go_enter Tryd.func27, Tryd.ntmps27
  go_upto_region 1 with (fail)
  rw [← HV.out, ← HGD.out]
  go_wp2_with (go_at_call 50; refine HST.out.mono ?_; rintro e w1 ⟨rfl, hR⟩; have R1 := Lib.hid (hR.from2 4); clear hR)
  go_ret
  exact ⟨rfl, R1.out⟩
end
end Go.Proofs.YtnphgaiiiiknpaaDoor
namespace Go.Proofs.YtnphgaiiiiknpaaDoor
open Go.RowKit
set_option linter.unusedSimpArgs false
set_option linter.unusedVariables false
set_option maxRecDepth 100000
theorem wpList_ask1 {P : Program} {ops : Array Oper} {o : Oper} {a : Act} {rest : List Oper} {w : World} {Q : Exit → Act → World → Prop} (hgd : o.guard = none) (x y : Operand) (ts : Array TypeId) (ho : o.op = .call { callee := .value x, args := #[y], argTypes := ts })
    (F : FuncId) (cap : Array Value) (u : Value) (hx : a.eval x = .func (.func F) #[] cap) (hy : a.eval y = u) (hf : ∃ fn c, P.funcs[F]? = some fn ∧ fn.body = some c ∧ (fn.name == "runtime.NumGoroutine") = false) (v : Value) (R : World → Prop)
    (hc : Calls P F (#[u] ++ cap) w fun e w' => e = .returned v ∧ R w') (hK : ∀ w', R w' → wpList P ops Q rest (a.put o.dst v) w') : wpList P ops Q (o :: rest) a w := by
  obtain ⟨fn, c, hf, hb, hn⟩ := hf
  refine wpList_plain hgd fun K hK' => ?_
  have he : (execOp a.eval o).run P w = .ok (.enter F (#[u] ++ cap)) w := by
    unfold execOp
    simp only [ho, resolve, hx]
    have hn' : ¬ fn.name = "runtime.NumGoroutine" := by simpa using hn
    simp [Deferred.ofValue, invoke, callFunc, hf, hb, hn', hy]
  unfold Oper.wp
  rw [he]
  refine hc.mono ?_
  rintro e w' ⟨rfl, h⟩
  exact hK' _ _ (hK w' h)
def farB (n : Nat) (a : Nat) : Bool := decide (a < 2) || decide (n ≤ a)
section
variable {w : World} {g : Nat} {s : Dv}
set_option maxHeartbeats 2000000 in
theorem far_is (h : (dvT g s).at w) (gd : Nat) (hd : w.cell? ⟨gd, 0, none⟩ = some (.pointer (some ⟨g, 0, none⟩))) (hgd : gd < w.heap.size) (a : Nat) (B : List UInt8) (hB : B.length = 256) :
    Calls Tryd.prog 30 #[.agg (putV a B), .pointer (some ⟨gd, 0, none⟩)] w fun e w' => e = .returned (.bool (farB s.size a)) ∧ Below w.heap.size w w' := by
  have hq := (Held.start w).alloc (putV a B) 47
  obtain ⟨V0, hW⟩ : ∃ W, W = w.alloc (.cells (putV a B) 47) := ⟨_, rfl⟩
  obtain ⟨g2, hg⟩ : ∃ g, g = w.heap.size := ⟨_, rfl⟩
  rw [← hW, ← hg] at hq
  have HW := Lib.hid hW
  have HG := Lib.hid hg
  have R0 := Lib.hid hq
  have HSZ : Hid (∀ w' : World, Below w.heap.size w w' → Calls Tryd.prog 25 #[.pointer (some ⟨g, 0, none⟩)] w' fun e w'' => e = .returned (.int .u32 (s.size : Int)) ∧ w' = w'') := Lib.hid (fun w' hb => size_dev (h.since hb))
  have HCD : Hid (∀ w' : World, Below w.heap.size w w' → w'.cell? ⟨gd, 0, none⟩ = some (.pointer (some ⟨g, 0, none⟩))) := Lib.hid (fun w' hb => (hb.cell hgd).trans hd)
  have HCA : Hid (V0.cell? ⟨g2, 0, none⟩ = some (.int .u32 (a : Int))) := Lib.hid (hq.cell 0 0 rfl rfl)
  obtain ⟨pv, hpv⟩ : ∃ p, p = putV a B := ⟨_, rfl⟩
  rw [← hpv] at R0 HW ⊢
  clear hq hW hg h hd hgd hpv
  have HFB : Hid (farB s.size a = (decide (a < 2) || decide (s.size ≤ a))) := Lib.hid rfl
  go_enter Tryd.func30, Tryd.ntmps30
  go_upto_region 1 with (fail)
  rw [← HW.out, ← HG.out]
  by_cases h2 : a < 2
  · have HC : Hid (cmpInt .lss (a : Int) 2 = some true) := Lib.hid (by simp [cmpInt]; omega)
    have HV : Hid (farB s.size a = true) := Lib.hid (by rw [HFB.out, decide_eq_true h2]; rfl)
    clear h2
    refine wk_region_since (by kernel_rfl) (by kernel_rfl) ?_
    repeat (first
      | (refine wk_move _ (by first | exact wanted_none rfl | exact wanted_yes _ _ rfl rfl) rfl ?_; simp only [Act.put, Act.eval, Array.getD_eq_getD_getElem?, List.getElem?_toArray, List.getElem?_cons_succ, List.getElem?_cons_zero, Option.getD_some, List.setIfInBounds_toArray, List.set_cons_zero, List.set_cons_succ])
      | (refine wk_assign _ (by first | exact wanted_none rfl | exact wanted_yes _ _ rfl rfl) rfl ?_; simp only [Act.put, Act.eval, Array.getD_eq_getD_getElem?, List.getElem?_toArray, List.getElem?_cons_succ, List.getElem?_cons_zero, Option.getD_some, List.setIfInBounds_toArray, List.set_cons_zero, List.set_cons_succ])
      | (refine wk_pickt _ _ _ _ (by first | exact wanted_none rfl | exact wanted_yes _ _ rfl rfl) rfl rfl rfl ?_; simp only [Act.put, Act.eval, Array.getD_eq_getD_getElem?, List.getElem?_toArray, List.getElem?_cons_succ, List.getElem?_cons_zero, Option.getD_some, List.setIfInBounds_toArray, List.set_cons_zero, List.set_cons_succ])
      | (refine wk_pickf _ _ _ _ (by first | exact wanted_none rfl | exact wanted_yes _ _ rfl rfl) rfl rfl rfl ?_; simp only [Act.put, Act.eval, Array.getD_eq_getD_getElem?, List.getElem?_toArray, List.getElem?_cons_succ, List.getElem?_cons_zero, Option.getD_some, List.setIfInBounds_toArray, List.set_cons_zero, List.set_cons_succ])
      | (refine wk_skip (wanted_not _ true false rfl rfl rfl) ?_; simp only [Act.put, List.setIfInBounds_toArray, List.set_cons_zero, List.set_cons_succ])
      | (refine wk_skip (wanted_not _ false true rfl rfl rfl) ?_; simp only [Act.put, List.setIfInBounds_toArray, List.set_cons_zero, List.set_cons_succ])
      | (refine wk_skip (wanted_undef _ _ rfl rfl) ?_; simp only [Act.put, List.setIfInBounds_toArray, List.set_cons_zero, List.set_cons_succ])
      | (refine wk_not true _ _ (by first | exact wanted_none rfl | exact wanted_yes _ _ rfl rfl) rfl rfl ?_; simp only [Act.put, List.setIfInBounds_toArray, List.set_cons_zero, List.set_cons_succ])
      | (refine wk_not false _ _ (by first | exact wanted_none rfl | exact wanted_yes _ _ rfl rfl) rfl rfl ?_; simp only [Act.put, List.setIfInBounds_toArray, List.set_cons_zero, List.set_cons_succ]))
    refine wk_field 47 _ 22 0 0 _ _ _ (by first | exact wanted_none rfl | exact wanted_yes _ _ rfl rfl) rfl (by kernel_rfl) (by kernel_rfl) (by kernel_rfl) rfl ?_
    simp only [Act.put, List.setIfInBounds_toArray, List.set_cons_zero, List.set_cons_succ, Nat.zero_add]
    refine wk_load1 _ _ _ _ _ rfl (by kernel_rfl) rfl rfl (fun w' hC => hC.cell HCA.out) Tryd.underlying22 ?_
    simp only [Act.put, List.setIfInBounds_toArray, List.set_cons_zero, List.set_cons_succ]
    refine wk_cmp_int .lss (true) _ _ _ _ _ _ _ (by kernel_rfl) rfl rfl rfl (HC.out) ?_
    simp only [Act.put, List.setIfInBounds_toArray, List.set_cons_zero, List.set_cons_succ]
    repeat (first
      | (refine wk_move _ (by first | exact wanted_none rfl | exact wanted_yes _ _ rfl rfl) rfl ?_; simp only [Act.put, Act.eval, Array.getD_eq_getD_getElem?, List.getElem?_toArray, List.getElem?_cons_succ, List.getElem?_cons_zero, Option.getD_some, List.setIfInBounds_toArray, List.set_cons_zero, List.set_cons_succ])
      | (refine wk_assign _ (by first | exact wanted_none rfl | exact wanted_yes _ _ rfl rfl) rfl ?_; simp only [Act.put, Act.eval, Array.getD_eq_getD_getElem?, List.getElem?_toArray, List.getElem?_cons_succ, List.getElem?_cons_zero, Option.getD_some, List.setIfInBounds_toArray, List.set_cons_zero, List.set_cons_succ])
      | (refine wk_pickt _ _ _ _ (by first | exact wanted_none rfl | exact wanted_yes _ _ rfl rfl) rfl rfl rfl ?_; simp only [Act.put, Act.eval, Array.getD_eq_getD_getElem?, List.getElem?_toArray, List.getElem?_cons_succ, List.getElem?_cons_zero, Option.getD_some, List.setIfInBounds_toArray, List.set_cons_zero, List.set_cons_succ])
      | (refine wk_pickf _ _ _ _ (by first | exact wanted_none rfl | exact wanted_yes _ _ rfl rfl) rfl rfl rfl ?_; simp only [Act.put, Act.eval, Array.getD_eq_getD_getElem?, List.getElem?_toArray, List.getElem?_cons_succ, List.getElem?_cons_zero, Option.getD_some, List.setIfInBounds_toArray, List.set_cons_zero, List.set_cons_succ])
      | (refine wk_skip (wanted_not _ true false rfl rfl rfl) ?_; simp only [Act.put, List.setIfInBounds_toArray, List.set_cons_zero, List.set_cons_succ])
      | (refine wk_skip (wanted_not _ false true rfl rfl rfl) ?_; simp only [Act.put, List.setIfInBounds_toArray, List.set_cons_zero, List.set_cons_succ])
      | (refine wk_skip (wanted_undef _ _ rfl rfl) ?_; simp only [Act.put, List.setIfInBounds_toArray, List.set_cons_zero, List.set_cons_succ])
      | (refine wk_not true _ _ (by first | exact wanted_none rfl | exact wanted_yes _ _ rfl rfl) rfl rfl ?_; simp only [Act.put, List.setIfInBounds_toArray, List.set_cons_zero, List.set_cons_succ])
      | (refine wk_not false _ _ (by first | exact wanted_none rfl | exact wanted_yes _ _ rfl rfl) rfl rfl ?_; simp only [Act.put, List.setIfInBounds_toArray, List.set_cons_zero, List.set_cons_succ]))
    refine wk_nil ?_
    intro w' hC
    have R3 := Lib.hid (R0.out.since hC)
    go_wp2_with fail
    go_ret
    exact ⟨by rw [HV.out]; rfl, R3.out.below⟩
  · have HC : Hid (cmpInt .lss (a : Int) 2 = some false) := Lib.hid (by simp [cmpInt]; omega)
    obtain ⟨q, hq⟩ : ∃ q, q = decide (s.size ≤ a) := ⟨_, rfl⟩
    have HV : Hid (farB s.size a = q) := Lib.hid (by rw [HFB.out, decide_eq_false h2, hq]; rfl)
    have HGE : Hid (cmpInt .geq (a : Int) (s.size : Int) = some q) := Lib.hid (by rw [hq]; simp [cmpInt])
    clear h2 hq
    refine wk_region_since (by kernel_rfl) (by kernel_rfl) ?_
    repeat (first
      | (refine wk_move _ (by first | exact wanted_none rfl | exact wanted_yes _ _ rfl rfl) rfl ?_; simp only [Act.put, Act.eval, Array.getD_eq_getD_getElem?, List.getElem?_toArray, List.getElem?_cons_succ, List.getElem?_cons_zero, Option.getD_some, List.setIfInBounds_toArray, List.set_cons_zero, List.set_cons_succ])
      | (refine wk_assign _ (by first | exact wanted_none rfl | exact wanted_yes _ _ rfl rfl) rfl ?_; simp only [Act.put, Act.eval, Array.getD_eq_getD_getElem?, List.getElem?_toArray, List.getElem?_cons_succ, List.getElem?_cons_zero, Option.getD_some, List.setIfInBounds_toArray, List.set_cons_zero, List.set_cons_succ])
      | (refine wk_pickt _ _ _ _ (by first | exact wanted_none rfl | exact wanted_yes _ _ rfl rfl) rfl rfl rfl ?_; simp only [Act.put, Act.eval, Array.getD_eq_getD_getElem?, List.getElem?_toArray, List.getElem?_cons_succ, List.getElem?_cons_zero, Option.getD_some, List.setIfInBounds_toArray, List.set_cons_zero, List.set_cons_succ])
      | (refine wk_pickf _ _ _ _ (by first | exact wanted_none rfl | exact wanted_yes _ _ rfl rfl) rfl rfl rfl ?_; simp only [Act.put, Act.eval, Array.getD_eq_getD_getElem?, List.getElem?_toArray, List.getElem?_cons_succ, List.getElem?_cons_zero, Option.getD_some, List.setIfInBounds_toArray, List.set_cons_zero, List.set_cons_succ])
      | (refine wk_skip (wanted_not _ true false rfl rfl rfl) ?_; simp only [Act.put, List.setIfInBounds_toArray, List.set_cons_zero, List.set_cons_succ])
      | (refine wk_skip (wanted_not _ false true rfl rfl rfl) ?_; simp only [Act.put, List.setIfInBounds_toArray, List.set_cons_zero, List.set_cons_succ])
      | (refine wk_skip (wanted_undef _ _ rfl rfl) ?_; simp only [Act.put, List.setIfInBounds_toArray, List.set_cons_zero, List.set_cons_succ])
      | (refine wk_not true _ _ (by first | exact wanted_none rfl | exact wanted_yes _ _ rfl rfl) rfl rfl ?_; simp only [Act.put, List.setIfInBounds_toArray, List.set_cons_zero, List.set_cons_succ])
      | (refine wk_not false _ _ (by first | exact wanted_none rfl | exact wanted_yes _ _ rfl rfl) rfl rfl ?_; simp only [Act.put, List.setIfInBounds_toArray, List.set_cons_zero, List.set_cons_succ]))
    refine wk_field 47 _ 22 0 0 _ _ _ (by first | exact wanted_none rfl | exact wanted_yes _ _ rfl rfl) rfl (by kernel_rfl) (by kernel_rfl) (by kernel_rfl) rfl ?_
    simp only [Act.put, List.setIfInBounds_toArray, List.set_cons_zero, List.set_cons_succ, Nat.zero_add]
    refine wk_load1 _ _ _ _ _ rfl (by kernel_rfl) rfl rfl (fun w' hC => hC.cell HCA.out) Tryd.underlying22 ?_
    simp only [Act.put, List.setIfInBounds_toArray, List.set_cons_zero, List.set_cons_succ]
    refine wk_cmp_int .lss (false) _ _ _ _ _ _ _ (by kernel_rfl) rfl rfl rfl (HC.out) ?_
    simp only [Act.put, List.setIfInBounds_toArray, List.set_cons_zero, List.set_cons_succ]
    repeat (first
      | (refine wk_move _ (by first | exact wanted_none rfl | exact wanted_yes _ _ rfl rfl) rfl ?_; simp only [Act.put, Act.eval, Array.getD_eq_getD_getElem?, List.getElem?_toArray, List.getElem?_cons_succ, List.getElem?_cons_zero, Option.getD_some, List.setIfInBounds_toArray, List.set_cons_zero, List.set_cons_succ])
      | (refine wk_assign _ (by first | exact wanted_none rfl | exact wanted_yes _ _ rfl rfl) rfl ?_; simp only [Act.put, Act.eval, Array.getD_eq_getD_getElem?, List.getElem?_toArray, List.getElem?_cons_succ, List.getElem?_cons_zero, Option.getD_some, List.setIfInBounds_toArray, List.set_cons_zero, List.set_cons_succ])
      | (refine wk_pickt _ _ _ _ (by first | exact wanted_none rfl | exact wanted_yes _ _ rfl rfl) rfl rfl rfl ?_; simp only [Act.put, Act.eval, Array.getD_eq_getD_getElem?, List.getElem?_toArray, List.getElem?_cons_succ, List.getElem?_cons_zero, Option.getD_some, List.setIfInBounds_toArray, List.set_cons_zero, List.set_cons_succ])
      | (refine wk_pickf _ _ _ _ (by first | exact wanted_none rfl | exact wanted_yes _ _ rfl rfl) rfl rfl rfl ?_; simp only [Act.put, Act.eval, Array.getD_eq_getD_getElem?, List.getElem?_toArray, List.getElem?_cons_succ, List.getElem?_cons_zero, Option.getD_some, List.setIfInBounds_toArray, List.set_cons_zero, List.set_cons_succ])
      | (refine wk_skip (wanted_not _ true false rfl rfl rfl) ?_; simp only [Act.put, List.setIfInBounds_toArray, List.set_cons_zero, List.set_cons_succ])
      | (refine wk_skip (wanted_not _ false true rfl rfl rfl) ?_; simp only [Act.put, List.setIfInBounds_toArray, List.set_cons_zero, List.set_cons_succ])
      | (refine wk_skip (wanted_undef _ _ rfl rfl) ?_; simp only [Act.put, List.setIfInBounds_toArray, List.set_cons_zero, List.set_cons_succ])
      | (refine wk_not true _ _ (by first | exact wanted_none rfl | exact wanted_yes _ _ rfl rfl) rfl rfl ?_; simp only [Act.put, List.setIfInBounds_toArray, List.set_cons_zero, List.set_cons_succ])
      | (refine wk_not false _ _ (by first | exact wanted_none rfl | exact wanted_yes _ _ rfl rfl) rfl rfl ?_; simp only [Act.put, List.setIfInBounds_toArray, List.set_cons_zero, List.set_cons_succ]))
    refine wk_field 47 _ 22 0 0 _ _ _ (by first | exact wanted_none rfl | exact wanted_yes _ _ rfl rfl) rfl (by kernel_rfl) (by kernel_rfl) (by kernel_rfl) rfl ?_
    simp only [Act.put, List.setIfInBounds_toArray, List.set_cons_zero, List.set_cons_succ, Nat.zero_add]
    refine wk_load1 _ _ _ _ _ rfl (by kernel_rfl) rfl rfl (fun w' hC => hC.cell HCA.out) Tryd.underlying22 ?_
    simp only [Act.put, List.setIfInBounds_toArray, List.set_cons_zero, List.set_cons_succ]
    refine wk_load1 _ _ _ _ _ rfl (by kernel_rfl) rfl rfl (fun w' hC => HCD.out w' (R0.out.since hC).below) Tryd.underlying39 ?_
    simp only [Act.put, List.setIfInBounds_toArray, List.set_cons_zero, List.set_cons_succ]
    refine wk_call 25 _ _ _ _ _ (by kernel_rfl) rfl Tryd.func25 rfl (by kernel_rfl) (fun w' hC => hC.same (HSZ.out w' (R0.out.since hC).below)) ?_
    simp only [Act.put, List.setIfInBounds_toArray, List.set_cons_zero, List.set_cons_succ]
    refine wk_cmp_int .geq (q) _ _ _ _ _ _ _ (by kernel_rfl) rfl rfl rfl (HGE.out) ?_
    simp only [Act.put, List.setIfInBounds_toArray, List.set_cons_zero, List.set_cons_succ]
    repeat (first
      | (refine wk_move _ (by first | exact wanted_none rfl | exact wanted_yes _ _ rfl rfl) rfl ?_; simp only [Act.put, Act.eval, Array.getD_eq_getD_getElem?, List.getElem?_toArray, List.getElem?_cons_succ, List.getElem?_cons_zero, Option.getD_some, List.setIfInBounds_toArray, List.set_cons_zero, List.set_cons_succ])
      | (refine wk_assign _ (by first | exact wanted_none rfl | exact wanted_yes _ _ rfl rfl) rfl ?_; simp only [Act.put, Act.eval, Array.getD_eq_getD_getElem?, List.getElem?_toArray, List.getElem?_cons_succ, List.getElem?_cons_zero, Option.getD_some, List.setIfInBounds_toArray, List.set_cons_zero, List.set_cons_succ])
      | (refine wk_pickt _ _ _ _ (by first | exact wanted_none rfl | exact wanted_yes _ _ rfl rfl) rfl rfl rfl ?_; simp only [Act.put, Act.eval, Array.getD_eq_getD_getElem?, List.getElem?_toArray, List.getElem?_cons_succ, List.getElem?_cons_zero, Option.getD_some, List.setIfInBounds_toArray, List.set_cons_zero, List.set_cons_succ])
      | (refine wk_pickf _ _ _ _ (by first | exact wanted_none rfl | exact wanted_yes _ _ rfl rfl) rfl rfl rfl ?_; simp only [Act.put, Act.eval, Array.getD_eq_getD_getElem?, List.getElem?_toArray, List.getElem?_cons_succ, List.getElem?_cons_zero, Option.getD_some, List.setIfInBounds_toArray, List.set_cons_zero, List.set_cons_succ])
      | (refine wk_skip (wanted_not _ true false rfl rfl rfl) ?_; simp only [Act.put, List.setIfInBounds_toArray, List.set_cons_zero, List.set_cons_succ])
      | (refine wk_skip (wanted_not _ false true rfl rfl rfl) ?_; simp only [Act.put, List.setIfInBounds_toArray, List.set_cons_zero, List.set_cons_succ])
      | (refine wk_skip (wanted_undef _ _ rfl rfl) ?_; simp only [Act.put, List.setIfInBounds_toArray, List.set_cons_zero, List.set_cons_succ])
      | (refine wk_not true _ _ (by first | exact wanted_none rfl | exact wanted_yes _ _ rfl rfl) rfl rfl ?_; simp only [Act.put, List.setIfInBounds_toArray, List.set_cons_zero, List.set_cons_succ])
      | (refine wk_not false _ _ (by first | exact wanted_none rfl | exact wanted_yes _ _ rfl rfl) rfl rfl ?_; simp only [Act.put, List.setIfInBounds_toArray, List.set_cons_zero, List.set_cons_succ]))
    refine wk_nil ?_
    intro w' hC
    have R3 := Lib.hid (R0.out.since hC)
    go_wp2_with fail
    go_ret
    exact ⟨by rw [HV.out]; rfl, R3.out.below⟩
/-- The first one that a function tells of. -/
def idxZ (p : Nat → Bool) (l : List (Nat × List UInt8)) : Int := if l.any (fun x => p x.1) then ((l.findIdx fun x => p x.1 : Nat) : Int) else -1
theorem idxZ_hit (p : Nat → Bool) (l : List (Nat × List UInt8)) (k : Nat) (hk : k < l.length) (h0 : ∀ j, (hj : j < l.length) → j < k → p l[j].1 = false) (h1 : p l[k].1 = true) : idxZ p l = (k : Int) := by
  unfold idxZ
  rw [if_pos (by rw [List.any_eq_true]; exact ⟨l[k], List.getElem_mem hk, h1⟩)]
  have : l.findIdx (fun x => p x.1) = k := by
    rw [List.findIdx_eq hk]
    exact ⟨h1, fun j hj => by simpa using h0 j (by omega) hj⟩
  rw [this]
theorem idxZ_none (p : Nat → Bool) (l : List (Nat × List UInt8)) (h0 : ∀ j, (hj : j < l.length) → p l[j].1 = false) : idxZ p l = -1 := by
  unfold idxZ
  rw [if_neg]
  intro h
  rw [List.any_eq_true] at h
  obtain ⟨x, hx, hp⟩ := h
  obtain ⟨j, hj, rfl⟩ := List.mem_iff_getElem.1 hx
  rw [h0 j hj] at hp
  cases hp
theorem idxZ_geq (p : Nat → Bool) (l : List (Nat × List UInt8)) : decide (0 ≤ idxZ p l) = l.any fun x => p x.1 := by
  unfold idxZ
  split
  · rename_i h; rw [h]; simp
  · rename_i h; rw [Bool.not_eq_true] at h; rw [h]; rfl
set_option maxHeartbeats 2000000 in
theorem index_func (p : Nat → Bool) (F : FuncId) (cap : Array Value) (A : Option Addr) (n c : Nat) (l : List (Nat × List UInt8)) (hn : n ≤ 9223372036854775807) (hp : PutsIn w A n l)
    (hf : ∃ fn c, Tryd.prog.funcs[F]? = some fn ∧ fn.body = some c ∧ (fn.name == "runtime.NumGoroutine") = false)
    (hc : ∀ W', Below w.heap.size w W' → ∀ x ∈ l, Calls Tryd.prog F (#[.agg (putV x.1 x.2)] ++ cap) W' fun e w' => e = .returned (.bool (p x.1)) ∧ Below W'.heap.size W' w') :
    Calls Tryd.prog 53 #[.slice A n c, .func (.func F) #[] cap] w fun e w' => e = .returned (.int .i64 (idxZ p l)) ∧ Below w.heap.size w w' := by
  have HP := Lib.hid hp
  have HF := Lib.hid hf
  have HC := Lib.hid hc
  have HLL := Lib.hid hp.len
  clear hp hf hc
  go_enter Tryd.func53, Tryd.ntmps53
  go_wp2_with fail
  go_loopw [8] (fun i wr => ∃ (k : Nat), k ≤ n ∧ i = .int .i64 (k : Int) ∧ (∀ j, (hj : j < l.length) → j < k → p l[j].1 = false) ∧ Below w.heap.size w wr) (fun i _ => n - (intOf i).toNat)
  case atStart => exact ⟨0, by omega, rfl, by omega, Below.refl _ _⟩
  case round =>
    obtain ⟨k, hk, rfl, hz, hB⟩ := hrel
    have HZ := Lib.hid hz
    have HB := Lib.hid hB
    clear hz hB
    by_cases hlt : k < n
    · have hkl : k < l.length := by rw [HLL.out]; exact hlt
      have hpi := HP.out.below HB.out
      obtain ⟨b, off, hA, hb, hr⟩ := hpi.cells k hkl
      subst hA
      have hx := hpi.ok _ (List.getElem_mem hkl)
      have hcc := HC.out wr HB.out _ (List.getElem_mem hkl)
      obtain ⟨x, hxe⟩ : ∃ x, x = l[k] := ⟨_, rfl⟩
      have HXE := Lib.hid hxe
      rw [← hxe] at hr hx hcc
      obtain ⟨a, B⟩ := x
      simp only at hr hx hcc
      obtain ⟨q, hq⟩ : ∃ q, q = p a := ⟨_, rfl⟩
      have HQ := Lib.hid hq
      rw [← hq] at hcc
      have HPS : Hid ((putV a B).size = 257) := Lib.hid (size_putV a B hx.2)
      have HRG := Lib.hid hr
      have HCC := Lib.hid hcc
      clear hr hx hcc hpi hb hxe hq
      go_wp2_with (first
        | refine wpList_load_arr rfl 47 _ rfl b (off + k * 257) rfl (putV a B) _ HRG.out Tryd.underlying47 rfl (by rw [HPS.out]; exact sizePut) ?_
        | (refine wpList_ask1 rfl _ _ _ rfl F cap (.agg (putV a B)) rfl rfl HF.out _ _ HCC.out ?_; intro w2 hb2; have HB2 := Lib.hid (HB.out.trans (hb2.mono HB.out.size)); clear hb2))
      · rename_i hr
        go_ret
        subst hr
        have := idxZ_hit p l k hkl HZ.out (by rw [← HXE.out]; exact HQ.out.symm)
        rw [this]
        exact ⟨rfl, HB2.out⟩
      · rename_i hr
        subst hr
        refine ⟨⟨k + 1, by omega, by simp, fun j hj hjk => ?_, HB2.out⟩, by simp [intOf]; omega⟩
        rcases (by omega : j < k ∨ j = k) with h | rfl
        · exact HZ.out j hj h
        · rw [← HXE.out]; exact HQ.out.symm
    · obtain rfl : k = n := by omega
      have hz : ¬ ((k : Int) < (k : Int)) := by omega
      go_wp2_with fail
      go_ret
      exact ⟨by rw [idxZ_none p l (fun j hj => HZ.out j hj (by rw [← HLL.out]; exact hj))]; rfl, HB.out⟩
set_option maxHeartbeats 2000000 in
theorem contains_func (p : Nat → Bool) (F : FuncId) (cap : Array Value) (A : Option Addr) (n c : Nat) (l : List (Nat × List UInt8)) (hn : n ≤ 9223372036854775807) (hp : PutsIn w A n l)
    (hf : ∃ fn c, Tryd.prog.funcs[F]? = some fn ∧ fn.body = some c ∧ (fn.name == "runtime.NumGoroutine") = false)
    (hc : ∀ W', Below w.heap.size w W' → ∀ x ∈ l, Calls Tryd.prog F (#[.agg (putV x.1 x.2)] ++ cap) W' fun e w' => e = .returned (.bool (p x.1)) ∧ Below W'.heap.size W' w') :
    Calls Tryd.prog 32 #[.slice A n c, .func (.func F) #[] cap] w fun e w' => e = .returned (.bool (l.any fun x => p x.1)) ∧ Below w.heap.size w w' := by
  have HI := Lib.hid (index_func (c := c) p F cap A n l hn hp hf hc)
  have hz := idxZ_geq p l
  generalize l.any (fun x => p x.1) = r at hz ⊢
  generalize idxZ p l = z at hz HI
  clear hp hf hc
  go_enter Tryd.func32, Tryd.ntmps32
  go_wp2_with (go_at_call 53; refine HI.out.mono ?_; rintro e w1 ⟨rfl, hb⟩; have HB := Lib.hid hb; clear hb)
  go_ret
  exact ⟨by rw [← hz]; rfl, HB.out⟩
set_option maxHeartbeats 4000000 in
theorem commit_is {w0 W : World} {tl : List Thing} (r : Root) (hr : r.Ok) (A : Option Addr) (n c : Nat) (l : List (Nat × List UInt8)) (hn : n ≤ 9223372036854775807)
    (R : Held w0 W (dvT g s :: tl)) (hp : ∀ (W' : World) (t : Dv), Held w0 W' (dvT g t :: tl) → PutsIn W' A n l) (hlen : s.pend.length + n < 90000) (hs : 0 < s.size) :
    Calls Tryd.prog 13 #[.pointer (some ⟨g, 0, none⟩), .slice A n c, .agg r.cells] W fun e w' => e = .returned (.int .i64 (s.commit l r).2) ∧ Held w0 w' (dvT g (s.commit l r).1 :: tl) := by
  have hsz : s.size < 4294967296 := (dv_open (R.thing 0 rfl)).choose_spec.choose_spec.choose_spec.ok.size
  have q1 := (R.alloc2 #[.pointer (some ⟨g, 0, none⟩)] 39).alloc2 r.cells 34
  have h0 : W.heap.size + 1 = (W.alloc (.cells #[.pointer (some ⟨g, 0, none⟩)] 39)).heap.size := by simp
  rw [← h0] at q1
  clear h0
  obtain ⟨V, hV⟩ : ∃ V, V = (W.alloc (.cells #[.pointer (some ⟨g, 0, none⟩)] 39)).alloc (.cells r.cells 34) := ⟨_, rfl⟩
  obtain ⟨gd, hgd⟩ : ∃ b, b = W.heap.size := ⟨_, rfl⟩
  rw [← hV, ← hgd] at q1
  have HV := Lib.hid hV
  have HGD := Lib.hid hgd
  have R0 := Lib.hid q1
  have HP := Lib.hid hp
  have HN := Lib.hid (rnone_dev (q1.thing 0 rfl) hs)
  have HSZ : Hid (∀ w' : World, Below V.heap.size V w' → Calls Tryd.prog 25 #[.pointer (some ⟨g, 0, none⟩)] w' fun e w'' => e = .returned (.int .u32 (s.size : Int)) ∧ w' = w'') := Lib.hid (fun w' hb => size_dev ((q1.thing 0 rfl).since hb))
  have HMY := Lib.hid (rootmay_is r hr s.size hsz)
  have HCF : Hid (∀ w' : World, Below V.heap.size V w' → Calls Tryd.prog 32 #[.slice A n c, .func (.func 30) #[] #[.pointer (some ⟨gd, 0, none⟩)]] w' fun e w'' => e = .returned (.bool (farIn s.size l)) ∧ Below w'.heap.size w' w'') := Lib.hid (fun w' hb => by
    have hR := q1.call hb
    have hpi := hp w' s (hR.from2 2)
    exact contains_func (farB s.size) 30 #[.pointer (some ⟨gd, 0, none⟩)] A n c l hn hpi ⟨_, _, Tryd.func30, rfl, by kernel_rfl⟩ (fun W' hb' x hx => by
      have hR' := hR.call hb'
      exact far_is (hR'.thing 0 rfl) gd (hR'.cell 2 0 rfl rfl) (hR'.lt 2 rfl) x.1 x.2 (hpi.ok x hx).2))
  have HTU := Lib.hid (fun (W' : World) (h : Held w0 W' (dvT g s :: rowT (gd + 1) r.cells 34 :: rowT gd #[.pointer (some ⟨g, 0, none⟩)] 39 :: tl)) => turn_is (c := c) r hr A n l hn h (fun W'' t h' => hp W'' t (h'.from2 2)) hlen)
  have cd : V.cell? ⟨gd, 0, none⟩ = some (.pointer (some ⟨g, 0, none⟩)) := q1.cell 2 0 rfl rfl
  have HD := Lib.hid cd
  have hcm : s.commit l r = if mayR r s.size && !farIn s.size l then s.turn l r else (s, 2) := rfl
  obtain ⟨my, hmy⟩ : ∃ m, m = mayR r s.size := ⟨_, rfl⟩
  obtain ⟨fa, hfa⟩ : ∃ m, m = farIn s.size l := ⟨_, rfl⟩
  obtain ⟨p, hpp⟩ : ∃ m, m = s.commit l r := ⟨_, rfl⟩
  obtain ⟨tu, htu⟩ : ∃ m, m = s.turn l r := ⟨_, rfl⟩
  rw [← hmy] at HMY hcm
  rw [← hfa] at HCF hcm
  rw [← htu] at HTU hcm
  rw [← hpp] at hcm ⊢
  obtain ⟨rc, hrc⟩ : ∃ x, x = r.cells := ⟨_, rfl⟩
  have HRS : Hid (rc.size = 8) := Lib.hid (by rw [hrc]; rfl)
  rw [← hrc] at HMY HTU R0 HV ⊢
  have HCM := Lib.hid hcm
  clear q1 hV hgd R hp hlen hcm hmy hfa hpp htu hrc hsz
  go_enter Tryd.func13, Tryd.ntmps13
  go_upto_region 1 with (fail)
  rw [← HV.out, ← HGD.out]
  go_upto_region 4 with (go_at_call 24; refine HN.out.mono ?_; rintro e w1 ⟨rfl, rfl⟩)
  cases my with
  | false =>
    have HCM2 : Hid (p = (s, 2)) := Lib.hid HCM.out
    refine wk_region_since (by kernel_rfl) (by kernel_rfl) ?_
    repeat (first
      | (refine wk_move _ (by first | exact wanted_none rfl | exact wanted_yes _ _ rfl rfl) rfl ?_; simp only [Act.put, Act.eval, Array.getD_eq_getD_getElem?, List.getElem?_toArray, List.getElem?_cons_succ, List.getElem?_cons_zero, Option.getD_some, List.setIfInBounds_toArray, List.set_cons_zero, List.set_cons_succ])
      | (refine wk_assign _ (by first | exact wanted_none rfl | exact wanted_yes _ _ rfl rfl) rfl ?_; simp only [Act.put, Act.eval, Array.getD_eq_getD_getElem?, List.getElem?_toArray, List.getElem?_cons_succ, List.getElem?_cons_zero, Option.getD_some, List.setIfInBounds_toArray, List.set_cons_zero, List.set_cons_succ])
      | (refine wk_pickt _ _ _ _ (by first | exact wanted_none rfl | exact wanted_yes _ _ rfl rfl) rfl rfl rfl ?_; simp only [Act.put, Act.eval, Array.getD_eq_getD_getElem?, List.getElem?_toArray, List.getElem?_cons_succ, List.getElem?_cons_zero, Option.getD_some, List.setIfInBounds_toArray, List.set_cons_zero, List.set_cons_succ])
      | (refine wk_pickf _ _ _ _ (by first | exact wanted_none rfl | exact wanted_yes _ _ rfl rfl) rfl rfl rfl ?_; simp only [Act.put, Act.eval, Array.getD_eq_getD_getElem?, List.getElem?_toArray, List.getElem?_cons_succ, List.getElem?_cons_zero, Option.getD_some, List.setIfInBounds_toArray, List.set_cons_zero, List.set_cons_succ])
      | (refine wk_skip (wanted_not _ true false rfl rfl rfl) ?_; simp only [Act.put, List.setIfInBounds_toArray, List.set_cons_zero, List.set_cons_succ])
      | (refine wk_skip (wanted_not _ false true rfl rfl rfl) ?_; simp only [Act.put, List.setIfInBounds_toArray, List.set_cons_zero, List.set_cons_succ])
      | (refine wk_skip (wanted_undef _ _ rfl rfl) ?_; simp only [Act.put, List.setIfInBounds_toArray, List.set_cons_zero, List.set_cons_succ])
      | (refine wk_not true _ _ (by first | exact wanted_none rfl | exact wanted_yes _ _ rfl rfl) rfl rfl ?_; simp only [Act.put, List.setIfInBounds_toArray, List.set_cons_zero, List.set_cons_succ])
      | (refine wk_not false _ _ (by first | exact wanted_none rfl | exact wanted_yes _ _ rfl rfl) rfl rfl ?_; simp only [Act.put, List.setIfInBounds_toArray, List.set_cons_zero, List.set_cons_succ]))
    refine wk_load_row 34 _ (gd + 1) 34 rc (0, 0) _ (by kernel_rfl) rfl rfl (fun w' hC => hC.row (R0.out.get 1 rfl)) Tryd.underlying34 rfl (by rw [HRS.out]; exact sizeR) ?_
    simp only [Act.put, List.setIfInBounds_toArray, List.set_cons_zero, List.set_cons_succ]
    refine wk_load1 _ _ _ _ _ rfl (by kernel_rfl) rfl rfl (fun w' hC => hC.cell HD.out) Tryd.underlying39 ?_
    simp only [Act.put, List.setIfInBounds_toArray, List.set_cons_zero, List.set_cons_succ]
    refine wk_call 25 _ _ _ _ _ (by kernel_rfl) rfl Tryd.func25 rfl (by kernel_rfl) (fun w' hC => hC.same (HSZ.out w' hC)) ?_
    simp only [Act.put, List.setIfInBounds_toArray, List.set_cons_zero, List.set_cons_succ]
    refine wk_call 31 _ _ _ _ _ (by kernel_rfl) rfl Tryd.func31 rfl (by kernel_rfl) (fun w' hC => hC.call (HMY.out w')) ?_
    simp only [Act.put, List.setIfInBounds_toArray, List.set_cons_zero, List.set_cons_succ]
    repeat (first
      | (refine wk_move _ (by first | exact wanted_none rfl | exact wanted_yes _ _ rfl rfl) rfl ?_; simp only [Act.put, Act.eval, Array.getD_eq_getD_getElem?, List.getElem?_toArray, List.getElem?_cons_succ, List.getElem?_cons_zero, Option.getD_some, List.setIfInBounds_toArray, List.set_cons_zero, List.set_cons_succ])
      | (refine wk_assign _ (by first | exact wanted_none rfl | exact wanted_yes _ _ rfl rfl) rfl ?_; simp only [Act.put, Act.eval, Array.getD_eq_getD_getElem?, List.getElem?_toArray, List.getElem?_cons_succ, List.getElem?_cons_zero, Option.getD_some, List.setIfInBounds_toArray, List.set_cons_zero, List.set_cons_succ])
      | (refine wk_pickt _ _ _ _ (by first | exact wanted_none rfl | exact wanted_yes _ _ rfl rfl) rfl rfl rfl ?_; simp only [Act.put, Act.eval, Array.getD_eq_getD_getElem?, List.getElem?_toArray, List.getElem?_cons_succ, List.getElem?_cons_zero, Option.getD_some, List.setIfInBounds_toArray, List.set_cons_zero, List.set_cons_succ])
      | (refine wk_pickf _ _ _ _ (by first | exact wanted_none rfl | exact wanted_yes _ _ rfl rfl) rfl rfl rfl ?_; simp only [Act.put, Act.eval, Array.getD_eq_getD_getElem?, List.getElem?_toArray, List.getElem?_cons_succ, List.getElem?_cons_zero, Option.getD_some, List.setIfInBounds_toArray, List.set_cons_zero, List.set_cons_succ])
      | (refine wk_skip (wanted_not _ true false rfl rfl rfl) ?_; simp only [Act.put, List.setIfInBounds_toArray, List.set_cons_zero, List.set_cons_succ])
      | (refine wk_skip (wanted_not _ false true rfl rfl rfl) ?_; simp only [Act.put, List.setIfInBounds_toArray, List.set_cons_zero, List.set_cons_succ])
      | (refine wk_skip (wanted_undef _ _ rfl rfl) ?_; simp only [Act.put, List.setIfInBounds_toArray, List.set_cons_zero, List.set_cons_succ])
      | (refine wk_not true _ _ (by first | exact wanted_none rfl | exact wanted_yes _ _ rfl rfl) rfl rfl ?_; simp only [Act.put, List.setIfInBounds_toArray, List.set_cons_zero, List.set_cons_succ])
      | (refine wk_not false _ _ (by first | exact wanted_none rfl | exact wanted_yes _ _ rfl rfl) rfl rfl ?_; simp only [Act.put, List.setIfInBounds_toArray, List.set_cons_zero, List.set_cons_succ]))
    refine wk_nil ?_
    intro w' hC
    have R3 := Lib.hid (R0.out.since hC)
    clear hC
    go_wp2_with fail
    go_ret
    exact ⟨by rw [HCM2.out]; rfl, by rw [HCM2.out]; exact R3.out.from2 2⟩
  | true =>
    cases fa with
    | true =>
      have HCM2 : Hid (p = (s, 2)) := Lib.hid HCM.out
      refine wk_region_since (by kernel_rfl) (by kernel_rfl) ?_
      repeat (first
        | (refine wk_move _ (by first | exact wanted_none rfl | exact wanted_yes _ _ rfl rfl) rfl ?_; simp only [Act.put, Act.eval, Array.getD_eq_getD_getElem?, List.getElem?_toArray, List.getElem?_cons_succ, List.getElem?_cons_zero, Option.getD_some, List.setIfInBounds_toArray, List.set_cons_zero, List.set_cons_succ])
        | (refine wk_assign _ (by first | exact wanted_none rfl | exact wanted_yes _ _ rfl rfl) rfl ?_; simp only [Act.put, Act.eval, Array.getD_eq_getD_getElem?, List.getElem?_toArray, List.getElem?_cons_succ, List.getElem?_cons_zero, Option.getD_some, List.setIfInBounds_toArray, List.set_cons_zero, List.set_cons_succ])
        | (refine wk_pickt _ _ _ _ (by first | exact wanted_none rfl | exact wanted_yes _ _ rfl rfl) rfl rfl rfl ?_; simp only [Act.put, Act.eval, Array.getD_eq_getD_getElem?, List.getElem?_toArray, List.getElem?_cons_succ, List.getElem?_cons_zero, Option.getD_some, List.setIfInBounds_toArray, List.set_cons_zero, List.set_cons_succ])
        | (refine wk_pickf _ _ _ _ (by first | exact wanted_none rfl | exact wanted_yes _ _ rfl rfl) rfl rfl rfl ?_; simp only [Act.put, Act.eval, Array.getD_eq_getD_getElem?, List.getElem?_toArray, List.getElem?_cons_succ, List.getElem?_cons_zero, Option.getD_some, List.setIfInBounds_toArray, List.set_cons_zero, List.set_cons_succ])
        | (refine wk_skip (wanted_not _ true false rfl rfl rfl) ?_; simp only [Act.put, List.setIfInBounds_toArray, List.set_cons_zero, List.set_cons_succ])
        | (refine wk_skip (wanted_not _ false true rfl rfl rfl) ?_; simp only [Act.put, List.setIfInBounds_toArray, List.set_cons_zero, List.set_cons_succ])
        | (refine wk_skip (wanted_undef _ _ rfl rfl) ?_; simp only [Act.put, List.setIfInBounds_toArray, List.set_cons_zero, List.set_cons_succ])
        | (refine wk_not true _ _ (by first | exact wanted_none rfl | exact wanted_yes _ _ rfl rfl) rfl rfl ?_; simp only [Act.put, List.setIfInBounds_toArray, List.set_cons_zero, List.set_cons_succ])
        | (refine wk_not false _ _ (by first | exact wanted_none rfl | exact wanted_yes _ _ rfl rfl) rfl rfl ?_; simp only [Act.put, List.setIfInBounds_toArray, List.set_cons_zero, List.set_cons_succ]))
      refine wk_load_row 34 _ (gd + 1) 34 rc (0, 0) _ (by kernel_rfl) rfl rfl (fun w' hC => hC.row (R0.out.get 1 rfl)) Tryd.underlying34 rfl (by rw [HRS.out]; exact sizeR) ?_
      simp only [Act.put, List.setIfInBounds_toArray, List.set_cons_zero, List.set_cons_succ]
      refine wk_load1 _ _ _ _ _ rfl (by kernel_rfl) rfl rfl (fun w' hC => hC.cell HD.out) Tryd.underlying39 ?_
      simp only [Act.put, List.setIfInBounds_toArray, List.set_cons_zero, List.set_cons_succ]
      refine wk_call 25 _ _ _ _ _ (by kernel_rfl) rfl Tryd.func25 rfl (by kernel_rfl) (fun w' hC => hC.same (HSZ.out w' hC)) ?_
      simp only [Act.put, List.setIfInBounds_toArray, List.set_cons_zero, List.set_cons_succ]
      refine wk_call 31 _ _ _ _ _ (by kernel_rfl) rfl Tryd.func31 rfl (by kernel_rfl) (fun w' hC => hC.call (HMY.out w')) ?_
      simp only [Act.put, List.setIfInBounds_toArray, List.set_cons_zero, List.set_cons_succ]
      repeat (first
        | (refine wk_move _ (by first | exact wanted_none rfl | exact wanted_yes _ _ rfl rfl) rfl ?_; simp only [Act.put, Act.eval, Array.getD_eq_getD_getElem?, List.getElem?_toArray, List.getElem?_cons_succ, List.getElem?_cons_zero, Option.getD_some, List.setIfInBounds_toArray, List.set_cons_zero, List.set_cons_succ])
        | (refine wk_assign _ (by first | exact wanted_none rfl | exact wanted_yes _ _ rfl rfl) rfl ?_; simp only [Act.put, Act.eval, Array.getD_eq_getD_getElem?, List.getElem?_toArray, List.getElem?_cons_succ, List.getElem?_cons_zero, Option.getD_some, List.setIfInBounds_toArray, List.set_cons_zero, List.set_cons_succ])
        | (refine wk_pickt _ _ _ _ (by first | exact wanted_none rfl | exact wanted_yes _ _ rfl rfl) rfl rfl rfl ?_; simp only [Act.put, Act.eval, Array.getD_eq_getD_getElem?, List.getElem?_toArray, List.getElem?_cons_succ, List.getElem?_cons_zero, Option.getD_some, List.setIfInBounds_toArray, List.set_cons_zero, List.set_cons_succ])
        | (refine wk_pickf _ _ _ _ (by first | exact wanted_none rfl | exact wanted_yes _ _ rfl rfl) rfl rfl rfl ?_; simp only [Act.put, Act.eval, Array.getD_eq_getD_getElem?, List.getElem?_toArray, List.getElem?_cons_succ, List.getElem?_cons_zero, Option.getD_some, List.setIfInBounds_toArray, List.set_cons_zero, List.set_cons_succ])
        | (refine wk_skip (wanted_not _ true false rfl rfl rfl) ?_; simp only [Act.put, List.setIfInBounds_toArray, List.set_cons_zero, List.set_cons_succ])
        | (refine wk_skip (wanted_not _ false true rfl rfl rfl) ?_; simp only [Act.put, List.setIfInBounds_toArray, List.set_cons_zero, List.set_cons_succ])
        | (refine wk_skip (wanted_undef _ _ rfl rfl) ?_; simp only [Act.put, List.setIfInBounds_toArray, List.set_cons_zero, List.set_cons_succ])
        | (refine wk_not true _ _ (by first | exact wanted_none rfl | exact wanted_yes _ _ rfl rfl) rfl rfl ?_; simp only [Act.put, List.setIfInBounds_toArray, List.set_cons_zero, List.set_cons_succ])
        | (refine wk_not false _ _ (by first | exact wanted_none rfl | exact wanted_yes _ _ rfl rfl) rfl rfl ?_; simp only [Act.put, List.setIfInBounds_toArray, List.set_cons_zero, List.set_cons_succ]))
      refine wk_call 32 _ _ _ _ _ (by kernel_rfl) rfl Tryd.func32 rfl (by kernel_rfl) (fun w' hC => hC.call (HCF.out w' hC)) ?_
      simp only [Act.put, List.setIfInBounds_toArray, List.set_cons_zero, List.set_cons_succ]
      repeat (first
        | (refine wk_move _ (by first | exact wanted_none rfl | exact wanted_yes _ _ rfl rfl) rfl ?_; simp only [Act.put, Act.eval, Array.getD_eq_getD_getElem?, List.getElem?_toArray, List.getElem?_cons_succ, List.getElem?_cons_zero, Option.getD_some, List.setIfInBounds_toArray, List.set_cons_zero, List.set_cons_succ])
        | (refine wk_assign _ (by first | exact wanted_none rfl | exact wanted_yes _ _ rfl rfl) rfl ?_; simp only [Act.put, Act.eval, Array.getD_eq_getD_getElem?, List.getElem?_toArray, List.getElem?_cons_succ, List.getElem?_cons_zero, Option.getD_some, List.setIfInBounds_toArray, List.set_cons_zero, List.set_cons_succ])
        | (refine wk_pickt _ _ _ _ (by first | exact wanted_none rfl | exact wanted_yes _ _ rfl rfl) rfl rfl rfl ?_; simp only [Act.put, Act.eval, Array.getD_eq_getD_getElem?, List.getElem?_toArray, List.getElem?_cons_succ, List.getElem?_cons_zero, Option.getD_some, List.setIfInBounds_toArray, List.set_cons_zero, List.set_cons_succ])
        | (refine wk_pickf _ _ _ _ (by first | exact wanted_none rfl | exact wanted_yes _ _ rfl rfl) rfl rfl rfl ?_; simp only [Act.put, Act.eval, Array.getD_eq_getD_getElem?, List.getElem?_toArray, List.getElem?_cons_succ, List.getElem?_cons_zero, Option.getD_some, List.setIfInBounds_toArray, List.set_cons_zero, List.set_cons_succ])
        | (refine wk_skip (wanted_not _ true false rfl rfl rfl) ?_; simp only [Act.put, List.setIfInBounds_toArray, List.set_cons_zero, List.set_cons_succ])
        | (refine wk_skip (wanted_not _ false true rfl rfl rfl) ?_; simp only [Act.put, List.setIfInBounds_toArray, List.set_cons_zero, List.set_cons_succ])
        | (refine wk_skip (wanted_undef _ _ rfl rfl) ?_; simp only [Act.put, List.setIfInBounds_toArray, List.set_cons_zero, List.set_cons_succ])
        | (refine wk_not true _ _ (by first | exact wanted_none rfl | exact wanted_yes _ _ rfl rfl) rfl rfl ?_; simp only [Act.put, List.setIfInBounds_toArray, List.set_cons_zero, List.set_cons_succ])
        | (refine wk_not false _ _ (by first | exact wanted_none rfl | exact wanted_yes _ _ rfl rfl) rfl rfl ?_; simp only [Act.put, List.setIfInBounds_toArray, List.set_cons_zero, List.set_cons_succ]))
      refine wk_nil ?_
      intro w' hC
      have R3 := Lib.hid (R0.out.since hC)
      clear hC
      go_wp2_with fail
      go_ret
      exact ⟨by rw [HCM2.out]; rfl, by rw [HCM2.out]; exact R3.out.from2 2⟩
    | false =>
      have HCM2 : Hid (p = tu) := Lib.hid HCM.out
      refine wk_region_since (by kernel_rfl) (by kernel_rfl) ?_
      repeat (first
        | (refine wk_move _ (by first | exact wanted_none rfl | exact wanted_yes _ _ rfl rfl) rfl ?_; simp only [Act.put, Act.eval, Array.getD_eq_getD_getElem?, List.getElem?_toArray, List.getElem?_cons_succ, List.getElem?_cons_zero, Option.getD_some, List.setIfInBounds_toArray, List.set_cons_zero, List.set_cons_succ])
        | (refine wk_assign _ (by first | exact wanted_none rfl | exact wanted_yes _ _ rfl rfl) rfl ?_; simp only [Act.put, Act.eval, Array.getD_eq_getD_getElem?, List.getElem?_toArray, List.getElem?_cons_succ, List.getElem?_cons_zero, Option.getD_some, List.setIfInBounds_toArray, List.set_cons_zero, List.set_cons_succ])
        | (refine wk_pickt _ _ _ _ (by first | exact wanted_none rfl | exact wanted_yes _ _ rfl rfl) rfl rfl rfl ?_; simp only [Act.put, Act.eval, Array.getD_eq_getD_getElem?, List.getElem?_toArray, List.getElem?_cons_succ, List.getElem?_cons_zero, Option.getD_some, List.setIfInBounds_toArray, List.set_cons_zero, List.set_cons_succ])
        | (refine wk_pickf _ _ _ _ (by first | exact wanted_none rfl | exact wanted_yes _ _ rfl rfl) rfl rfl rfl ?_; simp only [Act.put, Act.eval, Array.getD_eq_getD_getElem?, List.getElem?_toArray, List.getElem?_cons_succ, List.getElem?_cons_zero, Option.getD_some, List.setIfInBounds_toArray, List.set_cons_zero, List.set_cons_succ])
        | (refine wk_skip (wanted_not _ true false rfl rfl rfl) ?_; simp only [Act.put, List.setIfInBounds_toArray, List.set_cons_zero, List.set_cons_succ])
        | (refine wk_skip (wanted_not _ false true rfl rfl rfl) ?_; simp only [Act.put, List.setIfInBounds_toArray, List.set_cons_zero, List.set_cons_succ])
        | (refine wk_skip (wanted_undef _ _ rfl rfl) ?_; simp only [Act.put, List.setIfInBounds_toArray, List.set_cons_zero, List.set_cons_succ])
        | (refine wk_not true _ _ (by first | exact wanted_none rfl | exact wanted_yes _ _ rfl rfl) rfl rfl ?_; simp only [Act.put, List.setIfInBounds_toArray, List.set_cons_zero, List.set_cons_succ])
        | (refine wk_not false _ _ (by first | exact wanted_none rfl | exact wanted_yes _ _ rfl rfl) rfl rfl ?_; simp only [Act.put, List.setIfInBounds_toArray, List.set_cons_zero, List.set_cons_succ]))
      refine wk_load_row 34 _ (gd + 1) 34 rc (0, 0) _ (by kernel_rfl) rfl rfl (fun w' hC => hC.row (R0.out.get 1 rfl)) Tryd.underlying34 rfl (by rw [HRS.out]; exact sizeR) ?_
      simp only [Act.put, List.setIfInBounds_toArray, List.set_cons_zero, List.set_cons_succ]
      refine wk_load1 _ _ _ _ _ rfl (by kernel_rfl) rfl rfl (fun w' hC => hC.cell HD.out) Tryd.underlying39 ?_
      simp only [Act.put, List.setIfInBounds_toArray, List.set_cons_zero, List.set_cons_succ]
      refine wk_call 25 _ _ _ _ _ (by kernel_rfl) rfl Tryd.func25 rfl (by kernel_rfl) (fun w' hC => hC.same (HSZ.out w' hC)) ?_
      simp only [Act.put, List.setIfInBounds_toArray, List.set_cons_zero, List.set_cons_succ]
      refine wk_call 31 _ _ _ _ _ (by kernel_rfl) rfl Tryd.func31 rfl (by kernel_rfl) (fun w' hC => hC.call (HMY.out w')) ?_
      simp only [Act.put, List.setIfInBounds_toArray, List.set_cons_zero, List.set_cons_succ]
      repeat (first
        | (refine wk_move _ (by first | exact wanted_none rfl | exact wanted_yes _ _ rfl rfl) rfl ?_; simp only [Act.put, Act.eval, Array.getD_eq_getD_getElem?, List.getElem?_toArray, List.getElem?_cons_succ, List.getElem?_cons_zero, Option.getD_some, List.setIfInBounds_toArray, List.set_cons_zero, List.set_cons_succ])
        | (refine wk_assign _ (by first | exact wanted_none rfl | exact wanted_yes _ _ rfl rfl) rfl ?_; simp only [Act.put, Act.eval, Array.getD_eq_getD_getElem?, List.getElem?_toArray, List.getElem?_cons_succ, List.getElem?_cons_zero, Option.getD_some, List.setIfInBounds_toArray, List.set_cons_zero, List.set_cons_succ])
        | (refine wk_pickt _ _ _ _ (by first | exact wanted_none rfl | exact wanted_yes _ _ rfl rfl) rfl rfl rfl ?_; simp only [Act.put, Act.eval, Array.getD_eq_getD_getElem?, List.getElem?_toArray, List.getElem?_cons_succ, List.getElem?_cons_zero, Option.getD_some, List.setIfInBounds_toArray, List.set_cons_zero, List.set_cons_succ])
        | (refine wk_pickf _ _ _ _ (by first | exact wanted_none rfl | exact wanted_yes _ _ rfl rfl) rfl rfl rfl ?_; simp only [Act.put, Act.eval, Array.getD_eq_getD_getElem?, List.getElem?_toArray, List.getElem?_cons_succ, List.getElem?_cons_zero, Option.getD_some, List.setIfInBounds_toArray, List.set_cons_zero, List.set_cons_succ])
        | (refine wk_skip (wanted_not _ true false rfl rfl rfl) ?_; simp only [Act.put, List.setIfInBounds_toArray, List.set_cons_zero, List.set_cons_succ])
        | (refine wk_skip (wanted_not _ false true rfl rfl rfl) ?_; simp only [Act.put, List.setIfInBounds_toArray, List.set_cons_zero, List.set_cons_succ])
        | (refine wk_skip (wanted_undef _ _ rfl rfl) ?_; simp only [Act.put, List.setIfInBounds_toArray, List.set_cons_zero, List.set_cons_succ])
        | (refine wk_not true _ _ (by first | exact wanted_none rfl | exact wanted_yes _ _ rfl rfl) rfl rfl ?_; simp only [Act.put, List.setIfInBounds_toArray, List.set_cons_zero, List.set_cons_succ])
        | (refine wk_not false _ _ (by first | exact wanted_none rfl | exact wanted_yes _ _ rfl rfl) rfl rfl ?_; simp only [Act.put, List.setIfInBounds_toArray, List.set_cons_zero, List.set_cons_succ]))
      refine wk_call 32 _ _ _ _ _ (by kernel_rfl) rfl Tryd.func32 rfl (by kernel_rfl) (fun w' hC => hC.call (HCF.out w' hC)) ?_
      simp only [Act.put, List.setIfInBounds_toArray, List.set_cons_zero, List.set_cons_succ]
      repeat (first
        | (refine wk_move _ (by first | exact wanted_none rfl | exact wanted_yes _ _ rfl rfl) rfl ?_; simp only [Act.put, Act.eval, Array.getD_eq_getD_getElem?, List.getElem?_toArray, List.getElem?_cons_succ, List.getElem?_cons_zero, Option.getD_some, List.setIfInBounds_toArray, List.set_cons_zero, List.set_cons_succ])
        | (refine wk_assign _ (by first | exact wanted_none rfl | exact wanted_yes _ _ rfl rfl) rfl ?_; simp only [Act.put, Act.eval, Array.getD_eq_getD_getElem?, List.getElem?_toArray, List.getElem?_cons_succ, List.getElem?_cons_zero, Option.getD_some, List.setIfInBounds_toArray, List.set_cons_zero, List.set_cons_succ])
        | (refine wk_pickt _ _ _ _ (by first | exact wanted_none rfl | exact wanted_yes _ _ rfl rfl) rfl rfl rfl ?_; simp only [Act.put, Act.eval, Array.getD_eq_getD_getElem?, List.getElem?_toArray, List.getElem?_cons_succ, List.getElem?_cons_zero, Option.getD_some, List.setIfInBounds_toArray, List.set_cons_zero, List.set_cons_succ])
        | (refine wk_pickf _ _ _ _ (by first | exact wanted_none rfl | exact wanted_yes _ _ rfl rfl) rfl rfl rfl ?_; simp only [Act.put, Act.eval, Array.getD_eq_getD_getElem?, List.getElem?_toArray, List.getElem?_cons_succ, List.getElem?_cons_zero, Option.getD_some, List.setIfInBounds_toArray, List.set_cons_zero, List.set_cons_succ])
        | (refine wk_skip (wanted_not _ true false rfl rfl rfl) ?_; simp only [Act.put, List.setIfInBounds_toArray, List.set_cons_zero, List.set_cons_succ])
        | (refine wk_skip (wanted_not _ false true rfl rfl rfl) ?_; simp only [Act.put, List.setIfInBounds_toArray, List.set_cons_zero, List.set_cons_succ])
        | (refine wk_skip (wanted_undef _ _ rfl rfl) ?_; simp only [Act.put, List.setIfInBounds_toArray, List.set_cons_zero, List.set_cons_succ])
        | (refine wk_not true _ _ (by first | exact wanted_none rfl | exact wanted_yes _ _ rfl rfl) rfl rfl ?_; simp only [Act.put, List.setIfInBounds_toArray, List.set_cons_zero, List.set_cons_succ])
        | (refine wk_not false _ _ (by first | exact wanted_none rfl | exact wanted_yes _ _ rfl rfl) rfl rfl ?_; simp only [Act.put, List.setIfInBounds_toArray, List.set_cons_zero, List.set_cons_succ]))
      refine wk_nil ?_
      intro w' hC
      have R3 := Lib.hid (R0.out.since hC)
      clear hC
      have cd3 : w'.cell? ⟨gd, 0, none⟩ = some (.pointer (some ⟨g, 0, none⟩)) := R3.out.cell 2 0 rfl rfl
      go_wp2_with (first
        | refine wpList_load_row rfl 34 _ rfl (gd + 1) rfl 34 rc (0, 0) _ (R3.out.get 1 rfl) Tryd.underlying34 rfl (by rw [HRS.out]; exact sizeR) ?_
        | (go_at_call 27; refine (HTU.out _ R3.out).mono ?_; rintro e w5 ⟨rfl, hR⟩; have R5 := Lib.hid hR; clear hR))
      go_ret
      exact ⟨by rw [HCM2.out]; rfl, by rw [HCM2.out]; exact R5.out.from2 2⟩
end
end Go.Proofs.YtnphgaiiiiknpaaDoor
