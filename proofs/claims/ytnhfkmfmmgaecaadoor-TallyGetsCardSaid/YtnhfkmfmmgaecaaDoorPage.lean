/- A struct of a number and of an array of numbers: its cells, its bytes, what stands of it in a block, when two are the same. Over any program. -/
import Derived.Test.YtnhfkmfmmgaecaaDoorPack
import Derived.Test.YtnhfkmfmmgaecaaDoorRead4
import Derived.Test.YtnhfkmfmmgaecaaDoorStructEq
import Derived.Test.YtnhfkmfmmgaecaaDoorKeep
namespace Go.Proofs.YtnhfkmfmmgaecaaDoor
open Go.RowKit
set_option linter.unusedSimpArgs false
set_option maxRecDepth 100000
theorem Rows.lts {w0 W : World} {l : List (Nat × Array Value × TypeId)} (R : Rows w0 W l) : ∀ x ∈ l, x.1 < W.heap.size := fun x hx => (Array.getElem?_eq_some_iff.1 (R.row x hx).2).1
theorem Rows.under {w0 W W' : World} {l : List (Nat × Array Value × TypeId)} (R : Rows w0 W l) {base : Nat} (h0 : w0.heap.size ≤ base) (hl : ∀ x ∈ l, x.1 < base) (hb : Below base W W') : Rows w0 W' l :=
  ⟨R.below.trans (hb.mono h0), fun x hx => ⟨(R.row x hx).1, (hb.block _ (hl x hx)).trans (R.row x hx).2⟩, R.dist⟩
/-- The cells. -/
def pcells (kh kl : IntKind) (h : Nat) (l : List Nat) : Array Value := (Value.int kh (h : Int) :: l.map fun (x : Nat) => Value.int kl (x : Int)).toArray
section
variable (kh kl : IntKind) (h : Nat) (l : List Nat)
theorem size_pcells : (pcells kh kl h l).size = l.length + 1 := by simp [pcells]
theorem pcells_head : (pcells kh kl h l)[0]? = some (.int kh (h : Int)) := rfl
theorem pcells_get (k : Nat) (hk : k < l.length) : (pcells kh kl h l)[k + 1]? = some (.int kl (l[k] : Int)) := by simp [pcells, hk]
theorem pcells_set (k x : Nat) : (pcells kh kl h l).setIfInBounds (k + 1) (.int kl (x : Int)) = pcells kh kl h (l.set k x) := by
  simp [pcells, List.map_set]
theorem pcells_one : (pcells kh kl h l).all (·.oneCell') = true := by
  rw [Array.all_eq_true_iff_forall_mem]
  intro x hx
  simp only [pcells, List.mem_toArray, List.mem_cons, List.mem_map] at hx
  rcases hx with rfl | ⟨_, _, rfl⟩ <;> rfl
end
theorem pcells_inj {kh kl : IntKind} {h h' : Nat} {l l' : List Nat} (e : pcells kh kl h l = pcells kh kl h' l') : h = h' ∧ l = l' := by
  have e2 := congrArg Array.toList e
  simp only [pcells, List.cons.injEq, Value.int.injEq, true_and] at e2
  refine ⟨by omega, ?_⟩
  exact (List.map_inj_right (fun a b hab => by have : (a : Int) = (b : Int) := by simpa using hab
                                               omega)).1 e2.2
/-- The bytes of the head and of the first k numbers. -/
def pupto (wh wl h : Nat) (l : List Nat) (k : Nat) : List UInt8 := lows h wh ++ (l.take k).flatMap (lows · wl)
theorem pupto_zero (wh wl h : Nat) (l : List Nat) : pupto wh wl h l 0 = lows h wh := by simp [pupto]
theorem pupto_succ (wh wl h : Nat) (l : List Nat) (k : Nat) (hk : k < l.length) : pupto wh wl h l k ++ lows l[k] wl = pupto wh wl h l (k + 1) := by
  unfold pupto
  rw [List.append_assoc, List.take_succ_eq_append_getElem hk, List.flatMap_append]
  simp
theorem length_flat (wl : Nat) : ∀ l : List Nat, (l.flatMap (lows · wl)).length = wl * l.length
  | [] => by simp
  | x :: l => by simp [length_lows, length_flat wl l, Nat.mul_add]; omega
theorem length_pupto (wh wl h : Nat) (l : List Nat) (k : Nat) (hk : k ≤ l.length) : (pupto wh wl h l k).length = wh + wl * k := by
  unfold pupto
  rw [List.length_append, length_lows, length_flat, List.length_take, Nat.min_eq_left hk]
theorem pack_flat (wl : Nat) : ∀ l : List Nat, pack (List.replicate l.length wl) l = l.flatMap (lows · wl)
  | [] => rfl
  | x :: l => by simp [List.replicate_succ, pack, pack_flat wl l]
theorem pupto_all (wh wl h : Nat) (l : List Nat) : pupto wh wl h l l.length = pack (wh :: List.replicate l.length wl) (h :: l) := by
  simp [pupto, pack, pack_flat]
theorem unpack_flat (wl : Nat) (b : List UInt8) : ∀ (n i : Nat), unpack (List.replicate n wl) b i = (List.range n).map fun k => num (seg b (i + wl * k) wl)
  | 0, _ => rfl
  | n + 1, i => by
    rw [List.replicate_succ, unpack, unpack_flat wl b n (i + wl), List.range_succ_eq_map]
    simp only [List.map_cons, Nat.mul_zero, Nat.add_zero, List.map_map]
    congr 1
    apply List.map_congr_left
    intro k _
    simp only [Function.comp, Nat.mul_succ]
    congr 2
    omega
/-- The numbers that stand in a block behind the head. -/
def rest (b : List UInt8) (i wl n : Nat) : List Nat := (List.range n).map fun k => num (seg b (i + wl * k) wl)
theorem length_rest (b : List UInt8) (i wl n : Nat) : (rest b i wl n).length = n := by simp [rest]
theorem get_rest (b : List UInt8) (i wl n k : Nat) (hk : k < n) : (rest b i wl n)[k]'(by rw [length_rest]; exact hk) = num (seg b (i + wl * k) wl) := by simp [rest]
theorem rest_lt (b : List UInt8) (i wl n : Nat) (h : i + wl * n ≤ b.length) : ∀ x ∈ rest b i wl n, x < 256 ^ wl := by
  intro x hx
  simp only [rest, List.mem_map, List.mem_range] at hx
  obtain ⟨k, hk, rfl⟩ := hx
  have h2 : wl * k + wl ≤ wl * n := by rw [← Nat.mul_succ]; exact Nat.mul_le_mul_left _ hk
  exact num_seg_lt b _ _ (by omega)
/-- A page: what its two kinds of numbers may be. -/
structure POk (wh wl n : Nat) (h : Nat) (l : List Nat) : Prop where
  len : l.length = n
  head : h < 256 ^ wh
  all : ∀ x ∈ l, x < 256 ^ wl
theorem fits_flat (wl : Nat) : ∀ l : List Nat, (∀ x ∈ l, x < 256 ^ wl) → Fits (List.replicate l.length wl) l
  | [], _ => trivial
  | x :: l, h => ⟨h x (by simp), fits_flat wl l (fun y hy => h y (by simp [hy]))⟩
theorem POk.fits {wh wl n h : Nat} {l : List Nat} (p : POk wh wl n h l) : Fits (wh :: List.replicate n wl) (h :: l) := by
  obtain ⟨rfl, h1, h2⟩ := p
  exact ⟨h1, fits_flat wl l h2⟩
theorem sum_flat (wh wl n : Nat) : (wh :: List.replicate n wl).sum = wh + wl * n := by
  simp [List.sum_replicate_nat, Nat.mul_comm]
/-- The bytes of a page. -/
def pbytes (wh wl h : Nat) (l : List Nat) : List UInt8 := pupto wh wl h l l.length
theorem pbytes_pack {wh wl n h : Nat} {l : List Nat} (p : POk wh wl n h l) : pbytes wh wl h l = pack (wh :: List.replicate n wl) (h :: l) := by
  rw [pbytes, pupto_all, p.len]
theorem length_pbytes {wh wl n h : Nat} {l : List Nat} (p : POk wh wl n h l) : (pbytes wh wl h l).length = wh + wl * n := by
  rw [pbytes, length_pupto _ _ _ _ _ (Nat.le_refl _), p.len]
theorem pOf_ok (b : List UInt8) (hb : b.length = 256) (wh wl n : Nat) (hn : wh + wl * n ≤ 251) : POk wh wl n (num (seg b 1 wh)) (rest b (1 + wh) wl n) :=
  ⟨length_rest _ _ _ _, num_seg_lt b 1 wh (by omega), rest_lt b (1 + wh) wl n (by omega)⟩
/-- A block is that of the page that stands in it just if it is sealed, bears the magic and has zeros behind. -/
theorem page_iff (b : List UInt8) (hb : b.length = 256) (m : UInt8) (wh wl n : Nat) (hn : wh + wl * n ≤ 251) :
    doneB m (pbytes wh wl (num (seg b 1 wh)) (rest b (1 + wh) wl n)) = b ↔ sealB b = b ∧ b[0]? = some m ∧ zerosFrom b (1 + (wh + wl * n)) := by
  rw [pbytes_pack (pOf_ok b hb wh wl n hn)]
  have e : num (seg b 1 wh) :: rest b (1 + wh) wl n = unpack (wh :: List.replicate n wl) b 1 := by
    rw [unpack, unpack_flat]; rfl
  rw [e, pack_iff b hb m _ (by rw [sum_flat]; exact hn), sum_flat]
/-- What is read of a page's block is the page. -/
theorem page_back {wh wl n h : Nat} {l : List Nat} (p : POk wh wl n h l) (m : UInt8) (hn : wh + wl * n ≤ 251) :
    num (seg (doneB m (pbytes wh wl h l)) 1 wh) = h ∧ rest (doneB m (pbytes wh wl h l)) (1 + wh) wl n = l := by
  have := unpack_done m (wh :: List.replicate n wl) (h :: l) p.fits (by rw [sum_flat]; exact hn)
  rw [← pbytes_pack p, unpack, unpack_flat] at this
  simpa [rest] using this
theorem page_inj {wh wl n h h' : Nat} {l l' : List Nat} (p : POk wh wl n h l) (q : POk wh wl n h' l') (m : UInt8) (hn : wh + wl * n ≤ 251) (e : doneB m (pbytes wh wl h l) = doneB m (pbytes wh wl h' l')) : h = h' ∧ l = l' := by
  obtain ⟨h1, h2⟩ := page_back p m hn
  obtain ⟨h3, h4⟩ := page_back q m hn
  rw [e] at h1 h2
  exact ⟨h1.symm.trans h3, h2.symm.trans h4⟩
theorem zerosB (b : List UInt8) (hb : b.length = 256) (i : Nat) (hi : i ≤ 252) : allZero (seg b i (252 - i)) = true ↔ zerosFrom b i := by
  rw [allZero_iff, length_seg b i (252 - i) (by omega)]
  constructor
  · intro h k h1 h2
    obtain ⟨j, rfl⟩ : ∃ j, k = i + j := ⟨k - i, by omega⟩
    rw [← get_seg b i (252 - i) j (by omega)]
    exact h j (by omega)
  · intro h j hj
    rw [get_seg b i (252 - i) j hj]
    exact h _ (by omega) (by omega)
section
variable {P : Program}
theorem run_part_arr (w : World) (t e : TypeId) (n : Nat) (ht : P.underlying t = some (.array n e)) (hs : (P.info? t).map (·.size) = some n) (cs : Array Value) (off : Nat) :
    (part t cs off).run P w = .ok (.agg (cs.extract off (off + n))) w := by
  obtain ⟨i, hi, h1⟩ := Option.map_eq_some_iff.1 hs
  simp [part, isAgg, run_underlying ht, sizeOf, typeInfo, hi, h1]
theorem run_part_int' (w : World) (t : TypeId) (k : IntKind) (ht : P.underlying t = some (.int k)) (cs : Array Value) (off : Nat) (v : Value) (h : cs[off]? = some v) : (part t cs off).run P w = .ok v w := by
  simp [part, isAgg, run_underlying ht, h]
theorem extract_pcells (kh kl : IntKind) (h : Nat) (l : List Nat) (n : Nat) (hn : l.length = n) : (pcells kh kl h l).extract 1 (1 + n) = ints kl (l.map fun (x : Nat) => (x : Int)) := by
  subst hn
  apply Array.ext'
  simp only [pcells, ints, List.extract_toArray, List.map_map]
  simp only [List.extract, List.drop_succ_cons, List.drop_zero, Function.comp_def]
  rw [show 1 + l.length - 1 = l.length by omega, List.take_of_length_le (by simp)]
theorem run_equalIn_page (w : World) (T th tl e : TypeId) (kh kl : IntKind) (n : Nat) (hT : P.underlying T = some (.struct (P.fieldsOf T))) (hp : P.stoodInHeld T = false)
    (hf : ((P.fieldsOf T).toList.map fun f => (f.name == "_", f.type, f.offset)) = [(false, th, 0), (false, tl, 1)])
    (hh : P.underlying th = some (.int kh)) (hl : P.underlying tl = some (.array n e)) (he : P.underlying e = some (.int kl)) (hs : (P.info? e).map (·.size) = some 1) (hst : (P.info? tl).map (·.size) = some n)
    (a b : Nat) (x y : List Nat) (hx : x.length = n) (hy : y.length = n) :
    (Op.equalIn 10000 T (.agg (pcells kh kl a x)) (.agg (pcells kh kl b y))).run P w = .ok (decide (a = b) && decide (x = y)) w := by
  rw [run_equalIn_struct w 9999 T _ _ hT hp]
  rw [run_eqFields w 9999 _ _ _ [⟨th, 0, .int kh (a : Int), .int kh (b : Int), decide (a = b)⟩, ⟨tl, 1, .agg (ints kl (x.map fun (z : Nat) => (z : Int))), .agg (ints kl (y.map fun (z : Nat) => (z : Int))), decide (x = y)⟩] hf ?_]
  · simp
  · intro r hr
    simp only [List.mem_cons, List.not_mem_nil, or_false] at hr
    rcases hr with rfl | rfl
    · refine ⟨run_part_int' w _ _ hh _ _ _ rfl, run_part_int' w _ _ hh _ _ _ rfl, ?_⟩
      rw [run_equalIn_int w 9998 _ kh kh _ _ hh]
      congr 2
      by_cases h : a = b
      · simp [h]
      · have : ¬ (a : Int) = (b : Int) := by omega
        simp [h, this]
    · refine ⟨?_, ?_, ?_⟩
      · rw [run_part_arr w tl e n hl hst, extract_pcells _ _ _ _ n hx]
      · rw [run_part_arr w tl e n hl hst, extract_pcells _ _ _ _ n hy]
      · rw [run_equalIn_ints w 9997 tl e kl n hl he hs _ _ (by simpa using hx) (by simpa using hy)]
        congr 2
        have : (x.map fun (z : Nat) => (z : Int)) = (y.map fun (z : Nat) => (z : Int)) ↔ x = y := List.map_inj_right (fun a b hab => by omega)
        simp only [this]
end
end Go.Proofs.YtnhfkmfmmgaecaaDoor
