/- The slot layer: what a root is; which may be. The slot layer: of, Put. The slot layer: Get. -/
import Derived.Test.YtcepfmjebgklfaaDoorRead6
import Derived.Test.YtcepfmjebgklfaaDoorFieldNum
namespace Go.Proofs.YtcepfmjebgklfaaDoor
open Go.RowKit
set_option linter.unusedSimpArgs false
set_option maxRecDepth 100000
/-- A root. -/
structure Root where
  gen : Nat
  size : Nat
  picks : Nat
  names : Nat
  free : Nat
  next : Nat
  hint : Nat
  vols : Nat
def Root.cells (r : Root) : Array Value := #[.int .u64 (r.gen : Int), .int .u32 (r.size : Int), .int .u32 (r.picks : Int), .int .u32 (r.names : Int), .int .u32 (r.free : Int), .int .u32 (r.next : Int), .int .u32 (r.hint : Int), .int .u8 (r.vols : Int)]
structure Root.Ok (r : Root) : Prop where
  gen : r.gen < 2 ^ 64
  size : r.size < 4294967296
  picks : r.picks < 4294967296
  names : r.names < 4294967296
  free : r.free < 4294967296
  next : r.next < 4294967296
  hint : r.hint < 4294967296
  vols : r.vols < 256
def Root.s1 (r : Root) : Bool := decide (64 ≤ r.size) && decide (r.size ≤ 1048576)
def Root.s2 (r : Root) : Bool := decide (r.names < r.size) && (decide (r.hint < r.size) && decide (r.free ≤ r.size))
def Root.s3 (r : Root) : Bool := decide (r.vols ≤ 16) && (decide (r.vols = 0) == decide (r.names = 0))
def Root.may (r : Root) : Bool := decide (0 < r.gen) && (r.s1 && (r.s2 && (decide (r.picks < 65536) && (decide (0 < r.next) && r.s3))))
theorem beq0 (n : Nat) : ((n : Int) == 0) = decide (n = 0) := by
  by_cases h : n = 0 <;> simp [h]
end Go.Proofs.YtcepfmjebgklfaaDoor
namespace Go.Proofs.YtcepfmjebgklfaaDoor
open Go.RowKit
set_option linter.unusedSimpArgs false
set_option maxRecDepth 100000
/-- The addresses of a root's words. -/
def ofA (g : Nat) : Array Value := #[.pointer (some ⟨g, 1, none⟩), .pointer (some ⟨g, 2, none⟩), .pointer (some ⟨g, 3, none⟩), .pointer (some ⟨g, 4, none⟩), .pointer (some ⟨g, 5, none⟩), .pointer (some ⟨g, 6, none⟩)]
theorem ofA_get (g k : Nat) (hk : k < 6) : (ofA g)[k]? = some (.pointer (some ⟨g, k + 1, none⟩)) := by
  have : k = 0 ∨ k = 1 ∨ k = 2 ∨ k = 3 ∨ k = 4 ∨ k = 5 := by omega
  rcases this with rfl | rfl | rfl | rfl | rfl | rfl <;> rfl
def Root.nums (r : Root) : List Nat := [r.size, r.picks, r.names, r.free, r.next, r.hint]
def Root.upto (r : Root) (k : Nat) : List UInt8 := lows r.gen 8 ++ (r.nums.take k).flatMap (lows · 4)
/-- A root's bytes. -/
def Root.bytes (r : Root) : List UInt8 := r.upto 6 ++ lows r.vols 1
theorem Root.upto_succ (r : Root) (k : Nat) (hk : k < 6) : r.upto k ++ lows (r.nums.getD k 0) 4 = r.upto (k + 1) := by
  unfold Root.upto
  rw [List.append_assoc]
  congr 1
  have : k = 0 ∨ k = 1 ∨ k = 2 ∨ k = 3 ∨ k = 4 ∨ k = 5 := by omega
  rcases this with rfl | rfl | rfl | rfl | rfl | rfl <;> simp [Root.nums]
theorem Root.length_upto (r : Root) (k : Nat) (hk : k ≤ 6) : (r.upto k).length = 8 + 4 * k := by
  unfold Root.upto
  rw [List.length_append, length_lows]
  have : k = 0 ∨ k = 1 ∨ k = 2 ∨ k = 3 ∨ k = 4 ∨ k = 5 ∨ k = 6 := by omega
  rcases this with rfl | rfl | rfl | rfl | rfl | rfl | rfl <;> simp [Root.nums, length_lows]
theorem Root.length_bytes (r : Root) : r.bytes.length = 33 := by
  rw [Root.bytes, List.length_append, r.length_upto 6 (by omega), length_lows]
theorem rcells_get (r : Root) (k : Nat) (hk : k < 6) : r.cells[k + 1]? = some (.int .u32 (r.nums.getD k 0 : Int)) := by
  have : k = 0 ∨ k = 1 ∨ k = 2 ∨ k = 3 ∨ k = 4 ∨ k = 5 := by omega
  rcases this with rfl | rfl | rfl | rfl | rfl | rfl <;> rfl
theorem Root.Ok.num {r : Root} (h : r.Ok) (k : Nat) (hk : k < 6) : r.nums.getD k 0 < 4294967296 := by
  obtain ⟨-, h1, h2, h3, h4, h5, h6, -⟩ := h
  have : k = 0 ∨ k = 1 ∨ k = 2 ∨ k = 3 ∨ k = 4 ∨ k = 5 := by omega
  rcases this with rfl | rfl | rfl | rfl | rfl | rfl <;> simp [Root.nums] <;> assumption
/-- What Put answers. -/
def Root.putB (r : Root) : List UInt8 := if r.may then doneB 82 r.bytes else List.replicate 256 0
def Root.putE (r : Root) : Int := if r.may then 0 else 2
theorem length_rputB (r : Root) : r.putB.length = 256 := by
  unfold Root.putB
  split
  · exact length_doneB _ _ (by rw [r.length_bytes]; omega)
  · exact List.length_replicate
end Go.Proofs.YtcepfmjebgklfaaDoor
namespace Go.Proofs.YtcepfmjebgklfaaDoor
open Go.RowKit
set_option linter.unusedSimpArgs false
set_option maxRecDepth 100000
/-- The root that a block's bytes are. -/
def rootOf (b : List UInt8) : Root := ⟨num (seg b 1 8), num (seg b 9 4), num (seg b 13 4), num (seg b 17 4), num (seg b 21 4), num (seg b 25 4), num (seg b 29 4), num (seg b 33 1)⟩
theorem rootOf_ok (b : List UInt8) (hb : b.length = 256) : (rootOf b).Ok :=
  ⟨num_seg_lt b 1 8 (by omega), num_seg_lt b 9 4 (by omega), num_seg_lt b 13 4 (by omega), num_seg_lt b 17 4 (by omega), num_seg_lt b 21 4 (by omega), num_seg_lt b 25 4 (by omega), num_seg_lt b 29 4 (by omega), num_seg_lt b 33 1 (by omega)⟩
def zeroRoot : Array Value := #[.int .u64 0, .int .u32 0, .int .u32 0, .int .u32 0, .int .u32 0, .int .u32 0, .int .u32 0, .int .u8 0]
/-- Is a block a root's? -/
def isRoot (b : List UInt8) : Bool := fineB b 82 && (allZero (seg b 34 218) && (rootOf b).may)
def getC (b : List UInt8) : Array Value := if isRoot b then (rootOf b).cells else zeroRoot
def getE (b : List UInt8) : Int := if isRoot b then 0 else 250
/-- A root's cells behind the k-th word. -/
def outC (b : List UInt8) (f : Bool) : Nat → Array Value
  | 0 => zeroRoot.setIfInBounds 0 (.int .u64 (readV b 1 8 f : Int))
  | k + 1 => (outC b f k).setIfInBounds (k + 1) (.int .u32 (readV b (nextI 9 (4 * k) f) 4 f : Int))
theorem size_outC (b : List UInt8) (f : Bool) (k : Nat) : (outC b f k).size = 8 := by
  induction k with
  | zero => rfl
  | succ k ih => simp [outC, ih]
theorem outC_other (b : List UInt8) (f : Bool) (k j : Nat) (h : k < j) (hj : j < 8) : (outC b f k)[j]? = zeroRoot[j]? := by
  induction k with
  | zero => simp [outC, Array.getElem?_setIfInBounds, show ¬ 0 = j by omega]
  | succ k ih => rw [outC, Array.getElem?_setIfInBounds_ne (by omega)]; exact ih (by omega)
theorem outC_full (b : List UInt8) : (outC b true 6).setIfInBounds 7 (.int .u8 (readV b 33 1 true : Int)) = (rootOf b).cells := by
  simp [outC, readV, nextI, rootOf, Root.cells, zeroRoot]
def posF (f : Bool) (k : Nat) : Nat := if f then 9 + 4 * k else 1
theorem posF_next (f : Bool) (k : Nat) : nextI (posF f k) 4 f = posF f (k + 1) := by cases f <;> simp [nextI, posF]; omega
theorem posF_read (b : List UInt8) (f : Bool) (k : Nat) : readV b (posF f k) 4 f = readV b (nextI 9 (4 * k) f) 4 f := by cases f <;> rfl
theorem posF_le (f : Bool) (k : Nat) (h : k ≤ 6) : posF f k ≤ 33 := by unfold posF; split <;> omega
theorem zero_one : zeroRoot.all (·.oneCell') = true := by simp [zeroRoot, Value.oneCell']
theorem rcells_one (r : Root) : r.cells.all (·.oneCell') = true := by simp [Root.cells, Value.oneCell']
end Go.Proofs.YtcepfmjebgklfaaDoor
