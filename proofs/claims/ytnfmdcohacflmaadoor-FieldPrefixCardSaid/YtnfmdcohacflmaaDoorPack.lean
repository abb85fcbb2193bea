/- Plain laws on rows of numbers as bytes: packed by their widths, unpacked, and back; when a block is such a row's. -/
import Derived.Test.YtnfmdcohacflmaaDoorReadMath
namespace Go.Proofs.YtnfmdcohacflmaaDoor
open Go.RowKit
/-- Numbers as bytes, one behind the other, by their widths. -/
def pack : List Nat → List Nat → List UInt8
  | w :: ws, x :: xs => lows x w ++ pack ws xs
  | _, _ => []
/-- The numbers that stand in b from i on, by their widths. -/
def unpack : List Nat → List UInt8 → Nat → List Nat
  | [], _, _ => []
  | w :: ws, b, i => num (seg b i w) :: unpack ws b (i + w)
/-- Does each number fit into its width? -/
def Fits : List Nat → List Nat → Prop
  | [], [] => True
  | w :: ws, x :: xs => x < 256 ^ w ∧ Fits ws xs
  | _, _ => False
theorem length_pack : ∀ (ws xs : List Nat), Fits ws xs → (pack ws xs).length = ws.sum
  | [], [], _ => rfl
  | w :: ws, x :: xs, h => by simp [pack, length_lows, length_pack ws xs h.2]
  | [], _ :: _, h => h.elim
  | _ :: _, [], h => h.elim
theorem fits_unpack : ∀ (ws : List Nat) (b : List UInt8) (i : Nat), i + ws.sum ≤ b.length → Fits ws (unpack ws b i)
  | [], _, _, _ => trivial
  | w :: ws, b, i, h => by
    simp only [List.sum_cons] at h
    exact ⟨num_seg_lt b i w (by omega), fits_unpack ws b (i + w) (by omega)⟩
theorem pack_unpack : ∀ (ws : List Nat) (b : List UInt8) (i : Nat), i + ws.sum ≤ b.length → pack ws (unpack ws b i) = seg b i ws.sum
  | [], b, i, _ => by simp [pack, seg]
  | w :: ws, b, i, h => by
    simp only [List.sum_cons] at h
    simp only [pack, unpack, List.sum_cons]
    rw [lows_seg b i w (by omega), pack_unpack ws b (i + w) (by omega), seg_append]
theorem pack_inj : ∀ (ws xs ys : List Nat), Fits ws xs → Fits ws ys → pack ws xs = pack ws ys → xs = ys
  | [], [], [], _, _, _ => rfl
  | w :: ws, x :: xs, y :: ys, hx, hy, h => by
    obtain ⟨h1, h2⟩ := List.append_inj h (by rw [length_lows, length_lows])
    rw [lows_inj w x y hx.1 hy.1 h1, pack_inj ws xs ys hx.2 hy.2 h2]
  | [], _ :: _, _, h, _, _ => h.elim
  | [], [], _ :: _, _, h, _ => h.elim
  | _ :: _, [], _, h, _, _ => h.elim
  | _ :: _, _ :: _, [], _, h, _ => h.elim
theorem seg_done (m : UInt8) (L : List UInt8) (h : L.length ≤ 251) : seg (doneB m L) 1 L.length = L := by
  apply List.ext_getElem?
  intro i
  by_cases hi : i < L.length
  · rw [get_seg _ _ _ _ hi, Nat.add_comm, get_doneB m L h _ (by omega), get_inside m L i (by omega) (by omega), if_pos hi]
  · rw [List.getElem?_eq_none (by rw [length_seg _ _ _ (by rw [length_doneB m L h]; omega)]; omega), List.getElem?_eq_none (by omega)]
theorem unpack_done (m : UInt8) (ws xs : List Nat) (h : Fits ws xs) (hs : ws.sum ≤ 251) : unpack ws (doneB m (pack ws xs)) 1 = xs := by
  have hl := length_pack ws xs h
  have hd := length_doneB m (pack ws xs) (by omega)
  refine pack_inj ws _ _ (fits_unpack ws _ 1 (by omega)) h ?_
  rw [pack_unpack ws _ 1 (by omega)]
  have := seg_done m (pack ws xs) (by omega)
  rwa [hl] at this
/-- A block is that of the numbers that stand in it just if it is sealed, bears the magic, and has zeros behind them. -/
theorem pack_iff (b : List UInt8) (hb : b.length = 256) (m : UInt8) (ws : List Nat) (hn : ws.sum ≤ 251) : doneB m (pack ws (unpack ws b 1)) = b ↔ sealB b = b ∧ b[0]? = some m ∧ zerosFrom b (1 + ws.sum) := by
  rw [pack_unpack ws b 1 (by omega)]
  exact parse_iff b hb m ws.sum hn
end Go.Proofs.YtnfmdcohacflmaaDoor
