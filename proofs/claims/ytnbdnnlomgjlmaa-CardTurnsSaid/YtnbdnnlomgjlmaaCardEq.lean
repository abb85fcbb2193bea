/- The card layer: == on cards. -/
import Derived.Test.YtnbdnnlomgjlmaaCard5
import Derived.Test.YtnbdnnlomgjlmaaStructEq
namespace Go.Proofs.Ytnbdnnlomgjlmaa
open Go.RowKit
set_option linter.unusedSimpArgs false
theorem fieldsC : ((Try.prog.fieldsOf 51).toList.map fun f => (f.name == "_", f.type, f.offset)) = [(false, 9, 0), (false, 25, 1), (false, 25, 2), (false, 49, 3)] := by kernel_rfl
theorem fieldsV : ((Try.prog.fieldsOf 49).toList.map fun f => (f.name == "_", f.type, f.offset)) = [(false, 25, 0), (false, 25, 1), (false, 25, 2), (false, 25, 3), (false, 25, 4), (false, 4, 5)] := by kernel_rfl
theorem structC : Try.prog.underlying 51 = some (.struct (Try.prog.fieldsOf 51)) := by kernel_rfl
theorem structV : Try.prog.underlying 49 = some (.struct (Try.prog.fieldsOf 49)) := by kernel_rfl
theorem part_one (w : World) (t : TypeId) (d : TypeDesc) (ht : Try.prog.underlying t = some d) (hd : (match d with | .struct _ | .array _ _ => true | _ => false) = false) (cs : Array Value) (off : Nat) (v : Value) (h : cs[off]? = some v) :
    (part t cs off).run Try.prog w = .ok v w := by
  cases d <;> simp_all [part, isAgg, run_underlying]
theorem part_vol (w : World) (c : Card) : (part 49 c.cells 3).run Try.prog w = .ok (.agg c.vol) w := by
  have h : (Try.prog.info? 49).map (·.size) = some 6 := by kernel_rfl
  obtain ⟨i, hi, hs⟩ := Option.map_eq_some_iff.1 h
  simp [part, isAgg, run_underlying structV, sizeOf, typeInfo, hi, hs, Card.cells, Card.vol]
theorem bytes_beq (a b : ByteArray) : (a.toList == b.toList) = decide (a = b) := str_beq a b
theorem nat_beq (a b : Nat) : ((a : Int) == (b : Int)) = decide (a = b) := by
  by_cases h : a = b
  · simp [h]
  · have : ¬ (a : Int) = (b : Int) := by omega
    simp [h, this]
theorem run_eql_vol (w : World) (d : Nat) (a b : Card) : (Op.equalIn (d + 2) 49 (.agg a.vol) (.agg b.vol)).run Try.prog w =
    .ok (decide (a.id = b.id) && (decide (a.parent = b.parent) && (decide (a.root = b.root) && (decide (a.used = b.used) && (decide (a.quota = b.quota) && (a.only == b.only)))))) w := by
  rw [run_equalIn_struct w (d + 1) 49 _ _ structV (by kernel_rfl)]
  rw [run_eqFields w (d + 1) _ _ _ [⟨25, 0, cu a.id, cu b.id, decide (a.id = b.id)⟩, ⟨25, 1, cu a.parent, cu b.parent, decide (a.parent = b.parent)⟩, ⟨25, 2, cu a.root, cu b.root, decide (a.root = b.root)⟩,
    ⟨25, 3, cu a.used, cu b.used, decide (a.used = b.used)⟩, ⟨25, 4, cu a.quota, cu b.quota, decide (a.quota = b.quota)⟩, ⟨4, 5, .bool a.only, .bool b.only, a.only == b.only⟩] fieldsV ?_]
  · simp
  · intro r hr
    simp only [List.mem_cons, List.not_mem_nil, or_false] at hr
    rcases hr with rfl | rfl | rfl | rfl | rfl | rfl
    · exact ⟨part_one w _ _ Try.underlying25 rfl _ _ _ rfl, part_one w _ _ Try.underlying25 rfl _ _ _ rfl, by simp only [cu]; rw [run_equalIn_int w d _ .u32 .u32 _ _ Try.underlying25, nat_beq]⟩
    · exact ⟨part_one w _ _ Try.underlying25 rfl _ _ _ rfl, part_one w _ _ Try.underlying25 rfl _ _ _ rfl, by simp only [cu]; rw [run_equalIn_int w d _ .u32 .u32 _ _ Try.underlying25, nat_beq]⟩
    · exact ⟨part_one w _ _ Try.underlying25 rfl _ _ _ rfl, part_one w _ _ Try.underlying25 rfl _ _ _ rfl, by simp only [cu]; rw [run_equalIn_int w d _ .u32 .u32 _ _ Try.underlying25, nat_beq]⟩
    · exact ⟨part_one w _ _ Try.underlying25 rfl _ _ _ rfl, part_one w _ _ Try.underlying25 rfl _ _ _ rfl, by simp only [cu]; rw [run_equalIn_int w d _ .u32 .u32 _ _ Try.underlying25, nat_beq]⟩
    · exact ⟨part_one w _ _ Try.underlying25 rfl _ _ _ rfl, part_one w _ _ Try.underlying25 rfl _ _ _ rfl, by simp only [cu]; rw [run_equalIn_int w d _ .u32 .u32 _ _ Try.underlying25, nat_beq]⟩
    · exact ⟨part_one w _ _ Try.underlying4 rfl _ _ _ rfl, part_one w _ _ Try.underlying4 rfl _ _ _ rfl, by rw [run_equalIn_bool' w d _ _ _ Try.underlying4]⟩
/-- Are two cards the same? -/
def Card.same (a b : Card) : Bool := decide (a.name = b.name) && (decide (a.left = b.left) && (decide (a.right = b.right) && (decide (a.id = b.id) && (decide (a.parent = b.parent) && (decide (a.root = b.root) && (decide (a.used = b.used) && (decide (a.quota = b.quota) && (a.only == b.only))))))))
theorem same_iff (a b : Card) : a.same b = true ↔ a = b := by
  cases a; cases b
  simp [Card.same]
theorem run_eql_card (w : World) (a b : Card) : (binOp .eql 51 (.agg a.cells) (.agg b.cells)).run Try.prog w = .ok (.bool (a.same b)) w := by
  rw [run_eql_struct, run_equalIn_struct w 9999 51 _ _ structC (by kernel_rfl)]
  rw [run_eqFields w 9999 _ _ _ [⟨9, 0, .string a.name, .string b.name, decide (a.name = b.name)⟩, ⟨25, 1, cu a.left, cu b.left, decide (a.left = b.left)⟩, ⟨25, 2, cu a.right, cu b.right, decide (a.right = b.right)⟩,
    ⟨49, 3, .agg a.vol, .agg b.vol, decide (a.id = b.id) && (decide (a.parent = b.parent) && (decide (a.root = b.root) && (decide (a.used = b.used) && (decide (a.quota = b.quota) && (a.only == b.only)))))⟩] fieldsC ?_]
  · simp [Card.same]
  · intro r hr
    simp only [List.mem_cons, List.not_mem_nil, or_false] at hr
    rcases hr with rfl | rfl | rfl | rfl
    · exact ⟨part_one w _ _ Try.underlying9 rfl _ _ _ rfl, part_one w _ _ Try.underlying9 rfl _ _ _ rfl, by rw [run_equalIn_string w 9998 _ _ _ Try.underlying9, bytes_beq]⟩
    · exact ⟨part_one w _ _ Try.underlying25 rfl _ _ _ rfl, part_one w _ _ Try.underlying25 rfl _ _ _ rfl, by simp only [cu]; rw [run_equalIn_int w 9998 _ .u32 .u32 _ _ Try.underlying25, nat_beq]⟩
    · exact ⟨part_one w _ _ Try.underlying25 rfl _ _ _ rfl, part_one w _ _ Try.underlying25 rfl _ _ _ rfl, by simp only [cu]; rw [run_equalIn_int w 9998 _ .u32 .u32 _ _ Try.underlying25, nat_beq]⟩
    · exact ⟨part_vol w a, part_vol w b, run_eql_vol w 9997 a b⟩
end Go.Proofs.Ytnbdnnlomgjlmaa
