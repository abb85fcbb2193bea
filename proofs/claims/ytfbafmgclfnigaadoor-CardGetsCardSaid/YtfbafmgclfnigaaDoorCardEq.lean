/- The card layer: == on cards. -/
import Derived.Test.YtfbafmgclfnigaaDoorCard
import Derived.Test.YtfbafmgclfnigaaDoorStructEq
namespace Go.Proofs.YtfbafmgclfnigaaDoor
open Go.RowKit
set_option linter.unusedSimpArgs false
theorem fieldsC : ((Tryd.prog.fieldsOf 26).toList.map fun f => (f.name == "_", f.type, f.offset)) = [(false, 9, 0), (false, 22, 1), (false, 22, 2), (false, 24, 3)] := by kernel_rfl
theorem fieldsV : ((Tryd.prog.fieldsOf 24).toList.map fun f => (f.name == "_", f.type, f.offset)) = [(false, 22, 0), (false, 22, 1), (false, 22, 2), (false, 22, 3), (false, 22, 4), (false, 4, 5)] := by kernel_rfl
theorem structC : Tryd.prog.underlying 26 = some (.struct (Tryd.prog.fieldsOf 26)) := by kernel_rfl
theorem structV : Tryd.prog.underlying 24 = some (.struct (Tryd.prog.fieldsOf 24)) := by kernel_rfl
theorem part_one (w : World) (t : TypeId) (d : TypeDesc) (ht : Tryd.prog.underlying t = some d) (hd : (match d with | .struct _ | .array _ _ => true | _ => false) = false) (cs : Array Value) (off : Nat) (v : Value) (h : cs[off]? = some v) :
    (part t cs off).run Tryd.prog w = .ok v w := by
  cases d <;> simp_all [part, isAgg, run_underlying]
theorem part_vol (w : World) (c : Card) : (part 24 c.cells 3).run Tryd.prog w = .ok (.agg c.vol) w := by
  have h : (Tryd.prog.info? 24).map (·.size) = some 6 := by kernel_rfl
  obtain ⟨i, hi, hs⟩ := Option.map_eq_some_iff.1 h
  simp [part, isAgg, run_underlying structV, sizeOf, typeInfo, hi, hs, Card.cells, Card.vol]
theorem bytes_beq (a b : ByteArray) : (a.toList == b.toList) = decide (a = b) := str_beq a b
theorem nat_beq (a b : Nat) : ((a : Int) == (b : Int)) = decide (a = b) := by
  by_cases h : a = b
  · simp [h]
  · have : ¬ (a : Int) = (b : Int) := by omega
    simp [h, this]
theorem run_eql_vol (w : World) (d : Nat) (a b : Card) : (Op.equalIn (d + 2) 24 (.agg a.vol) (.agg b.vol)).run Tryd.prog w =
    .ok (decide (a.id = b.id) && (decide (a.parent = b.parent) && (decide (a.root = b.root) && (decide (a.used = b.used) && (decide (a.quota = b.quota) && (a.only == b.only)))))) w := by
  rw [run_equalIn_struct w (d + 1) 24 _ _ structV (by kernel_rfl)]
  rw [run_eqFields w (d + 1) _ _ _ [⟨22, 0, cu a.id, cu b.id, decide (a.id = b.id)⟩, ⟨22, 1, cu a.parent, cu b.parent, decide (a.parent = b.parent)⟩, ⟨22, 2, cu a.root, cu b.root, decide (a.root = b.root)⟩,
    ⟨22, 3, cu a.used, cu b.used, decide (a.used = b.used)⟩, ⟨22, 4, cu a.quota, cu b.quota, decide (a.quota = b.quota)⟩, ⟨4, 5, .bool a.only, .bool b.only, a.only == b.only⟩] fieldsV ?_]
  · simp
  · intro r hr
    simp only [List.mem_cons, List.not_mem_nil, or_false] at hr
    rcases hr with rfl | rfl | rfl | rfl | rfl | rfl
    · exact ⟨part_one w _ _ Tryd.underlying22 rfl _ _ _ rfl, part_one w _ _ Tryd.underlying22 rfl _ _ _ rfl, by simp only [cu]; rw [run_equalIn_int w d _ .u32 .u32 _ _ Tryd.underlying22, nat_beq]⟩
    · exact ⟨part_one w _ _ Tryd.underlying22 rfl _ _ _ rfl, part_one w _ _ Tryd.underlying22 rfl _ _ _ rfl, by simp only [cu]; rw [run_equalIn_int w d _ .u32 .u32 _ _ Tryd.underlying22, nat_beq]⟩
    · exact ⟨part_one w _ _ Tryd.underlying22 rfl _ _ _ rfl, part_one w _ _ Tryd.underlying22 rfl _ _ _ rfl, by simp only [cu]; rw [run_equalIn_int w d _ .u32 .u32 _ _ Tryd.underlying22, nat_beq]⟩
    · exact ⟨part_one w _ _ Tryd.underlying22 rfl _ _ _ rfl, part_one w _ _ Tryd.underlying22 rfl _ _ _ rfl, by simp only [cu]; rw [run_equalIn_int w d _ .u32 .u32 _ _ Tryd.underlying22, nat_beq]⟩
    · exact ⟨part_one w _ _ Tryd.underlying22 rfl _ _ _ rfl, part_one w _ _ Tryd.underlying22 rfl _ _ _ rfl, by simp only [cu]; rw [run_equalIn_int w d _ .u32 .u32 _ _ Tryd.underlying22, nat_beq]⟩
    · exact ⟨part_one w _ _ Tryd.underlying4 rfl _ _ _ rfl, part_one w _ _ Tryd.underlying4 rfl _ _ _ rfl, by rw [run_equalIn_bool' w d _ _ _ Tryd.underlying4]⟩
/-- Are two cards the same? -/
def Card.same (a b : Card) : Bool := decide (a.name = b.name) && (decide (a.left = b.left) && (decide (a.right = b.right) && (decide (a.id = b.id) && (decide (a.parent = b.parent) && (decide (a.root = b.root) && (decide (a.used = b.used) && (decide (a.quota = b.quota) && (a.only == b.only))))))))
theorem same_iff (a b : Card) : a.same b = true ↔ a = b := by
  cases a; cases b
  simp [Card.same]
theorem run_eql_card (w : World) (a b : Card) : (binOp .eql 26 (.agg a.cells) (.agg b.cells)).run Tryd.prog w = .ok (.bool (a.same b)) w := by
  rw [run_eql_struct, run_equalIn_struct w 9999 26 _ _ structC (by kernel_rfl)]
  rw [run_eqFields w 9999 _ _ _ [⟨9, 0, .string a.name, .string b.name, decide (a.name = b.name)⟩, ⟨22, 1, cu a.left, cu b.left, decide (a.left = b.left)⟩, ⟨22, 2, cu a.right, cu b.right, decide (a.right = b.right)⟩,
    ⟨24, 3, .agg a.vol, .agg b.vol, decide (a.id = b.id) && (decide (a.parent = b.parent) && (decide (a.root = b.root) && (decide (a.used = b.used) && (decide (a.quota = b.quota) && (a.only == b.only)))))⟩] fieldsC ?_]
  · simp [Card.same]
  · intro r hr
    simp only [List.mem_cons, List.not_mem_nil, or_false] at hr
    rcases hr with rfl | rfl | rfl | rfl
    · exact ⟨part_one w _ _ Tryd.underlying9 rfl _ _ _ rfl, part_one w _ _ Tryd.underlying9 rfl _ _ _ rfl, by rw [run_equalIn_string w 9998 _ _ _ Tryd.underlying9, bytes_beq]⟩
    · exact ⟨part_one w _ _ Tryd.underlying22 rfl _ _ _ rfl, part_one w _ _ Tryd.underlying22 rfl _ _ _ rfl, by simp only [cu]; rw [run_equalIn_int w 9998 _ .u32 .u32 _ _ Tryd.underlying22, nat_beq]⟩
    · exact ⟨part_one w _ _ Tryd.underlying22 rfl _ _ _ rfl, part_one w _ _ Tryd.underlying22 rfl _ _ _ rfl, by simp only [cu]; rw [run_equalIn_int w 9998 _ .u32 .u32 _ _ Tryd.underlying22, nat_beq]⟩
    · exact ⟨part_vol w a, part_vol w b, run_eql_vol w 9997 a b⟩
end Go.Proofs.YtfbafmgclfnigaaDoor
