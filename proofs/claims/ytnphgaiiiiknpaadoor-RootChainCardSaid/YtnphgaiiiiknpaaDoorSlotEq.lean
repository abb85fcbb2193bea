/- The slot layer: == on roots. -/
import Derived.Test.YtnphgaiiiiknpaaDoorSlot
import Derived.Test.YtnphgaiiiiknpaaDoorStructEq
namespace Go.Proofs.YtnphgaiiiiknpaaDoor
open Go.RowKit
set_option linter.unusedSimpArgs false
set_option maxRecDepth 100000
theorem fieldsR : ((Tryd.prog.fieldsOf 34).toList.map fun f => (f.name == "_", f.type, f.offset)) = [(false, 32, 0), (false, 22, 1), (false, 22, 2), (false, 22, 3), (false, 22, 4), (false, 22, 5), (false, 22, 6), (false, 5, 7)] := by kernel_rfl
theorem structR : Tryd.prog.underlying 34 = some (.struct (Tryd.prog.fieldsOf 34)) := by kernel_rfl
theorem rpart_one (w : World) (t : TypeId) (d : TypeDesc) (ht : Tryd.prog.underlying t = some d) (hd : (match d with | .struct _ | .array _ _ => true | _ => false) = false) (cs : Array Value) (off : Nat) (v : Value) (h : cs[off]? = some v) :
    (part t cs off).run Tryd.prog w = .ok v w := by
  cases d <;> simp_all [part, isAgg, run_underlying]
theorem rnat_beq (a b : Nat) : ((a : Int) == (b : Int)) = decide (a = b) := by
  by_cases h : a = b
  · simp [h]
  · have : ¬ (a : Int) = (b : Int) := by omega
    simp [h, this]
/-- Are two roots the same? -/
def Root.same (a b : Root) : Bool := decide (a.gen = b.gen) && (decide (a.size = b.size) && (decide (a.picks = b.picks) && (decide (a.names = b.names) && (decide (a.free = b.free) && (decide (a.next = b.next) && (decide (a.hint = b.hint) && (decide (a.vols = b.vols))))))))
theorem rsame_iff (a b : Root) : a.same b = true ↔ a = b := by
  cases a; cases b
  simp [Root.same]
theorem run_equalIn_root (w : World) (a b : Root) : (Op.equalIn 10000 34 (.agg a.cells) (.agg b.cells)).run Tryd.prog w = .ok (a.same b) w := by
  rw [run_equalIn_struct w 9999 34 _ _ structR (by kernel_rfl)]
  rw [run_eqFields w 9999 _ _ _ [⟨32, 0, .int .u64 (a.gen : Int), .int .u64 (b.gen : Int), decide (a.gen = b.gen)⟩, ⟨22, 1, .int .u32 (a.size : Int), .int .u32 (b.size : Int), decide (a.size = b.size)⟩, ⟨22, 2, .int .u32 (a.picks : Int), .int .u32 (b.picks : Int), decide (a.picks = b.picks)⟩, ⟨22, 3, .int .u32 (a.names : Int), .int .u32 (b.names : Int), decide (a.names = b.names)⟩, ⟨22, 4, .int .u32 (a.free : Int), .int .u32 (b.free : Int), decide (a.free = b.free)⟩, ⟨22, 5, .int .u32 (a.next : Int), .int .u32 (b.next : Int), decide (a.next = b.next)⟩, ⟨22, 6, .int .u32 (a.hint : Int), .int .u32 (b.hint : Int), decide (a.hint = b.hint)⟩, ⟨5, 7, .int .u8 (a.vols : Int), .int .u8 (b.vols : Int), decide (a.vols = b.vols)⟩] fieldsR ?_]
  · simp [Root.same]
  · intro r hr
    simp only [List.mem_cons, List.not_mem_nil, or_false] at hr
    rcases hr with rfl | rfl | rfl | rfl | rfl | rfl | rfl | rfl
    · exact ⟨rpart_one w _ _ Tryd.underlying32 rfl _ _ _ rfl, rpart_one w _ _ Tryd.underlying32 rfl _ _ _ rfl, by rw [run_equalIn_int w 9998 _ .u64 .u64 _ _ Tryd.underlying32, rnat_beq]⟩
    · exact ⟨rpart_one w _ _ Tryd.underlying22 rfl _ _ _ rfl, rpart_one w _ _ Tryd.underlying22 rfl _ _ _ rfl, by rw [run_equalIn_int w 9998 _ .u32 .u32 _ _ Tryd.underlying22, rnat_beq]⟩
    · exact ⟨rpart_one w _ _ Tryd.underlying22 rfl _ _ _ rfl, rpart_one w _ _ Tryd.underlying22 rfl _ _ _ rfl, by rw [run_equalIn_int w 9998 _ .u32 .u32 _ _ Tryd.underlying22, rnat_beq]⟩
    · exact ⟨rpart_one w _ _ Tryd.underlying22 rfl _ _ _ rfl, rpart_one w _ _ Tryd.underlying22 rfl _ _ _ rfl, by rw [run_equalIn_int w 9998 _ .u32 .u32 _ _ Tryd.underlying22, rnat_beq]⟩
    · exact ⟨rpart_one w _ _ Tryd.underlying22 rfl _ _ _ rfl, rpart_one w _ _ Tryd.underlying22 rfl _ _ _ rfl, by rw [run_equalIn_int w 9998 _ .u32 .u32 _ _ Tryd.underlying22, rnat_beq]⟩
    · exact ⟨rpart_one w _ _ Tryd.underlying22 rfl _ _ _ rfl, rpart_one w _ _ Tryd.underlying22 rfl _ _ _ rfl, by rw [run_equalIn_int w 9998 _ .u32 .u32 _ _ Tryd.underlying22, rnat_beq]⟩
    · exact ⟨rpart_one w _ _ Tryd.underlying22 rfl _ _ _ rfl, rpart_one w _ _ Tryd.underlying22 rfl _ _ _ rfl, by rw [run_equalIn_int w 9998 _ .u32 .u32 _ _ Tryd.underlying22, rnat_beq]⟩
    · exact ⟨rpart_one w _ _ Tryd.underlying5 rfl _ _ _ rfl, rpart_one w _ _ Tryd.underlying5 rfl _ _ _ rfl, by rw [run_equalIn_int w 9998 _ .u8 .u8 _ _ Tryd.underlying5, rnat_beq]⟩
theorem run_eql_root (w : World) (a b : Root) : (binOp .eql 34 (.agg a.cells) (.agg b.cells)).run Tryd.prog w = .ok (.bool (a.same b)) w := by
  rw [run_eql_struct, run_equalIn_root]; rfl
theorem run_neq_root (w : World) (a b : Root) : (binOp .neq 34 (.agg a.cells) (.agg b.cells)).run Tryd.prog w = .ok (.bool (!a.same b)) w := by
  rw [run_neq_struct, run_equalIn_root]; rfl
end Go.Proofs.YtnphgaiiiiknpaaDoor
