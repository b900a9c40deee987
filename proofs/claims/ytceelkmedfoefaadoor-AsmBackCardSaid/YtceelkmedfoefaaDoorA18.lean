import Derived.Test.YtceelkmedfoefaaDoorA17
import Derived.Laws.StructEq
import Derived.Deep.RegionHeld3
set_option linter.unusedVariables false
set_option linter.unusedSimpArgs false
namespace Go.Proofs.YtceelkmedfoefaaDoor
open Go.RowKit

/-- An instruction. -/
structure NI where
  op : Int
  rd : Int
  rs1 : Int
  rs2 : Int
  imm : Int
  csr : Int
deriving DecidableEq
def NC (x : NI) : Array Value := #[.int .i64 x.op, .int .i64 x.rd, .int .i64 x.rs1, .int .i64 x.rs2, .int .u32 x.imm, .int .i64 x.csr]
def onlyX (x : NI) (f : Int) : NI where
  op := x.op
  rd := if f = 0 ∨ f = 4 ∨ f = 5 then 0 else x.rd
  rs1 := if 3 ≤ f ∧ f ≠ 9 then x.rs1 else 0
  rs2 := if 4 ≤ f ∧ f ≤ 6 then x.rs2 else 0
  imm := if f = 0 ∨ f = 6 ∨ f = 8 then 0 else x.imm
  csr := if 8 ≤ f then x.csr else 0

theorem below_three {w : World} (o o' o'' : Obj) : Below w.heap.size w (((w.alloc o).alloc o').alloc o'') := (below_two o o').alloc (by simp; omega) o''
set_option maxRecDepth 100000 in
set_option maxHeartbeats 400000 in
theorem only_0 (x : NI) (w : World) :
    Calls Tryd.prog 58 #[.agg #[.int .i64 x.op, .int .i64 x.rd, .int .i64 x.rs1, .int .i64 x.rs2, .int .u32 x.imm, .int .i64 x.csr], .int .i64 0] w fun e w' => e = .returned (.agg (NC (onlyX x 0))) ∧ Below w.heap.size w w' := by
  go_enter Tryd.func58, Tryd.ntmps58
  go_wp2_with fail
  refine bodyPost_ret (v := .agg (NC (onlyX x 0))) ?_ rfl ⟨rfl, below_three _ _ _⟩
  simp [results, Tryd.results58, go_sem, NC, onlyX]
set_option maxRecDepth 100000 in
set_option maxHeartbeats 400000 in
theorem only_1 (x : NI) (w : World) :
    Calls Tryd.prog 58 #[.agg #[.int .i64 x.op, .int .i64 x.rd, .int .i64 x.rs1, .int .i64 x.rs2, .int .u32 x.imm, .int .i64 x.csr], .int .i64 1] w fun e w' => e = .returned (.agg (NC (onlyX x 1))) ∧ Below w.heap.size w w' := by
  go_enter Tryd.func58, Tryd.ntmps58
  go_wp2_with fail
  refine bodyPost_ret (v := .agg (NC (onlyX x 1))) ?_ rfl ⟨rfl, below_three _ _ _⟩
  simp [results, Tryd.results58, go_sem, NC, onlyX]
set_option maxRecDepth 100000 in
set_option maxHeartbeats 400000 in
theorem only_2 (x : NI) (w : World) :
    Calls Tryd.prog 58 #[.agg #[.int .i64 x.op, .int .i64 x.rd, .int .i64 x.rs1, .int .i64 x.rs2, .int .u32 x.imm, .int .i64 x.csr], .int .i64 2] w fun e w' => e = .returned (.agg (NC (onlyX x 2))) ∧ Below w.heap.size w w' := by
  go_enter Tryd.func58, Tryd.ntmps58
  go_wp2_with fail
  refine bodyPost_ret (v := .agg (NC (onlyX x 2))) ?_ rfl ⟨rfl, below_three _ _ _⟩
  simp [results, Tryd.results58, go_sem, NC, onlyX]
set_option maxRecDepth 100000 in
set_option maxHeartbeats 400000 in
theorem only_3 (x : NI) (w : World) :
    Calls Tryd.prog 58 #[.agg #[.int .i64 x.op, .int .i64 x.rd, .int .i64 x.rs1, .int .i64 x.rs2, .int .u32 x.imm, .int .i64 x.csr], .int .i64 3] w fun e w' => e = .returned (.agg (NC (onlyX x 3))) ∧ Below w.heap.size w w' := by
  go_enter Tryd.func58, Tryd.ntmps58
  go_wp2_with fail
  refine bodyPost_ret (v := .agg (NC (onlyX x 3))) ?_ rfl ⟨rfl, below_three _ _ _⟩
  simp [results, Tryd.results58, go_sem, NC, onlyX]
set_option maxRecDepth 100000 in
set_option maxHeartbeats 400000 in
theorem only_4 (x : NI) (w : World) :
    Calls Tryd.prog 58 #[.agg #[.int .i64 x.op, .int .i64 x.rd, .int .i64 x.rs1, .int .i64 x.rs2, .int .u32 x.imm, .int .i64 x.csr], .int .i64 4] w fun e w' => e = .returned (.agg (NC (onlyX x 4))) ∧ Below w.heap.size w w' := by
  go_enter Tryd.func58, Tryd.ntmps58
  go_wp2_with fail
  refine bodyPost_ret (v := .agg (NC (onlyX x 4))) ?_ rfl ⟨rfl, below_three _ _ _⟩
  simp [results, Tryd.results58, go_sem, NC, onlyX]
set_option maxRecDepth 100000 in
set_option maxHeartbeats 400000 in
theorem only_5 (x : NI) (w : World) :
    Calls Tryd.prog 58 #[.agg #[.int .i64 x.op, .int .i64 x.rd, .int .i64 x.rs1, .int .i64 x.rs2, .int .u32 x.imm, .int .i64 x.csr], .int .i64 5] w fun e w' => e = .returned (.agg (NC (onlyX x 5))) ∧ Below w.heap.size w w' := by
  go_enter Tryd.func58, Tryd.ntmps58
  go_wp2_with fail
  refine bodyPost_ret (v := .agg (NC (onlyX x 5))) ?_ rfl ⟨rfl, below_three _ _ _⟩
  simp [results, Tryd.results58, go_sem, NC, onlyX]
set_option maxRecDepth 100000 in
set_option maxHeartbeats 400000 in
theorem only_6 (x : NI) (w : World) :
    Calls Tryd.prog 58 #[.agg #[.int .i64 x.op, .int .i64 x.rd, .int .i64 x.rs1, .int .i64 x.rs2, .int .u32 x.imm, .int .i64 x.csr], .int .i64 6] w fun e w' => e = .returned (.agg (NC (onlyX x 6))) ∧ Below w.heap.size w w' := by
  go_enter Tryd.func58, Tryd.ntmps58
  go_wp2_with fail
  refine bodyPost_ret (v := .agg (NC (onlyX x 6))) ?_ rfl ⟨rfl, below_three _ _ _⟩
  simp [results, Tryd.results58, go_sem, NC, onlyX]
set_option maxRecDepth 100000 in
set_option maxHeartbeats 400000 in
theorem only_7 (x : NI) (w : World) :
    Calls Tryd.prog 58 #[.agg #[.int .i64 x.op, .int .i64 x.rd, .int .i64 x.rs1, .int .i64 x.rs2, .int .u32 x.imm, .int .i64 x.csr], .int .i64 7] w fun e w' => e = .returned (.agg (NC (onlyX x 7))) ∧ Below w.heap.size w w' := by
  go_enter Tryd.func58, Tryd.ntmps58
  go_wp2_with fail
  refine bodyPost_ret (v := .agg (NC (onlyX x 7))) ?_ rfl ⟨rfl, below_three _ _ _⟩
  simp [results, Tryd.results58, go_sem, NC, onlyX]
set_option maxRecDepth 100000 in
set_option maxHeartbeats 400000 in
theorem only_8 (x : NI) (w : World) :
    Calls Tryd.prog 58 #[.agg #[.int .i64 x.op, .int .i64 x.rd, .int .i64 x.rs1, .int .i64 x.rs2, .int .u32 x.imm, .int .i64 x.csr], .int .i64 8] w fun e w' => e = .returned (.agg (NC (onlyX x 8))) ∧ Below w.heap.size w w' := by
  go_enter Tryd.func58, Tryd.ntmps58
  go_wp2_with fail
  refine bodyPost_ret (v := .agg (NC (onlyX x 8))) ?_ rfl ⟨rfl, below_three _ _ _⟩
  simp [results, Tryd.results58, go_sem, NC, onlyX]
set_option maxRecDepth 100000 in
set_option maxHeartbeats 400000 in
theorem only_9 (x : NI) (w : World) :
    Calls Tryd.prog 58 #[.agg #[.int .i64 x.op, .int .i64 x.rd, .int .i64 x.rs1, .int .i64 x.rs2, .int .u32 x.imm, .int .i64 x.csr], .int .i64 9] w fun e w' => e = .returned (.agg (NC (onlyX x 9))) ∧ Below w.heap.size w w' := by
  go_enter Tryd.func58, Tryd.ntmps58
  go_wp2_with fail
  refine bodyPost_ret (v := .agg (NC (onlyX x 9))) ?_ rfl ⟨rfl, below_three _ _ _⟩
  simp [results, Tryd.results58, go_sem, NC, onlyX]
theorem only_any (x : NI) (f : Int) (w : World) (hf : 0 ≤ f ∧ f ≤ 9) :
    Calls Tryd.prog 58 #[.agg #[.int .i64 x.op, .int .i64 x.rd, .int .i64 x.rs1, .int .i64 x.rs2, .int .u32 x.imm, .int .i64 x.csr], .int .i64 f] w fun e w' => e = .returned (.agg (NC (onlyX x f))) ∧ Below w.heap.size w w' := by
  have hr : f = 0 ∨ f = 1 ∨ f = 2 ∨ f = 3 ∨ f = 4 ∨ f = 5 ∨ f = 6 ∨ f = 7 ∨ f = 8 ∨ f = 9 := by omega
  rcases hr with rfl | rfl | rfl | rfl | rfl | rfl | rfl | rfl | rfl | rfl
  · exact only_0 x w
  · exact only_1 x w
  · exact only_2 x w
  · exact only_3 x w
  · exact only_4 x w
  · exact only_5 x w
  · exact only_6 x w
  · exact only_7 x w
  · exact only_8 x w
  · exact only_9 x w

end Go.Proofs.YtceelkmedfoefaaDoor
