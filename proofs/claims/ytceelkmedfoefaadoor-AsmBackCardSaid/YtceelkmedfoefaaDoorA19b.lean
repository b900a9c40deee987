import Derived.Test.YtceelkmedfoefaaDoorL7
import Derived.Laws.StructEq
import Derived.Deep.RegionHeld3
import Derived.Deep.RegionWith
set_option linter.unusedVariables false
set_option linter.unusedSimpArgs false
namespace Go.Proofs.YtceelkmedfoefaaDoor
open Go.RowKit


theorem keep_cell {w w' : World} (hb : Below w.heap.size w w') {a : Addr} {v : Value} (hc : w.cell? a = some v) : w'.cell? a = some v := (hb.cell (World.block_lt_of_cell? w a hc)).trans hc
theorem ni_ne {x y : NI} (h : x = y) : x.op = y.op ∧ x.rd = y.rd ∧ x.rs1 = y.rs1 ∧ x.rs2 = y.rs2 ∧ x.imm = y.imm ∧ x.csr = y.csr := by subst h; simp

theorem pw_below_drewN' {B : Nat} {w W : World} (h : Below B w W) (n : Nat) : Below B w (W.drewN n) := ⟨h.os, h.tape, h.output, h.size, h.block⟩
theorem only_lit (x : NI) (f o d a b m c : Int) (w : World) (hf : 0 ≤ f ∧ f ≤ 9) (hy : onlyX x f = ⟨o, d, a, b, m, c⟩) :
    Calls Tryd.prog 58 #[.agg #[.int .i64 x.op, .int .i64 x.rd, .int .i64 x.rs1, .int .i64 x.rs2, .int .u32 x.imm, .int .i64 x.csr], .int .i64 f] w fun e w' => e = .returned (.agg #[.int .i64 o, .int .i64 d, .int .i64 a, .int .i64 b, .int .u32 m, .int .i64 c]) ∧ Below w.heap.size w w' := by
  have h := only_any x f w hf
  rw [hy] at h
  exact h

end Go.Proofs.YtceelkmedfoefaaDoor
