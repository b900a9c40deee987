import Derived.Test.YtceelkmedfoefaaDoorL14
import Derived.Test.YtceelkmedfoefaaDoorA20
import Derived.Test.YtceelkmedfoefaaDoorA27
set_option linter.unusedVariables false
set_option linter.unusedSimpArgs false
namespace Go.Proofs.YtceelkmedfoefaaDoor
open Go.RowKit

set_option maxRecDepth 100000 in
set_option maxHeartbeats 1000000 in
theorem awake_any (w : World) (hE : Env w) (h4 : 4 ≤ w.heap.size) :
    Calls Tryd.prog 8 #[] w fun e w' => e = .returned (.bool true) ∧ Below w.heap.size w w' := by
  have hbA : bs ⟨#[97, 100, 100, 105, 32, 120, 49, 44, 32, 120, 48, 44, 32, 49, 48]⟩ = exA := rfl
  have hbB : bs ⟨#[108, 111, 111, 112, 58, 32, 97, 100, 100, 105, 32, 120, 49, 44, 32, 120, 49, 44, 32, 45, 49, 10, 98, 110, 101, 32, 120, 49, 44, 32, 120, 48, 44, 32, 108, 111, 111, 112, 10]⟩ = exB := rfl
  have HAB := Hd.mk (And.intro hbA hbB)
  clear hbA hbB
  go_enter Tryd.func8, Tryd.ntmps8
  go_wp2_with fail
  refine (line_any right_any ⟨#[97, 100, 100, 105, 32, 120, 49, 44, 32, 120, 48, 44, 32, 49, 48]⟩ w hE (by decide)).mono ?_
  rintro e w1 ⟨rfl, hb1⟩
  rw [HAB.out.1, exA_line]
  have hs1 := hb1.size
  go_wp2_with (refine st_blk rfl 36 _ _ rfl w1.heap.size (NC ⟨19, 1, 0, 0, 10, 0⟩) rfl rfl (blk_new w1 _ _) info36 rfl (nc_one _) ?_; intro w3 hb3 hg3)
  have hB3 := (hb1.alloc hs1 (.cells (NC zeroN) 36)).trans (below_of_grown hg3 hs1 (by simp; omega))
  have hs3 := hB3.size
  refine (program_any ⟨#[108, 111, 111, 112, 58, 32, 97, 100, 100, 105, 32, 120, 49, 44, 32, 120, 49, 44, 32, 45, 49, 10, 98, 110, 101, 32, 120, 49, 44, 32, 120, 48, 44, 32, 108, 111, 111, 112, 10]⟩ w3 (hE.below hB3) (by omega) (by decide)).mono ?_
  rintro e w4 ⟨⟨v, rfl, hv⟩, hb4⟩
  rw [HAB.out.2, exB_prog] at hv ⊢
  have hres4 := hb3.below hb4 hb3.lt
  have hB4 := hB3.trans (hb4.mono hs3)
  obtain ⟨g, cap, rfl, hBg, hg⟩ := hv.form (by decide)
  have c1 := hv.cells (g := g) rfl 1 (.int .u32 4261453539) rfl
  rw [Addr.add_mid, Nat.zero_add] at c1
  clear hb4 hb3 hg3 hv
  have k0 := hres4.cell 0 (v := .int .i64 19) rfl
  have k1 := hres4.cell 1 (v := .int .i64 1) rfl
  have k2 := hres4.cell 2 (v := .int .i64 0) rfl
  have k3 := hres4.cell 3 (v := .int .i64 0) rfl
  have k4 := hres4.cell 4 (v := .int .u32 10) rfl
  have k5 := hres4.cell 5 (v := .int .i64 0) rfl
  go_wp2_with fail
  go_ret
  exact ⟨rfl, hB4⟩
  trace_state

end Go.Proofs.YtceelkmedfoefaaDoor
