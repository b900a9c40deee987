import Derived.Test.YtceelkmedfoefaaDoorA19b
set_option linter.unusedVariables false
set_option linter.unusedSimpArgs false
namespace Go.Proofs.YtceelkmedfoefaaDoor
open Go.RowKit

set_option maxRecDepth 100000 in
set_option maxHeartbeats 2000000 in
theorem right_eq (x : NI) (w : World) (hE : Env w) (h0 : 0 ≤ x.imm) (h1 : x.imm < 4294967296) (hop : 0 ≤ x.op ∧ x.op < 58) (heq : onlyX x (formP x.op) = x) (r1 : regB x.rd = true) (r2 : regB x.rs1 = true) (r3 : regB x.rs2 = true) :
    Calls Tryd.prog 30 #[.agg #[.int .i64 x.op, .int .i64 x.rd, .int .i64 x.rs1, .int .i64 x.rs2, .int .u32 x.imm, .int .i64 x.csr]] w fun e w' => e = .returned (.bool (rightB x)) ∧ Below w.heap.size w w' := by
  have HR : Hd (rightB x = (immB x.imm (formP x.op) && decide (0 ≤ x.csr ∧ x.csr ≤ 4095))) := ⟨by unfold rightB; rw [decide_eq_true hop, decide_eq_true heq, r1, r2, r3]; simp⟩
  have HQ : Hd (onlyX x (formP x.op) = ⟨x.op, x.rd, x.rs1, x.rs2, x.imm, x.csr⟩) := ⟨heq⟩
  have HE : Hd (formE x.op = 0) := ⟨by rw [formE, if_pos hop]⟩
  have HV : Hd (formV x.op = formP x.op) := ⟨formV_eq _⟩
  have HF := Hd.mk (formP_range x.op)
  obtain ⟨f, hf⟩ : ∃ f, formP x.op = f := ⟨_, rfl⟩
  rw [hf] at HR HV HF HQ
  clear hop heq hf
  go_enter Tryd.func30, Tryd.ntmps30
  go_wp2_with fail
  refine (form_any _ _ (hE.alloc _)).mono ?_
  rw [HE.out, HV.out]
  rintro e w1 ⟨rfl, hw1⟩
  have hB : Below w.heap.size w w1 := by rw [← hw1]; exact (Below.refl _ _).alloc (Nat.le_refl _) _
  have hb : Blk w1 w.heap.size (NC x) 36 := by rw [← hw1]; exact blk_new _ _ _
  clear hw1
  have c0 : w1.cell? ⟨w.heap.size, 0, none⟩ = some (.int .i64 x.op) := hb.cell 0 rfl
  have c1 : w1.cell? ⟨w.heap.size, 1, none⟩ = some (.int .i64 x.rd) := hb.cell 1 rfl
  have c2 : w1.cell? ⟨w.heap.size, 2, none⟩ = some (.int .i64 x.rs1) := hb.cell 2 rfl
  have c3 : w1.cell? ⟨w.heap.size, 3, none⟩ = some (.int .i64 x.rs2) := hb.cell 3 rfl
  have c4 : w1.cell? ⟨w.heap.size, 4, none⟩ = some (.int .u32 x.imm) := hb.cell 4 rfl
  have c5 : w1.cell? ⟨w.heap.size, 5, none⟩ = some (.int .i64 x.csr) := hb.cell 5 rfl
  go_wp2_with fail
  go_region_held3 (fun w' => Below w.heap.size w w' ∧ w'.cell? ⟨w.heap.size, 0, none⟩ = some (.int .i64 x.op) ∧ w'.cell? ⟨w.heap.size, 1, none⟩ = some (.int .i64 x.rd) ∧ w'.cell? ⟨w.heap.size, 2, none⟩ = some (.int .i64 x.rs1) ∧ w'.cell? ⟨w.heap.size, 3, none⟩ = some (.int .i64 x.rs2) ∧ w'.cell? ⟨w.heap.size, 4, none⟩ = some (.int .u32 x.imm) ∧ w'.cell? ⟨w.heap.size, 5, none⟩ = some (.int .i64 x.csr))
    (first
      | exact ⟨hB.drew, c0, c1, c2, c3, c4, c5⟩
      | go_keep
      | (go_split_ands
         refine ⟨Below.trans (by assumption) (hb'.mono (Below.size (by assumption))), keep_cell hb' (by assumption), keep_cell hb' (by assumption), keep_cell hb' (by assumption), keep_cell hb' (by assumption), keep_cell hb' (by assumption), keep_cell hb' (by assumption)⟩))
    (first | (go_at_call 59; refine (reg_any _ _).mono ?_; rintro e w' ⟨rfl, rfl⟩) | (go_at_call 58; refine (only_lit x f _ _ _ _ _ _ _ HF.out HQ.out).mono ?_; rintro e w' ⟨rfl, hb'⟩))
  have HN := Hd.mk (number_form x.imm f)
  go_wp2_with (go_at_call 60; refine (HN.out _ h0 h1 HF.out).mono ?_; rintro e w' ⟨rfl, rfl⟩)
  all_goals
    have hl := (‹Below _ _ _ ∧ _›).1
    go_ret
    exact ⟨ret_bool (by rw [HR.out, Bool.eq_iff_iff]; simp [*]; try omega), hl⟩

end Go.Proofs.YtceelkmedfoefaaDoor
