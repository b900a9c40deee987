import Derived.Test.YtceelkmedfoefaaDoorA19b
set_option linter.unusedVariables false
set_option linter.unusedSimpArgs false
namespace Go.Proofs.YtceelkmedfoefaaDoor
open Go.RowKit

theorem ni_ext {x y : NI} (h0 : x.op = y.op) (h1 : x.rd = y.rd) (h2 : x.rs1 = y.rs1) (h3 : x.rs2 = y.rs2) (h4 : x.imm = y.imm) (h5 : x.csr = y.csr) : x = y := by
  cases x; cases y; simp_all

set_option maxRecDepth 100000 in
set_option maxHeartbeats 8000000 in
theorem right_ne (x : NI) (w : World) (hE : Env w) (h0 : 0 ≤ x.imm) (h1 : x.imm < 4294967296) (hop : 0 ≤ x.op ∧ x.op < 58) (hne : ¬ onlyX x (formP x.op) = x) :
    Calls Tryd.prog 30 #[.agg #[.int .i64 x.op, .int .i64 x.rd, .int .i64 x.rs1, .int .i64 x.rs2, .int .u32 x.imm, .int .i64 x.csr]] w fun e w' => e = .returned (.bool (rightB x)) ∧ Below w.heap.size w w' := by
  have HR : Hd (rightB x = false) := ⟨by unfold rightB; rw [decide_eq_false hne]; simp⟩
  obtain ⟨d, a, b, m, c, hy, hd⟩ : ∃ d a b m c, onlyX x (formP x.op) = ⟨x.op, d, a, b, m, c⟩ ∧ (¬ d = x.rd ∨ (d = x.rd ∧ ¬ a = x.rs1) ∨ (d = x.rd ∧ a = x.rs1 ∧ ¬ b = x.rs2) ∨ (d = x.rd ∧ a = x.rs1 ∧ b = x.rs2 ∧ ¬ m = x.imm) ∨ (d = x.rd ∧ a = x.rs1 ∧ b = x.rs2 ∧ m = x.imm ∧ ¬ c = x.csr)) := by
    refine ⟨_, _, _, _, _, rfl, ?_⟩
    by_cases e1 : (onlyX x (formP x.op)).rd = x.rd
    · by_cases e2 : (onlyX x (formP x.op)).rs1 = x.rs1
      · by_cases e3 : (onlyX x (formP x.op)).rs2 = x.rs2
        · by_cases e4 : (onlyX x (formP x.op)).imm = x.imm
          · refine .inr (.inr (.inr (.inr ⟨e1, e2, e3, e4, fun e5 => hne ?_⟩)))
            exact ni_ext rfl e1 e2 e3 e4 e5
          · exact .inr (.inr (.inr (.inl ⟨e1, e2, e3, e4⟩)))
        · exact .inr (.inr (.inl ⟨e1, e2, e3⟩))
      · exact .inr (.inl ⟨e1, e2⟩)
    · exact .inl e1
  have HQ := Hd.mk hy
  have HE : Hd (formE x.op = 0) := ⟨by rw [formE, if_pos hop]⟩
  have HV : Hd (formV x.op = formP x.op) := ⟨formV_eq _⟩
  have HF := Hd.mk (formP_range x.op)
  obtain ⟨f, hf⟩ : ∃ f, formP x.op = f := ⟨_, rfl⟩
  rw [hf] at HV HF HQ
  clear hop hne hf hy
  rcases hd with n1 | ⟨rfl, n1⟩ | ⟨rfl, rfl, n1⟩ | ⟨rfl, rfl, rfl, n1⟩ | ⟨rfl, rfl, rfl, rfl, n1⟩
  · go_enter Tryd.func30, Tryd.ntmps30
    go_wp2_with fail
    refine (form_any _ _ (hE.alloc _)).mono ?_
    rw [HE.out, HV.out]
    rintro e w1 ⟨rfl, hw1⟩
    have hB : Below w.heap.size w w1 := by rw [← hw1]; exact (Below.refl _ _).alloc (Nat.le_refl _) _
    have hb : Blk w1 w.heap.size (NC x) 36 := by rw [← hw1]; exact blk_new _ _ _
    clear hw1
    have c0 : w1.cell? ⟨w.heap.size, 0, none⟩ = some (.int .i64 x.op) := hb.cell 0 rfl
    have c1 : w1.cell? ⟨w.heap.size, 1, none⟩ = some (.int .i64 x.rd) := hb.cell 1 rfl
    have c2 : w1.cell? ⟨w.heap.size, 2, none⟩ = some (.int .i64 x.rs1) := hb.cell 2 rfl
    have c3 : w1.cell? ⟨w.heap.size, 3, none⟩ = some (.int .i64 x.rs2) := hb.cell 3 rfl
    have c4 : w1.cell? ⟨w.heap.size, 4, none⟩ = some (.int .u32 x.imm) := hb.cell 4 rfl
    have c5 : w1.cell? ⟨w.heap.size, 5, none⟩ = some (.int .i64 x.csr) := hb.cell 5 rfl
    go_wp2_with fail
    first | (go_region_with (first | (go_at_call 59; refine (reg_any _ _).mono ?_; rintro e w' ⟨rfl, rfl⟩) | (go_at_call 58; refine (only_lit x f _ _ _ _ _ _ _ HF.out HQ.out).mono ?_; rintro e w' ⟨rfl, hb'⟩; have d0 := keep_cell (w := w1.drew) hb' c0; have d1 := keep_cell (w := w1.drew) hb' c1; have d2 := keep_cell (w := w1.drew) hb' c2; have d3 := keep_cell (w := w1.drew) hb' c3; have d4 := keep_cell (w := w1.drew) hb' c4; have d5 := keep_cell (w := w1.drew) hb' c5; have hl : Below w.heap.size w w' := hB.drew.trans (hb'.mono hB.size)))) | fail
    all_goals
      go_wp2_with fail
      go_ret
      exact ⟨ret_bool HR.out.symm, hl⟩
  · go_enter Tryd.func30, Tryd.ntmps30
    go_wp2_with fail
    refine (form_any _ _ (hE.alloc _)).mono ?_
    rw [HE.out, HV.out]
    rintro e w1 ⟨rfl, hw1⟩
    have hB : Below w.heap.size w w1 := by rw [← hw1]; exact (Below.refl _ _).alloc (Nat.le_refl _) _
    have hb : Blk w1 w.heap.size (NC x) 36 := by rw [← hw1]; exact blk_new _ _ _
    clear hw1
    have c0 : w1.cell? ⟨w.heap.size, 0, none⟩ = some (.int .i64 x.op) := hb.cell 0 rfl
    have c1 : w1.cell? ⟨w.heap.size, 1, none⟩ = some (.int .i64 x.rd) := hb.cell 1 rfl
    have c2 : w1.cell? ⟨w.heap.size, 2, none⟩ = some (.int .i64 x.rs1) := hb.cell 2 rfl
    have c3 : w1.cell? ⟨w.heap.size, 3, none⟩ = some (.int .i64 x.rs2) := hb.cell 3 rfl
    have c4 : w1.cell? ⟨w.heap.size, 4, none⟩ = some (.int .u32 x.imm) := hb.cell 4 rfl
    have c5 : w1.cell? ⟨w.heap.size, 5, none⟩ = some (.int .i64 x.csr) := hb.cell 5 rfl
    go_wp2_with fail
    first | (go_region_with (first | (go_at_call 59; refine (reg_any _ _).mono ?_; rintro e w' ⟨rfl, rfl⟩) | (go_at_call 58; refine (only_lit x f _ _ _ _ _ _ _ HF.out HQ.out).mono ?_; rintro e w' ⟨rfl, hb'⟩; have d0 := keep_cell (w := w1.drew) hb' c0; have d1 := keep_cell (w := w1.drew) hb' c1; have d2 := keep_cell (w := w1.drew) hb' c2; have d3 := keep_cell (w := w1.drew) hb' c3; have d4 := keep_cell (w := w1.drew) hb' c4; have d5 := keep_cell (w := w1.drew) hb' c5; have hl : Below w.heap.size w w' := hB.drew.trans (hb'.mono hB.size)))) | fail
    all_goals
      go_wp2_with fail
      go_ret
      exact ⟨ret_bool HR.out.symm, hl⟩
  · go_enter Tryd.func30, Tryd.ntmps30
    go_wp2_with fail
    refine (form_any _ _ (hE.alloc _)).mono ?_
    rw [HE.out, HV.out]
    rintro e w1 ⟨rfl, hw1⟩
    have hB : Below w.heap.size w w1 := by rw [← hw1]; exact (Below.refl _ _).alloc (Nat.le_refl _) _
    have hb : Blk w1 w.heap.size (NC x) 36 := by rw [← hw1]; exact blk_new _ _ _
    clear hw1
    have c0 : w1.cell? ⟨w.heap.size, 0, none⟩ = some (.int .i64 x.op) := hb.cell 0 rfl
    have c1 : w1.cell? ⟨w.heap.size, 1, none⟩ = some (.int .i64 x.rd) := hb.cell 1 rfl
    have c2 : w1.cell? ⟨w.heap.size, 2, none⟩ = some (.int .i64 x.rs1) := hb.cell 2 rfl
    have c3 : w1.cell? ⟨w.heap.size, 3, none⟩ = some (.int .i64 x.rs2) := hb.cell 3 rfl
    have c4 : w1.cell? ⟨w.heap.size, 4, none⟩ = some (.int .u32 x.imm) := hb.cell 4 rfl
    have c5 : w1.cell? ⟨w.heap.size, 5, none⟩ = some (.int .i64 x.csr) := hb.cell 5 rfl
    go_wp2_with fail
    first | (go_region_with (first | (go_at_call 59; refine (reg_any _ _).mono ?_; rintro e w' ⟨rfl, rfl⟩) | (go_at_call 58; refine (only_lit x f _ _ _ _ _ _ _ HF.out HQ.out).mono ?_; rintro e w' ⟨rfl, hb'⟩; have d0 := keep_cell (w := w1.drew) hb' c0; have d1 := keep_cell (w := w1.drew) hb' c1; have d2 := keep_cell (w := w1.drew) hb' c2; have d3 := keep_cell (w := w1.drew) hb' c3; have d4 := keep_cell (w := w1.drew) hb' c4; have d5 := keep_cell (w := w1.drew) hb' c5; have hl : Below w.heap.size w w' := hB.drew.trans (hb'.mono hB.size)))) | fail
    all_goals
      go_wp2_with fail
      go_ret
      exact ⟨ret_bool HR.out.symm, hl⟩
  · go_enter Tryd.func30, Tryd.ntmps30
    go_wp2_with fail
    refine (form_any _ _ (hE.alloc _)).mono ?_
    rw [HE.out, HV.out]
    rintro e w1 ⟨rfl, hw1⟩
    have hB : Below w.heap.size w w1 := by rw [← hw1]; exact (Below.refl _ _).alloc (Nat.le_refl _) _
    have hb : Blk w1 w.heap.size (NC x) 36 := by rw [← hw1]; exact blk_new _ _ _
    clear hw1
    have c0 : w1.cell? ⟨w.heap.size, 0, none⟩ = some (.int .i64 x.op) := hb.cell 0 rfl
    have c1 : w1.cell? ⟨w.heap.size, 1, none⟩ = some (.int .i64 x.rd) := hb.cell 1 rfl
    have c2 : w1.cell? ⟨w.heap.size, 2, none⟩ = some (.int .i64 x.rs1) := hb.cell 2 rfl
    have c3 : w1.cell? ⟨w.heap.size, 3, none⟩ = some (.int .i64 x.rs2) := hb.cell 3 rfl
    have c4 : w1.cell? ⟨w.heap.size, 4, none⟩ = some (.int .u32 x.imm) := hb.cell 4 rfl
    have c5 : w1.cell? ⟨w.heap.size, 5, none⟩ = some (.int .i64 x.csr) := hb.cell 5 rfl
    go_wp2_with fail
    first | (go_region_with (first | (go_at_call 59; refine (reg_any _ _).mono ?_; rintro e w' ⟨rfl, rfl⟩) | (go_at_call 58; refine (only_lit x f _ _ _ _ _ _ _ HF.out HQ.out).mono ?_; rintro e w' ⟨rfl, hb'⟩; have d0 := keep_cell (w := w1.drew) hb' c0; have d1 := keep_cell (w := w1.drew) hb' c1; have d2 := keep_cell (w := w1.drew) hb' c2; have d3 := keep_cell (w := w1.drew) hb' c3; have d4 := keep_cell (w := w1.drew) hb' c4; have d5 := keep_cell (w := w1.drew) hb' c5; have hl : Below w.heap.size w w' := hB.drew.trans (hb'.mono hB.size)))) | fail
    all_goals
      go_wp2_with fail
      go_ret
      exact ⟨ret_bool HR.out.symm, hl⟩
  · go_enter Tryd.func30, Tryd.ntmps30
    go_wp2_with fail
    refine (form_any _ _ (hE.alloc _)).mono ?_
    rw [HE.out, HV.out]
    rintro e w1 ⟨rfl, hw1⟩
    have hB : Below w.heap.size w w1 := by rw [← hw1]; exact (Below.refl _ _).alloc (Nat.le_refl _) _
    have hb : Blk w1 w.heap.size (NC x) 36 := by rw [← hw1]; exact blk_new _ _ _
    clear hw1
    have c0 : w1.cell? ⟨w.heap.size, 0, none⟩ = some (.int .i64 x.op) := hb.cell 0 rfl
    have c1 : w1.cell? ⟨w.heap.size, 1, none⟩ = some (.int .i64 x.rd) := hb.cell 1 rfl
    have c2 : w1.cell? ⟨w.heap.size, 2, none⟩ = some (.int .i64 x.rs1) := hb.cell 2 rfl
    have c3 : w1.cell? ⟨w.heap.size, 3, none⟩ = some (.int .i64 x.rs2) := hb.cell 3 rfl
    have c4 : w1.cell? ⟨w.heap.size, 4, none⟩ = some (.int .u32 x.imm) := hb.cell 4 rfl
    have c5 : w1.cell? ⟨w.heap.size, 5, none⟩ = some (.int .i64 x.csr) := hb.cell 5 rfl
    go_wp2_with fail
    first | (go_region_with (first | (go_at_call 59; refine (reg_any _ _).mono ?_; rintro e w' ⟨rfl, rfl⟩) | (go_at_call 58; refine (only_lit x f _ _ _ _ _ _ _ HF.out HQ.out).mono ?_; rintro e w' ⟨rfl, hb'⟩; have d0 := keep_cell (w := w1.drew) hb' c0; have d1 := keep_cell (w := w1.drew) hb' c1; have d2 := keep_cell (w := w1.drew) hb' c2; have d3 := keep_cell (w := w1.drew) hb' c3; have d4 := keep_cell (w := w1.drew) hb' c4; have d5 := keep_cell (w := w1.drew) hb' c5; have hl : Below w.heap.size w w' := hB.drew.trans (hb'.mono hB.size)))) | fail
    all_goals
      go_wp2_with fail
      go_ret
      exact ⟨ret_bool HR.out.symm, hl⟩

end Go.Proofs.YtceelkmedfoefaaDoor
