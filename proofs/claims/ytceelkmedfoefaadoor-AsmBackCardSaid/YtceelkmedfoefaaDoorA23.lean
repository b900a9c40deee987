import Derived.Test.YtceelkmedfoefaaDoorA22
import Derived.Test.YtceelkmedfoefaaDoorA20
set_option linter.unusedVariables false
set_option linter.unusedSimpArgs false
namespace Go.Proofs.YtceelkmedfoefaaDoor
open Go.RowKit

/-- Registers and the register of control, put in. -/
def encA (x : NI) : Int := orW (orW (orW (orW (matchI x.op.toNat) (x.rd % 32 * 128)) (x.rs1 % 32 * 32768)) (x.rs2 % 32 * 1048576)) (x.csr % 4096 * 1048576)
/-- A right instruction's word. -/
def encW (x : NI) : Int :=
  if formP x.op = 1 then orW (encA x) (x.imm / 4096 % 1048576 * 4096)
  else if formP x.op = 2 then orW (orW (orW (orW (encA x) (x.imm / 1048576 % 2 * 2147483648)) (x.imm / 4096 % 256 * 4096)) (x.imm / 2048 % 2 * 1048576)) (x.imm / 2 % 1024 * 2097152)
  else if formP x.op = 3 then orW (encA x) (x.imm % 4096 * 1048576)
  else if formP x.op = 4 then orW (orW (orW (orW (encA x) (x.imm / 4096 % 2 * 2147483648)) (x.imm / 2048 % 2 * 128)) (x.imm / 32 % 64 * 33554432)) (x.imm / 2 % 16 * 256)
  else if formP x.op = 5 then orW (orW (encA x) (x.imm / 32 % 128 * 33554432)) (x.imm % 32 * 128)
  else if formP x.op = 7 then orW (encA x) (x.imm % 32 * 1048576)
  else if formP x.op = 9 then orW (encA x) (x.imm % 32 * 32768)
  else encA x
def encOk (x : NI) : Bool := decide (x.op ≠ 0) && rightB x
/-- What encode.Encode hands back: the word; what is wrong. -/
def encV (x : NI) : Int := if encOk x = true then encW x else 0
def encE (x : NI) : Int := if encOk x = true then 0 else 9
structure EncPost (x : NI) (w w' : World) (e : Ending) : Prop where
  ret : e = .returned (.tuple #[.int .u32 (encV x), .int .i64 (encE x)])
  below : Below w.heap.size w w'

theorem rightB_parts {x : NI} (h : rightB x = true) : (0 ≤ x.op ∧ x.op < 58) ∧ (0 ≤ x.rd ∧ x.rd ≤ 31) ∧ (0 ≤ x.rs1 ∧ x.rs1 ≤ 31) ∧ (0 ≤ x.rs2 ∧ x.rs2 ≤ 31) ∧ (0 ≤ x.csr ∧ x.csr ≤ 4095) ∧ immB x.imm (formP x.op) = true ∧ onlyX x (formP x.op) = x := by
  simp only [rightB, regB, Bool.and_eq_true, decide_eq_true_eq] at h
  obtain ⟨⟨⟨⟨⟨⟨a, b⟩, c⟩, d⟩, e⟩, f⟩, g⟩ := h
  exact ⟨a, c, d, e, g, f, b⟩

set_option maxRecDepth 100000 in
set_option maxHeartbeats 4000000 in
theorem encode_bad (hR : RightSaid) (x : NI) (w : World) (hE : Env w) (h0 : 0 ≤ x.imm) (h1 : x.imm < 4294967296) (hk : encOk x = false) :
    Calls Tryd.prog 66 #[.agg #[.int .i64 x.op, .int .i64 x.rd, .int .i64 x.rs1, .int .i64 x.rs2, .int .u32 x.imm, .int .i64 x.csr]] w fun e w' => EncPost x w w' e := by
  have HR := Hd.mk hR
  have HV : Hd (encV x = 0 ∧ encE x = 9) := ⟨by rw [encV, encE, hk]; simp⟩
  clear hR
  by_cases hm : 1 ≤ x.op ∧ x.op < 58
  · have HM : Hd (matchE x.op = 0) := ⟨by rw [matchE, if_pos hm]⟩
    have HB : Hd (rightB x = false) := ⟨by simp only [encOk] at hk; rw [decide_eq_true (by omega : x.op ≠ 0)] at hk; simpa using hk⟩
    clear hm hk
    go_enter Tryd.func66, Tryd.ntmps66
    go_wp2_with (first | (go_at_call 80; refine (match_any _ _ (hE.alloc _)).mono ?_; rw [HM.out]; rintro e w' ⟨rfl, rfl⟩) | (go_at_call 30; refine (HR.out x _ ((hE.alloc _).alloc _) h0 h1).mono ?_; rw [HB.out]; rintro e w5 ⟨rfl, hb5⟩))
    go_ret2
    exact ⟨by rw [HV.out.1, HV.out.2]; rfl, (below_two _ _).trans (hb5.mono (by simp; omega))⟩
  · have HM : Hd (matchE x.op = 9) := ⟨by rw [matchE, if_neg hm]⟩
    clear hm hk
    go_enter Tryd.func66, Tryd.ntmps66
    go_wp2_with (first | (go_at_call 80; refine (match_any _ _ (hE.alloc _)).mono ?_; rw [HM.out]; rintro e w' ⟨rfl, rfl⟩))
    go_ret2
    exact ⟨by rw [HV.out.1, HV.out.2]; rfl, below_two _ _⟩

/-- While the fields are put. -/
structure ES (w : World) (x : NI) (v : Int) (w1 : World) : Prop where
  ni : Blk w1 w.heap.size (NC x) 36
  var : Blk w1 (w.heap.size + 1) #[.int .u32 v] 29
  bel : Below w.heap.size w w1
theorem ES.step {w w1 w2 : World} {x : NI} {v v' : Int} {e : Ending} (h : ES w x v w1) (hp : PutPost (w.heap.size + 1) v' w1 w2 e) : ES w x v' w2 :=
  ⟨h.ni.grown hp.grown (by simp), hp.blk, h.bel.trans (below_of_grown hp.grown (by omega) h.bel.size)⟩
theorem ES.cells {w w1 : World} {x : NI} {v : Int} (h : ES w x v w1) :
    w1.cell? ⟨w.heap.size, 0, none⟩ = some (.int .i64 x.op) ∧ w1.cell? ⟨w.heap.size, 1, none⟩ = some (.int .i64 x.rd) ∧ w1.cell? ⟨w.heap.size, 2, none⟩ = some (.int .i64 x.rs1) ∧ w1.cell? ⟨w.heap.size, 3, none⟩ = some (.int .i64 x.rs2) ∧
    w1.cell? ⟨w.heap.size, 4, none⟩ = some (.int .u32 x.imm) ∧ w1.cell? ⟨w.heap.size, 5, none⟩ = some (.int .i64 x.csr) ∧ w1.cell? ⟨w.heap.size + 1, 0, none⟩ = some (.int .u32 v) :=
  ⟨h.ni.cell 0 rfl, h.ni.cell 1 rfl, h.ni.cell 2 rfl, h.ni.cell 3 rfl, h.ni.cell 4 rfl, h.ni.cell 5 rfl, h.var.cell 0 rfl⟩
theorem es_start {w w5 : World} {x : NI} {v : Int} (hb : Below ((w.alloc (.cells (NC x) 36)).alloc (.cells #[.int .u32 v] 29)).heap.size ((w.alloc (.cells (NC x) 36)).alloc (.cells #[.int .u32 v] 29)) w5) : ES w x v w5 :=
  ⟨((blk_new w (NC x) 36).alloc _).below hb (by simp; omega), (blk_new2 w _ _ 29).below hb (by simp), (below_two _ _).trans (hb.mono (by simp; omega))⟩


set_option maxRecDepth 100000 in
set_option maxHeartbeats 4000000 in
theorem encode_3 (hR : RightSaid) (x : NI) (w : World) (hE : Env w) (h0 : 0 ≤ x.imm) (h1 : x.imm < 4294967296) (hk : encOk x = true) (hf : formP x.op = 3) :
    Calls Tryd.prog 66 #[.agg #[.int .i64 x.op, .int .i64 x.rd, .int .i64 x.rs1, .int .i64 x.rs2, .int .u32 x.imm, .int .i64 x.csr]] w fun e w' => EncPost x w w' e := by
  have hmf : ∀ (fn : Fn) (first cap : Array Value) (w : World), (Instr.makeFunc fn first cap).run Tryd.prog w = .ok (.func fn first cap) w := fun _ _ _ _ => rfl
  have HR := Hd.mk hR
  have HV : Hd (encV x = encW x ∧ encE x = 0) := ⟨by rw [encV, encE, hk]; simp⟩
  simp only [encOk, Bool.and_eq_true, decide_eq_true_eq] at hk
  obtain ⟨ho, hr⟩ := hk
  obtain ⟨⟨p0, p1⟩, ⟨p2, p3⟩, ⟨p4, p5⟩, ⟨p6, p7⟩, ⟨p8, p9⟩, hpi, hpo⟩ := rightB_parts hr
  have HB := Hd.mk hr
  have HM : Hd (matchE x.op = 0 ∧ matchV x.op = matchI x.op.toNat) := ⟨by rw [matchE, matchV, if_pos (by omega), if_pos (by omega)]; simp⟩
  have HF : Hd (formV x.op = 3 ∧ formE x.op = 0) := ⟨by rw [formV_eq, hf, formE, if_pos ⟨p0, p1⟩]; simp⟩
  have HW : Hd (encW x = orW (encA x) (x.imm % 4096 * 1048576)) := ⟨by simp [encW, hf]⟩
  clear hR ho hr hpi hpo hf
  go_enter Tryd.func66, Tryd.ntmps66
  go_wp2_with (go_at_call 80; refine (match_any _ _ (hE.alloc _)).mono ?_; rw [HM.out.1, HM.out.2]; rintro e w' ⟨rfl, rfl⟩)
  refine (HR.out x _ ((hE.alloc _).alloc _) h0 h1).mono ?_
  rw [HB.out]
  rintro e w5 ⟨rfl, hb5⟩
  have hs := es_start hb5
  have hE5 := ((hE.alloc _).alloc _).below hb5
  clear hb5
  obtain ⟨c0, c1, c2, c3, c4, c5, c6⟩ := hs.cells
  go_wp2_with (go_at_call 43; refine (form_any _ _ hE5).mono ?_; rw [HF.out.1, HF.out.2]; rintro e w' ⟨rfl, rfl⟩)
  refine (put_0_5_7 (w.heap.size + 1) _ _ _ hs.var (by omega) (by omega)).mono ?_
  rintro e w6 hp
  replace hs := hs.step hp
  have hret := hp.ret
  subst hret
  clear hp c0 c1 c2 c3 c4 c5 c6
  obtain ⟨c0, c1, c2, c3, c4, c5, c6⟩ := hs.cells
  go_wp2_with fail
  refine (put_0_5_15 (w.heap.size + 1) _ _ _ hs.var (by omega) (by omega)).mono ?_
  rintro e w6 hp
  replace hs := hs.step hp
  have hret := hp.ret
  subst hret
  clear hp c0 c1 c2 c3 c4 c5 c6
  obtain ⟨c0, c1, c2, c3, c4, c5, c6⟩ := hs.cells
  go_wp2_with fail
  refine (put_0_5_20 (w.heap.size + 1) _ _ _ hs.var (by omega) (by omega)).mono ?_
  rintro e w6 hp
  replace hs := hs.step hp
  have hret := hp.ret
  subst hret
  clear hp c0 c1 c2 c3 c4 c5 c6
  obtain ⟨c0, c1, c2, c3, c4, c5, c6⟩ := hs.cells
  go_wp2_with fail
  refine (put_0_12_20 (w.heap.size + 1) _ _ _ hs.var (by omega) (by omega)).mono ?_
  rintro e w6 hp
  replace hs := hs.step hp
  have hret := hp.ret
  subst hret
  clear hp c0 c1 c2 c3 c4 c5 c6
  obtain ⟨c0, c1, c2, c3, c4, c5, c6⟩ := hs.cells
  go_wp2_with fail
  refine (put_0_12_20 (w.heap.size + 1) _ _ _ hs.var (by omega) (by omega)).mono ?_
  rintro e w6 hp
  replace hs := hs.step hp
  have hret := hp.ret
  subst hret
  clear hp c0 c1 c2 c3 c4 c5 c6
  obtain ⟨c0, c1, c2, c3, c4, c5, c6⟩ := hs.cells
  go_wp2_with fail
  go_ret2
  exact ⟨by rw [HV.out.1, HV.out.2, HW.out]; rfl, hs.bel⟩

end Go.Proofs.YtceelkmedfoefaaDoor
