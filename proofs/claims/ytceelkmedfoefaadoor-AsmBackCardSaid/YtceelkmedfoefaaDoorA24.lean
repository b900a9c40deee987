import Derived.Test.YtceelkmedfoefaaDoorA23
set_option linter.unusedVariables false
set_option linter.unusedSimpArgs false
namespace Go.Proofs.YtceelkmedfoefaaDoor
open Go.RowKit

set_option maxRecDepth 100000 in
set_option maxHeartbeats 4000000 in
theorem encode_0 (hR : RightSaid) (x : NI) (w : World) (hE : Env w) (h0 : 0 ≤ x.imm) (h1 : x.imm < 4294967296) (hk : encOk x = true) (hf : formP x.op = 0) :
    Calls Tryd.prog 66 #[.agg #[.int .i64 x.op, .int .i64 x.rd, .int .i64 x.rs1, .int .i64 x.rs2, .int .u32 x.imm, .int .i64 x.csr]] w fun e w' => EncPost x w w' e := by
  have hmf : ∀ (fn : Fn) (first cap : Array Value) (w : World), (Instr.makeFunc fn first cap).run Tryd.prog w = .ok (.func fn first cap) w := fun _ _ _ _ => rfl
  have HR := Hd.mk hR
  have HV : Hd (encV x = encW x ∧ encE x = 0) := ⟨by rw [encV, encE, hk]; simp⟩
  simp only [encOk, Bool.and_eq_true, decide_eq_true_eq] at hk
  obtain ⟨ho, hr⟩ := hk
  obtain ⟨⟨p0, p1⟩, ⟨p2, p3⟩, ⟨p4, p5⟩, ⟨p6, p7⟩, ⟨p8, p9⟩, hpi, hpo⟩ := rightB_parts hr
  have HB := Hd.mk hr
  have HM : Hd (matchE x.op = 0 ∧ matchV x.op = matchI x.op.toNat) := ⟨by rw [matchE, matchV, if_pos (by omega), if_pos (by omega)]; simp⟩
  have HF : Hd (formV x.op = 0 ∧ formE x.op = 0) := ⟨by rw [formV_eq, hf, formE, if_pos ⟨p0, p1⟩]; simp⟩
  have HW : Hd (encW x = encA x) := ⟨by simp [encW, hf]⟩
  clear hR ho hr hpi hpo hf
  go_enter Tryd.func66, Tryd.ntmps66
  go_wp2_with (go_at_call 80; refine (match_any _ _ (hE.alloc _)).mono ?_; rw [HM.out.1, HM.out.2]; rintro e w' ⟨rfl, rfl⟩)
  refine (HR.out x _ ((hE.alloc _).alloc _) h0 h1).mono ?_
  rw [HB.out]
  rintro e w5 ⟨rfl, hb5⟩
  have hs := es_start hb5
  have hE5 := ((hE.alloc _).alloc _).below hb5
  clear hb5
  obtain ⟨c0, c1, c2, c3, c4, c5, c6⟩ := hs.cells
  go_wp2_with (go_at_call 43; refine (form_any _ _ hE5).mono ?_; rw [HF.out.1, HF.out.2]; rintro e w' ⟨rfl, rfl⟩)
  refine (put_0_5_7 (w.heap.size + 1) _ _ _ hs.var (by omega) (by omega)).mono ?_
  rintro e w6 hp
  replace hs := hs.step hp
  have hret := hp.ret
  subst hret
  clear hp c0 c1 c2 c3 c4 c5 c6
  obtain ⟨c0, c1, c2, c3, c4, c5, c6⟩ := hs.cells
  go_wp2_with fail
  refine (put_0_5_15 (w.heap.size + 1) _ _ _ hs.var (by omega) (by omega)).mono ?_
  rintro e w6 hp
  replace hs := hs.step hp
  have hret := hp.ret
  subst hret
  clear hp c0 c1 c2 c3 c4 c5 c6
  obtain ⟨c0, c1, c2, c3, c4, c5, c6⟩ := hs.cells
  go_wp2_with fail
  refine (put_0_5_20 (w.heap.size + 1) _ _ _ hs.var (by omega) (by omega)).mono ?_
  rintro e w6 hp
  replace hs := hs.step hp
  have hret := hp.ret
  subst hret
  clear hp c0 c1 c2 c3 c4 c5 c6
  obtain ⟨c0, c1, c2, c3, c4, c5, c6⟩ := hs.cells
  go_wp2_with fail
  refine (put_0_12_20 (w.heap.size + 1) _ _ _ hs.var (by omega) (by omega)).mono ?_
  rintro e w6 hp
  replace hs := hs.step hp
  have hret := hp.ret
  subst hret
  clear hp c0 c1 c2 c3 c4 c5 c6
  obtain ⟨c0, c1, c2, c3, c4, c5, c6⟩ := hs.cells
  go_wp2_with fail
  go_ret2
  exact ⟨by rw [HV.out.1, HV.out.2, HW.out]; rfl, hs.bel⟩

set_option maxRecDepth 100000 in
set_option maxHeartbeats 4000000 in
theorem encode_1 (hR : RightSaid) (x : NI) (w : World) (hE : Env w) (h0 : 0 ≤ x.imm) (h1 : x.imm < 4294967296) (hk : encOk x = true) (hf : formP x.op = 1) :
    Calls Tryd.prog 66 #[.agg #[.int .i64 x.op, .int .i64 x.rd, .int .i64 x.rs1, .int .i64 x.rs2, .int .u32 x.imm, .int .i64 x.csr]] w fun e w' => EncPost x w w' e := by
  have hmf : ∀ (fn : Fn) (first cap : Array Value) (w : World), (Instr.makeFunc fn first cap).run Tryd.prog w = .ok (.func fn first cap) w := fun _ _ _ _ => rfl
  have HR := Hd.mk hR
  have HV : Hd (encV x = encW x ∧ encE x = 0) := ⟨by rw [encV, encE, hk]; simp⟩
  simp only [encOk, Bool.and_eq_true, decide_eq_true_eq] at hk
  obtain ⟨ho, hr⟩ := hk
  obtain ⟨⟨p0, p1⟩, ⟨p2, p3⟩, ⟨p4, p5⟩, ⟨p6, p7⟩, ⟨p8, p9⟩, hpi, hpo⟩ := rightB_parts hr
  have HB := Hd.mk hr
  have HM : Hd (matchE x.op = 0 ∧ matchV x.op = matchI x.op.toNat) := ⟨by rw [matchE, matchV, if_pos (by omega), if_pos (by omega)]; simp⟩
  have HF : Hd (formV x.op = 1 ∧ formE x.op = 0) := ⟨by rw [formV_eq, hf, formE, if_pos ⟨p0, p1⟩]; simp⟩
  have HW : Hd (encW x = orW (encA x) (x.imm / 4096 % 1048576 * 4096)) := ⟨by simp [encW, hf]⟩
  clear hR ho hr hpi hpo hf
  go_enter Tryd.func66, Tryd.ntmps66
  go_wp2_with (go_at_call 80; refine (match_any _ _ (hE.alloc _)).mono ?_; rw [HM.out.1, HM.out.2]; rintro e w' ⟨rfl, rfl⟩)
  refine (HR.out x _ ((hE.alloc _).alloc _) h0 h1).mono ?_
  rw [HB.out]
  rintro e w5 ⟨rfl, hb5⟩
  have hs := es_start hb5
  have hE5 := ((hE.alloc _).alloc _).below hb5
  clear hb5
  obtain ⟨c0, c1, c2, c3, c4, c5, c6⟩ := hs.cells
  go_wp2_with (go_at_call 43; refine (form_any _ _ hE5).mono ?_; rw [HF.out.1, HF.out.2]; rintro e w' ⟨rfl, rfl⟩)
  refine (put_0_5_7 (w.heap.size + 1) _ _ _ hs.var (by omega) (by omega)).mono ?_
  rintro e w6 hp
  replace hs := hs.step hp
  have hret := hp.ret
  subst hret
  clear hp c0 c1 c2 c3 c4 c5 c6
  obtain ⟨c0, c1, c2, c3, c4, c5, c6⟩ := hs.cells
  go_wp2_with fail
  refine (put_0_5_15 (w.heap.size + 1) _ _ _ hs.var (by omega) (by omega)).mono ?_
  rintro e w6 hp
  replace hs := hs.step hp
  have hret := hp.ret
  subst hret
  clear hp c0 c1 c2 c3 c4 c5 c6
  obtain ⟨c0, c1, c2, c3, c4, c5, c6⟩ := hs.cells
  go_wp2_with fail
  refine (put_0_5_20 (w.heap.size + 1) _ _ _ hs.var (by omega) (by omega)).mono ?_
  rintro e w6 hp
  replace hs := hs.step hp
  have hret := hp.ret
  subst hret
  clear hp c0 c1 c2 c3 c4 c5 c6
  obtain ⟨c0, c1, c2, c3, c4, c5, c6⟩ := hs.cells
  go_wp2_with fail
  refine (put_0_12_20 (w.heap.size + 1) _ _ _ hs.var (by omega) (by omega)).mono ?_
  rintro e w6 hp
  replace hs := hs.step hp
  have hret := hp.ret
  subst hret
  clear hp c0 c1 c2 c3 c4 c5 c6
  obtain ⟨c0, c1, c2, c3, c4, c5, c6⟩ := hs.cells
  go_wp2_with fail
  refine (put_12_20_12 (w.heap.size + 1) _ _ _ hs.var (by omega) (by omega)).mono ?_
  rintro e w6 hp
  replace hs := hs.step hp
  have hret := hp.ret
  subst hret
  clear hp c0 c1 c2 c3 c4 c5 c6
  obtain ⟨c0, c1, c2, c3, c4, c5, c6⟩ := hs.cells
  go_wp2_with fail
  go_ret2
  exact ⟨by rw [HV.out.1, HV.out.2, HW.out]; rfl, hs.bel⟩

set_option maxRecDepth 100000 in
set_option maxHeartbeats 4000000 in
theorem encode_2 (hR : RightSaid) (x : NI) (w : World) (hE : Env w) (h0 : 0 ≤ x.imm) (h1 : x.imm < 4294967296) (hk : encOk x = true) (hf : formP x.op = 2) :
    Calls Tryd.prog 66 #[.agg #[.int .i64 x.op, .int .i64 x.rd, .int .i64 x.rs1, .int .i64 x.rs2, .int .u32 x.imm, .int .i64 x.csr]] w fun e w' => EncPost x w w' e := by
  have hmf : ∀ (fn : Fn) (first cap : Array Value) (w : World), (Instr.makeFunc fn first cap).run Tryd.prog w = .ok (.func fn first cap) w := fun _ _ _ _ => rfl
  have HR := Hd.mk hR
  have HV : Hd (encV x = encW x ∧ encE x = 0) := ⟨by rw [encV, encE, hk]; simp⟩
  simp only [encOk, Bool.and_eq_true, decide_eq_true_eq] at hk
  obtain ⟨ho, hr⟩ := hk
  obtain ⟨⟨p0, p1⟩, ⟨p2, p3⟩, ⟨p4, p5⟩, ⟨p6, p7⟩, ⟨p8, p9⟩, hpi, hpo⟩ := rightB_parts hr
  have HB := Hd.mk hr
  have HM : Hd (matchE x.op = 0 ∧ matchV x.op = matchI x.op.toNat) := ⟨by rw [matchE, matchV, if_pos (by omega), if_pos (by omega)]; simp⟩
  have HF : Hd (formV x.op = 2 ∧ formE x.op = 0) := ⟨by rw [formV_eq, hf, formE, if_pos ⟨p0, p1⟩]; simp⟩
  have HW : Hd (encW x = orW (orW (orW (orW (encA x) (x.imm / 1048576 % 2 * 2147483648)) (x.imm / 4096 % 256 * 4096)) (x.imm / 2048 % 2 * 1048576)) (x.imm / 2 % 1024 * 2097152)) := ⟨by simp [encW, hf]⟩
  clear hR ho hr hpi hpo hf
  go_enter Tryd.func66, Tryd.ntmps66
  go_wp2_with (go_at_call 80; refine (match_any _ _ (hE.alloc _)).mono ?_; rw [HM.out.1, HM.out.2]; rintro e w' ⟨rfl, rfl⟩)
  refine (HR.out x _ ((hE.alloc _).alloc _) h0 h1).mono ?_
  rw [HB.out]
  rintro e w5 ⟨rfl, hb5⟩
  have hs := es_start hb5
  have hE5 := ((hE.alloc _).alloc _).below hb5
  clear hb5
  obtain ⟨c0, c1, c2, c3, c4, c5, c6⟩ := hs.cells
  go_wp2_with (go_at_call 43; refine (form_any _ _ hE5).mono ?_; rw [HF.out.1, HF.out.2]; rintro e w' ⟨rfl, rfl⟩)
  refine (put_0_5_7 (w.heap.size + 1) _ _ _ hs.var (by omega) (by omega)).mono ?_
  rintro e w6 hp
  replace hs := hs.step hp
  have hret := hp.ret
  subst hret
  clear hp c0 c1 c2 c3 c4 c5 c6
  obtain ⟨c0, c1, c2, c3, c4, c5, c6⟩ := hs.cells
  go_wp2_with fail
  refine (put_0_5_15 (w.heap.size + 1) _ _ _ hs.var (by omega) (by omega)).mono ?_
  rintro e w6 hp
  replace hs := hs.step hp
  have hret := hp.ret
  subst hret
  clear hp c0 c1 c2 c3 c4 c5 c6
  obtain ⟨c0, c1, c2, c3, c4, c5, c6⟩ := hs.cells
  go_wp2_with fail
  refine (put_0_5_20 (w.heap.size + 1) _ _ _ hs.var (by omega) (by omega)).mono ?_
  rintro e w6 hp
  replace hs := hs.step hp
  have hret := hp.ret
  subst hret
  clear hp c0 c1 c2 c3 c4 c5 c6
  obtain ⟨c0, c1, c2, c3, c4, c5, c6⟩ := hs.cells
  go_wp2_with fail
  refine (put_0_12_20 (w.heap.size + 1) _ _ _ hs.var (by omega) (by omega)).mono ?_
  rintro e w6 hp
  replace hs := hs.step hp
  have hret := hp.ret
  subst hret
  clear hp c0 c1 c2 c3 c4 c5 c6
  obtain ⟨c0, c1, c2, c3, c4, c5, c6⟩ := hs.cells
  go_wp2_with fail
  refine (put_20_1_31 (w.heap.size + 1) _ _ _ hs.var (by omega) (by omega)).mono ?_
  rintro e w6 hp
  replace hs := hs.step hp
  have hret := hp.ret
  subst hret
  clear hp c0 c1 c2 c3 c4 c5 c6
  obtain ⟨c0, c1, c2, c3, c4, c5, c6⟩ := hs.cells
  go_wp2_with fail
  refine (put_12_8_12 (w.heap.size + 1) _ _ _ hs.var (by omega) (by omega)).mono ?_
  rintro e w6 hp
  replace hs := hs.step hp
  have hret := hp.ret
  subst hret
  clear hp c0 c1 c2 c3 c4 c5 c6
  obtain ⟨c0, c1, c2, c3, c4, c5, c6⟩ := hs.cells
  go_wp2_with fail
  refine (put_11_1_20 (w.heap.size + 1) _ _ _ hs.var (by omega) (by omega)).mono ?_
  rintro e w6 hp
  replace hs := hs.step hp
  have hret := hp.ret
  subst hret
  clear hp c0 c1 c2 c3 c4 c5 c6
  obtain ⟨c0, c1, c2, c3, c4, c5, c6⟩ := hs.cells
  go_wp2_with fail
  refine (put_1_10_21 (w.heap.size + 1) _ _ _ hs.var (by omega) (by omega)).mono ?_
  rintro e w6 hp
  replace hs := hs.step hp
  have hret := hp.ret
  subst hret
  clear hp c0 c1 c2 c3 c4 c5 c6
  obtain ⟨c0, c1, c2, c3, c4, c5, c6⟩ := hs.cells
  go_wp2_with fail
  go_ret2
  exact ⟨by rw [HV.out.1, HV.out.2, HW.out]; rfl, hs.bel⟩

set_option maxRecDepth 100000 in
set_option maxHeartbeats 4000000 in
theorem encode_4 (hR : RightSaid) (x : NI) (w : World) (hE : Env w) (h0 : 0 ≤ x.imm) (h1 : x.imm < 4294967296) (hk : encOk x = true) (hf : formP x.op = 4) :
    Calls Tryd.prog 66 #[.agg #[.int .i64 x.op, .int .i64 x.rd, .int .i64 x.rs1, .int .i64 x.rs2, .int .u32 x.imm, .int .i64 x.csr]] w fun e w' => EncPost x w w' e := by
  have hmf : ∀ (fn : Fn) (first cap : Array Value) (w : World), (Instr.makeFunc fn first cap).run Tryd.prog w = .ok (.func fn first cap) w := fun _ _ _ _ => rfl
  have HR := Hd.mk hR
  have HV : Hd (encV x = encW x ∧ encE x = 0) := ⟨by rw [encV, encE, hk]; simp⟩
  simp only [encOk, Bool.and_eq_true, decide_eq_true_eq] at hk
  obtain ⟨ho, hr⟩ := hk
  obtain ⟨⟨p0, p1⟩, ⟨p2, p3⟩, ⟨p4, p5⟩, ⟨p6, p7⟩, ⟨p8, p9⟩, hpi, hpo⟩ := rightB_parts hr
  have HB := Hd.mk hr
  have HM : Hd (matchE x.op = 0 ∧ matchV x.op = matchI x.op.toNat) := ⟨by rw [matchE, matchV, if_pos (by omega), if_pos (by omega)]; simp⟩
  have HF : Hd (formV x.op = 4 ∧ formE x.op = 0) := ⟨by rw [formV_eq, hf, formE, if_pos ⟨p0, p1⟩]; simp⟩
  have HW : Hd (encW x = orW (orW (orW (orW (encA x) (x.imm / 4096 % 2 * 2147483648)) (x.imm / 2048 % 2 * 128)) (x.imm / 32 % 64 * 33554432)) (x.imm / 2 % 16 * 256)) := ⟨by simp [encW, hf]⟩
  clear hR ho hr hpi hpo hf
  go_enter Tryd.func66, Tryd.ntmps66
  go_wp2_with (go_at_call 80; refine (match_any _ _ (hE.alloc _)).mono ?_; rw [HM.out.1, HM.out.2]; rintro e w' ⟨rfl, rfl⟩)
  refine (HR.out x _ ((hE.alloc _).alloc _) h0 h1).mono ?_
  rw [HB.out]
  rintro e w5 ⟨rfl, hb5⟩
  have hs := es_start hb5
  have hE5 := ((hE.alloc _).alloc _).below hb5
  clear hb5
  obtain ⟨c0, c1, c2, c3, c4, c5, c6⟩ := hs.cells
  go_wp2_with (go_at_call 43; refine (form_any _ _ hE5).mono ?_; rw [HF.out.1, HF.out.2]; rintro e w' ⟨rfl, rfl⟩)
  refine (put_0_5_7 (w.heap.size + 1) _ _ _ hs.var (by omega) (by omega)).mono ?_
  rintro e w6 hp
  replace hs := hs.step hp
  have hret := hp.ret
  subst hret
  clear hp c0 c1 c2 c3 c4 c5 c6
  obtain ⟨c0, c1, c2, c3, c4, c5, c6⟩ := hs.cells
  go_wp2_with fail
  refine (put_0_5_15 (w.heap.size + 1) _ _ _ hs.var (by omega) (by omega)).mono ?_
  rintro e w6 hp
  replace hs := hs.step hp
  have hret := hp.ret
  subst hret
  clear hp c0 c1 c2 c3 c4 c5 c6
  obtain ⟨c0, c1, c2, c3, c4, c5, c6⟩ := hs.cells
  go_wp2_with fail
  refine (put_0_5_20 (w.heap.size + 1) _ _ _ hs.var (by omega) (by omega)).mono ?_
  rintro e w6 hp
  replace hs := hs.step hp
  have hret := hp.ret
  subst hret
  clear hp c0 c1 c2 c3 c4 c5 c6
  obtain ⟨c0, c1, c2, c3, c4, c5, c6⟩ := hs.cells
  go_wp2_with fail
  refine (put_0_12_20 (w.heap.size + 1) _ _ _ hs.var (by omega) (by omega)).mono ?_
  rintro e w6 hp
  replace hs := hs.step hp
  have hret := hp.ret
  subst hret
  clear hp c0 c1 c2 c3 c4 c5 c6
  obtain ⟨c0, c1, c2, c3, c4, c5, c6⟩ := hs.cells
  go_wp2_with fail
  refine (put_12_1_31 (w.heap.size + 1) _ _ _ hs.var (by omega) (by omega)).mono ?_
  rintro e w6 hp
  replace hs := hs.step hp
  have hret := hp.ret
  subst hret
  clear hp c0 c1 c2 c3 c4 c5 c6
  obtain ⟨c0, c1, c2, c3, c4, c5, c6⟩ := hs.cells
  go_wp2_with fail
  refine (put_11_1_7 (w.heap.size + 1) _ _ _ hs.var (by omega) (by omega)).mono ?_
  rintro e w6 hp
  replace hs := hs.step hp
  have hret := hp.ret
  subst hret
  clear hp c0 c1 c2 c3 c4 c5 c6
  obtain ⟨c0, c1, c2, c3, c4, c5, c6⟩ := hs.cells
  go_wp2_with fail
  refine (put_5_6_25 (w.heap.size + 1) _ _ _ hs.var (by omega) (by omega)).mono ?_
  rintro e w6 hp
  replace hs := hs.step hp
  have hret := hp.ret
  subst hret
  clear hp c0 c1 c2 c3 c4 c5 c6
  obtain ⟨c0, c1, c2, c3, c4, c5, c6⟩ := hs.cells
  go_wp2_with fail
  refine (put_1_4_8 (w.heap.size + 1) _ _ _ hs.var (by omega) (by omega)).mono ?_
  rintro e w6 hp
  replace hs := hs.step hp
  have hret := hp.ret
  subst hret
  clear hp c0 c1 c2 c3 c4 c5 c6
  obtain ⟨c0, c1, c2, c3, c4, c5, c6⟩ := hs.cells
  go_wp2_with fail
  go_ret2
  exact ⟨by rw [HV.out.1, HV.out.2, HW.out]; rfl, hs.bel⟩

set_option maxRecDepth 100000 in
set_option maxHeartbeats 4000000 in
theorem encode_5 (hR : RightSaid) (x : NI) (w : World) (hE : Env w) (h0 : 0 ≤ x.imm) (h1 : x.imm < 4294967296) (hk : encOk x = true) (hf : formP x.op = 5) :
    Calls Tryd.prog 66 #[.agg #[.int .i64 x.op, .int .i64 x.rd, .int .i64 x.rs1, .int .i64 x.rs2, .int .u32 x.imm, .int .i64 x.csr]] w fun e w' => EncPost x w w' e := by
  have hmf : ∀ (fn : Fn) (first cap : Array Value) (w : World), (Instr.makeFunc fn first cap).run Tryd.prog w = .ok (.func fn first cap) w := fun _ _ _ _ => rfl
  have HR := Hd.mk hR
  have HV : Hd (encV x = encW x ∧ encE x = 0) := ⟨by rw [encV, encE, hk]; simp⟩
  simp only [encOk, Bool.and_eq_true, decide_eq_true_eq] at hk
  obtain ⟨ho, hr⟩ := hk
  obtain ⟨⟨p0, p1⟩, ⟨p2, p3⟩, ⟨p4, p5⟩, ⟨p6, p7⟩, ⟨p8, p9⟩, hpi, hpo⟩ := rightB_parts hr
  have HB := Hd.mk hr
  have HM : Hd (matchE x.op = 0 ∧ matchV x.op = matchI x.op.toNat) := ⟨by rw [matchE, matchV, if_pos (by omega), if_pos (by omega)]; simp⟩
  have HF : Hd (formV x.op = 5 ∧ formE x.op = 0) := ⟨by rw [formV_eq, hf, formE, if_pos ⟨p0, p1⟩]; simp⟩
  have HW : Hd (encW x = orW (orW (encA x) (x.imm / 32 % 128 * 33554432)) (x.imm % 32 * 128)) := ⟨by simp [encW, hf]⟩
  clear hR ho hr hpi hpo hf
  go_enter Tryd.func66, Tryd.ntmps66
  go_wp2_with (go_at_call 80; refine (match_any _ _ (hE.alloc _)).mono ?_; rw [HM.out.1, HM.out.2]; rintro e w' ⟨rfl, rfl⟩)
  refine (HR.out x _ ((hE.alloc _).alloc _) h0 h1).mono ?_
  rw [HB.out]
  rintro e w5 ⟨rfl, hb5⟩
  have hs := es_start hb5
  have hE5 := ((hE.alloc _).alloc _).below hb5
  clear hb5
  obtain ⟨c0, c1, c2, c3, c4, c5, c6⟩ := hs.cells
  go_wp2_with (go_at_call 43; refine (form_any _ _ hE5).mono ?_; rw [HF.out.1, HF.out.2]; rintro e w' ⟨rfl, rfl⟩)
  refine (put_0_5_7 (w.heap.size + 1) _ _ _ hs.var (by omega) (by omega)).mono ?_
  rintro e w6 hp
  replace hs := hs.step hp
  have hret := hp.ret
  subst hret
  clear hp c0 c1 c2 c3 c4 c5 c6
  obtain ⟨c0, c1, c2, c3, c4, c5, c6⟩ := hs.cells
  go_wp2_with fail
  refine (put_0_5_15 (w.heap.size + 1) _ _ _ hs.var (by omega) (by omega)).mono ?_
  rintro e w6 hp
  replace hs := hs.step hp
  have hret := hp.ret
  subst hret
  clear hp c0 c1 c2 c3 c4 c5 c6
  obtain ⟨c0, c1, c2, c3, c4, c5, c6⟩ := hs.cells
  go_wp2_with fail
  refine (put_0_5_20 (w.heap.size + 1) _ _ _ hs.var (by omega) (by omega)).mono ?_
  rintro e w6 hp
  replace hs := hs.step hp
  have hret := hp.ret
  subst hret
  clear hp c0 c1 c2 c3 c4 c5 c6
  obtain ⟨c0, c1, c2, c3, c4, c5, c6⟩ := hs.cells
  go_wp2_with fail
  refine (put_0_12_20 (w.heap.size + 1) _ _ _ hs.var (by omega) (by omega)).mono ?_
  rintro e w6 hp
  replace hs := hs.step hp
  have hret := hp.ret
  subst hret
  clear hp c0 c1 c2 c3 c4 c5 c6
  obtain ⟨c0, c1, c2, c3, c4, c5, c6⟩ := hs.cells
  go_wp2_with fail
  refine (put_5_7_25 (w.heap.size + 1) _ _ _ hs.var (by omega) (by omega)).mono ?_
  rintro e w6 hp
  replace hs := hs.step hp
  have hret := hp.ret
  subst hret
  clear hp c0 c1 c2 c3 c4 c5 c6
  obtain ⟨c0, c1, c2, c3, c4, c5, c6⟩ := hs.cells
  go_wp2_with fail
  refine (put_0_5_7 (w.heap.size + 1) _ _ _ hs.var (by omega) (by omega)).mono ?_
  rintro e w6 hp
  replace hs := hs.step hp
  have hret := hp.ret
  subst hret
  clear hp c0 c1 c2 c3 c4 c5 c6
  obtain ⟨c0, c1, c2, c3, c4, c5, c6⟩ := hs.cells
  go_wp2_with fail
  go_ret2
  exact ⟨by rw [HV.out.1, HV.out.2, HW.out]; rfl, hs.bel⟩

set_option maxRecDepth 100000 in
set_option maxHeartbeats 4000000 in
theorem encode_6 (hR : RightSaid) (x : NI) (w : World) (hE : Env w) (h0 : 0 ≤ x.imm) (h1 : x.imm < 4294967296) (hk : encOk x = true) (hf : formP x.op = 6) :
    Calls Tryd.prog 66 #[.agg #[.int .i64 x.op, .int .i64 x.rd, .int .i64 x.rs1, .int .i64 x.rs2, .int .u32 x.imm, .int .i64 x.csr]] w fun e w' => EncPost x w w' e := by
  have hmf : ∀ (fn : Fn) (first cap : Array Value) (w : World), (Instr.makeFunc fn first cap).run Tryd.prog w = .ok (.func fn first cap) w := fun _ _ _ _ => rfl
  have HR := Hd.mk hR
  have HV : Hd (encV x = encW x ∧ encE x = 0) := ⟨by rw [encV, encE, hk]; simp⟩
  simp only [encOk, Bool.and_eq_true, decide_eq_true_eq] at hk
  obtain ⟨ho, hr⟩ := hk
  obtain ⟨⟨p0, p1⟩, ⟨p2, p3⟩, ⟨p4, p5⟩, ⟨p6, p7⟩, ⟨p8, p9⟩, hpi, hpo⟩ := rightB_parts hr
  have HB := Hd.mk hr
  have HM : Hd (matchE x.op = 0 ∧ matchV x.op = matchI x.op.toNat) := ⟨by rw [matchE, matchV, if_pos (by omega), if_pos (by omega)]; simp⟩
  have HF : Hd (formV x.op = 6 ∧ formE x.op = 0) := ⟨by rw [formV_eq, hf, formE, if_pos ⟨p0, p1⟩]; simp⟩
  have HW : Hd (encW x = encA x) := ⟨by simp [encW, hf]⟩
  clear hR ho hr hpi hpo hf
  go_enter Tryd.func66, Tryd.ntmps66
  go_wp2_with (go_at_call 80; refine (match_any _ _ (hE.alloc _)).mono ?_; rw [HM.out.1, HM.out.2]; rintro e w' ⟨rfl, rfl⟩)
  refine (HR.out x _ ((hE.alloc _).alloc _) h0 h1).mono ?_
  rw [HB.out]
  rintro e w5 ⟨rfl, hb5⟩
  have hs := es_start hb5
  have hE5 := ((hE.alloc _).alloc _).below hb5
  clear hb5
  obtain ⟨c0, c1, c2, c3, c4, c5, c6⟩ := hs.cells
  go_wp2_with (go_at_call 43; refine (form_any _ _ hE5).mono ?_; rw [HF.out.1, HF.out.2]; rintro e w' ⟨rfl, rfl⟩)
  refine (put_0_5_7 (w.heap.size + 1) _ _ _ hs.var (by omega) (by omega)).mono ?_
  rintro e w6 hp
  replace hs := hs.step hp
  have hret := hp.ret
  subst hret
  clear hp c0 c1 c2 c3 c4 c5 c6
  obtain ⟨c0, c1, c2, c3, c4, c5, c6⟩ := hs.cells
  go_wp2_with fail
  refine (put_0_5_15 (w.heap.size + 1) _ _ _ hs.var (by omega) (by omega)).mono ?_
  rintro e w6 hp
  replace hs := hs.step hp
  have hret := hp.ret
  subst hret
  clear hp c0 c1 c2 c3 c4 c5 c6
  obtain ⟨c0, c1, c2, c3, c4, c5, c6⟩ := hs.cells
  go_wp2_with fail
  refine (put_0_5_20 (w.heap.size + 1) _ _ _ hs.var (by omega) (by omega)).mono ?_
  rintro e w6 hp
  replace hs := hs.step hp
  have hret := hp.ret
  subst hret
  clear hp c0 c1 c2 c3 c4 c5 c6
  obtain ⟨c0, c1, c2, c3, c4, c5, c6⟩ := hs.cells
  go_wp2_with fail
  refine (put_0_12_20 (w.heap.size + 1) _ _ _ hs.var (by omega) (by omega)).mono ?_
  rintro e w6 hp
  replace hs := hs.step hp
  have hret := hp.ret
  subst hret
  clear hp c0 c1 c2 c3 c4 c5 c6
  obtain ⟨c0, c1, c2, c3, c4, c5, c6⟩ := hs.cells
  go_wp2_with fail
  go_ret2
  exact ⟨by rw [HV.out.1, HV.out.2, HW.out]; rfl, hs.bel⟩

set_option maxRecDepth 100000 in
set_option maxHeartbeats 4000000 in
theorem encode_7 (hR : RightSaid) (x : NI) (w : World) (hE : Env w) (h0 : 0 ≤ x.imm) (h1 : x.imm < 4294967296) (hk : encOk x = true) (hf : formP x.op = 7) :
    Calls Tryd.prog 66 #[.agg #[.int .i64 x.op, .int .i64 x.rd, .int .i64 x.rs1, .int .i64 x.rs2, .int .u32 x.imm, .int .i64 x.csr]] w fun e w' => EncPost x w w' e := by
  have hmf : ∀ (fn : Fn) (first cap : Array Value) (w : World), (Instr.makeFunc fn first cap).run Tryd.prog w = .ok (.func fn first cap) w := fun _ _ _ _ => rfl
  have HR := Hd.mk hR
  have HV : Hd (encV x = encW x ∧ encE x = 0) := ⟨by rw [encV, encE, hk]; simp⟩
  simp only [encOk, Bool.and_eq_true, decide_eq_true_eq] at hk
  obtain ⟨ho, hr⟩ := hk
  obtain ⟨⟨p0, p1⟩, ⟨p2, p3⟩, ⟨p4, p5⟩, ⟨p6, p7⟩, ⟨p8, p9⟩, hpi, hpo⟩ := rightB_parts hr
  have HB := Hd.mk hr
  have HM : Hd (matchE x.op = 0 ∧ matchV x.op = matchI x.op.toNat) := ⟨by rw [matchE, matchV, if_pos (by omega), if_pos (by omega)]; simp⟩
  have HF : Hd (formV x.op = 7 ∧ formE x.op = 0) := ⟨by rw [formV_eq, hf, formE, if_pos ⟨p0, p1⟩]; simp⟩
  have HW : Hd (encW x = orW (encA x) (x.imm % 32 * 1048576)) := ⟨by simp [encW, hf]⟩
  clear hR ho hr hpi hpo hf
  go_enter Tryd.func66, Tryd.ntmps66
  go_wp2_with (go_at_call 80; refine (match_any _ _ (hE.alloc _)).mono ?_; rw [HM.out.1, HM.out.2]; rintro e w' ⟨rfl, rfl⟩)
  refine (HR.out x _ ((hE.alloc _).alloc _) h0 h1).mono ?_
  rw [HB.out]
  rintro e w5 ⟨rfl, hb5⟩
  have hs := es_start hb5
  have hE5 := ((hE.alloc _).alloc _).below hb5
  clear hb5
  obtain ⟨c0, c1, c2, c3, c4, c5, c6⟩ := hs.cells
  go_wp2_with (go_at_call 43; refine (form_any _ _ hE5).mono ?_; rw [HF.out.1, HF.out.2]; rintro e w' ⟨rfl, rfl⟩)
  refine (put_0_5_7 (w.heap.size + 1) _ _ _ hs.var (by omega) (by omega)).mono ?_
  rintro e w6 hp
  replace hs := hs.step hp
  have hret := hp.ret
  subst hret
  clear hp c0 c1 c2 c3 c4 c5 c6
  obtain ⟨c0, c1, c2, c3, c4, c5, c6⟩ := hs.cells
  go_wp2_with fail
  refine (put_0_5_15 (w.heap.size + 1) _ _ _ hs.var (by omega) (by omega)).mono ?_
  rintro e w6 hp
  replace hs := hs.step hp
  have hret := hp.ret
  subst hret
  clear hp c0 c1 c2 c3 c4 c5 c6
  obtain ⟨c0, c1, c2, c3, c4, c5, c6⟩ := hs.cells
  go_wp2_with fail
  refine (put_0_5_20 (w.heap.size + 1) _ _ _ hs.var (by omega) (by omega)).mono ?_
  rintro e w6 hp
  replace hs := hs.step hp
  have hret := hp.ret
  subst hret
  clear hp c0 c1 c2 c3 c4 c5 c6
  obtain ⟨c0, c1, c2, c3, c4, c5, c6⟩ := hs.cells
  go_wp2_with fail
  refine (put_0_12_20 (w.heap.size + 1) _ _ _ hs.var (by omega) (by omega)).mono ?_
  rintro e w6 hp
  replace hs := hs.step hp
  have hret := hp.ret
  subst hret
  clear hp c0 c1 c2 c3 c4 c5 c6
  obtain ⟨c0, c1, c2, c3, c4, c5, c6⟩ := hs.cells
  go_wp2_with fail
  refine (put_0_5_20 (w.heap.size + 1) _ _ _ hs.var (by omega) (by omega)).mono ?_
  rintro e w6 hp
  replace hs := hs.step hp
  have hret := hp.ret
  subst hret
  clear hp c0 c1 c2 c3 c4 c5 c6
  obtain ⟨c0, c1, c2, c3, c4, c5, c6⟩ := hs.cells
  go_wp2_with fail
  go_ret2
  exact ⟨by rw [HV.out.1, HV.out.2, HW.out]; rfl, hs.bel⟩

set_option maxRecDepth 100000 in
set_option maxHeartbeats 4000000 in
theorem encode_8 (hR : RightSaid) (x : NI) (w : World) (hE : Env w) (h0 : 0 ≤ x.imm) (h1 : x.imm < 4294967296) (hk : encOk x = true) (hf : formP x.op = 8) :
    Calls Tryd.prog 66 #[.agg #[.int .i64 x.op, .int .i64 x.rd, .int .i64 x.rs1, .int .i64 x.rs2, .int .u32 x.imm, .int .i64 x.csr]] w fun e w' => EncPost x w w' e := by
  have hmf : ∀ (fn : Fn) (first cap : Array Value) (w : World), (Instr.makeFunc fn first cap).run Tryd.prog w = .ok (.func fn first cap) w := fun _ _ _ _ => rfl
  have HR := Hd.mk hR
  have HV : Hd (encV x = encW x ∧ encE x = 0) := ⟨by rw [encV, encE, hk]; simp⟩
  simp only [encOk, Bool.and_eq_true, decide_eq_true_eq] at hk
  obtain ⟨ho, hr⟩ := hk
  obtain ⟨⟨p0, p1⟩, ⟨p2, p3⟩, ⟨p4, p5⟩, ⟨p6, p7⟩, ⟨p8, p9⟩, hpi, hpo⟩ := rightB_parts hr
  have HB := Hd.mk hr
  have HM : Hd (matchE x.op = 0 ∧ matchV x.op = matchI x.op.toNat) := ⟨by rw [matchE, matchV, if_pos (by omega), if_pos (by omega)]; simp⟩
  have HF : Hd (formV x.op = 8 ∧ formE x.op = 0) := ⟨by rw [formV_eq, hf, formE, if_pos ⟨p0, p1⟩]; simp⟩
  have HW : Hd (encW x = encA x) := ⟨by simp [encW, hf]⟩
  clear hR ho hr hpi hpo hf
  go_enter Tryd.func66, Tryd.ntmps66
  go_wp2_with (go_at_call 80; refine (match_any _ _ (hE.alloc _)).mono ?_; rw [HM.out.1, HM.out.2]; rintro e w' ⟨rfl, rfl⟩)
  refine (HR.out x _ ((hE.alloc _).alloc _) h0 h1).mono ?_
  rw [HB.out]
  rintro e w5 ⟨rfl, hb5⟩
  have hs := es_start hb5
  have hE5 := ((hE.alloc _).alloc _).below hb5
  clear hb5
  obtain ⟨c0, c1, c2, c3, c4, c5, c6⟩ := hs.cells
  go_wp2_with (go_at_call 43; refine (form_any _ _ hE5).mono ?_; rw [HF.out.1, HF.out.2]; rintro e w' ⟨rfl, rfl⟩)
  refine (put_0_5_7 (w.heap.size + 1) _ _ _ hs.var (by omega) (by omega)).mono ?_
  rintro e w6 hp
  replace hs := hs.step hp
  have hret := hp.ret
  subst hret
  clear hp c0 c1 c2 c3 c4 c5 c6
  obtain ⟨c0, c1, c2, c3, c4, c5, c6⟩ := hs.cells
  go_wp2_with fail
  refine (put_0_5_15 (w.heap.size + 1) _ _ _ hs.var (by omega) (by omega)).mono ?_
  rintro e w6 hp
  replace hs := hs.step hp
  have hret := hp.ret
  subst hret
  clear hp c0 c1 c2 c3 c4 c5 c6
  obtain ⟨c0, c1, c2, c3, c4, c5, c6⟩ := hs.cells
  go_wp2_with fail
  refine (put_0_5_20 (w.heap.size + 1) _ _ _ hs.var (by omega) (by omega)).mono ?_
  rintro e w6 hp
  replace hs := hs.step hp
  have hret := hp.ret
  subst hret
  clear hp c0 c1 c2 c3 c4 c5 c6
  obtain ⟨c0, c1, c2, c3, c4, c5, c6⟩ := hs.cells
  go_wp2_with fail
  refine (put_0_12_20 (w.heap.size + 1) _ _ _ hs.var (by omega) (by omega)).mono ?_
  rintro e w6 hp
  replace hs := hs.step hp
  have hret := hp.ret
  subst hret
  clear hp c0 c1 c2 c3 c4 c5 c6
  obtain ⟨c0, c1, c2, c3, c4, c5, c6⟩ := hs.cells
  go_wp2_with fail
  go_ret2
  exact ⟨by rw [HV.out.1, HV.out.2, HW.out]; rfl, hs.bel⟩

set_option maxRecDepth 100000 in
set_option maxHeartbeats 4000000 in
theorem encode_9 (hR : RightSaid) (x : NI) (w : World) (hE : Env w) (h0 : 0 ≤ x.imm) (h1 : x.imm < 4294967296) (hk : encOk x = true) (hf : formP x.op = 9) :
    Calls Tryd.prog 66 #[.agg #[.int .i64 x.op, .int .i64 x.rd, .int .i64 x.rs1, .int .i64 x.rs2, .int .u32 x.imm, .int .i64 x.csr]] w fun e w' => EncPost x w w' e := by
  have hmf : ∀ (fn : Fn) (first cap : Array Value) (w : World), (Instr.makeFunc fn first cap).run Tryd.prog w = .ok (.func fn first cap) w := fun _ _ _ _ => rfl
  have HR := Hd.mk hR
  have HV : Hd (encV x = encW x ∧ encE x = 0) := ⟨by rw [encV, encE, hk]; simp⟩
  simp only [encOk, Bool.and_eq_true, decide_eq_true_eq] at hk
  obtain ⟨ho, hr⟩ := hk
  obtain ⟨⟨p0, p1⟩, ⟨p2, p3⟩, ⟨p4, p5⟩, ⟨p6, p7⟩, ⟨p8, p9⟩, hpi, hpo⟩ := rightB_parts hr
  have HB := Hd.mk hr
  have HM : Hd (matchE x.op = 0 ∧ matchV x.op = matchI x.op.toNat) := ⟨by rw [matchE, matchV, if_pos (by omega), if_pos (by omega)]; simp⟩
  have HF : Hd (formV x.op = 9 ∧ formE x.op = 0) := ⟨by rw [formV_eq, hf, formE, if_pos ⟨p0, p1⟩]; simp⟩
  have HW : Hd (encW x = orW (encA x) (x.imm % 32 * 32768)) := ⟨by simp [encW, hf]⟩
  clear hR ho hr hpi hpo hf
  go_enter Tryd.func66, Tryd.ntmps66
  go_wp2_with (go_at_call 80; refine (match_any _ _ (hE.alloc _)).mono ?_; rw [HM.out.1, HM.out.2]; rintro e w' ⟨rfl, rfl⟩)
  refine (HR.out x _ ((hE.alloc _).alloc _) h0 h1).mono ?_
  rw [HB.out]
  rintro e w5 ⟨rfl, hb5⟩
  have hs := es_start hb5
  have hE5 := ((hE.alloc _).alloc _).below hb5
  clear hb5
  obtain ⟨c0, c1, c2, c3, c4, c5, c6⟩ := hs.cells
  go_wp2_with (go_at_call 43; refine (form_any _ _ hE5).mono ?_; rw [HF.out.1, HF.out.2]; rintro e w' ⟨rfl, rfl⟩)
  refine (put_0_5_7 (w.heap.size + 1) _ _ _ hs.var (by omega) (by omega)).mono ?_
  rintro e w6 hp
  replace hs := hs.step hp
  have hret := hp.ret
  subst hret
  clear hp c0 c1 c2 c3 c4 c5 c6
  obtain ⟨c0, c1, c2, c3, c4, c5, c6⟩ := hs.cells
  go_wp2_with fail
  refine (put_0_5_15 (w.heap.size + 1) _ _ _ hs.var (by omega) (by omega)).mono ?_
  rintro e w6 hp
  replace hs := hs.step hp
  have hret := hp.ret
  subst hret
  clear hp c0 c1 c2 c3 c4 c5 c6
  obtain ⟨c0, c1, c2, c3, c4, c5, c6⟩ := hs.cells
  go_wp2_with fail
  refine (put_0_5_20 (w.heap.size + 1) _ _ _ hs.var (by omega) (by omega)).mono ?_
  rintro e w6 hp
  replace hs := hs.step hp
  have hret := hp.ret
  subst hret
  clear hp c0 c1 c2 c3 c4 c5 c6
  obtain ⟨c0, c1, c2, c3, c4, c5, c6⟩ := hs.cells
  go_wp2_with fail
  refine (put_0_12_20 (w.heap.size + 1) _ _ _ hs.var (by omega) (by omega)).mono ?_
  rintro e w6 hp
  replace hs := hs.step hp
  have hret := hp.ret
  subst hret
  clear hp c0 c1 c2 c3 c4 c5 c6
  obtain ⟨c0, c1, c2, c3, c4, c5, c6⟩ := hs.cells
  go_wp2_with fail
  refine (put_0_5_15 (w.heap.size + 1) _ _ _ hs.var (by omega) (by omega)).mono ?_
  rintro e w6 hp
  replace hs := hs.step hp
  have hret := hp.ret
  subst hret
  clear hp c0 c1 c2 c3 c4 c5 c6
  obtain ⟨c0, c1, c2, c3, c4, c5, c6⟩ := hs.cells
  go_wp2_with fail
  go_ret2
  exact ⟨by rw [HV.out.1, HV.out.2, HW.out]; rfl, hs.bel⟩

/-- encode.Encode, of whatever instruction. -/
theorem encode_any (hR : RightSaid) (x : NI) (w : World) (hE : Env w) (h0 : 0 ≤ x.imm) (h1 : x.imm < 4294967296) :
    Calls Tryd.prog 66 #[.agg (NC x)] w fun e w' => EncPost x w w' e := by
  cases hk : encOk x
  · exact encode_bad hR x w hE h0 h1 hk
  · have hr := formP_range x.op
    have hf : formP x.op = 0 ∨ formP x.op = 1 ∨ formP x.op = 2 ∨ formP x.op = 3 ∨ formP x.op = 4 ∨ formP x.op = 5 ∨ formP x.op = 6 ∨ formP x.op = 7 ∨ formP x.op = 8 ∨ formP x.op = 9 := by omega
    rcases hf with h | h | h | h | h | h | h | h | h | h
    · exact encode_0 hR x w hE h0 h1 hk h
    · exact encode_1 hR x w hE h0 h1 hk h
    · exact encode_2 hR x w hE h0 h1 hk h
    · exact encode_3 hR x w hE h0 h1 hk h
    · exact encode_4 hR x w hE h0 h1 hk h
    · exact encode_5 hR x w hE h0 h1 hk h
    · exact encode_6 hR x w hE h0 h1 hk h
    · exact encode_7 hR x w hE h0 h1 hk h
    · exact encode_8 hR x w hE h0 h1 hk h
    · exact encode_9 hR x w hE h0 h1 hk h

end Go.Proofs.YtceelkmedfoefaaDoor
