/- The reference's Right, whatever the instruction is, its immediate a word. -/
import Derived.Test.YtceelkmedfoefaaDoorA17
import Derived.Test.YtceelkmedfoefaaDoorA19
set_option linter.unusedVariables false
set_option linter.unusedSimpArgs false
/-! The reference's Power, Signed, signed, reg. -/
namespace Go.Proofs.YtceelkmedfoefaaDoor
open Go.RowKit

theorem tmod2 (m : Int) : m.tmod 2 = 0 ↔ m % 2 = 0 := ⟨fun h => Int.emod_eq_zero_of_dvd (Int.dvd_of_tmod_eq_zero h), fun h => Int.tmod_eq_zero_of_dvd (Int.dvd_of_emod_eq_zero h)⟩
theorem pow_le62 {k : Nat} (h : k ≤ 62) : (2 : Int) ^ k ≤ 4611686018427387904 := by
  have : (2 : Nat) ^ k ≤ 2 ^ 62 := Nat.pow_le_pow_right (by omega) h
  have h2 : ((2 : Int) ^ k) = ((2 ^ k : Nat) : Int) := by simp
  rw [h2]; omega
theorem pow_pos2 (k : Nat) : (1 : Int) ≤ (2 : Int) ^ k := by
  have : 0 < (2 : Nat) ^ k := Nat.pow_pos (by omega)
  have h2 : ((2 : Int) ^ k) = ((2 ^ k : Nat) : Int) := by simp
  rw [h2]; omega
set_option maxHeartbeats 400000 in
theorem power_any (n : Nat) (w : World) (hn : n ≤ 62) :
    Calls Tryd.prog 69 #[.int .i64 n] w fun e w' => e = .returned (.int .u64 (2 ^ n)) ∧ w = w' := by
  go_enter Tryd.func69, Tryd.ntmps69
  go_wp2_with fail
  go_loop [3, 4] (fun o i => ∃ (k : Nat) (v : Int), k ≤ n ∧ i = .int .i64 k ∧ o = .int .u64 v ∧ Hd (v = 2 ^ k) ∧ 0 ≤ v ∧ v ≤ 4611686018427387904) (fun _ i => n - (intOf i).toNat)
  case atStart => exact ⟨0, 1, Nat.zero_le _, rfl, rfl, ⟨rfl⟩, by omega, by omega⟩
  case round =>
    obtain ⟨k, v, hk, rfl, rfl, hv, h0, h1⟩ := hrel
    by_cases hlt : k < n
    · have hw : IntKind.u64.wrap (v * 2) = v * 2 := by rw [IntKind.wrap_u64]; omega
      have hp : Hd (v * 2 ≤ 4611686018427387904) := ⟨by
        have := pow_le62 (k := k + 1) (by omega)
        rw [Int.pow_succ, ← hv.out] at this; exact this⟩
      go_wp2_with fail
      exact ⟨⟨k + 1, v * 2, by omega, by simp, rfl, ⟨by rw [Int.pow_succ, ← hv.out]⟩, by omega, hp.out⟩, by simp [intOf]; omega⟩
    · have : k = n := by omega
      subst this
      go_wp2_with fail
      go_ret
      exact ⟨by have hv2 := hv.out; subst hv2; rfl, rfl⟩
set_option maxHeartbeats 400000 in
theorem signed_any (n : Int) (w : World) (h0 : 0 ≤ n) (h1 : n < 4294967296) :
    Calls Tryd.prog 68 #[.int .u32 n] w fun e w' => e = .returned (.int .i64 (sgnW n)) ∧ w = w' := by
  go_enter Tryd.func68, Tryd.ntmps68
  by_cases h : 2147483648 ≤ n
  · have HX : Hd (sgnW n = n - 4294967296) := ⟨by unfold sgnW; rw [if_pos h]⟩
    go_wp2_with fail
    go_ret
    exact ⟨by rw [HX.out]; rfl, rfl⟩
  · have HX : Hd (sgnW n = n) := ⟨by unfold sgnW; rw [if_neg h]⟩
    go_wp2_with fail
    go_ret
    exact ⟨by rw [HX.out]; rfl, rfl⟩
def rregB (n : Int) (b : Bool) : Bool := decide (0 ≤ n ∧ n ≤ 31 ∧ (b = true ∨ n = 0))
set_option maxHeartbeats 400000 in
theorem rreg_any (n : Int) (b : Bool) (w : World) :
    Calls Tryd.prog 40 #[.int .i64 n, .bool b] w fun e w' => e = .returned (.bool (rregB n b)) ∧ w = w' := by
  cases b
  all_goals
    go_enter Tryd.func40, Tryd.ntmps40
    go_wp2_with fail
  all_goals
    go_ret
    refine ⟨ret_bool ?_, rfl⟩
    (try simp only [beq_iff_eq, beq_eq_false_iff_ne, ne_eq] at *)
    unfold rregB
    rw [Bool.eq_iff_iff]; simp; try omega
set_option maxHeartbeats 400000 in
theorem rsigned12 (n : Int) (w : World) (h0 : 0 ≤ n) (h1 : n < 4294967296) :
    Calls Tryd.prog 41 #[.int .u32 n, .int .i64 12, .int .i64 1] w fun e w' => e = .returned (.bool (sB n 2048 1)) ∧ w = w' := by
  obtain ⟨m, hm⟩ : ∃ m, sgnW n = m := ⟨_, rfl⟩
  have HM := Hd.mk hm
  have hr : -2147483648 ≤ m ∧ m < 2147483648 := by rw [← hm]; unfold sgnW; split <;> omega
  obtain ⟨hr1, hr2⟩ := hr
  clear hm
  go_enter Tryd.func41, Tryd.ntmps41
  go_wp2_with (first | (go_at_call 68; refine (signed_any n _ h0 h1).mono ?_; rw [HM.out]; rintro e w' ⟨rfl, rfl⟩) | (go_at_call 69; refine (power_any 11 _ (by omega)).mono ?_; rintro e w' ⟨rfl, rfl⟩))
  all_goals
    go_ret
    refine ⟨ret_bool ?_, rfl⟩
    unfold sB
    rw [HM.out]
    rw [Bool.eq_iff_iff]
    simp
    try rw [tmod2]
    try omega
set_option maxHeartbeats 400000 in
theorem rsigned13 (n : Int) (w : World) (h0 : 0 ≤ n) (h1 : n < 4294967296) :
    Calls Tryd.prog 41 #[.int .u32 n, .int .i64 13, .int .i64 2] w fun e w' => e = .returned (.bool (sB n 4096 2)) ∧ w = w' := by
  obtain ⟨m, hm⟩ : ∃ m, sgnW n = m := ⟨_, rfl⟩
  have HM := Hd.mk hm
  have hr : -2147483648 ≤ m ∧ m < 2147483648 := by rw [← hm]; unfold sgnW; split <;> omega
  obtain ⟨hr1, hr2⟩ := hr
  clear hm
  go_enter Tryd.func41, Tryd.ntmps41
  go_wp2_with (first | (go_at_call 68; refine (signed_any n _ h0 h1).mono ?_; rw [HM.out]; rintro e w' ⟨rfl, rfl⟩) | (go_at_call 69; refine (power_any 12 _ (by omega)).mono ?_; rintro e w' ⟨rfl, rfl⟩))
  all_goals
    go_ret
    refine ⟨ret_bool ?_, rfl⟩
    unfold sB
    rw [HM.out]
    rw [Bool.eq_iff_iff]
    simp
    try rw [tmod2]
    try omega
set_option maxHeartbeats 400000 in
theorem rsigned21 (n : Int) (w : World) (h0 : 0 ≤ n) (h1 : n < 4294967296) :
    Calls Tryd.prog 41 #[.int .u32 n, .int .i64 21, .int .i64 2] w fun e w' => e = .returned (.bool (sB n 1048576 2)) ∧ w = w' := by
  obtain ⟨m, hm⟩ : ∃ m, sgnW n = m := ⟨_, rfl⟩
  have HM := Hd.mk hm
  have hr : -2147483648 ≤ m ∧ m < 2147483648 := by rw [← hm]; unfold sgnW; split <;> omega
  obtain ⟨hr1, hr2⟩ := hr
  clear hm
  go_enter Tryd.func41, Tryd.ntmps41
  go_wp2_with (first | (go_at_call 68; refine (signed_any n _ h0 h1).mono ?_; rw [HM.out]; rintro e w' ⟨rfl, rfl⟩) | (go_at_call 69; refine (power_any 20 _ (by omega)).mono ?_; rintro e w' ⟨rfl, rfl⟩))
  all_goals
    go_ret
    refine ⟨ret_bool ?_, rfl⟩
    unfold sB
    rw [HM.out]
    rw [Bool.eq_iff_iff]
    simp
    try rw [tmod2]
    try omega
end Go.Proofs.YtceelkmedfoefaaDoor

set_option linter.unusedVariables false
set_option linter.unusedSimpArgs false
/-! The reference's Right. -/
namespace Go.Proofs.YtceelkmedfoefaaDoor
open Go.RowKit

theorem val_bool {a b : Bool} (h : a = b) : Value.bool a = .bool b := by rw [h]
def n1B (f : Int) : Bool := decide (f ≠ 0 ∧ f ≠ 4 ∧ f ≠ 5)
def n2B (f : Int) : Bool := decide (3 ≤ f ∧ f ≤ 8)
def n3B (f : Int) : Bool := decide (4 ≤ f ∧ f ≤ 6)
def halfOf (wd : Int) : Int := if wd = 12 then 2048 else if wd = 13 then 4096 else 1048576
theorem rsigned_any (n wd unit : Int) (w : World) (h0 : 0 ≤ n) (h1 : n < 4294967296) (h : (wd = 12 ∧ unit = 1) ∨ (wd = 13 ∧ unit = 2) ∨ (wd = 21 ∧ unit = 2)) :
    Calls Tryd.prog 41 #[.int .u32 n, .int .i64 wd, .int .i64 unit] w fun e w' => e = .returned (.bool (sB n (halfOf wd) unit)) ∧ w = w' := by
  rcases h with ⟨rfl, rfl⟩ | ⟨rfl, rfl⟩ | ⟨rfl, rfl⟩
  · exact rsigned12 n w h0 h1
  · exact rsigned13 n w h0 h1
  · exact rsigned21 n w h0 h1
def csrB (n f : Int) : Bool := decide (0 ≤ n ∧ n ≤ 4095 ∧ (8 ≤ f ∨ n = 0))
def immR (n f : Int) : Bool :=
  if f = 1 then decide (n % 4096 = 0) else if f = 2 then sB n 1048576 2 else if f = 4 then sB n 4096 2 else if f = 3 ∨ f = 5 then sB n 2048 1
  else if f = 7 ∨ f = 9 then decide (n < 32) else decide (n = 0)
theorem right_split (x : NI) : rightB x = (decide (0 ≤ x.op ∧ x.op < 58) && (rregB x.rd (n1B (formP x.op)) && rregB x.rs1 (n2B (formP x.op)) && rregB x.rs2 (n3B (formP x.op))) && csrB x.csr (formP x.op) && immR x.imm (formP x.op)) := by
  obtain ⟨op, rd, rs1, rs2, imm, csr⟩ := x
  obtain ⟨f, hf⟩ : ∃ f, formP op = f := ⟨_, rfl⟩
  have hr : f = 0 ∨ f = 1 ∨ f = 2 ∨ f = 3 ∨ f = 4 ∨ f = 5 ∨ f = 6 ∨ f = 7 ∨ f = 8 ∨ f = 9 := by
    have := formP_range op; omega
  unfold rightB
  simp only [hf]
  rcases hr with rfl | rfl | rfl | rfl | rfl | rfl | rfl | rfl | rfl | rfl <;>
  · rw [Bool.eq_iff_iff]
    simp [onlyX, rregB, regB, n1B, n2B, n3B, csrB, immR, immB]
    try omega
    try (constructor <;> (intro h; simp_all; try omega))

set_option maxRecDepth 100000 in
set_option maxHeartbeats 16000000 in
theorem rright_any (x : NI) (w : World) (hi0 : 0 ≤ x.imm) (hi1 : x.imm < 4294967296) :
    Calls Tryd.prog 17 #[.agg (NC x)] w fun e w' => e = .returned (.bool (rightB x)) ∧ Below w.heap.size w w' := by
  have hx : Blk (w.alloc (.cells (NC x) 36)) w.heap.size (NC x) 36 := blk_new _ _ _
  have hb : Below w.heap.size w (w.alloc (.cells (NC x) 36)) := (Below.refl _ _).alloc (Nat.le_refl _) _
  have HS := Hd.mk (right_split x)
  have k0 := hx.cell 0 (v := .int .i64 x.op) rfl
  have k1 := hx.cell 1 (v := .int .i64 x.rd) rfl
  have k2 := hx.cell 2 (v := .int .i64 x.rs1) rfl
  have k3 := hx.cell 3 (v := .int .i64 x.rs2) rfl
  have k4 := hx.cell 4 (v := .int .u32 x.imm) rfl
  have k5 := hx.cell 5 (v := .int .i64 x.csr) rfl
  by_cases hop : 0 ≤ x.op ∧ x.op < 58
  · obtain ⟨f, hf⟩ : ∃ f, formP x.op = f := ⟨_, rfl⟩
    have HF := Hd.mk hf
    have hr : f = 0 ∨ f = 1 ∨ f = 2 ∨ f = 3 ∨ f = 4 ∨ f = 5 ∨ f = 6 ∨ f = 7 ∨ f = 8 ∨ f = 9 := by
      have := formP_range x.op; omega
    have HR := Hd.mk hr
    have HS2 : Hd (rightB x = ((rregB x.rd (n1B f) && rregB x.rs1 (n2B f) && rregB x.rs2 (n3B f)) && csrB x.csr f && immR x.imm f)) := ⟨by
      rw [HS.out, HF.out, decide_eq_true hop]; simp⟩
    obtain ⟨q1, hq1⟩ : ∃ q, rregB x.rd (n1B f) = q := ⟨_, rfl⟩
    obtain ⟨q2, hq2⟩ : ∃ q, rregB x.rs1 (n2B f) = q := ⟨_, rfl⟩
    obtain ⟨q3, hq3⟩ : ∃ q, rregB x.rs2 (n3B f) = q := ⟨_, rfl⟩
    rw [hq1, hq2, hq3] at HS2
    have HQ1 := Hd.mk hq1
    have HQ2 := Hd.mk hq2
    have HQ3 := Hd.mk hq3
    obtain ⟨hop1, hop2⟩ := hop
    clear hf hr HS hq1 hq2 hq3
    go_enter Tryd.func17, Tryd.ntmps17
    go_upto_region 1 with fail
    generalize w.alloc _ = w1 at k0 k1 k2 k3 k4 k5 hb hx ⊢
    clear hx
    go_upto_region 4 with (go_at_call 39; refine (rform_any _ _).mono ?_; rw [HF.out]; rintro e w' ⟨rfl, rfl⟩)
    go_cut [52] (fun u w' => w1 = w' ∧ u = .bool (!(q1 && q2 && q3)))
    case first =>
      rcases HR.out with rfl | rfl | rfl | rfl | rfl | rfl | rfl | rfl | rfl | rfl
      all_goals
        cases q1
        · go_wp2_with (go_at_call 40; refine (rreg_any _ _ _).mono ?_; (first | rw [show rregB x.rd true = _ from HQ1.out] | rw [show rregB x.rd false = _ from HQ1.out]); rintro e w' ⟨rfl, rfl⟩)
          go_meet
          exact ⟨rfl, rfl⟩
        cases q2
        · go_wp2_with (go_at_call 40; refine (rreg_any _ _ _).mono ?_; (first | rw [show rregB x.rd true = _ from HQ1.out] | rw [show rregB x.rd false = _ from HQ1.out] | rw [show rregB x.rs1 true = _ from HQ2.out] | rw [show rregB x.rs1 false = _ from HQ2.out]); rintro e w' ⟨rfl, rfl⟩)
          go_meet
          exact ⟨rfl, rfl⟩
        go_wp2_with (go_at_call 40; refine (rreg_any _ _ _).mono ?_; (first | rw [show rregB x.rd true = _ from HQ1.out] | rw [show rregB x.rd false = _ from HQ1.out] | rw [show rregB x.rs1 true = _ from HQ2.out] | rw [show rregB x.rs1 false = _ from HQ2.out] | rw [show rregB x.rs2 true = _ from HQ3.out] | rw [show rregB x.rs2 false = _ from HQ3.out]); rintro e w' ⟨rfl, rfl⟩)
        go_meet
        exact ⟨rfl, rfl⟩
    case rest =>
      obtain ⟨rfl, rfl⟩ := hcut
      obtain ⟨q, hq⟩ : ∃ q, (q1 && q2 && q3) = q := ⟨_, rfl⟩
      rw [hq] at HS2 ⊢
      clear hq
      cases q
      · have HX : Hd (rightB x = false) := ⟨by rw [HS2.out]; rfl⟩
        go_wp2_with fail
        go_ret
        exact ⟨ret_bool HX.out.symm, hb⟩
      go_upto_region 6 with fail
      go_cut [69] (fun u w' => w1 = w' ∧ u = .bool (!(csrB x.csr f)))
      case first =>
        go_wp2_with fail
        all_goals
          go_meet
          refine ⟨rfl, val_bool ?_⟩
          (try simp only [beq_iff_eq, beq_eq_false_iff_ne, ne_eq] at *)
          unfold csrB
          rw [Bool.eq_iff_iff]
          simp
          try omega
      case rest =>
        obtain ⟨rfl, rfl⟩ := hcut
        obtain ⟨q, hq⟩ : ∃ q, csrB x.csr f = q := ⟨_, rfl⟩
        rw [hq] at HS2 ⊢
        clear hq
        cases q
        · have HX : Hd (rightB x = false) := ⟨by rw [HS2.out]; rfl⟩
          go_wp2_with fail
          go_ret
          exact ⟨ret_bool HX.out.symm, hb⟩
        have HX : Hd (rightB x = immR x.imm f) := ⟨by rw [HS2.out]; rfl⟩
        clear HS2
        rcases HR.out with rfl | rfl | rfl | rfl | rfl | rfl | rfl | rfl | rfl | rfl
        all_goals
          go_wp2_with (go_at_call 41; refine (rsigned_any x.imm _ _ _ hi0 hi1 (by decide)).mono ?_; rintro e w' ⟨rfl, rfl⟩)
        all_goals
          go_ret
          refine ⟨ret_bool ?_, hb⟩
          rw [HX.out]
          unfold immR
          first | rfl | (rw [Bool.eq_iff_iff]; simp; done) | (rw [Bool.eq_iff_iff]; simp; omega)
  · have HX : Hd (rightB x = false) := ⟨by rw [HS.out, decide_eq_false hop]; simp⟩
    have ho : x.op < 0 ∨ 58 ≤ x.op := by omega
    clear hop
    go_enter Tryd.func17, Tryd.ntmps17
    rcases ho with ho | ho
    all_goals
      go_wp2_with fail
      go_ret
      exact ⟨ret_bool HX.out.symm, hb⟩
end Go.Proofs.YtceelkmedfoefaaDoor

