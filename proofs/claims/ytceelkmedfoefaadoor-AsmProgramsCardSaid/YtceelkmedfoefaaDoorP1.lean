/- The reference's Right, Bits, Put, Patterns and Encode, whatever the instruction is, its immediate a word. -/
import Derived.Test.YtceelkmedfoefaaDoorA17
import Derived.Test.YtceelkmedfoefaaDoorA19
import Derived.Test.YtceelkmedfoefaaDoorA23
import Derived.Laws.BitsAllLaws
import Derived.Deep.RegionHeld3
import Derived.Test.YtceelkmedfoefaaDoorL10
set_option linter.unusedVariables false
set_option linter.unusedSimpArgs false
/-! The reference's Power, Signed, signed, reg. -/
namespace Go.Proofs.YtceelkmedfoefaaDoor
open Go.RowKit

theorem tmod2 (m : Int) : m.tmod 2 = 0 ↔ m % 2 = 0 := ⟨fun h => Int.emod_eq_zero_of_dvd (Int.dvd_of_tmod_eq_zero h), fun h => Int.tmod_eq_zero_of_dvd (Int.dvd_of_emod_eq_zero h)⟩
theorem pow_le62 {k : Nat} (h : k ≤ 62) : (2 : Int) ^ k ≤ 4611686018427387904 := by
  have : (2 : Nat) ^ k ≤ 2 ^ 62 := Nat.pow_le_pow_right (by omega) h
  have h2 : ((2 : Int) ^ k) = ((2 ^ k : Nat) : Int) := by simp
  rw [h2]; omega
theorem pow_pos2 (k : Nat) : (1 : Int) ≤ (2 : Int) ^ k := by
  have : 0 < (2 : Nat) ^ k := Nat.pow_pos (by omega)
  have h2 : ((2 : Int) ^ k) = ((2 ^ k : Nat) : Int) := by simp
  rw [h2]; omega
set_option maxHeartbeats 400000 in
theorem power_any (n : Nat) (w : World) (hn : n ≤ 62) :
    Calls Tryd.prog 69 #[.int .i64 n] w fun e w' => e = .returned (.int .u64 (2 ^ n)) ∧ w = w' := by
  go_enter Tryd.func69, Tryd.ntmps69
  go_wp2_with fail
  go_loop [3, 4] (fun o i => ∃ (k : Nat) (v : Int), k ≤ n ∧ i = .int .i64 k ∧ o = .int .u64 v ∧ Hd (v = 2 ^ k) ∧ 0 ≤ v ∧ v ≤ 4611686018427387904) (fun _ i => n - (intOf i).toNat)
  case atStart => exact ⟨0, 1, Nat.zero_le _, rfl, rfl, ⟨rfl⟩, by omega, by omega⟩
  case round =>
    obtain ⟨k, v, hk, rfl, rfl, hv, h0, h1⟩ := hrel
    by_cases hlt : k < n
    · have hw : IntKind.u64.wrap (v * 2) = v * 2 := by rw [IntKind.wrap_u64]; omega
      have hp : Hd (v * 2 ≤ 4611686018427387904) := ⟨by
        have := pow_le62 (k := k + 1) (by omega)
        rw [Int.pow_succ, ← hv.out] at this; exact this⟩
      go_wp2_with fail
      exact ⟨⟨k + 1, v * 2, by omega, by simp, rfl, ⟨by rw [Int.pow_succ, ← hv.out]⟩, by omega, hp.out⟩, by simp [intOf]; omega⟩
    · have : k = n := by omega
      subst this
      go_wp2_with fail
      go_ret
      exact ⟨by have hv2 := hv.out; subst hv2; rfl, rfl⟩
set_option maxHeartbeats 400000 in
theorem signed_any (n : Int) (w : World) (h0 : 0 ≤ n) (h1 : n < 4294967296) :
    Calls Tryd.prog 68 #[.int .u32 n] w fun e w' => e = .returned (.int .i64 (sgnW n)) ∧ w = w' := by
  go_enter Tryd.func68, Tryd.ntmps68
  by_cases h : 2147483648 ≤ n
  · have HX : Hd (sgnW n = n - 4294967296) := ⟨by unfold sgnW; rw [if_pos h]⟩
    go_wp2_with fail
    go_ret
    exact ⟨by rw [HX.out]; rfl, rfl⟩
  · have HX : Hd (sgnW n = n) := ⟨by unfold sgnW; rw [if_neg h]⟩
    go_wp2_with fail
    go_ret
    exact ⟨by rw [HX.out]; rfl, rfl⟩
def rregB (n : Int) (b : Bool) : Bool := decide (0 ≤ n ∧ n ≤ 31 ∧ (b = true ∨ n = 0))
set_option maxHeartbeats 400000 in
theorem rreg_any (n : Int) (b : Bool) (w : World) :
    Calls Tryd.prog 40 #[.int .i64 n, .bool b] w fun e w' => e = .returned (.bool (rregB n b)) ∧ w = w' := by
  cases b
  all_goals
    go_enter Tryd.func40, Tryd.ntmps40
    go_wp2_with fail
  all_goals
    go_ret
    refine ⟨ret_bool ?_, rfl⟩
    (try simp only [beq_iff_eq, beq_eq_false_iff_ne, ne_eq] at *)
    unfold rregB
    rw [Bool.eq_iff_iff]; simp; try omega
set_option maxHeartbeats 400000 in
theorem rsigned12 (n : Int) (w : World) (h0 : 0 ≤ n) (h1 : n < 4294967296) :
    Calls Tryd.prog 41 #[.int .u32 n, .int .i64 12, .int .i64 1] w fun e w' => e = .returned (.bool (sB n 2048 1)) ∧ w = w' := by
  obtain ⟨m, hm⟩ : ∃ m, sgnW n = m := ⟨_, rfl⟩
  have HM := Hd.mk hm
  have hr : -2147483648 ≤ m ∧ m < 2147483648 := by rw [← hm]; unfold sgnW; split <;> omega
  obtain ⟨hr1, hr2⟩ := hr
  clear hm
  go_enter Tryd.func41, Tryd.ntmps41
  go_wp2_with (first | (go_at_call 68; refine (signed_any n _ h0 h1).mono ?_; rw [HM.out]; rintro e w' ⟨rfl, rfl⟩) | (go_at_call 69; refine (power_any 11 _ (by omega)).mono ?_; rintro e w' ⟨rfl, rfl⟩))
  all_goals
    go_ret
    refine ⟨ret_bool ?_, rfl⟩
    unfold sB
    rw [HM.out]
    rw [Bool.eq_iff_iff]
    simp
    try rw [tmod2]
    try omega
set_option maxHeartbeats 400000 in
theorem rsigned13 (n : Int) (w : World) (h0 : 0 ≤ n) (h1 : n < 4294967296) :
    Calls Tryd.prog 41 #[.int .u32 n, .int .i64 13, .int .i64 2] w fun e w' => e = .returned (.bool (sB n 4096 2)) ∧ w = w' := by
  obtain ⟨m, hm⟩ : ∃ m, sgnW n = m := ⟨_, rfl⟩
  have HM := Hd.mk hm
  have hr : -2147483648 ≤ m ∧ m < 2147483648 := by rw [← hm]; unfold sgnW; split <;> omega
  obtain ⟨hr1, hr2⟩ := hr
  clear hm
  go_enter Tryd.func41, Tryd.ntmps41
  go_wp2_with (first | (go_at_call 68; refine (signed_any n _ h0 h1).mono ?_; rw [HM.out]; rintro e w' ⟨rfl, rfl⟩) | (go_at_call 69; refine (power_any 12 _ (by omega)).mono ?_; rintro e w' ⟨rfl, rfl⟩))
  all_goals
    go_ret
    refine ⟨ret_bool ?_, rfl⟩
    unfold sB
    rw [HM.out]
    rw [Bool.eq_iff_iff]
    simp
    try rw [tmod2]
    try omega
set_option maxHeartbeats 400000 in
theorem rsigned21 (n : Int) (w : World) (h0 : 0 ≤ n) (h1 : n < 4294967296) :
    Calls Tryd.prog 41 #[.int .u32 n, .int .i64 21, .int .i64 2] w fun e w' => e = .returned (.bool (sB n 1048576 2)) ∧ w = w' := by
  obtain ⟨m, hm⟩ : ∃ m, sgnW n = m := ⟨_, rfl⟩
  have HM := Hd.mk hm
  have hr : -2147483648 ≤ m ∧ m < 2147483648 := by rw [← hm]; unfold sgnW; split <;> omega
  obtain ⟨hr1, hr2⟩ := hr
  clear hm
  go_enter Tryd.func41, Tryd.ntmps41
  go_wp2_with (first | (go_at_call 68; refine (signed_any n _ h0 h1).mono ?_; rw [HM.out]; rintro e w' ⟨rfl, rfl⟩) | (go_at_call 69; refine (power_any 20 _ (by omega)).mono ?_; rintro e w' ⟨rfl, rfl⟩))
  all_goals
    go_ret
    refine ⟨ret_bool ?_, rfl⟩
    unfold sB
    rw [HM.out]
    rw [Bool.eq_iff_iff]
    simp
    try rw [tmod2]
    try omega
end Go.Proofs.YtceelkmedfoefaaDoor

set_option linter.unusedVariables false
set_option linter.unusedSimpArgs false
/-! The reference's Right. -/
namespace Go.Proofs.YtceelkmedfoefaaDoor
open Go.RowKit

theorem val_bool {a b : Bool} (h : a = b) : Value.bool a = .bool b := by rw [h]
def n1B (f : Int) : Bool := decide (f ≠ 0 ∧ f ≠ 4 ∧ f ≠ 5)
def n2B (f : Int) : Bool := decide (3 ≤ f ∧ f ≤ 8)
def n3B (f : Int) : Bool := decide (4 ≤ f ∧ f ≤ 6)
def halfOf (wd : Int) : Int := if wd = 12 then 2048 else if wd = 13 then 4096 else 1048576
theorem rsigned_any (n wd unit : Int) (w : World) (h0 : 0 ≤ n) (h1 : n < 4294967296) (h : (wd = 12 ∧ unit = 1) ∨ (wd = 13 ∧ unit = 2) ∨ (wd = 21 ∧ unit = 2)) :
    Calls Tryd.prog 41 #[.int .u32 n, .int .i64 wd, .int .i64 unit] w fun e w' => e = .returned (.bool (sB n (halfOf wd) unit)) ∧ w = w' := by
  rcases h with ⟨rfl, rfl⟩ | ⟨rfl, rfl⟩ | ⟨rfl, rfl⟩
  · exact rsigned12 n w h0 h1
  · exact rsigned13 n w h0 h1
  · exact rsigned21 n w h0 h1
def csrB (n f : Int) : Bool := decide (0 ≤ n ∧ n ≤ 4095 ∧ (8 ≤ f ∨ n = 0))
def immR (n f : Int) : Bool :=
  if f = 1 then decide (n % 4096 = 0) else if f = 2 then sB n 1048576 2 else if f = 4 then sB n 4096 2 else if f = 3 ∨ f = 5 then sB n 2048 1
  else if f = 7 ∨ f = 9 then decide (n < 32) else decide (n = 0)
theorem right_split (x : NI) : rightB x = (decide (0 ≤ x.op ∧ x.op < 58) && (rregB x.rd (n1B (formP x.op)) && rregB x.rs1 (n2B (formP x.op)) && rregB x.rs2 (n3B (formP x.op))) && csrB x.csr (formP x.op) && immR x.imm (formP x.op)) := by
  obtain ⟨op, rd, rs1, rs2, imm, csr⟩ := x
  obtain ⟨f, hf⟩ : ∃ f, formP op = f := ⟨_, rfl⟩
  have hr : f = 0 ∨ f = 1 ∨ f = 2 ∨ f = 3 ∨ f = 4 ∨ f = 5 ∨ f = 6 ∨ f = 7 ∨ f = 8 ∨ f = 9 := by
    have := formP_range op; omega
  unfold rightB
  simp only [hf]
  rcases hr with rfl | rfl | rfl | rfl | rfl | rfl | rfl | rfl | rfl | rfl <;>
  · rw [Bool.eq_iff_iff]
    simp [onlyX, rregB, regB, n1B, n2B, n3B, csrB, immR, immB]
    try omega
    try (constructor <;> (intro h; simp_all; try omega))

set_option maxRecDepth 100000 in
set_option maxHeartbeats 16000000 in
theorem rright_any (x : NI) (w : World) (hi0 : 0 ≤ x.imm) (hi1 : x.imm < 4294967296) :
    Calls Tryd.prog 17 #[.agg (NC x)] w fun e w' => e = .returned (.bool (rightB x)) ∧ Below w.heap.size w w' := by
  have hx : Blk (w.alloc (.cells (NC x) 36)) w.heap.size (NC x) 36 := blk_new _ _ _
  have hb : Below w.heap.size w (w.alloc (.cells (NC x) 36)) := (Below.refl _ _).alloc (Nat.le_refl _) _
  have HS := Hd.mk (right_split x)
  have k0 := hx.cell 0 (v := .int .i64 x.op) rfl
  have k1 := hx.cell 1 (v := .int .i64 x.rd) rfl
  have k2 := hx.cell 2 (v := .int .i64 x.rs1) rfl
  have k3 := hx.cell 3 (v := .int .i64 x.rs2) rfl
  have k4 := hx.cell 4 (v := .int .u32 x.imm) rfl
  have k5 := hx.cell 5 (v := .int .i64 x.csr) rfl
  by_cases hop : 0 ≤ x.op ∧ x.op < 58
  · obtain ⟨f, hf⟩ : ∃ f, formP x.op = f := ⟨_, rfl⟩
    have HF := Hd.mk hf
    have hr : f = 0 ∨ f = 1 ∨ f = 2 ∨ f = 3 ∨ f = 4 ∨ f = 5 ∨ f = 6 ∨ f = 7 ∨ f = 8 ∨ f = 9 := by
      have := formP_range x.op; omega
    have HR := Hd.mk hr
    have HS2 : Hd (rightB x = ((rregB x.rd (n1B f) && rregB x.rs1 (n2B f) && rregB x.rs2 (n3B f)) && csrB x.csr f && immR x.imm f)) := ⟨by
      rw [HS.out, HF.out, decide_eq_true hop]; simp⟩
    obtain ⟨q1, hq1⟩ : ∃ q, rregB x.rd (n1B f) = q := ⟨_, rfl⟩
    obtain ⟨q2, hq2⟩ : ∃ q, rregB x.rs1 (n2B f) = q := ⟨_, rfl⟩
    obtain ⟨q3, hq3⟩ : ∃ q, rregB x.rs2 (n3B f) = q := ⟨_, rfl⟩
    rw [hq1, hq2, hq3] at HS2
    have HQ1 := Hd.mk hq1
    have HQ2 := Hd.mk hq2
    have HQ3 := Hd.mk hq3
    obtain ⟨hop1, hop2⟩ := hop
    clear hf hr HS hq1 hq2 hq3
    go_enter Tryd.func17, Tryd.ntmps17
    go_upto_region 1 with fail
    generalize w.alloc _ = w1 at k0 k1 k2 k3 k4 k5 hb hx ⊢
    clear hx
    go_upto_region 4 with (go_at_call 39; refine (rform_any _ _).mono ?_; rw [HF.out]; rintro e w' ⟨rfl, rfl⟩)
    go_cut [52] (fun u w' => w1 = w' ∧ u = .bool (!(q1 && q2 && q3)))
    case first =>
      rcases HR.out with rfl | rfl | rfl | rfl | rfl | rfl | rfl | rfl | rfl | rfl
      all_goals
        cases q1
        · go_wp2_with (go_at_call 40; refine (rreg_any _ _ _).mono ?_; (first | rw [show rregB x.rd true = _ from HQ1.out] | rw [show rregB x.rd false = _ from HQ1.out]); rintro e w' ⟨rfl, rfl⟩)
          go_meet
          exact ⟨rfl, rfl⟩
        cases q2
        · go_wp2_with (go_at_call 40; refine (rreg_any _ _ _).mono ?_; (first | rw [show rregB x.rd true = _ from HQ1.out] | rw [show rregB x.rd false = _ from HQ1.out] | rw [show rregB x.rs1 true = _ from HQ2.out] | rw [show rregB x.rs1 false = _ from HQ2.out]); rintro e w' ⟨rfl, rfl⟩)
          go_meet
          exact ⟨rfl, rfl⟩
        go_wp2_with (go_at_call 40; refine (rreg_any _ _ _).mono ?_; (first | rw [show rregB x.rd true = _ from HQ1.out] | rw [show rregB x.rd false = _ from HQ1.out] | rw [show rregB x.rs1 true = _ from HQ2.out] | rw [show rregB x.rs1 false = _ from HQ2.out] | rw [show rregB x.rs2 true = _ from HQ3.out] | rw [show rregB x.rs2 false = _ from HQ3.out]); rintro e w' ⟨rfl, rfl⟩)
        go_meet
        exact ⟨rfl, rfl⟩
    case rest =>
      obtain ⟨rfl, rfl⟩ := hcut
      obtain ⟨q, hq⟩ : ∃ q, (q1 && q2 && q3) = q := ⟨_, rfl⟩
      rw [hq] at HS2 ⊢
      clear hq
      cases q
      · have HX : Hd (rightB x = false) := ⟨by rw [HS2.out]; rfl⟩
        go_wp2_with fail
        go_ret
        exact ⟨ret_bool HX.out.symm, hb⟩
      go_upto_region 6 with fail
      go_cut [69] (fun u w' => w1 = w' ∧ u = .bool (!(csrB x.csr f)))
      case first =>
        go_wp2_with fail
        all_goals
          go_meet
          refine ⟨rfl, val_bool ?_⟩
          (try simp only [beq_iff_eq, beq_eq_false_iff_ne, ne_eq] at *)
          unfold csrB
          rw [Bool.eq_iff_iff]
          simp
          try omega
      case rest =>
        obtain ⟨rfl, rfl⟩ := hcut
        obtain ⟨q, hq⟩ : ∃ q, csrB x.csr f = q := ⟨_, rfl⟩
        rw [hq] at HS2 ⊢
        clear hq
        cases q
        · have HX : Hd (rightB x = false) := ⟨by rw [HS2.out]; rfl⟩
          go_wp2_with fail
          go_ret
          exact ⟨ret_bool HX.out.symm, hb⟩
        have HX : Hd (rightB x = immR x.imm f) := ⟨by rw [HS2.out]; rfl⟩
        clear HS2
        rcases HR.out with rfl | rfl | rfl | rfl | rfl | rfl | rfl | rfl | rfl | rfl
        all_goals
          go_wp2_with (go_at_call 41; refine (rsigned_any x.imm _ _ _ hi0 hi1 (by decide)).mono ?_; rintro e w' ⟨rfl, rfl⟩)
        all_goals
          go_ret
          refine ⟨ret_bool ?_, hb⟩
          rw [HX.out]
          unfold immR
          first | rfl | (rw [Bool.eq_iff_iff]; simp; done) | (rw [Bool.eq_iff_iff]; simp; omega)
  · have HX : Hd (rightB x = false) := ⟨by rw [HS.out, decide_eq_false hop]; simp⟩
    have ho : x.op < 0 ∨ 58 ≤ x.op := by omega
    clear hop
    go_enter Tryd.func17, Tryd.ntmps17
    rcases ho with ho | ho
    all_goals
      go_wp2_with fail
      go_ret
      exact ⟨ret_bool HX.out.symm, hb⟩
end Go.Proofs.YtceelkmedfoefaaDoor

/-! Bits that are put into a word where there are none: or is a sum. -/
set_option linter.unusedVariables false
set_option linter.unusedSimpArgs false
namespace Go.Proofs.YtceelkmedfoefaaDoor
open Go.RowKit

theorem nat_or_add (v y a k : Nat) (hy : y < 2 ^ k) (hz : v / 2 ^ a % 2 ^ k = 0) : v ||| (y * 2 ^ a) = v + y * 2 ^ a := by
  have ha : 0 < 2 ^ a := Nat.pow_pos (by omega)
  have h1 : v = 2 ^ (a + k) * (v / 2 ^ (a + k)) + v % 2 ^ a := by
    have e1 := Nat.div_add_mod v (2 ^ a)
    have e2 := Nat.div_add_mod (v / 2 ^ a) (2 ^ k)
    rw [hz, Nat.add_zero, Nat.div_div_eq_div_mul, ← Nat.pow_add] at e2
    rw [Nat.pow_add, Nat.mul_assoc, ← Nat.pow_add, e2]
    exact e1.symm
  have hlo : v % 2 ^ a < 2 ^ a := Nat.mod_lt _ ha
  have h2 : 2 ^ a * y + v % 2 ^ a < 2 ^ (a + k) := by
    have : 2 ^ a * y + v % 2 ^ a < 2 ^ a * (y + 1) := by rw [Nat.mul_succ]; omega
    have h3 : 2 ^ a * (y + 1) ≤ 2 ^ a * 2 ^ k := Nat.mul_le_mul_left _ hy
    rw [Nat.pow_add]; omega
  have hle : 2 ^ a ≤ 2 ^ (a + k) := Nat.pow_le_pow_right (by omega) (by omega)
  have e1 := Nat.two_pow_add_eq_or_of_lt (b := v % 2 ^ a) (i := a + k) (by omega) (v / 2 ^ (a + k))
  have e2 := Nat.two_pow_add_eq_or_of_lt h2 (v / 2 ^ (a + k))
  have e3 := Nat.two_pow_add_eq_or_of_lt hlo y
  rw [Nat.mul_comm y]
  generalize v / 2 ^ (a + k) = hi at h1 e1 e2
  generalize v % 2 ^ a = lo at h1 e1 e2 e3 h2 hlo
  calc v ||| 2 ^ a * y = (2 ^ (a + k) * hi ||| lo) ||| 2 ^ a * y := by rw [← e1, ← h1]
    _ = 2 ^ (a + k) * hi ||| (2 ^ a * y ||| lo) := by rw [Nat.or_assoc, Nat.or_comm lo]
    _ = 2 ^ (a + k) * hi + (2 ^ a * y + lo) := by rw [← e3, ← e2]
    _ = v + 2 ^ a * y := by omega
/-- No bit of a word stands in k places from a on. -/
def FZ (v : Int) (a k : Nat) : Prop := 0 ≤ v ∧ v < 4294967296 ∧ v.toNat / 2 ^ a % 2 ^ k = 0
theorem orW_nat {v g : Nat} (h1 : v < 4294967296) (h2 : g < 4294967296) : orW (v : Int) (g : Int) = ((v ||| g : Nat) : Int) := by
  unfold orW
  rw [u32_or _ _ (by omega) (by omega) (by omega) (by omega)]
  simp
theorem orW_range {v g : Int} (h1 : 0 ≤ v ∧ v < 4294967296) (h2 : 0 ≤ g ∧ g < 4294967296) : 0 ≤ orW v g ∧ orW v g < 4294967296 := by
  obtain ⟨n, rfl⟩ := Int.eq_ofNat_of_zero_le h1.1
  obtain ⟨m, rfl⟩ := Int.eq_ofNat_of_zero_le h2.1
  rw [orW_nat (by omega) (by omega)]
  have := Nat.or_lt_two_pow (x := n) (y := m) (n := 32) (by omega) (by omega)
  omega
theorem orW_zero {v : Int} (h1 : 0 ≤ v ∧ v < 4294967296) : orW v 0 = v := by
  obtain ⟨n, rfl⟩ := Int.eq_ofNat_of_zero_le h1.1
  have := orW_nat (v := n) (g := 0) (by omega) (by omega)
  simpa using this
theorem FZ.orW {v g : Int} {a k : Nat} (h1 : FZ v a k) (h2 : FZ g a k) : FZ (orW v g) a k := by
  obtain ⟨a1, a2, a3⟩ := h1
  obtain ⟨b1, b2, b3⟩ := h2
  have hr := orW_range ⟨a1, a2⟩ ⟨b1, b2⟩
  refine ⟨hr.1, hr.2, ?_⟩
  obtain ⟨n, rfl⟩ := Int.eq_ofNat_of_zero_le a1
  obtain ⟨m, rfl⟩ := Int.eq_ofNat_of_zero_le b1
  rw [orW_nat (by omega) (by omega)]
  simp only [Int.toNat_natCast] at a3 b3 ⊢
  rw [← Nat.shiftRight_eq_div_pow, Nat.shiftRight_or_distrib, Nat.or_mod_two_pow, Nat.shiftRight_eq_div_pow, Nat.shiftRight_eq_div_pow, a3, b3]
  rfl
/-- What the reference's Put makes. -/
def putV (v x a k : Int) : Int := v - v / a % k * a + x % k * a
theorem put_or {v x : Int} {a k : Nat} (h : FZ v a k) (hx : 0 ≤ x) (hak : a + k ≤ 32) : putV v x ((2 ^ a : Nat) : Int) ((2 ^ k : Nat) : Int) = orW v (x % ((2 ^ k : Nat) : Int) * ((2 ^ a : Nat) : Int)) ∧ 0 ≤ x % ((2 ^ k : Nat) : Int) * ((2 ^ a : Nat) : Int) ∧ x % ((2 ^ k : Nat) : Int) * ((2 ^ a : Nat) : Int) < 4294967296 := by
  obtain ⟨a1, a2, a3⟩ := h
  obtain ⟨n, rfl⟩ := Int.eq_ofNat_of_zero_le a1
  obtain ⟨y, rfl⟩ := Int.eq_ofNat_of_zero_le hx
  have hk : 0 < 2 ^ k := Nat.pow_pos (by omega)
  have hy : y % 2 ^ k < 2 ^ k := Nat.mod_lt _ hk
  have hg : y % 2 ^ k * 2 ^ a < 4294967296 := by
    have e1 : y % 2 ^ k * 2 ^ a < 2 ^ k * 2 ^ a := Nat.mul_lt_mul_of_pos_right hy (Nat.pow_pos (by omega))
    have e2 : 2 ^ k * 2 ^ a ≤ 2 ^ 32 := by rw [← Nat.pow_add]; exact Nat.pow_le_pow_right (by omega) (by omega)
    omega
  have hgc : ((y : Int) % ((2 ^ k : Nat) : Int) * ((2 ^ a : Nat) : Int)) = ((y % 2 ^ k * 2 ^ a : Nat) : Int) := by simp
  simp only [Int.toNat_natCast] at a3
  have hz : ((n : Int) / ((2 ^ a : Nat) : Int) % ((2 ^ k : Nat) : Int)) = 0 := by
    have : ((n : Int) / ((2 ^ a : Nat) : Int) % ((2 ^ k : Nat) : Int)) = ((n / 2 ^ a % 2 ^ k : Nat) : Int) := by simp
    rw [this, a3]; rfl
  unfold putV
  rw [hz, hgc, orW_nat (by omega) hg, nat_or_add n _ a k hy a3]
  refine ⟨by simp, by omega, by omega⟩
end Go.Proofs.YtceelkmedfoefaaDoor

set_option linter.unusedVariables false
set_option linter.unusedSimpArgs false
/-! The reference's Bits and Put. -/
namespace Go.Proofs.YtceelkmedfoefaaDoor
open Go.RowKit

theorem p2 (n : Nat) : ((2 : Int) ^ n) = ((2 ^ n : Nat) : Int) := by simp
theorem p2_range {n : Nat} (h : n ≤ 32) : (1 : Int) ≤ ((2 ^ n : Nat) : Int) ∧ ((2 ^ n : Nat) : Int) ≤ 4294967296 := by
  have h1 : 2 ^ n ≤ 2 ^ 32 := Nat.pow_le_pow_right (by omega) h
  have h2 : 0 < 2 ^ n := Nat.pow_pos (by omega)
  omega
set_option maxRecDepth 100000 in
set_option maxHeartbeats 1000000 in
theorem bits_any (n : Int) (a k : Nat) (w : World) (h0 : 0 ≤ n) (h1 : n < 4294967296) (ha : a ≤ 32) (hk : k ≤ 32) :
    Calls Tryd.prog 92 #[.int .u32 n, .int .i64 a, .int .i64 k] w fun e w' => e = .returned (.int .u32 (n / ((2 ^ a : Nat) : Int) % ((2 ^ k : Nat) : Int))) ∧ Below w.heap.size w w' := by
  obtain ⟨pa, hpa⟩ : ∃ p : Int, ((2 ^ a : Nat) : Int) = p := ⟨_, rfl⟩
  obtain ⟨pk, hpk⟩ : ∃ p : Int, ((2 ^ k : Nat) : Int) = p := ⟨_, rfl⟩
  have ra := p2_range ha
  have rk := p2_range hk
  rw [hpa] at ra ⊢
  rw [hpk] at rk ⊢
  have HPA : Hd ((2 : Int) ^ a = pa) := ⟨by rw [p2, hpa]⟩
  have HPK : Hd ((2 : Int) ^ k = pk) := ⟨by rw [p2, hpk]⟩
  obtain ⟨ra1, ra2⟩ := ra
  obtain ⟨rk1, rk2⟩ := rk
  have za : ¬ pa = 0 := by omega
  have zk : ¬ pk = 0 := by omega
  obtain ⟨m, hm⟩ : ∃ m, n / pa % pk = m := ⟨_, rfl⟩
  have hq : 0 ≤ n / pa := Int.ediv_nonneg h0 (by omega)
  have ht : (n / pa).tmod pk = m := by rw [Int.tmod_eq_emod_of_nonneg hq, hm]
  have hm0 : 0 ≤ m := by rw [← hm]; exact Int.emod_nonneg _ (by omega)
  have hm1 : m < 4294967296 := by have := Int.emod_lt_of_pos (n / pa) (b := pk) (by omega); omega
  have hw : IntKind.u32.wrap m = m := by rw [IntKind.wrap_u32]; omega
  have hwn : IntKind.u64.wrap n = n := by rw [IntKind.wrap_u64]; omega
  have htd : n.tdiv pa = n / pa := Int.tdiv_eq_ediv_of_nonneg h0
  have hq1 : n / pa ≤ n := Int.ediv_le_self _ h0
  have hwq : IntKind.u64.wrap (n / pa) = n / pa := by rw [IntKind.wrap_u64]; omega
  have HRes : Hd (IntKind.u32.wrap ((IntKind.u64.wrap ((IntKind.u64.wrap n).tdiv pa)).tmod pk) = m) := ⟨by rw [hwn, htd, hwq, ht, hw]⟩
  rw [hm]
  clear hpa hpk hm
  go_enter Tryd.func92, Tryd.ntmps92
  go_wp2_with fail
  go_region_held3 (fun w' => True) (trivial) (first | (go_at_call 69; refine (power_any _ _ (by omega)).mono ?_; (first | rw [HPA.out] | rw [HPK.out]); rintro e w' ⟨rfl, rfl⟩))
  all_goals
    go_wp2_with fail
    go_ret
    exact ⟨by first | rfl | exact congrArg (fun z => Ending.returned (Value.int .u32 z)) HRes.out, (Below.refl _ _).drew⟩
set_option maxRecDepth 100000 in
set_option maxHeartbeats 1000000 in
theorem put_any (v x : Int) (a k : Nat) (w : World) (hz : FZ v a k) (hx0 : 0 ≤ x) (hx1 : x < 4294967296) (hak : a + k ≤ 32) :
    Calls Tryd.prog 91 #[.int .u32 v, .int .i64 a, .int .i64 k, .int .u32 x] w fun e w' => e = .returned (.int .u32 (orW v (x % ((2 ^ k : Nat) : Int) * ((2 ^ a : Nat) : Int)))) ∧ Below w.heap.size w w' := by
  obtain ⟨ho, hg0, hg1⟩ := put_or hz hx0 hak
  obtain ⟨h0, h1, hzz⟩ := hz
  have hor := orW_range ⟨h0, h1⟩ ⟨hg0, hg1⟩
  have hb : v / ((2 ^ a : Nat) : Int) % ((2 ^ k : Nat) : Int) = 0 := by
    obtain ⟨n, rfl⟩ := Int.eq_ofNat_of_zero_le h0
    simp only [Int.toNat_natCast] at hzz
    have : ((n : Int) / ((2 ^ a : Nat) : Int) % ((2 ^ k : Nat) : Int)) = ((n / 2 ^ a % 2 ^ k : Nat) : Int) := by simp
    rw [this, hzz]; rfl
  unfold putV at ho
  rw [hb, Int.zero_mul, Int.sub_zero] at ho
  obtain ⟨pa, hpa⟩ : ∃ p : Int, ((2 ^ a : Nat) : Int) = p := ⟨_, rfl⟩
  obtain ⟨pk, hpk⟩ : ∃ p : Int, ((2 ^ k : Nat) : Int) = p := ⟨_, rfl⟩
  have HB := Hd.mk hb
  have rk := p2_range (n := k) (by omega)
  have ra := p2_range (n := a) (by omega)
  rw [hpa, hpk] at ho hg0 hg1 hor ⊢
  rw [hpk] at rk
  rw [hpa] at ra
  have HPA : Hd ((2 : Int) ^ a = pa) := ⟨by rw [p2, hpa]⟩
  have HPK : Hd ((2 : Int) ^ k = pk) := ⟨by rw [p2, hpk]⟩
  obtain ⟨rk1, rk2⟩ := rk
  obtain ⟨ra1, ra2⟩ := ra
  have zk : ¬ pk = 0 := by omega
  obtain ⟨m, hm⟩ : ∃ m, x % pk = m := ⟨_, rfl⟩
  have ht : x.tmod pk = m := by rw [Int.tmod_eq_emod_of_nonneg hx0, hm]
  rw [hm] at ho hg0 hg1 hor ⊢
  obtain ⟨ma, hma⟩ : ∃ y, m * pa = y := ⟨_, rfl⟩
  rw [hma] at ho hg0 hg1 hor ⊢
  rw [← ho] at hor ⊢
  have hm0 : 0 ≤ m := by rw [← hm]; exact Int.emod_nonneg _ (by omega)
  have hm1 : m < pk := by rw [← hm]; exact Int.emod_lt_of_pos _ (by omega)
  obtain ⟨hor1, hor2⟩ := hor
  have hwv : IntKind.u64.wrap v = v := by rw [IntKind.wrap_u64]; omega
  have hwx : IntKind.u64.wrap x = x := by rw [IntKind.wrap_u64]; omega
  have hwm : IntKind.u64.wrap ma = ma := by rw [IntKind.wrap_u64]; omega
  have hws : IntKind.u64.wrap (v + ma) = v + ma := by rw [IntKind.wrap_u64]; omega
  have hwr : IntKind.u32.wrap (v + ma) = v + ma := by rw [IntKind.wrap_u32]; omega
  clear hpa hpk hm ho hb hzz
  go_enter Tryd.func91, Tryd.ntmps91
  go_wp2_with (first | (go_at_call 92; refine (bits_any v a k _ h0 h1 (by omega) (by omega)).mono ?_; rw [HB.out]; rintro e w2 ⟨rfl, hb2⟩) | (go_at_call 69; refine (power_any _ _ (by omega)).mono ?_; (first | rw [HPA.out] | rw [HPK.out]); rintro e w' ⟨rfl, rfl⟩))
  have hma2 : m * pa = ma := hma
  go_region_held3 (fun w' => True) (trivial) (first | (go_at_call 69; refine (power_any _ _ (by omega)).mono ?_; (first | rw [HPA.out] | rw [HPK.out]); rintro e w' ⟨rfl, rfl⟩))
  all_goals
    go_wp2_with fail
    go_ret
    first | exact ⟨rfl, hb2.trans (Below.refl _ _).drew⟩ | skip
  all_goals trace_state
/-- A field put in, from one bit down to another one; a field of a number. -/
def fput (v x h l : Int) : Int := orW v (x % ((2 ^ (h - l + 1).toNat : Nat) : Int) * ((2 ^ l.toNat : Nat) : Int))
def fpart (n h l : Int) : Int := n / ((2 ^ l.toNat : Nat) : Int) % ((2 ^ (h - l + 1).toNat : Nat) : Int)
set_option maxHeartbeats 1000000 in
theorem rput_any (v x h l : Int) (w : World) (hz : FZ v l.toNat (h - l + 1).toNat) (hx0 : 0 ≤ x) (hx1 : x < 4294967296) (hl : 0 ≤ l ∧ l ≤ h ∧ h ≤ 31) :
    Calls Tryd.prog 83 #[.int .u32 v, .int .i64 h, .int .i64 l, .int .u32 x] w fun e w' => e = .returned (.int .u32 (fput v x h l)) ∧ Below w.heap.size w w' := by
  obtain ⟨a, ha⟩ := Int.eq_ofNat_of_zero_le hl.1
  obtain ⟨k, hk⟩ := Int.eq_ofNat_of_zero_le (show 0 ≤ h - l + 1 by omega)
  have HV : Hd (fput v x h l = orW v (x % ((2 ^ k : Nat) : Int) * ((2 ^ a : Nat) : Int))) := ⟨by unfold fput; rw [hk, ha]; rfl⟩
  have e1 : IntKind.i64.wrap (h - l + 1) = (k : Int) := by rw [IntWalk.i64_in _ (by omega), hk]
  have e2 : IntKind.i64.wrap (h - l) = h - l := IntWalk.i64_in _ (by omega)
  have e3 : h - l + 1 = (k : Int) := hk
  rw [hk, ha] at hz
  have hz2 : FZ v a k := hz
  have hak : a + k ≤ 32 := by omega
  obtain ⟨hl1, hl2, hl3⟩ := hl
  subst ha
  clear hk hz
  go_enter Tryd.func83, Tryd.ntmps83
  go_wp2_with (go_at_call 91; refine (put_any v x a k _ hz2 hx0 hx1 hak).mono ?_; rintro e w2 ⟨rfl, hb2⟩)
  go_ret
  exact ⟨by rw [HV.out]; rfl, hb2⟩
set_option maxHeartbeats 1000000 in
theorem rpart_any (n h l : Int) (w : World) (hx0 : 0 ≤ n) (hx1 : n < 4294967296) (hl : 0 ≤ l ∧ l ≤ h ∧ h ≤ 31) :
    Calls Tryd.prog 84 #[.int .u32 n, .int .i64 h, .int .i64 l] w fun e w' => e = .returned (.int .u32 (fpart n h l)) ∧ Below w.heap.size w w' := by
  obtain ⟨a, ha⟩ := Int.eq_ofNat_of_zero_le hl.1
  obtain ⟨k, hk⟩ := Int.eq_ofNat_of_zero_le (show 0 ≤ h - l + 1 by omega)
  have HV : Hd (fpart n h l = n / ((2 ^ a : Nat) : Int) % ((2 ^ k : Nat) : Int)) := ⟨by unfold fpart; rw [hk, ha]; rfl⟩
  have e1 : IntKind.i64.wrap (h - l + 1) = (k : Int) := by rw [IntWalk.i64_in _ (by omega), hk]
  have e2 : IntKind.i64.wrap (h - l) = h - l := IntWalk.i64_in _ (by omega)
  have e3 : h - l + 1 = (k : Int) := hk
  have hak : a ≤ 32 ∧ k ≤ 32 := by omega
  obtain ⟨hl1, hl2, hl3⟩ := hl
  subst ha
  clear hk
  go_enter Tryd.func84, Tryd.ntmps84
  go_wp2_with (go_at_call 92; refine (bits_any n a k _ hx0 hx1 hak.1 hak.2).mono ?_; rintro e w2 ⟨rfl, hb2⟩)
  go_ret
  exact ⟨by rw [HV.out]; rfl, hb2⟩
end Go.Proofs.YtceelkmedfoefaaDoor

set_option linter.unusedVariables false
set_option linter.unusedSimpArgs false
/-! The reference's Patterns. -/
namespace Go.Proofs.YtceelkmedfoefaaDoor
open Go.RowKit

def u32Of : Value → Option Int
  | .int .u32 n => some n
  | _ => none
theorem u32Of_some {v : Value} {n : Int} (h : u32Of v = some n) : v = .int .u32 n := by
  unfold u32Of at h
  split at h
  · cases h; rfl
  · cases h
theorem pat_cells (cs : Array Value) (h : ∀ k, k < 57 → (cs[k * 2 + 1]?).bind u32Of = some (matchI (k + 1))) : ∀ k, k < 57 → cs[k * 2 + 1]? = some (.int .u32 (matchI (k + 1))) := by
  intro k hk
  have := h k hk
  cases e : cs[k * 2 + 1]? with
  | none => rw [e] at this; cases this
  | some v => rw [e] at this; rw [u32Of_some this]
set_option maxRecDepth 100000 in
set_option maxHeartbeats 1000000 in
theorem patterns_any (w : World) :
    Calls Tryd.prog 82 #[] w fun e w' => ∃ b, e = .returned (.slice (some ⟨b, 0, none⟩) 57 57) ∧ w.heap.size ≤ b ∧ (∀ k, k < 57 → w'.cell? ⟨b, k * 2 + 1, none⟩ = some (.int .u32 (matchI (k + 1)))) ∧ Below w.heap.size w w' := by
  go_enter Tryd.func82, Tryd.ntmps82
  go_wp2_with fail
  go_ret
  refine ⟨w.heap.size, rfl, Nat.le_refl _, ?_, (Below.refl _ _).alloc (Nat.le_refl _) _⟩
  exact fun k hk => (blk_new w _ _).cell (k * 2 + 1) (pat_cells _ (by decide +kernel) k hk)
end Go.Proofs.YtceelkmedfoefaaDoor

set_option linter.unusedVariables false
set_option linter.unusedSimpArgs false
/-! The reference's Encode. -/
namespace Go.Proofs.YtceelkmedfoefaaDoor
open Go.RowKit

structure XP (w w' : World) (x : NI) : Prop where
  bel : Below w.heap.size w w'
  blk : Blk w' w.heap.size (NC x) 36
theorem XP.next {w w' w'' : World} {x : NI} (h : XP w w' x) (hb : Below w'.heap.size w' w'') : XP w w'' x :=
  ⟨h.bel.trans (hb.mono h.bel.size), h.blk.below hb h.blk.lt⟩
theorem XP.drew {w w' : World} {x : NI} (h : XP w w' x) : XP w w'.drew x := h.next (Below.refl _ _).drew
theorem XP.cells {w w' : World} {x : NI} (h : XP w w' x) : w'.cell? ⟨w.heap.size, 0, none⟩ = some (.int .i64 x.op) ∧ w'.cell? ⟨w.heap.size, 1, none⟩ = some (.int .i64 x.rd) ∧ w'.cell? ⟨w.heap.size, 2, none⟩ = some (.int .i64 x.rs1) ∧ w'.cell? ⟨w.heap.size, 3, none⟩ = some (.int .i64 x.rs2) ∧ w'.cell? ⟨w.heap.size, 4, none⟩ = some (.int .u32 x.imm) ∧ w'.cell? ⟨w.heap.size, 5, none⟩ = some (.int .i64 x.csr) :=
  ⟨h.blk.cell 0 rfl, h.blk.cell 1 rfl, h.blk.cell 2 rfl, h.blk.cell 3 rfl, h.blk.cell 4 rfl, h.blk.cell 5 rfl⟩
structure REncPost (x : NI) (w w' : World) (e : Ending) : Prop where
  ret : e = .returned (.tuple #[.int .u32 (encV x), .bool (encOk x)])
  below : Below w.heap.size w w'
theorem matchI_range : ∀ k, k < 58 → 0 ≤ matchI k ∧ matchI k < 4294967296 := by decide +kernel
theorem part_range (n h l : Int) (h0 : 0 ≤ n) (hl : 0 ≤ l ∧ l ≤ h ∧ h ≤ 31) : 0 ≤ fpart n h l ∧ fpart n h l < 4294967296 := by
  unfold fpart
  have h1 := p2_range (n := (h - l + 1).toNat) (by omega)
  have := Int.emod_lt_of_pos (n / ((2 ^ l.toNat : Nat) : Int)) (b := ((2 ^ (h - l + 1).toNat : Nat) : Int)) (by omega)
  exact ⟨Int.emod_nonneg _ (by omega), by omega⟩

-- form 0
set_option maxRecDepth 100000 in
set_option maxHeartbeats 4000000 in
theorem rencode_0 (x : NI) (w : World) (h0 : 0 ≤ x.imm) (h1 : x.imm < 4294967296) (hop : x.op ≠ 0) (hR : rightB x = true) (hf : formP x.op = 0) :
    Calls Tryd.prog 67 #[.agg (NC x)] w fun e w' => REncPost x w w' e := by
  have HRt := Hd.mk hR
  have HF := Hd.mk hf
  obtain ⟨⟨ho0, ho1⟩, ⟨hd0, hd1⟩, ⟨hs0, hs1⟩, ⟨ht0, ht1⟩, ⟨hc0, hc1⟩, himm, honly⟩ := rightB_parts hR
  have hk : Hd (encOk x = true) := ⟨by unfold encOk; rw [decide_eq_true hop, hR]; rfl⟩
  obtain ⟨k, hk0⟩ := Int.eq_ofNat_of_zero_le ho0
  have hk58 : k < 58 := by omega
  obtain ⟨m, hm⟩ : ∃ m, matchI x.op.toNat = m := ⟨_, rfl⟩
  have HM := Hd.mk hm
  have hmk : matchI k = m := by rw [← hm, hk0]; rfl
  have hmr := matchI_range k hk58
  rw [hmk] at hmr
  have HMk : ∃ kk : Nat, x.op = (kk : Int) + 1 ∧ kk < 57 ∧ matchI (kk + 1) = m := by
    have : 1 ≤ k := by omega
    exact ⟨k - 1, by omega, by omega, by rw [Nat.sub_add_cancel this]; exact hmk⟩
  obtain ⟨kk, hkk1, hkk2, hkk3⟩ := HMk
  have HKK := Hd.mk (And.intro hkk1 hkk3)
  have hki : (kk : Int) < 57 := by omega
  have hwk : IntKind.i64.wrap (kk : Int) = (kk : Int) := IntWalk.i64_in _ (by omega)
  have hwk2 : IntKind.i64.wrap ((kk : Int) + 1 - 1) = (kk : Int) := by rw [IntWalk.i64_in _ (by omega)]; omega
  have HW : Hd (encV x = m) := ⟨by
    unfold encV; rw [if_pos hk.out]; unfold encW; rw [hf]
    have qrd : x.rd % 32 * 128 = 0 := by
      have := congrArg NI.rd honly
      simp [onlyX] at this
      omega
    have qrs1 : x.rs1 % 32 * 32768 = 0 := by
      have := congrArg NI.rs1 honly
      simp [onlyX] at this
      omega
    have qrs2 : x.rs2 % 32 * 1048576 = 0 := by
      have := congrArg NI.rs2 honly
      simp [onlyX] at this
      omega
    have qcsr : x.csr % 4096 * 1048576 = 0 := by
      have := congrArg NI.csr honly
      simp [onlyX] at this
      omega
    have hEA : encA x = m := by unfold encA; rw [hm, qrd, orW_zero hmr, qrs1, orW_zero hmr, qrs2, orW_zero hmr, qcsr, orW_zero hmr]
    rw [if_neg (by decide), if_neg (by decide), if_neg (by decide), if_neg (by decide), if_neg (by decide), if_neg (by decide), if_neg (by decide), hEA]⟩
  have hop2 : (x.op == 0) = false := beq_eq_false_iff_ne.2 hop
  clear hkk1 hkk3 hm hmk hmr hk0 hk58 hR hf himm honly hop
  have hXP : XP w (w.alloc (.cells (NC x) 36)) x := ⟨(Below.refl _ _).alloc (Nat.le_refl _) _, blk_new _ _ _⟩
  go_enter Tryd.func67, Tryd.ntmps67
  go_upto_region 1 with fail
  generalize w.alloc _ = w1 at hXP ⊢
  obtain ⟨k0, k1, k2, k3, k4, k5⟩ := hXP.cells
  go_wp2_with (first | (refine ld_blk rfl 36 _ rfl w.heap.size rfl hXP.blk Tryd.underlying36 (by rw [info36]; rfl) ?_) | (go_at_call 17; refine (rright_any x _ h0 h1).mono ?_; rw [HRt.out]; rintro e w2 ⟨rfl, hb'⟩; replace hXP := hXP.next hb'; clear k0 k1 k2 k3 k4 k5; obtain ⟨k0, k1, k2, k3, k4, k5⟩ := hXP.cells) | (go_at_call 39; refine (rform_any _ _).mono ?_; rw [HF.out]; rintro e w' ⟨rfl, rfl⟩))
  refine Late.region (S := fun w' => XP w w' x) (late := fun j => j == 1) (by kernel_rfl) ?_
  have hX8 := hXP.drew
  generalize w2.drew = w3 at hX8 ⊢
  clear hXP k0 k1 k2 k3 k4 k5
  refine Late.take (i := 1) (v := ?_) rfl (by kernel_rfl) rfl (by kernel_rfl) (by kernel_rfl) (fun _ _ _ h => h) (Or.inl ⟨by rfl, ?_⟩) ?_
  case refine_2 => intro W _; go_simp; (try with_reducible rfl)
  try simp only [Act.put, List.setIfInBounds_toArray, List.set_cons_zero, List.set_cons_succ]
  refine Late.load (i := 2) (v := ?_) rfl (by kernel_rfl) (by kernel_rfl) (by kernel_rfl) (by kernel_rfl) (fun _ _ _ h => h) (Or.inl ⟨by rfl, ?_⟩) hX8 ?_
  case refine_2 => intro W hW; have c0 := hW.cells.1; rw [HKK.out.1] at c0; clear hW; go_simp; (try with_reducible rfl)
  try simp only [Act.put, List.setIfInBounds_toArray, List.set_cons_zero, List.set_cons_succ]
  refine Late.load (i := 3) (v := ?_) rfl (by kernel_rfl) (by kernel_rfl) (by kernel_rfl) (by kernel_rfl) (fun _ _ _ h => h) (Or.inl ⟨by rfl, ?_⟩) hX8 ?_
  case refine_2 => intro W hW; clear hW; go_simp; (try with_reducible rfl)
  try simp only [Act.put, List.setIfInBounds_toArray, List.set_cons_zero, List.set_cons_succ]
  refine Late.ready1 (i := 0) (by kernel_rfl) rfl (fun K hK => ?_)
  go_simp
  refine (patterns_any _).mono ?_
  rintro e w4 ⟨b, rfl, hbb, hcl, hb'⟩
  have hc1 := hcl kk hkk2
  rw [HKK.out.2] at hc1
  have hX9 := hX8.next hb'
  clear hcl
  go_wp2_with fail
  refine hK.out _ _ (fun _ => hX9) ?_
  clear hK K
  try simp only [Act.put, List.setIfInBounds_toArray, List.set_cons_zero, List.set_cons_succ]
  refine Late.ready1 (i := 4) (by kernel_rfl) rfl (fun K hK => ?_)
  go_simp
  refine hK.out _ _ (fun _ => hX9) ?_
  clear hK K
  try simp only [Act.put, List.setIfInBounds_toArray, List.set_cons_zero, List.set_cons_succ]
  refine Late.ready1 (i := 5) (by kernel_rfl) rfl (fun K hK => ?_)
  go_simp
  refine hK.out _ _ (fun _ => hX9) ?_
  clear hK K
  try simp only [Act.put, List.setIfInBounds_toArray, List.set_cons_zero, List.set_cons_succ]
  refine Late.ready1 (i := 6) (by kernel_rfl) rfl (fun K hK => ?_)
  go_simp
  refine hK.out _ _ (fun _ => hX9) ?_
  clear hK K
  try simp only [Act.put, List.setIfInBounds_toArray, List.set_cons_zero, List.set_cons_succ]
  refine Late.ready1 (i := 7) (by kernel_rfl) rfl (fun K hK => ?_)
  go_simp
  refine hK.out _ _ (fun _ => hX9) ?_
  clear hK K
  try simp only [Act.put, List.setIfInBounds_toArray, List.set_cons_zero, List.set_cons_succ]
  refine Late.done (by kernel_rfl) ?_ _
  have hXP := hX9
  obtain ⟨k0, k1, k2, k3, k4, k5⟩ := hXP.cells
  clear hc1 hX8 hX9
  go_wp2_with (first | (go_at_call 83; refine (rput_any _ _ _ _ _ (by skip) (by omega) (by omega) (by decide)).mono ?_; (skip); rintro e w' ⟨rfl, hb'⟩; replace hXP := hXP.next hb'; clear k0 k1 k2 k3 k4 k5; obtain ⟨k0, k1, k2, k3, k4, k5⟩ := hXP.cells) | (go_at_call 84; refine (rpart_any _ _ _ _ h0 h1 (by decide)).mono ?_; (skip); rintro e w' ⟨rfl, hb'⟩; replace hXP := hXP.next hb'; clear k0 k1 k2 k3 k4 k5; obtain ⟨k0, k1, k2, k3, k4, k5⟩ := hXP.cells))
  refine bodyPost_ret (v := .tuple #[.int .u32 m, .bool true]) ?_ rfl ⟨by rw [HW.out, hk.out], hXP.bel⟩
  simp [results, Tryd.results67, go_sem]

-- form 1
theorem match_fz1_1 : ∀ k : Nat, k < 58 → formP (k : Int) = 1 → FZ (matchI k) 7 5 := by
  unfold FZ
  decide +kernel
theorem match_fz1_2 : ∀ k : Nat, k < 58 → formP (k : Int) = 1 → FZ (matchI k) 12 20 := by
  unfold FZ
  decide +kernel
set_option maxRecDepth 100000 in
set_option maxHeartbeats 4000000 in
theorem rencode_1 (x : NI) (w : World) (h0 : 0 ≤ x.imm) (h1 : x.imm < 4294967296) (hop : x.op ≠ 0) (hR : rightB x = true) (hf : formP x.op = 1) :
    Calls Tryd.prog 67 #[.agg (NC x)] w fun e w' => REncPost x w w' e := by
  have HRt := Hd.mk hR
  have HF := Hd.mk hf
  obtain ⟨⟨ho0, ho1⟩, ⟨hd0, hd1⟩, ⟨hs0, hs1⟩, ⟨ht0, ht1⟩, ⟨hc0, hc1⟩, himm, honly⟩ := rightB_parts hR
  have hk : Hd (encOk x = true) := ⟨by unfold encOk; rw [decide_eq_true hop, hR]; rfl⟩
  obtain ⟨k, hk0⟩ := Int.eq_ofNat_of_zero_le ho0
  have hk58 : k < 58 := by omega
  obtain ⟨m, hm⟩ : ∃ m, matchI x.op.toNat = m := ⟨_, rfl⟩
  have HM := Hd.mk hm
  have hmk : matchI k = m := by rw [← hm, hk0]; rfl
  have hmr := matchI_range k hk58
  rw [hmk] at hmr
  have HMk : ∃ kk : Nat, x.op = (kk : Int) + 1 ∧ kk < 57 ∧ matchI (kk + 1) = m := by
    have : 1 ≤ k := by omega
    exact ⟨k - 1, by omega, by omega, by rw [Nat.sub_add_cancel this]; exact hmk⟩
  obtain ⟨kk, hkk1, hkk2, hkk3⟩ := HMk
  have HKK := Hd.mk (And.intro hkk1 hkk3)
  have hki : (kk : Int) < 57 := by omega
  have hwk : IntKind.i64.wrap (kk : Int) = (kk : Int) := IntWalk.i64_in _ (by omega)
  have hwk2 : IntKind.i64.wrap ((kk : Int) + 1 - 1) = (kk : Int) := by rw [IntWalk.i64_in _ (by omega)]; omega
  have z1 := match_fz1_1 k hk58 (by rw [← hk0]; exact hf)
  rw [hmk] at z1
  have z2 := match_fz1_2 k hk58 (by rw [← hk0]; exact hf)
  rw [hmk] at z2
  have g1 : 0 ≤ x.rd % 32 * 128 ∧ x.rd % 32 * 128 < 4294967296 := by omega
  have HZ1 := Hd.mk z1
  obtain ⟨v1, hv1⟩ : ∃ v, orW m (x.rd % 32 * 128) = v := ⟨_, rfl⟩
  have HV1 : Hd (fput m x.rd 11 7 = v1) := ⟨by rw [← hv1]; unfold fput; congr 1⟩
  have r1 : 0 ≤ v1 ∧ v1 < 4294967296 := by rw [← hv1]; exact orW_range hmr g1
  have g2 : 0 ≤ x.imm / 4096 % 1048576 * 4096 ∧ x.imm / 4096 % 1048576 * 4096 < 4294967296 := by omega
  obtain ⟨p2, hp2⟩ : ∃ p, fpart x.imm 31 12 = p := ⟨_, rfl⟩
  have HP2 := Hd.mk hp2
  have hpr2 : 0 ≤ p2 ∧ p2 < 4294967296 := by rw [← hp2]; exact part_range _ _ _ h0 (by decide)
  have hpe2 : p2 = x.imm / 4096 % 1048576 := by rw [← hp2]; unfold fpart; simp
  have HZ2 : Hd (FZ v1 12 20) := ⟨by rw [← hv1]; exact (z2).orW (⟨g1.1, g1.2, by omega⟩ : FZ (x.rd % 32 * 128) 12 20)⟩
  obtain ⟨v2, hv2⟩ : ∃ v, orW v1 (x.imm / 4096 % 1048576 * 4096) = v := ⟨_, rfl⟩
  have HV2 : Hd (fput v1 p2 31 12 = v2) := ⟨by rw [← hv2]; unfold fput; congr 1; rw [hpe2]; simp; try omega⟩
  have r2 : 0 ≤ v2 ∧ v2 < 4294967296 := by rw [← hv2]; exact orW_range r1 g2
  have HW : Hd (encV x = v2) := ⟨by
    unfold encV; rw [if_pos hk.out]; unfold encW; rw [hf]
    have qrs1 : x.rs1 % 32 * 32768 = 0 := by
      have := congrArg NI.rs1 honly
      simp [onlyX] at this
      omega
    have qrs2 : x.rs2 % 32 * 1048576 = 0 := by
      have := congrArg NI.rs2 honly
      simp [onlyX] at this
      omega
    have qcsr : x.csr % 4096 * 1048576 = 0 := by
      have := congrArg NI.csr honly
      simp [onlyX] at this
      omega
    have hEA : encA x = v1 := by unfold encA; rw [hm, hv1, qrs1, orW_zero r1, qrs2, orW_zero r1, qcsr, orW_zero r1]
    rw [if_pos rfl, hEA, hv2]⟩
  obtain ⟨hpr2a, hpr2b⟩ := hpr2
  have hop2 : (x.op == 0) = false := beq_eq_false_iff_ne.2 hop
  clear r1 r2 hkk1 hkk3 hm hmk hmr hk0 hk58 hR hf himm honly hop z1 z2 hv1 g1 hv2 g2 hp2 hpe2
  have hXP : XP w (w.alloc (.cells (NC x) 36)) x := ⟨(Below.refl _ _).alloc (Nat.le_refl _) _, blk_new _ _ _⟩
  go_enter Tryd.func67, Tryd.ntmps67
  go_upto_region 1 with fail
  generalize w.alloc _ = w1 at hXP ⊢
  obtain ⟨k0, k1, k2, k3, k4, k5⟩ := hXP.cells
  go_wp2_with (first | (refine ld_blk rfl 36 _ rfl w.heap.size rfl hXP.blk Tryd.underlying36 (by rw [info36]; rfl) ?_) | (go_at_call 17; refine (rright_any x _ h0 h1).mono ?_; rw [HRt.out]; rintro e w2 ⟨rfl, hb'⟩; replace hXP := hXP.next hb'; clear k0 k1 k2 k3 k4 k5; obtain ⟨k0, k1, k2, k3, k4, k5⟩ := hXP.cells) | (go_at_call 39; refine (rform_any _ _).mono ?_; rw [HF.out]; rintro e w' ⟨rfl, rfl⟩))
  refine Late.region (S := fun w' => XP w w' x) (late := fun j => j == 1) (by kernel_rfl) ?_
  have hX8 := hXP.drew
  generalize w2.drew = w3 at hX8 ⊢
  clear hXP k0 k1 k2 k3 k4 k5
  refine Late.take (i := 1) (v := ?_) rfl (by kernel_rfl) rfl (by kernel_rfl) (by kernel_rfl) (fun _ _ _ h => h) (Or.inl ⟨by rfl, ?_⟩) ?_
  case refine_2 => intro W _; go_simp; (try with_reducible rfl)
  try simp only [Act.put, List.setIfInBounds_toArray, List.set_cons_zero, List.set_cons_succ]
  refine Late.load (i := 2) (v := ?_) rfl (by kernel_rfl) (by kernel_rfl) (by kernel_rfl) (by kernel_rfl) (fun _ _ _ h => h) (Or.inl ⟨by rfl, ?_⟩) hX8 ?_
  case refine_2 => intro W hW; have c0 := hW.cells.1; rw [HKK.out.1] at c0; clear hW; go_simp; (try with_reducible rfl)
  try simp only [Act.put, List.setIfInBounds_toArray, List.set_cons_zero, List.set_cons_succ]
  refine Late.load (i := 3) (v := ?_) rfl (by kernel_rfl) (by kernel_rfl) (by kernel_rfl) (by kernel_rfl) (fun _ _ _ h => h) (Or.inl ⟨by rfl, ?_⟩) hX8 ?_
  case refine_2 => intro W hW; clear hW; go_simp; (try with_reducible rfl)
  try simp only [Act.put, List.setIfInBounds_toArray, List.set_cons_zero, List.set_cons_succ]
  refine Late.ready1 (i := 0) (by kernel_rfl) rfl (fun K hK => ?_)
  go_simp
  refine (patterns_any _).mono ?_
  rintro e w4 ⟨b, rfl, hbb, hcl, hb'⟩
  have hc1 := hcl kk hkk2
  rw [HKK.out.2] at hc1
  have hX9 := hX8.next hb'
  clear hcl
  go_wp2_with fail
  refine hK.out _ _ (fun _ => hX9) ?_
  clear hK K
  try simp only [Act.put, List.setIfInBounds_toArray, List.set_cons_zero, List.set_cons_succ]
  refine Late.ready1 (i := 4) (by kernel_rfl) rfl (fun K hK => ?_)
  go_simp
  refine hK.out _ _ (fun _ => hX9) ?_
  clear hK K
  try simp only [Act.put, List.setIfInBounds_toArray, List.set_cons_zero, List.set_cons_succ]
  refine Late.ready1 (i := 5) (by kernel_rfl) rfl (fun K hK => ?_)
  go_simp
  refine hK.out _ _ (fun _ => hX9) ?_
  clear hK K
  try simp only [Act.put, List.setIfInBounds_toArray, List.set_cons_zero, List.set_cons_succ]
  refine Late.ready1 (i := 6) (by kernel_rfl) rfl (fun K hK => ?_)
  go_simp
  refine hK.out _ _ (fun _ => hX9) ?_
  clear hK K
  try simp only [Act.put, List.setIfInBounds_toArray, List.set_cons_zero, List.set_cons_succ]
  refine Late.ready1 (i := 7) (by kernel_rfl) rfl (fun K hK => ?_)
  go_simp
  refine hK.out _ _ (fun _ => hX9) ?_
  clear hK K
  try simp only [Act.put, List.setIfInBounds_toArray, List.set_cons_zero, List.set_cons_succ]
  refine Late.done (by kernel_rfl) ?_ _
  have hXP := hX9
  obtain ⟨k0, k1, k2, k3, k4, k5⟩ := hXP.cells
  clear hc1 hX8 hX9
  go_wp2_with (first | (go_at_call 83; refine (rput_any _ _ _ _ _ (by first | exact HZ1.out | exact HZ2.out) (by omega) (by omega) (by decide)).mono ?_; (first | rw [HV1.out] | rw [HV2.out]); rintro e w' ⟨rfl, hb'⟩; replace hXP := hXP.next hb'; clear k0 k1 k2 k3 k4 k5; obtain ⟨k0, k1, k2, k3, k4, k5⟩ := hXP.cells) | (go_at_call 84; refine (rpart_any _ _ _ _ h0 h1 (by decide)).mono ?_; (first | rw [HP2.out]); rintro e w' ⟨rfl, hb'⟩; replace hXP := hXP.next hb'; clear k0 k1 k2 k3 k4 k5; obtain ⟨k0, k1, k2, k3, k4, k5⟩ := hXP.cells))
  refine bodyPost_ret (v := .tuple #[.int .u32 v2, .bool true]) ?_ rfl ⟨by rw [HW.out, hk.out], hXP.bel⟩
  simp [results, Tryd.results67, go_sem]

-- form 2
theorem match_fz2_1 : ∀ k : Nat, k < 58 → formP (k : Int) = 2 → FZ (matchI k) 7 5 := by
  unfold FZ
  decide +kernel
theorem match_fz2_2 : ∀ k : Nat, k < 58 → formP (k : Int) = 2 → FZ (matchI k) 31 1 := by
  unfold FZ
  decide +kernel
theorem match_fz2_3 : ∀ k : Nat, k < 58 → formP (k : Int) = 2 → FZ (matchI k) 12 8 := by
  unfold FZ
  decide +kernel
theorem match_fz2_4 : ∀ k : Nat, k < 58 → formP (k : Int) = 2 → FZ (matchI k) 20 1 := by
  unfold FZ
  decide +kernel
theorem match_fz2_5 : ∀ k : Nat, k < 58 → formP (k : Int) = 2 → FZ (matchI k) 21 10 := by
  unfold FZ
  decide +kernel
set_option maxRecDepth 100000 in
set_option maxHeartbeats 4000000 in
theorem rencode_2 (x : NI) (w : World) (h0 : 0 ≤ x.imm) (h1 : x.imm < 4294967296) (hop : x.op ≠ 0) (hR : rightB x = true) (hf : formP x.op = 2) :
    Calls Tryd.prog 67 #[.agg (NC x)] w fun e w' => REncPost x w w' e := by
  have HRt := Hd.mk hR
  have HF := Hd.mk hf
  obtain ⟨⟨ho0, ho1⟩, ⟨hd0, hd1⟩, ⟨hs0, hs1⟩, ⟨ht0, ht1⟩, ⟨hc0, hc1⟩, himm, honly⟩ := rightB_parts hR
  have hk : Hd (encOk x = true) := ⟨by unfold encOk; rw [decide_eq_true hop, hR]; rfl⟩
  obtain ⟨k, hk0⟩ := Int.eq_ofNat_of_zero_le ho0
  have hk58 : k < 58 := by omega
  obtain ⟨m, hm⟩ : ∃ m, matchI x.op.toNat = m := ⟨_, rfl⟩
  have HM := Hd.mk hm
  have hmk : matchI k = m := by rw [← hm, hk0]; rfl
  have hmr := matchI_range k hk58
  rw [hmk] at hmr
  have HMk : ∃ kk : Nat, x.op = (kk : Int) + 1 ∧ kk < 57 ∧ matchI (kk + 1) = m := by
    have : 1 ≤ k := by omega
    exact ⟨k - 1, by omega, by omega, by rw [Nat.sub_add_cancel this]; exact hmk⟩
  obtain ⟨kk, hkk1, hkk2, hkk3⟩ := HMk
  have HKK := Hd.mk (And.intro hkk1 hkk3)
  have hki : (kk : Int) < 57 := by omega
  have hwk : IntKind.i64.wrap (kk : Int) = (kk : Int) := IntWalk.i64_in _ (by omega)
  have hwk2 : IntKind.i64.wrap ((kk : Int) + 1 - 1) = (kk : Int) := by rw [IntWalk.i64_in _ (by omega)]; omega
  have z1 := match_fz2_1 k hk58 (by rw [← hk0]; exact hf)
  rw [hmk] at z1
  have z2 := match_fz2_2 k hk58 (by rw [← hk0]; exact hf)
  rw [hmk] at z2
  have z3 := match_fz2_3 k hk58 (by rw [← hk0]; exact hf)
  rw [hmk] at z3
  have z4 := match_fz2_4 k hk58 (by rw [← hk0]; exact hf)
  rw [hmk] at z4
  have z5 := match_fz2_5 k hk58 (by rw [← hk0]; exact hf)
  rw [hmk] at z5
  have g1 : 0 ≤ x.rd % 32 * 128 ∧ x.rd % 32 * 128 < 4294967296 := by omega
  have HZ1 := Hd.mk z1
  obtain ⟨v1, hv1⟩ : ∃ v, orW m (x.rd % 32 * 128) = v := ⟨_, rfl⟩
  have HV1 : Hd (fput m x.rd 11 7 = v1) := ⟨by rw [← hv1]; unfold fput; congr 1⟩
  have r1 : 0 ≤ v1 ∧ v1 < 4294967296 := by rw [← hv1]; exact orW_range hmr g1
  have g2 : 0 ≤ x.imm / 1048576 % 2 * 2147483648 ∧ x.imm / 1048576 % 2 * 2147483648 < 4294967296 := by omega
  obtain ⟨p2, hp2⟩ : ∃ p, fpart x.imm 20 20 = p := ⟨_, rfl⟩
  have HP2 := Hd.mk hp2
  have hpr2 : 0 ≤ p2 ∧ p2 < 4294967296 := by rw [← hp2]; exact part_range _ _ _ h0 (by decide)
  have hpe2 : p2 = x.imm / 1048576 % 2 := by rw [← hp2]; unfold fpart; simp
  have HZ2 : Hd (FZ v1 31 1) := ⟨by rw [← hv1]; exact (z2).orW (⟨g1.1, g1.2, by omega⟩ : FZ (x.rd % 32 * 128) 31 1)⟩
  obtain ⟨v2, hv2⟩ : ∃ v, orW v1 (x.imm / 1048576 % 2 * 2147483648) = v := ⟨_, rfl⟩
  have HV2 : Hd (fput v1 p2 31 31 = v2) := ⟨by rw [← hv2]; unfold fput; congr 1; rw [hpe2]; simp; try omega⟩
  have r2 : 0 ≤ v2 ∧ v2 < 4294967296 := by rw [← hv2]; exact orW_range r1 g2
  have g3 : 0 ≤ x.imm / 4096 % 256 * 4096 ∧ x.imm / 4096 % 256 * 4096 < 4294967296 := by omega
  obtain ⟨p3, hp3⟩ : ∃ p, fpart x.imm 19 12 = p := ⟨_, rfl⟩
  have HP3 := Hd.mk hp3
  have hpr3 : 0 ≤ p3 ∧ p3 < 4294967296 := by rw [← hp3]; exact part_range _ _ _ h0 (by decide)
  have hpe3 : p3 = x.imm / 4096 % 256 := by rw [← hp3]; unfold fpart; simp
  have HZ3 : Hd (FZ v2 12 8) := ⟨by rw [← hv2]; rw [← hv1]; exact ((z3).orW (⟨g1.1, g1.2, by omega⟩ : FZ (x.rd % 32 * 128) 12 8)).orW (⟨g2.1, g2.2, by omega⟩ : FZ (x.imm / 1048576 % 2 * 2147483648) 12 8)⟩
  obtain ⟨v3, hv3⟩ : ∃ v, orW v2 (x.imm / 4096 % 256 * 4096) = v := ⟨_, rfl⟩
  have HV3 : Hd (fput v2 p3 19 12 = v3) := ⟨by rw [← hv3]; unfold fput; congr 1; rw [hpe3]; simp; try omega⟩
  have r3 : 0 ≤ v3 ∧ v3 < 4294967296 := by rw [← hv3]; exact orW_range r2 g3
  have g4 : 0 ≤ x.imm / 2048 % 2 * 1048576 ∧ x.imm / 2048 % 2 * 1048576 < 4294967296 := by omega
  obtain ⟨p4, hp4⟩ : ∃ p, fpart x.imm 11 11 = p := ⟨_, rfl⟩
  have HP4 := Hd.mk hp4
  have hpr4 : 0 ≤ p4 ∧ p4 < 4294967296 := by rw [← hp4]; exact part_range _ _ _ h0 (by decide)
  have hpe4 : p4 = x.imm / 2048 % 2 := by rw [← hp4]; unfold fpart; simp
  have HZ4 : Hd (FZ v3 20 1) := ⟨by rw [← hv3]; rw [← hv2]; rw [← hv1]; exact (((z4).orW (⟨g1.1, g1.2, by omega⟩ : FZ (x.rd % 32 * 128) 20 1)).orW (⟨g2.1, g2.2, by omega⟩ : FZ (x.imm / 1048576 % 2 * 2147483648) 20 1)).orW (⟨g3.1, g3.2, by omega⟩ : FZ (x.imm / 4096 % 256 * 4096) 20 1)⟩
  obtain ⟨v4, hv4⟩ : ∃ v, orW v3 (x.imm / 2048 % 2 * 1048576) = v := ⟨_, rfl⟩
  have HV4 : Hd (fput v3 p4 20 20 = v4) := ⟨by rw [← hv4]; unfold fput; congr 1; rw [hpe4]; simp; try omega⟩
  have r4 : 0 ≤ v4 ∧ v4 < 4294967296 := by rw [← hv4]; exact orW_range r3 g4
  have g5 : 0 ≤ x.imm / 2 % 1024 * 2097152 ∧ x.imm / 2 % 1024 * 2097152 < 4294967296 := by omega
  obtain ⟨p5, hp5⟩ : ∃ p, fpart x.imm 10 1 = p := ⟨_, rfl⟩
  have HP5 := Hd.mk hp5
  have hpr5 : 0 ≤ p5 ∧ p5 < 4294967296 := by rw [← hp5]; exact part_range _ _ _ h0 (by decide)
  have hpe5 : p5 = x.imm / 2 % 1024 := by rw [← hp5]; unfold fpart; simp
  have HZ5 : Hd (FZ v4 21 10) := ⟨by rw [← hv4]; rw [← hv3]; rw [← hv2]; rw [← hv1]; exact ((((z5).orW (⟨g1.1, g1.2, by omega⟩ : FZ (x.rd % 32 * 128) 21 10)).orW (⟨g2.1, g2.2, by omega⟩ : FZ (x.imm / 1048576 % 2 * 2147483648) 21 10)).orW (⟨g3.1, g3.2, by omega⟩ : FZ (x.imm / 4096 % 256 * 4096) 21 10)).orW (⟨g4.1, g4.2, by omega⟩ : FZ (x.imm / 2048 % 2 * 1048576) 21 10)⟩
  obtain ⟨v5, hv5⟩ : ∃ v, orW v4 (x.imm / 2 % 1024 * 2097152) = v := ⟨_, rfl⟩
  have HV5 : Hd (fput v4 p5 30 21 = v5) := ⟨by rw [← hv5]; unfold fput; congr 1; rw [hpe5]; simp; try omega⟩
  have r5 : 0 ≤ v5 ∧ v5 < 4294967296 := by rw [← hv5]; exact orW_range r4 g5
  have HW : Hd (encV x = v5) := ⟨by
    unfold encV; rw [if_pos hk.out]; unfold encW; rw [hf]
    have qrs1 : x.rs1 % 32 * 32768 = 0 := by
      have := congrArg NI.rs1 honly
      simp [onlyX] at this
      omega
    have qrs2 : x.rs2 % 32 * 1048576 = 0 := by
      have := congrArg NI.rs2 honly
      simp [onlyX] at this
      omega
    have qcsr : x.csr % 4096 * 1048576 = 0 := by
      have := congrArg NI.csr honly
      simp [onlyX] at this
      omega
    have hEA : encA x = v1 := by unfold encA; rw [hm, hv1, qrs1, orW_zero r1, qrs2, orW_zero r1, qcsr, orW_zero r1]
    rw [if_neg (by decide), if_pos rfl, hEA, hv2, hv3, hv4, hv5]⟩
  obtain ⟨hpr2a, hpr2b⟩ := hpr2
  obtain ⟨hpr3a, hpr3b⟩ := hpr3
  obtain ⟨hpr4a, hpr4b⟩ := hpr4
  obtain ⟨hpr5a, hpr5b⟩ := hpr5
  have hop2 : (x.op == 0) = false := beq_eq_false_iff_ne.2 hop
  clear r1 r2 r3 r4 r5 hkk1 hkk3 hm hmk hmr hk0 hk58 hR hf himm honly hop z1 z2 z3 z4 z5 hv1 g1 hv2 g2 hv3 g3 hv4 g4 hv5 g5 hp2 hpe2 hp3 hpe3 hp4 hpe4 hp5 hpe5
  have hXP : XP w (w.alloc (.cells (NC x) 36)) x := ⟨(Below.refl _ _).alloc (Nat.le_refl _) _, blk_new _ _ _⟩
  go_enter Tryd.func67, Tryd.ntmps67
  go_upto_region 1 with fail
  generalize w.alloc _ = w1 at hXP ⊢
  obtain ⟨k0, k1, k2, k3, k4, k5⟩ := hXP.cells
  go_wp2_with (first | (refine ld_blk rfl 36 _ rfl w.heap.size rfl hXP.blk Tryd.underlying36 (by rw [info36]; rfl) ?_) | (go_at_call 17; refine (rright_any x _ h0 h1).mono ?_; rw [HRt.out]; rintro e w2 ⟨rfl, hb'⟩; replace hXP := hXP.next hb'; clear k0 k1 k2 k3 k4 k5; obtain ⟨k0, k1, k2, k3, k4, k5⟩ := hXP.cells) | (go_at_call 39; refine (rform_any _ _).mono ?_; rw [HF.out]; rintro e w' ⟨rfl, rfl⟩))
  refine Late.region (S := fun w' => XP w w' x) (late := fun j => j == 1) (by kernel_rfl) ?_
  have hX8 := hXP.drew
  generalize w2.drew = w3 at hX8 ⊢
  clear hXP k0 k1 k2 k3 k4 k5
  refine Late.take (i := 1) (v := ?_) rfl (by kernel_rfl) rfl (by kernel_rfl) (by kernel_rfl) (fun _ _ _ h => h) (Or.inl ⟨by rfl, ?_⟩) ?_
  case refine_2 => intro W _; go_simp; (try with_reducible rfl)
  try simp only [Act.put, List.setIfInBounds_toArray, List.set_cons_zero, List.set_cons_succ]
  refine Late.load (i := 2) (v := ?_) rfl (by kernel_rfl) (by kernel_rfl) (by kernel_rfl) (by kernel_rfl) (fun _ _ _ h => h) (Or.inl ⟨by rfl, ?_⟩) hX8 ?_
  case refine_2 => intro W hW; have c0 := hW.cells.1; rw [HKK.out.1] at c0; clear hW; go_simp; (try with_reducible rfl)
  try simp only [Act.put, List.setIfInBounds_toArray, List.set_cons_zero, List.set_cons_succ]
  refine Late.load (i := 3) (v := ?_) rfl (by kernel_rfl) (by kernel_rfl) (by kernel_rfl) (by kernel_rfl) (fun _ _ _ h => h) (Or.inl ⟨by rfl, ?_⟩) hX8 ?_
  case refine_2 => intro W hW; clear hW; go_simp; (try with_reducible rfl)
  try simp only [Act.put, List.setIfInBounds_toArray, List.set_cons_zero, List.set_cons_succ]
  refine Late.ready1 (i := 0) (by kernel_rfl) rfl (fun K hK => ?_)
  go_simp
  refine (patterns_any _).mono ?_
  rintro e w4 ⟨b, rfl, hbb, hcl, hb'⟩
  have hc1 := hcl kk hkk2
  rw [HKK.out.2] at hc1
  have hX9 := hX8.next hb'
  clear hcl
  go_wp2_with fail
  refine hK.out _ _ (fun _ => hX9) ?_
  clear hK K
  try simp only [Act.put, List.setIfInBounds_toArray, List.set_cons_zero, List.set_cons_succ]
  refine Late.ready1 (i := 4) (by kernel_rfl) rfl (fun K hK => ?_)
  go_simp
  refine hK.out _ _ (fun _ => hX9) ?_
  clear hK K
  try simp only [Act.put, List.setIfInBounds_toArray, List.set_cons_zero, List.set_cons_succ]
  refine Late.ready1 (i := 5) (by kernel_rfl) rfl (fun K hK => ?_)
  go_simp
  refine hK.out _ _ (fun _ => hX9) ?_
  clear hK K
  try simp only [Act.put, List.setIfInBounds_toArray, List.set_cons_zero, List.set_cons_succ]
  refine Late.ready1 (i := 6) (by kernel_rfl) rfl (fun K hK => ?_)
  go_simp
  refine hK.out _ _ (fun _ => hX9) ?_
  clear hK K
  try simp only [Act.put, List.setIfInBounds_toArray, List.set_cons_zero, List.set_cons_succ]
  refine Late.ready1 (i := 7) (by kernel_rfl) rfl (fun K hK => ?_)
  go_simp
  refine hK.out _ _ (fun _ => hX9) ?_
  clear hK K
  try simp only [Act.put, List.setIfInBounds_toArray, List.set_cons_zero, List.set_cons_succ]
  refine Late.done (by kernel_rfl) ?_ _
  have hXP := hX9
  obtain ⟨k0, k1, k2, k3, k4, k5⟩ := hXP.cells
  clear hc1 hX8 hX9
  go_wp2_with (first | (go_at_call 83; refine (rput_any _ _ _ _ _ (by first | exact HZ1.out | exact HZ2.out | exact HZ3.out | exact HZ4.out | exact HZ5.out) (by omega) (by omega) (by decide)).mono ?_; (first | rw [HV1.out] | rw [HV2.out] | rw [HV3.out] | rw [HV4.out] | rw [HV5.out]); rintro e w' ⟨rfl, hb'⟩; replace hXP := hXP.next hb'; clear k0 k1 k2 k3 k4 k5; obtain ⟨k0, k1, k2, k3, k4, k5⟩ := hXP.cells) | (go_at_call 84; refine (rpart_any _ _ _ _ h0 h1 (by decide)).mono ?_; (first | rw [HP2.out] | rw [HP3.out] | rw [HP4.out] | rw [HP5.out]); rintro e w' ⟨rfl, hb'⟩; replace hXP := hXP.next hb'; clear k0 k1 k2 k3 k4 k5; obtain ⟨k0, k1, k2, k3, k4, k5⟩ := hXP.cells))
  refine bodyPost_ret (v := .tuple #[.int .u32 v5, .bool true]) ?_ rfl ⟨by rw [HW.out, hk.out], hXP.bel⟩
  simp [results, Tryd.results67, go_sem]

-- form 3
theorem match_fz3_1 : ∀ k : Nat, k < 58 → formP (k : Int) = 3 → FZ (matchI k) 7 5 := by
  unfold FZ
  decide +kernel
theorem match_fz3_2 : ∀ k : Nat, k < 58 → formP (k : Int) = 3 → FZ (matchI k) 15 5 := by
  unfold FZ
  decide +kernel
theorem match_fz3_3 : ∀ k : Nat, k < 58 → formP (k : Int) = 3 → FZ (matchI k) 20 12 := by
  unfold FZ
  decide +kernel
set_option maxRecDepth 100000 in
set_option maxHeartbeats 4000000 in
theorem rencode_3 (x : NI) (w : World) (h0 : 0 ≤ x.imm) (h1 : x.imm < 4294967296) (hop : x.op ≠ 0) (hR : rightB x = true) (hf : formP x.op = 3) :
    Calls Tryd.prog 67 #[.agg (NC x)] w fun e w' => REncPost x w w' e := by
  have HRt := Hd.mk hR
  have HF := Hd.mk hf
  obtain ⟨⟨ho0, ho1⟩, ⟨hd0, hd1⟩, ⟨hs0, hs1⟩, ⟨ht0, ht1⟩, ⟨hc0, hc1⟩, himm, honly⟩ := rightB_parts hR
  have hk : Hd (encOk x = true) := ⟨by unfold encOk; rw [decide_eq_true hop, hR]; rfl⟩
  obtain ⟨k, hk0⟩ := Int.eq_ofNat_of_zero_le ho0
  have hk58 : k < 58 := by omega
  obtain ⟨m, hm⟩ : ∃ m, matchI x.op.toNat = m := ⟨_, rfl⟩
  have HM := Hd.mk hm
  have hmk : matchI k = m := by rw [← hm, hk0]; rfl
  have hmr := matchI_range k hk58
  rw [hmk] at hmr
  have HMk : ∃ kk : Nat, x.op = (kk : Int) + 1 ∧ kk < 57 ∧ matchI (kk + 1) = m := by
    have : 1 ≤ k := by omega
    exact ⟨k - 1, by omega, by omega, by rw [Nat.sub_add_cancel this]; exact hmk⟩
  obtain ⟨kk, hkk1, hkk2, hkk3⟩ := HMk
  have HKK := Hd.mk (And.intro hkk1 hkk3)
  have hki : (kk : Int) < 57 := by omega
  have hwk : IntKind.i64.wrap (kk : Int) = (kk : Int) := IntWalk.i64_in _ (by omega)
  have hwk2 : IntKind.i64.wrap ((kk : Int) + 1 - 1) = (kk : Int) := by rw [IntWalk.i64_in _ (by omega)]; omega
  have z1 := match_fz3_1 k hk58 (by rw [← hk0]; exact hf)
  rw [hmk] at z1
  have z2 := match_fz3_2 k hk58 (by rw [← hk0]; exact hf)
  rw [hmk] at z2
  have z3 := match_fz3_3 k hk58 (by rw [← hk0]; exact hf)
  rw [hmk] at z3
  have g1 : 0 ≤ x.rd % 32 * 128 ∧ x.rd % 32 * 128 < 4294967296 := by omega
  have HZ1 := Hd.mk z1
  obtain ⟨v1, hv1⟩ : ∃ v, orW m (x.rd % 32 * 128) = v := ⟨_, rfl⟩
  have HV1 : Hd (fput m x.rd 11 7 = v1) := ⟨by rw [← hv1]; unfold fput; congr 1⟩
  have r1 : 0 ≤ v1 ∧ v1 < 4294967296 := by rw [← hv1]; exact orW_range hmr g1
  have g2 : 0 ≤ x.rs1 % 32 * 32768 ∧ x.rs1 % 32 * 32768 < 4294967296 := by omega
  have HZ2 : Hd (FZ v1 15 5) := ⟨by rw [← hv1]; exact (z2).orW (⟨g1.1, g1.2, by omega⟩ : FZ (x.rd % 32 * 128) 15 5)⟩
  obtain ⟨v2, hv2⟩ : ∃ v, orW v1 (x.rs1 % 32 * 32768) = v := ⟨_, rfl⟩
  have HV2 : Hd (fput v1 x.rs1 19 15 = v2) := ⟨by rw [← hv2]; unfold fput; congr 1⟩
  have r2 : 0 ≤ v2 ∧ v2 < 4294967296 := by rw [← hv2]; exact orW_range r1 g2
  have g3 : 0 ≤ x.imm % 4096 * 1048576 ∧ x.imm % 4096 * 1048576 < 4294967296 := by omega
  obtain ⟨p3, hp3⟩ : ∃ p, fpart x.imm 11 0 = p := ⟨_, rfl⟩
  have HP3 := Hd.mk hp3
  have hpr3 : 0 ≤ p3 ∧ p3 < 4294967296 := by rw [← hp3]; exact part_range _ _ _ h0 (by decide)
  have hpe3 : p3 = x.imm % 4096 := by rw [← hp3]; unfold fpart; simp
  have HZ3 : Hd (FZ v2 20 12) := ⟨by rw [← hv2]; rw [← hv1]; exact ((z3).orW (⟨g1.1, g1.2, by omega⟩ : FZ (x.rd % 32 * 128) 20 12)).orW (⟨g2.1, g2.2, by omega⟩ : FZ (x.rs1 % 32 * 32768) 20 12)⟩
  obtain ⟨v3, hv3⟩ : ∃ v, orW v2 (x.imm % 4096 * 1048576) = v := ⟨_, rfl⟩
  have HV3 : Hd (fput v2 p3 31 20 = v3) := ⟨by rw [← hv3]; unfold fput; congr 1; rw [hpe3]; simp; try omega⟩
  have r3 : 0 ≤ v3 ∧ v3 < 4294967296 := by rw [← hv3]; exact orW_range r2 g3
  have HW : Hd (encV x = v3) := ⟨by
    unfold encV; rw [if_pos hk.out]; unfold encW; rw [hf]
    have qrs2 : x.rs2 % 32 * 1048576 = 0 := by
      have := congrArg NI.rs2 honly
      simp [onlyX] at this
      omega
    have qcsr : x.csr % 4096 * 1048576 = 0 := by
      have := congrArg NI.csr honly
      simp [onlyX] at this
      omega
    have hEA : encA x = v2 := by unfold encA; rw [hm, hv1, hv2, qrs2, orW_zero r2, qcsr, orW_zero r2]
    rw [if_neg (by decide), if_neg (by decide), if_pos rfl, hEA, hv3]⟩
  obtain ⟨hpr3a, hpr3b⟩ := hpr3
  have hop2 : (x.op == 0) = false := beq_eq_false_iff_ne.2 hop
  clear r1 r2 r3 hkk1 hkk3 hm hmk hmr hk0 hk58 hR hf himm honly hop z1 z2 z3 hv1 g1 hv2 g2 hv3 g3 hp3 hpe3
  have hXP : XP w (w.alloc (.cells (NC x) 36)) x := ⟨(Below.refl _ _).alloc (Nat.le_refl _) _, blk_new _ _ _⟩
  go_enter Tryd.func67, Tryd.ntmps67
  go_upto_region 1 with fail
  generalize w.alloc _ = w1 at hXP ⊢
  obtain ⟨k0, k1, k2, k3, k4, k5⟩ := hXP.cells
  go_wp2_with (first | (refine ld_blk rfl 36 _ rfl w.heap.size rfl hXP.blk Tryd.underlying36 (by rw [info36]; rfl) ?_) | (go_at_call 17; refine (rright_any x _ h0 h1).mono ?_; rw [HRt.out]; rintro e w2 ⟨rfl, hb'⟩; replace hXP := hXP.next hb'; clear k0 k1 k2 k3 k4 k5; obtain ⟨k0, k1, k2, k3, k4, k5⟩ := hXP.cells) | (go_at_call 39; refine (rform_any _ _).mono ?_; rw [HF.out]; rintro e w' ⟨rfl, rfl⟩))
  refine Late.region (S := fun w' => XP w w' x) (late := fun j => j == 1) (by kernel_rfl) ?_
  have hX8 := hXP.drew
  generalize w2.drew = w3 at hX8 ⊢
  clear hXP k0 k1 k2 k3 k4 k5
  refine Late.take (i := 1) (v := ?_) rfl (by kernel_rfl) rfl (by kernel_rfl) (by kernel_rfl) (fun _ _ _ h => h) (Or.inl ⟨by rfl, ?_⟩) ?_
  case refine_2 => intro W _; go_simp; (try with_reducible rfl)
  try simp only [Act.put, List.setIfInBounds_toArray, List.set_cons_zero, List.set_cons_succ]
  refine Late.load (i := 2) (v := ?_) rfl (by kernel_rfl) (by kernel_rfl) (by kernel_rfl) (by kernel_rfl) (fun _ _ _ h => h) (Or.inl ⟨by rfl, ?_⟩) hX8 ?_
  case refine_2 => intro W hW; have c0 := hW.cells.1; rw [HKK.out.1] at c0; clear hW; go_simp; (try with_reducible rfl)
  try simp only [Act.put, List.setIfInBounds_toArray, List.set_cons_zero, List.set_cons_succ]
  refine Late.load (i := 3) (v := ?_) rfl (by kernel_rfl) (by kernel_rfl) (by kernel_rfl) (by kernel_rfl) (fun _ _ _ h => h) (Or.inl ⟨by rfl, ?_⟩) hX8 ?_
  case refine_2 => intro W hW; clear hW; go_simp; (try with_reducible rfl)
  try simp only [Act.put, List.setIfInBounds_toArray, List.set_cons_zero, List.set_cons_succ]
  refine Late.ready1 (i := 0) (by kernel_rfl) rfl (fun K hK => ?_)
  go_simp
  refine (patterns_any _).mono ?_
  rintro e w4 ⟨b, rfl, hbb, hcl, hb'⟩
  have hc1 := hcl kk hkk2
  rw [HKK.out.2] at hc1
  have hX9 := hX8.next hb'
  clear hcl
  go_wp2_with fail
  refine hK.out _ _ (fun _ => hX9) ?_
  clear hK K
  try simp only [Act.put, List.setIfInBounds_toArray, List.set_cons_zero, List.set_cons_succ]
  refine Late.ready1 (i := 4) (by kernel_rfl) rfl (fun K hK => ?_)
  go_simp
  refine hK.out _ _ (fun _ => hX9) ?_
  clear hK K
  try simp only [Act.put, List.setIfInBounds_toArray, List.set_cons_zero, List.set_cons_succ]
  refine Late.ready1 (i := 5) (by kernel_rfl) rfl (fun K hK => ?_)
  go_simp
  refine hK.out _ _ (fun _ => hX9) ?_
  clear hK K
  try simp only [Act.put, List.setIfInBounds_toArray, List.set_cons_zero, List.set_cons_succ]
  refine Late.ready1 (i := 6) (by kernel_rfl) rfl (fun K hK => ?_)
  go_simp
  refine hK.out _ _ (fun _ => hX9) ?_
  clear hK K
  try simp only [Act.put, List.setIfInBounds_toArray, List.set_cons_zero, List.set_cons_succ]
  refine Late.ready1 (i := 7) (by kernel_rfl) rfl (fun K hK => ?_)
  go_simp
  refine hK.out _ _ (fun _ => hX9) ?_
  clear hK K
  try simp only [Act.put, List.setIfInBounds_toArray, List.set_cons_zero, List.set_cons_succ]
  refine Late.done (by kernel_rfl) ?_ _
  have hXP := hX9
  obtain ⟨k0, k1, k2, k3, k4, k5⟩ := hXP.cells
  clear hc1 hX8 hX9
  go_wp2_with (first | (go_at_call 83; refine (rput_any _ _ _ _ _ (by first | exact HZ1.out | exact HZ2.out | exact HZ3.out) (by omega) (by omega) (by decide)).mono ?_; (first | rw [HV1.out] | rw [HV2.out] | rw [HV3.out]); rintro e w' ⟨rfl, hb'⟩; replace hXP := hXP.next hb'; clear k0 k1 k2 k3 k4 k5; obtain ⟨k0, k1, k2, k3, k4, k5⟩ := hXP.cells) | (go_at_call 84; refine (rpart_any _ _ _ _ h0 h1 (by decide)).mono ?_; (first | rw [HP3.out]); rintro e w' ⟨rfl, hb'⟩; replace hXP := hXP.next hb'; clear k0 k1 k2 k3 k4 k5; obtain ⟨k0, k1, k2, k3, k4, k5⟩ := hXP.cells))
  refine bodyPost_ret (v := .tuple #[.int .u32 v3, .bool true]) ?_ rfl ⟨by rw [HW.out, hk.out], hXP.bel⟩
  simp [results, Tryd.results67, go_sem]

-- form 4
theorem match_fz4_1 : ∀ k : Nat, k < 58 → formP (k : Int) = 4 → FZ (matchI k) 15 5 := by
  unfold FZ
  decide +kernel
theorem match_fz4_2 : ∀ k : Nat, k < 58 → formP (k : Int) = 4 → FZ (matchI k) 20 5 := by
  unfold FZ
  decide +kernel
theorem match_fz4_3 : ∀ k : Nat, k < 58 → formP (k : Int) = 4 → FZ (matchI k) 31 1 := by
  unfold FZ
  decide +kernel
theorem match_fz4_4 : ∀ k : Nat, k < 58 → formP (k : Int) = 4 → FZ (matchI k) 7 1 := by
  unfold FZ
  decide +kernel
theorem match_fz4_5 : ∀ k : Nat, k < 58 → formP (k : Int) = 4 → FZ (matchI k) 25 6 := by
  unfold FZ
  decide +kernel
theorem match_fz4_6 : ∀ k : Nat, k < 58 → formP (k : Int) = 4 → FZ (matchI k) 8 4 := by
  unfold FZ
  decide +kernel
set_option maxRecDepth 100000 in
set_option maxHeartbeats 4000000 in
theorem rencode_4 (x : NI) (w : World) (h0 : 0 ≤ x.imm) (h1 : x.imm < 4294967296) (hop : x.op ≠ 0) (hR : rightB x = true) (hf : formP x.op = 4) :
    Calls Tryd.prog 67 #[.agg (NC x)] w fun e w' => REncPost x w w' e := by
  have HRt := Hd.mk hR
  have HF := Hd.mk hf
  obtain ⟨⟨ho0, ho1⟩, ⟨hd0, hd1⟩, ⟨hs0, hs1⟩, ⟨ht0, ht1⟩, ⟨hc0, hc1⟩, himm, honly⟩ := rightB_parts hR
  have hk : Hd (encOk x = true) := ⟨by unfold encOk; rw [decide_eq_true hop, hR]; rfl⟩
  obtain ⟨k, hk0⟩ := Int.eq_ofNat_of_zero_le ho0
  have hk58 : k < 58 := by omega
  obtain ⟨m, hm⟩ : ∃ m, matchI x.op.toNat = m := ⟨_, rfl⟩
  have HM := Hd.mk hm
  have hmk : matchI k = m := by rw [← hm, hk0]; rfl
  have hmr := matchI_range k hk58
  rw [hmk] at hmr
  have HMk : ∃ kk : Nat, x.op = (kk : Int) + 1 ∧ kk < 57 ∧ matchI (kk + 1) = m := by
    have : 1 ≤ k := by omega
    exact ⟨k - 1, by omega, by omega, by rw [Nat.sub_add_cancel this]; exact hmk⟩
  obtain ⟨kk, hkk1, hkk2, hkk3⟩ := HMk
  have HKK := Hd.mk (And.intro hkk1 hkk3)
  have hki : (kk : Int) < 57 := by omega
  have hwk : IntKind.i64.wrap (kk : Int) = (kk : Int) := IntWalk.i64_in _ (by omega)
  have hwk2 : IntKind.i64.wrap ((kk : Int) + 1 - 1) = (kk : Int) := by rw [IntWalk.i64_in _ (by omega)]; omega
  have z1 := match_fz4_1 k hk58 (by rw [← hk0]; exact hf)
  rw [hmk] at z1
  have z2 := match_fz4_2 k hk58 (by rw [← hk0]; exact hf)
  rw [hmk] at z2
  have z3 := match_fz4_3 k hk58 (by rw [← hk0]; exact hf)
  rw [hmk] at z3
  have z4 := match_fz4_4 k hk58 (by rw [← hk0]; exact hf)
  rw [hmk] at z4
  have z5 := match_fz4_5 k hk58 (by rw [← hk0]; exact hf)
  rw [hmk] at z5
  have z6 := match_fz4_6 k hk58 (by rw [← hk0]; exact hf)
  rw [hmk] at z6
  have g1 : 0 ≤ x.rs1 % 32 * 32768 ∧ x.rs1 % 32 * 32768 < 4294967296 := by omega
  have HZ1 := Hd.mk z1
  obtain ⟨v1, hv1⟩ : ∃ v, orW m (x.rs1 % 32 * 32768) = v := ⟨_, rfl⟩
  have HV1 : Hd (fput m x.rs1 19 15 = v1) := ⟨by rw [← hv1]; unfold fput; congr 1⟩
  have r1 : 0 ≤ v1 ∧ v1 < 4294967296 := by rw [← hv1]; exact orW_range hmr g1
  have g2 : 0 ≤ x.rs2 % 32 * 1048576 ∧ x.rs2 % 32 * 1048576 < 4294967296 := by omega
  have HZ2 : Hd (FZ v1 20 5) := ⟨by rw [← hv1]; exact (z2).orW (⟨g1.1, g1.2, by omega⟩ : FZ (x.rs1 % 32 * 32768) 20 5)⟩
  obtain ⟨v2, hv2⟩ : ∃ v, orW v1 (x.rs2 % 32 * 1048576) = v := ⟨_, rfl⟩
  have HV2 : Hd (fput v1 x.rs2 24 20 = v2) := ⟨by rw [← hv2]; unfold fput; congr 1⟩
  have r2 : 0 ≤ v2 ∧ v2 < 4294967296 := by rw [← hv2]; exact orW_range r1 g2
  have g3 : 0 ≤ x.imm / 4096 % 2 * 2147483648 ∧ x.imm / 4096 % 2 * 2147483648 < 4294967296 := by omega
  obtain ⟨p3, hp3⟩ : ∃ p, fpart x.imm 12 12 = p := ⟨_, rfl⟩
  have HP3 := Hd.mk hp3
  have hpr3 : 0 ≤ p3 ∧ p3 < 4294967296 := by rw [← hp3]; exact part_range _ _ _ h0 (by decide)
  have hpe3 : p3 = x.imm / 4096 % 2 := by rw [← hp3]; unfold fpart; simp
  have HZ3 : Hd (FZ v2 31 1) := ⟨by rw [← hv2]; rw [← hv1]; exact ((z3).orW (⟨g1.1, g1.2, by omega⟩ : FZ (x.rs1 % 32 * 32768) 31 1)).orW (⟨g2.1, g2.2, by omega⟩ : FZ (x.rs2 % 32 * 1048576) 31 1)⟩
  obtain ⟨v3, hv3⟩ : ∃ v, orW v2 (x.imm / 4096 % 2 * 2147483648) = v := ⟨_, rfl⟩
  have HV3 : Hd (fput v2 p3 31 31 = v3) := ⟨by rw [← hv3]; unfold fput; congr 1; rw [hpe3]; simp; try omega⟩
  have r3 : 0 ≤ v3 ∧ v3 < 4294967296 := by rw [← hv3]; exact orW_range r2 g3
  have g4 : 0 ≤ x.imm / 2048 % 2 * 128 ∧ x.imm / 2048 % 2 * 128 < 4294967296 := by omega
  obtain ⟨p4, hp4⟩ : ∃ p, fpart x.imm 11 11 = p := ⟨_, rfl⟩
  have HP4 := Hd.mk hp4
  have hpr4 : 0 ≤ p4 ∧ p4 < 4294967296 := by rw [← hp4]; exact part_range _ _ _ h0 (by decide)
  have hpe4 : p4 = x.imm / 2048 % 2 := by rw [← hp4]; unfold fpart; simp
  have HZ4 : Hd (FZ v3 7 1) := ⟨by rw [← hv3]; rw [← hv2]; rw [← hv1]; exact (((z4).orW (⟨g1.1, g1.2, by omega⟩ : FZ (x.rs1 % 32 * 32768) 7 1)).orW (⟨g2.1, g2.2, by omega⟩ : FZ (x.rs2 % 32 * 1048576) 7 1)).orW (⟨g3.1, g3.2, by omega⟩ : FZ (x.imm / 4096 % 2 * 2147483648) 7 1)⟩
  obtain ⟨v4, hv4⟩ : ∃ v, orW v3 (x.imm / 2048 % 2 * 128) = v := ⟨_, rfl⟩
  have HV4 : Hd (fput v3 p4 7 7 = v4) := ⟨by rw [← hv4]; unfold fput; congr 1; rw [hpe4]; simp; try omega⟩
  have r4 : 0 ≤ v4 ∧ v4 < 4294967296 := by rw [← hv4]; exact orW_range r3 g4
  have g5 : 0 ≤ x.imm / 32 % 64 * 33554432 ∧ x.imm / 32 % 64 * 33554432 < 4294967296 := by omega
  obtain ⟨p5, hp5⟩ : ∃ p, fpart x.imm 10 5 = p := ⟨_, rfl⟩
  have HP5 := Hd.mk hp5
  have hpr5 : 0 ≤ p5 ∧ p5 < 4294967296 := by rw [← hp5]; exact part_range _ _ _ h0 (by decide)
  have hpe5 : p5 = x.imm / 32 % 64 := by rw [← hp5]; unfold fpart; simp
  have HZ5 : Hd (FZ v4 25 6) := ⟨by rw [← hv4]; rw [← hv3]; rw [← hv2]; rw [← hv1]; exact ((((z5).orW (⟨g1.1, g1.2, by omega⟩ : FZ (x.rs1 % 32 * 32768) 25 6)).orW (⟨g2.1, g2.2, by omega⟩ : FZ (x.rs2 % 32 * 1048576) 25 6)).orW (⟨g3.1, g3.2, by omega⟩ : FZ (x.imm / 4096 % 2 * 2147483648) 25 6)).orW (⟨g4.1, g4.2, by omega⟩ : FZ (x.imm / 2048 % 2 * 128) 25 6)⟩
  obtain ⟨v5, hv5⟩ : ∃ v, orW v4 (x.imm / 32 % 64 * 33554432) = v := ⟨_, rfl⟩
  have HV5 : Hd (fput v4 p5 30 25 = v5) := ⟨by rw [← hv5]; unfold fput; congr 1; rw [hpe5]; simp; try omega⟩
  have r5 : 0 ≤ v5 ∧ v5 < 4294967296 := by rw [← hv5]; exact orW_range r4 g5
  have g6 : 0 ≤ x.imm / 2 % 16 * 256 ∧ x.imm / 2 % 16 * 256 < 4294967296 := by omega
  obtain ⟨p6, hp6⟩ : ∃ p, fpart x.imm 4 1 = p := ⟨_, rfl⟩
  have HP6 := Hd.mk hp6
  have hpr6 : 0 ≤ p6 ∧ p6 < 4294967296 := by rw [← hp6]; exact part_range _ _ _ h0 (by decide)
  have hpe6 : p6 = x.imm / 2 % 16 := by rw [← hp6]; unfold fpart; simp
  have HZ6 : Hd (FZ v5 8 4) := ⟨by rw [← hv5]; rw [← hv4]; rw [← hv3]; rw [← hv2]; rw [← hv1]; exact (((((z6).orW (⟨g1.1, g1.2, by omega⟩ : FZ (x.rs1 % 32 * 32768) 8 4)).orW (⟨g2.1, g2.2, by omega⟩ : FZ (x.rs2 % 32 * 1048576) 8 4)).orW (⟨g3.1, g3.2, by omega⟩ : FZ (x.imm / 4096 % 2 * 2147483648) 8 4)).orW (⟨g4.1, g4.2, by omega⟩ : FZ (x.imm / 2048 % 2 * 128) 8 4)).orW (⟨g5.1, g5.2, by omega⟩ : FZ (x.imm / 32 % 64 * 33554432) 8 4)⟩
  obtain ⟨v6, hv6⟩ : ∃ v, orW v5 (x.imm / 2 % 16 * 256) = v := ⟨_, rfl⟩
  have HV6 : Hd (fput v5 p6 11 8 = v6) := ⟨by rw [← hv6]; unfold fput; congr 1; rw [hpe6]; simp; try omega⟩
  have r6 : 0 ≤ v6 ∧ v6 < 4294967296 := by rw [← hv6]; exact orW_range r5 g6
  have HW : Hd (encV x = v6) := ⟨by
    unfold encV; rw [if_pos hk.out]; unfold encW; rw [hf]
    have qrd : x.rd % 32 * 128 = 0 := by
      have := congrArg NI.rd honly
      simp [onlyX] at this
      omega
    have qcsr : x.csr % 4096 * 1048576 = 0 := by
      have := congrArg NI.csr honly
      simp [onlyX] at this
      omega
    have hEA : encA x = v2 := by unfold encA; rw [hm, qrd, orW_zero hmr, hv1, hv2, qcsr, orW_zero r2]
    rw [if_neg (by decide), if_neg (by decide), if_neg (by decide), if_pos rfl, hEA, hv3, hv4, hv5, hv6]⟩
  obtain ⟨hpr3a, hpr3b⟩ := hpr3
  obtain ⟨hpr4a, hpr4b⟩ := hpr4
  obtain ⟨hpr5a, hpr5b⟩ := hpr5
  obtain ⟨hpr6a, hpr6b⟩ := hpr6
  have hop2 : (x.op == 0) = false := beq_eq_false_iff_ne.2 hop
  clear r1 r2 r3 r4 r5 r6 hkk1 hkk3 hm hmk hmr hk0 hk58 hR hf himm honly hop z1 z2 z3 z4 z5 z6 hv1 g1 hv2 g2 hv3 g3 hv4 g4 hv5 g5 hv6 g6 hp3 hpe3 hp4 hpe4 hp5 hpe5 hp6 hpe6
  have hXP : XP w (w.alloc (.cells (NC x) 36)) x := ⟨(Below.refl _ _).alloc (Nat.le_refl _) _, blk_new _ _ _⟩
  go_enter Tryd.func67, Tryd.ntmps67
  go_upto_region 1 with fail
  generalize w.alloc _ = w1 at hXP ⊢
  obtain ⟨k0, k1, k2, k3, k4, k5⟩ := hXP.cells
  go_wp2_with (first | (refine ld_blk rfl 36 _ rfl w.heap.size rfl hXP.blk Tryd.underlying36 (by rw [info36]; rfl) ?_) | (go_at_call 17; refine (rright_any x _ h0 h1).mono ?_; rw [HRt.out]; rintro e w2 ⟨rfl, hb'⟩; replace hXP := hXP.next hb'; clear k0 k1 k2 k3 k4 k5; obtain ⟨k0, k1, k2, k3, k4, k5⟩ := hXP.cells) | (go_at_call 39; refine (rform_any _ _).mono ?_; rw [HF.out]; rintro e w' ⟨rfl, rfl⟩))
  refine Late.region (S := fun w' => XP w w' x) (late := fun j => j == 1) (by kernel_rfl) ?_
  have hX8 := hXP.drew
  generalize w2.drew = w3 at hX8 ⊢
  clear hXP k0 k1 k2 k3 k4 k5
  refine Late.take (i := 1) (v := ?_) rfl (by kernel_rfl) rfl (by kernel_rfl) (by kernel_rfl) (fun _ _ _ h => h) (Or.inl ⟨by rfl, ?_⟩) ?_
  case refine_2 => intro W _; go_simp; (try with_reducible rfl)
  try simp only [Act.put, List.setIfInBounds_toArray, List.set_cons_zero, List.set_cons_succ]
  refine Late.load (i := 2) (v := ?_) rfl (by kernel_rfl) (by kernel_rfl) (by kernel_rfl) (by kernel_rfl) (fun _ _ _ h => h) (Or.inl ⟨by rfl, ?_⟩) hX8 ?_
  case refine_2 => intro W hW; have c0 := hW.cells.1; rw [HKK.out.1] at c0; clear hW; go_simp; (try with_reducible rfl)
  try simp only [Act.put, List.setIfInBounds_toArray, List.set_cons_zero, List.set_cons_succ]
  refine Late.load (i := 3) (v := ?_) rfl (by kernel_rfl) (by kernel_rfl) (by kernel_rfl) (by kernel_rfl) (fun _ _ _ h => h) (Or.inl ⟨by rfl, ?_⟩) hX8 ?_
  case refine_2 => intro W hW; clear hW; go_simp; (try with_reducible rfl)
  try simp only [Act.put, List.setIfInBounds_toArray, List.set_cons_zero, List.set_cons_succ]
  refine Late.ready1 (i := 0) (by kernel_rfl) rfl (fun K hK => ?_)
  go_simp
  refine (patterns_any _).mono ?_
  rintro e w4 ⟨b, rfl, hbb, hcl, hb'⟩
  have hc1 := hcl kk hkk2
  rw [HKK.out.2] at hc1
  have hX9 := hX8.next hb'
  clear hcl
  go_wp2_with fail
  refine hK.out _ _ (fun _ => hX9) ?_
  clear hK K
  try simp only [Act.put, List.setIfInBounds_toArray, List.set_cons_zero, List.set_cons_succ]
  refine Late.ready1 (i := 4) (by kernel_rfl) rfl (fun K hK => ?_)
  go_simp
  refine hK.out _ _ (fun _ => hX9) ?_
  clear hK K
  try simp only [Act.put, List.setIfInBounds_toArray, List.set_cons_zero, List.set_cons_succ]
  refine Late.ready1 (i := 5) (by kernel_rfl) rfl (fun K hK => ?_)
  go_simp
  refine hK.out _ _ (fun _ => hX9) ?_
  clear hK K
  try simp only [Act.put, List.setIfInBounds_toArray, List.set_cons_zero, List.set_cons_succ]
  refine Late.ready1 (i := 6) (by kernel_rfl) rfl (fun K hK => ?_)
  go_simp
  refine hK.out _ _ (fun _ => hX9) ?_
  clear hK K
  try simp only [Act.put, List.setIfInBounds_toArray, List.set_cons_zero, List.set_cons_succ]
  refine Late.ready1 (i := 7) (by kernel_rfl) rfl (fun K hK => ?_)
  go_simp
  refine hK.out _ _ (fun _ => hX9) ?_
  clear hK K
  try simp only [Act.put, List.setIfInBounds_toArray, List.set_cons_zero, List.set_cons_succ]
  refine Late.done (by kernel_rfl) ?_ _
  have hXP := hX9
  obtain ⟨k0, k1, k2, k3, k4, k5⟩ := hXP.cells
  clear hc1 hX8 hX9
  go_wp2_with (first | (go_at_call 83; refine (rput_any _ _ _ _ _ (by first | exact HZ1.out | exact HZ2.out | exact HZ3.out | exact HZ4.out | exact HZ5.out | exact HZ6.out) (by omega) (by omega) (by decide)).mono ?_; (first | rw [HV1.out] | rw [HV2.out] | rw [HV3.out] | rw [HV4.out] | rw [HV5.out] | rw [HV6.out]); rintro e w' ⟨rfl, hb'⟩; replace hXP := hXP.next hb'; clear k0 k1 k2 k3 k4 k5; obtain ⟨k0, k1, k2, k3, k4, k5⟩ := hXP.cells) | (go_at_call 84; refine (rpart_any _ _ _ _ h0 h1 (by decide)).mono ?_; (first | rw [HP3.out] | rw [HP4.out] | rw [HP5.out] | rw [HP6.out]); rintro e w' ⟨rfl, hb'⟩; replace hXP := hXP.next hb'; clear k0 k1 k2 k3 k4 k5; obtain ⟨k0, k1, k2, k3, k4, k5⟩ := hXP.cells))
  refine bodyPost_ret (v := .tuple #[.int .u32 v6, .bool true]) ?_ rfl ⟨by rw [HW.out, hk.out], hXP.bel⟩
  simp [results, Tryd.results67, go_sem]

-- form 5
theorem match_fz5_1 : ∀ k : Nat, k < 58 → formP (k : Int) = 5 → FZ (matchI k) 15 5 := by
  unfold FZ
  decide +kernel
theorem match_fz5_2 : ∀ k : Nat, k < 58 → formP (k : Int) = 5 → FZ (matchI k) 20 5 := by
  unfold FZ
  decide +kernel
theorem match_fz5_3 : ∀ k : Nat, k < 58 → formP (k : Int) = 5 → FZ (matchI k) 25 7 := by
  unfold FZ
  decide +kernel
theorem match_fz5_4 : ∀ k : Nat, k < 58 → formP (k : Int) = 5 → FZ (matchI k) 7 5 := by
  unfold FZ
  decide +kernel
set_option maxRecDepth 100000 in
set_option maxHeartbeats 4000000 in
theorem rencode_5 (x : NI) (w : World) (h0 : 0 ≤ x.imm) (h1 : x.imm < 4294967296) (hop : x.op ≠ 0) (hR : rightB x = true) (hf : formP x.op = 5) :
    Calls Tryd.prog 67 #[.agg (NC x)] w fun e w' => REncPost x w w' e := by
  have HRt := Hd.mk hR
  have HF := Hd.mk hf
  obtain ⟨⟨ho0, ho1⟩, ⟨hd0, hd1⟩, ⟨hs0, hs1⟩, ⟨ht0, ht1⟩, ⟨hc0, hc1⟩, himm, honly⟩ := rightB_parts hR
  have hk : Hd (encOk x = true) := ⟨by unfold encOk; rw [decide_eq_true hop, hR]; rfl⟩
  obtain ⟨k, hk0⟩ := Int.eq_ofNat_of_zero_le ho0
  have hk58 : k < 58 := by omega
  obtain ⟨m, hm⟩ : ∃ m, matchI x.op.toNat = m := ⟨_, rfl⟩
  have HM := Hd.mk hm
  have hmk : matchI k = m := by rw [← hm, hk0]; rfl
  have hmr := matchI_range k hk58
  rw [hmk] at hmr
  have HMk : ∃ kk : Nat, x.op = (kk : Int) + 1 ∧ kk < 57 ∧ matchI (kk + 1) = m := by
    have : 1 ≤ k := by omega
    exact ⟨k - 1, by omega, by omega, by rw [Nat.sub_add_cancel this]; exact hmk⟩
  obtain ⟨kk, hkk1, hkk2, hkk3⟩ := HMk
  have HKK := Hd.mk (And.intro hkk1 hkk3)
  have hki : (kk : Int) < 57 := by omega
  have hwk : IntKind.i64.wrap (kk : Int) = (kk : Int) := IntWalk.i64_in _ (by omega)
  have hwk2 : IntKind.i64.wrap ((kk : Int) + 1 - 1) = (kk : Int) := by rw [IntWalk.i64_in _ (by omega)]; omega
  have z1 := match_fz5_1 k hk58 (by rw [← hk0]; exact hf)
  rw [hmk] at z1
  have z2 := match_fz5_2 k hk58 (by rw [← hk0]; exact hf)
  rw [hmk] at z2
  have z3 := match_fz5_3 k hk58 (by rw [← hk0]; exact hf)
  rw [hmk] at z3
  have z4 := match_fz5_4 k hk58 (by rw [← hk0]; exact hf)
  rw [hmk] at z4
  have g1 : 0 ≤ x.rs1 % 32 * 32768 ∧ x.rs1 % 32 * 32768 < 4294967296 := by omega
  have HZ1 := Hd.mk z1
  obtain ⟨v1, hv1⟩ : ∃ v, orW m (x.rs1 % 32 * 32768) = v := ⟨_, rfl⟩
  have HV1 : Hd (fput m x.rs1 19 15 = v1) := ⟨by rw [← hv1]; unfold fput; congr 1⟩
  have r1 : 0 ≤ v1 ∧ v1 < 4294967296 := by rw [← hv1]; exact orW_range hmr g1
  have g2 : 0 ≤ x.rs2 % 32 * 1048576 ∧ x.rs2 % 32 * 1048576 < 4294967296 := by omega
  have HZ2 : Hd (FZ v1 20 5) := ⟨by rw [← hv1]; exact (z2).orW (⟨g1.1, g1.2, by omega⟩ : FZ (x.rs1 % 32 * 32768) 20 5)⟩
  obtain ⟨v2, hv2⟩ : ∃ v, orW v1 (x.rs2 % 32 * 1048576) = v := ⟨_, rfl⟩
  have HV2 : Hd (fput v1 x.rs2 24 20 = v2) := ⟨by rw [← hv2]; unfold fput; congr 1⟩
  have r2 : 0 ≤ v2 ∧ v2 < 4294967296 := by rw [← hv2]; exact orW_range r1 g2
  have g3 : 0 ≤ x.imm / 32 % 128 * 33554432 ∧ x.imm / 32 % 128 * 33554432 < 4294967296 := by omega
  obtain ⟨p3, hp3⟩ : ∃ p, fpart x.imm 11 5 = p := ⟨_, rfl⟩
  have HP3 := Hd.mk hp3
  have hpr3 : 0 ≤ p3 ∧ p3 < 4294967296 := by rw [← hp3]; exact part_range _ _ _ h0 (by decide)
  have hpe3 : p3 = x.imm / 32 % 128 := by rw [← hp3]; unfold fpart; simp
  have HZ3 : Hd (FZ v2 25 7) := ⟨by rw [← hv2]; rw [← hv1]; exact ((z3).orW (⟨g1.1, g1.2, by omega⟩ : FZ (x.rs1 % 32 * 32768) 25 7)).orW (⟨g2.1, g2.2, by omega⟩ : FZ (x.rs2 % 32 * 1048576) 25 7)⟩
  obtain ⟨v3, hv3⟩ : ∃ v, orW v2 (x.imm / 32 % 128 * 33554432) = v := ⟨_, rfl⟩
  have HV3 : Hd (fput v2 p3 31 25 = v3) := ⟨by rw [← hv3]; unfold fput; congr 1; rw [hpe3]; simp; try omega⟩
  have r3 : 0 ≤ v3 ∧ v3 < 4294967296 := by rw [← hv3]; exact orW_range r2 g3
  have g4 : 0 ≤ x.imm % 32 * 128 ∧ x.imm % 32 * 128 < 4294967296 := by omega
  obtain ⟨p4, hp4⟩ : ∃ p, fpart x.imm 4 0 = p := ⟨_, rfl⟩
  have HP4 := Hd.mk hp4
  have hpr4 : 0 ≤ p4 ∧ p4 < 4294967296 := by rw [← hp4]; exact part_range _ _ _ h0 (by decide)
  have hpe4 : p4 = x.imm % 32 := by rw [← hp4]; unfold fpart; simp
  have HZ4 : Hd (FZ v3 7 5) := ⟨by rw [← hv3]; rw [← hv2]; rw [← hv1]; exact (((z4).orW (⟨g1.1, g1.2, by omega⟩ : FZ (x.rs1 % 32 * 32768) 7 5)).orW (⟨g2.1, g2.2, by omega⟩ : FZ (x.rs2 % 32 * 1048576) 7 5)).orW (⟨g3.1, g3.2, by omega⟩ : FZ (x.imm / 32 % 128 * 33554432) 7 5)⟩
  obtain ⟨v4, hv4⟩ : ∃ v, orW v3 (x.imm % 32 * 128) = v := ⟨_, rfl⟩
  have HV4 : Hd (fput v3 p4 11 7 = v4) := ⟨by rw [← hv4]; unfold fput; congr 1; rw [hpe4]; simp; try omega⟩
  have r4 : 0 ≤ v4 ∧ v4 < 4294967296 := by rw [← hv4]; exact orW_range r3 g4
  have HW : Hd (encV x = v4) := ⟨by
    unfold encV; rw [if_pos hk.out]; unfold encW; rw [hf]
    have qrd : x.rd % 32 * 128 = 0 := by
      have := congrArg NI.rd honly
      simp [onlyX] at this
      omega
    have qcsr : x.csr % 4096 * 1048576 = 0 := by
      have := congrArg NI.csr honly
      simp [onlyX] at this
      omega
    have hEA : encA x = v2 := by unfold encA; rw [hm, qrd, orW_zero hmr, hv1, hv2, qcsr, orW_zero r2]
    rw [if_neg (by decide), if_neg (by decide), if_neg (by decide), if_neg (by decide), if_pos rfl, hEA, hv3, hv4]⟩
  obtain ⟨hpr3a, hpr3b⟩ := hpr3
  obtain ⟨hpr4a, hpr4b⟩ := hpr4
  have hop2 : (x.op == 0) = false := beq_eq_false_iff_ne.2 hop
  clear r1 r2 r3 r4 hkk1 hkk3 hm hmk hmr hk0 hk58 hR hf himm honly hop z1 z2 z3 z4 hv1 g1 hv2 g2 hv3 g3 hv4 g4 hp3 hpe3 hp4 hpe4
  have hXP : XP w (w.alloc (.cells (NC x) 36)) x := ⟨(Below.refl _ _).alloc (Nat.le_refl _) _, blk_new _ _ _⟩
  go_enter Tryd.func67, Tryd.ntmps67
  go_upto_region 1 with fail
  generalize w.alloc _ = w1 at hXP ⊢
  obtain ⟨k0, k1, k2, k3, k4, k5⟩ := hXP.cells
  go_wp2_with (first | (refine ld_blk rfl 36 _ rfl w.heap.size rfl hXP.blk Tryd.underlying36 (by rw [info36]; rfl) ?_) | (go_at_call 17; refine (rright_any x _ h0 h1).mono ?_; rw [HRt.out]; rintro e w2 ⟨rfl, hb'⟩; replace hXP := hXP.next hb'; clear k0 k1 k2 k3 k4 k5; obtain ⟨k0, k1, k2, k3, k4, k5⟩ := hXP.cells) | (go_at_call 39; refine (rform_any _ _).mono ?_; rw [HF.out]; rintro e w' ⟨rfl, rfl⟩))
  refine Late.region (S := fun w' => XP w w' x) (late := fun j => j == 1) (by kernel_rfl) ?_
  have hX8 := hXP.drew
  generalize w2.drew = w3 at hX8 ⊢
  clear hXP k0 k1 k2 k3 k4 k5
  refine Late.take (i := 1) (v := ?_) rfl (by kernel_rfl) rfl (by kernel_rfl) (by kernel_rfl) (fun _ _ _ h => h) (Or.inl ⟨by rfl, ?_⟩) ?_
  case refine_2 => intro W _; go_simp; (try with_reducible rfl)
  try simp only [Act.put, List.setIfInBounds_toArray, List.set_cons_zero, List.set_cons_succ]
  refine Late.load (i := 2) (v := ?_) rfl (by kernel_rfl) (by kernel_rfl) (by kernel_rfl) (by kernel_rfl) (fun _ _ _ h => h) (Or.inl ⟨by rfl, ?_⟩) hX8 ?_
  case refine_2 => intro W hW; have c0 := hW.cells.1; rw [HKK.out.1] at c0; clear hW; go_simp; (try with_reducible rfl)
  try simp only [Act.put, List.setIfInBounds_toArray, List.set_cons_zero, List.set_cons_succ]
  refine Late.load (i := 3) (v := ?_) rfl (by kernel_rfl) (by kernel_rfl) (by kernel_rfl) (by kernel_rfl) (fun _ _ _ h => h) (Or.inl ⟨by rfl, ?_⟩) hX8 ?_
  case refine_2 => intro W hW; clear hW; go_simp; (try with_reducible rfl)
  try simp only [Act.put, List.setIfInBounds_toArray, List.set_cons_zero, List.set_cons_succ]
  refine Late.ready1 (i := 0) (by kernel_rfl) rfl (fun K hK => ?_)
  go_simp
  refine (patterns_any _).mono ?_
  rintro e w4 ⟨b, rfl, hbb, hcl, hb'⟩
  have hc1 := hcl kk hkk2
  rw [HKK.out.2] at hc1
  have hX9 := hX8.next hb'
  clear hcl
  go_wp2_with fail
  refine hK.out _ _ (fun _ => hX9) ?_
  clear hK K
  try simp only [Act.put, List.setIfInBounds_toArray, List.set_cons_zero, List.set_cons_succ]
  refine Late.ready1 (i := 4) (by kernel_rfl) rfl (fun K hK => ?_)
  go_simp
  refine hK.out _ _ (fun _ => hX9) ?_
  clear hK K
  try simp only [Act.put, List.setIfInBounds_toArray, List.set_cons_zero, List.set_cons_succ]
  refine Late.ready1 (i := 5) (by kernel_rfl) rfl (fun K hK => ?_)
  go_simp
  refine hK.out _ _ (fun _ => hX9) ?_
  clear hK K
  try simp only [Act.put, List.setIfInBounds_toArray, List.set_cons_zero, List.set_cons_succ]
  refine Late.ready1 (i := 6) (by kernel_rfl) rfl (fun K hK => ?_)
  go_simp
  refine hK.out _ _ (fun _ => hX9) ?_
  clear hK K
  try simp only [Act.put, List.setIfInBounds_toArray, List.set_cons_zero, List.set_cons_succ]
  refine Late.ready1 (i := 7) (by kernel_rfl) rfl (fun K hK => ?_)
  go_simp
  refine hK.out _ _ (fun _ => hX9) ?_
  clear hK K
  try simp only [Act.put, List.setIfInBounds_toArray, List.set_cons_zero, List.set_cons_succ]
  refine Late.done (by kernel_rfl) ?_ _
  have hXP := hX9
  obtain ⟨k0, k1, k2, k3, k4, k5⟩ := hXP.cells
  clear hc1 hX8 hX9
  go_wp2_with (first | (go_at_call 83; refine (rput_any _ _ _ _ _ (by first | exact HZ1.out | exact HZ2.out | exact HZ3.out | exact HZ4.out) (by omega) (by omega) (by decide)).mono ?_; (first | rw [HV1.out] | rw [HV2.out] | rw [HV3.out] | rw [HV4.out]); rintro e w' ⟨rfl, hb'⟩; replace hXP := hXP.next hb'; clear k0 k1 k2 k3 k4 k5; obtain ⟨k0, k1, k2, k3, k4, k5⟩ := hXP.cells) | (go_at_call 84; refine (rpart_any _ _ _ _ h0 h1 (by decide)).mono ?_; (first | rw [HP3.out] | rw [HP4.out]); rintro e w' ⟨rfl, hb'⟩; replace hXP := hXP.next hb'; clear k0 k1 k2 k3 k4 k5; obtain ⟨k0, k1, k2, k3, k4, k5⟩ := hXP.cells))
  refine bodyPost_ret (v := .tuple #[.int .u32 v4, .bool true]) ?_ rfl ⟨by rw [HW.out, hk.out], hXP.bel⟩
  simp [results, Tryd.results67, go_sem]

-- form 6
theorem match_fz6_1 : ∀ k : Nat, k < 58 → formP (k : Int) = 6 → FZ (matchI k) 7 5 := by
  unfold FZ
  decide +kernel
theorem match_fz6_2 : ∀ k : Nat, k < 58 → formP (k : Int) = 6 → FZ (matchI k) 15 5 := by
  unfold FZ
  decide +kernel
theorem match_fz6_3 : ∀ k : Nat, k < 58 → formP (k : Int) = 6 → FZ (matchI k) 20 5 := by
  unfold FZ
  decide +kernel
set_option maxRecDepth 100000 in
set_option maxHeartbeats 4000000 in
theorem rencode_6 (x : NI) (w : World) (h0 : 0 ≤ x.imm) (h1 : x.imm < 4294967296) (hop : x.op ≠ 0) (hR : rightB x = true) (hf : formP x.op = 6) :
    Calls Tryd.prog 67 #[.agg (NC x)] w fun e w' => REncPost x w w' e := by
  have HRt := Hd.mk hR
  have HF := Hd.mk hf
  obtain ⟨⟨ho0, ho1⟩, ⟨hd0, hd1⟩, ⟨hs0, hs1⟩, ⟨ht0, ht1⟩, ⟨hc0, hc1⟩, himm, honly⟩ := rightB_parts hR
  have hk : Hd (encOk x = true) := ⟨by unfold encOk; rw [decide_eq_true hop, hR]; rfl⟩
  obtain ⟨k, hk0⟩ := Int.eq_ofNat_of_zero_le ho0
  have hk58 : k < 58 := by omega
  obtain ⟨m, hm⟩ : ∃ m, matchI x.op.toNat = m := ⟨_, rfl⟩
  have HM := Hd.mk hm
  have hmk : matchI k = m := by rw [← hm, hk0]; rfl
  have hmr := matchI_range k hk58
  rw [hmk] at hmr
  have HMk : ∃ kk : Nat, x.op = (kk : Int) + 1 ∧ kk < 57 ∧ matchI (kk + 1) = m := by
    have : 1 ≤ k := by omega
    exact ⟨k - 1, by omega, by omega, by rw [Nat.sub_add_cancel this]; exact hmk⟩
  obtain ⟨kk, hkk1, hkk2, hkk3⟩ := HMk
  have HKK := Hd.mk (And.intro hkk1 hkk3)
  have hki : (kk : Int) < 57 := by omega
  have hwk : IntKind.i64.wrap (kk : Int) = (kk : Int) := IntWalk.i64_in _ (by omega)
  have hwk2 : IntKind.i64.wrap ((kk : Int) + 1 - 1) = (kk : Int) := by rw [IntWalk.i64_in _ (by omega)]; omega
  have z1 := match_fz6_1 k hk58 (by rw [← hk0]; exact hf)
  rw [hmk] at z1
  have z2 := match_fz6_2 k hk58 (by rw [← hk0]; exact hf)
  rw [hmk] at z2
  have z3 := match_fz6_3 k hk58 (by rw [← hk0]; exact hf)
  rw [hmk] at z3
  have g1 : 0 ≤ x.rd % 32 * 128 ∧ x.rd % 32 * 128 < 4294967296 := by omega
  have HZ1 := Hd.mk z1
  obtain ⟨v1, hv1⟩ : ∃ v, orW m (x.rd % 32 * 128) = v := ⟨_, rfl⟩
  have HV1 : Hd (fput m x.rd 11 7 = v1) := ⟨by rw [← hv1]; unfold fput; congr 1⟩
  have r1 : 0 ≤ v1 ∧ v1 < 4294967296 := by rw [← hv1]; exact orW_range hmr g1
  have g2 : 0 ≤ x.rs1 % 32 * 32768 ∧ x.rs1 % 32 * 32768 < 4294967296 := by omega
  have HZ2 : Hd (FZ v1 15 5) := ⟨by rw [← hv1]; exact (z2).orW (⟨g1.1, g1.2, by omega⟩ : FZ (x.rd % 32 * 128) 15 5)⟩
  obtain ⟨v2, hv2⟩ : ∃ v, orW v1 (x.rs1 % 32 * 32768) = v := ⟨_, rfl⟩
  have HV2 : Hd (fput v1 x.rs1 19 15 = v2) := ⟨by rw [← hv2]; unfold fput; congr 1⟩
  have r2 : 0 ≤ v2 ∧ v2 < 4294967296 := by rw [← hv2]; exact orW_range r1 g2
  have g3 : 0 ≤ x.rs2 % 32 * 1048576 ∧ x.rs2 % 32 * 1048576 < 4294967296 := by omega
  have HZ3 : Hd (FZ v2 20 5) := ⟨by rw [← hv2]; rw [← hv1]; exact ((z3).orW (⟨g1.1, g1.2, by omega⟩ : FZ (x.rd % 32 * 128) 20 5)).orW (⟨g2.1, g2.2, by omega⟩ : FZ (x.rs1 % 32 * 32768) 20 5)⟩
  obtain ⟨v3, hv3⟩ : ∃ v, orW v2 (x.rs2 % 32 * 1048576) = v := ⟨_, rfl⟩
  have HV3 : Hd (fput v2 x.rs2 24 20 = v3) := ⟨by rw [← hv3]; unfold fput; congr 1⟩
  have r3 : 0 ≤ v3 ∧ v3 < 4294967296 := by rw [← hv3]; exact orW_range r2 g3
  have HW : Hd (encV x = v3) := ⟨by
    unfold encV; rw [if_pos hk.out]; unfold encW; rw [hf]
    have qcsr : x.csr % 4096 * 1048576 = 0 := by
      have := congrArg NI.csr honly
      simp [onlyX] at this
      omega
    have hEA : encA x = v3 := by unfold encA; rw [hm, hv1, hv2, hv3, qcsr, orW_zero r3]
    rw [if_neg (by decide), if_neg (by decide), if_neg (by decide), if_neg (by decide), if_neg (by decide), if_neg (by decide), if_neg (by decide), hEA]⟩
  have hop2 : (x.op == 0) = false := beq_eq_false_iff_ne.2 hop
  clear r1 r2 r3 hkk1 hkk3 hm hmk hmr hk0 hk58 hR hf himm honly hop z1 z2 z3 hv1 g1 hv2 g2 hv3 g3
  have hXP : XP w (w.alloc (.cells (NC x) 36)) x := ⟨(Below.refl _ _).alloc (Nat.le_refl _) _, blk_new _ _ _⟩
  go_enter Tryd.func67, Tryd.ntmps67
  go_upto_region 1 with fail
  generalize w.alloc _ = w1 at hXP ⊢
  obtain ⟨k0, k1, k2, k3, k4, k5⟩ := hXP.cells
  go_wp2_with (first | (refine ld_blk rfl 36 _ rfl w.heap.size rfl hXP.blk Tryd.underlying36 (by rw [info36]; rfl) ?_) | (go_at_call 17; refine (rright_any x _ h0 h1).mono ?_; rw [HRt.out]; rintro e w2 ⟨rfl, hb'⟩; replace hXP := hXP.next hb'; clear k0 k1 k2 k3 k4 k5; obtain ⟨k0, k1, k2, k3, k4, k5⟩ := hXP.cells) | (go_at_call 39; refine (rform_any _ _).mono ?_; rw [HF.out]; rintro e w' ⟨rfl, rfl⟩))
  refine Late.region (S := fun w' => XP w w' x) (late := fun j => j == 1) (by kernel_rfl) ?_
  have hX8 := hXP.drew
  generalize w2.drew = w3 at hX8 ⊢
  clear hXP k0 k1 k2 k3 k4 k5
  refine Late.take (i := 1) (v := ?_) rfl (by kernel_rfl) rfl (by kernel_rfl) (by kernel_rfl) (fun _ _ _ h => h) (Or.inl ⟨by rfl, ?_⟩) ?_
  case refine_2 => intro W _; go_simp; (try with_reducible rfl)
  try simp only [Act.put, List.setIfInBounds_toArray, List.set_cons_zero, List.set_cons_succ]
  refine Late.load (i := 2) (v := ?_) rfl (by kernel_rfl) (by kernel_rfl) (by kernel_rfl) (by kernel_rfl) (fun _ _ _ h => h) (Or.inl ⟨by rfl, ?_⟩) hX8 ?_
  case refine_2 => intro W hW; have c0 := hW.cells.1; rw [HKK.out.1] at c0; clear hW; go_simp; (try with_reducible rfl)
  try simp only [Act.put, List.setIfInBounds_toArray, List.set_cons_zero, List.set_cons_succ]
  refine Late.load (i := 3) (v := ?_) rfl (by kernel_rfl) (by kernel_rfl) (by kernel_rfl) (by kernel_rfl) (fun _ _ _ h => h) (Or.inl ⟨by rfl, ?_⟩) hX8 ?_
  case refine_2 => intro W hW; clear hW; go_simp; (try with_reducible rfl)
  try simp only [Act.put, List.setIfInBounds_toArray, List.set_cons_zero, List.set_cons_succ]
  refine Late.ready1 (i := 0) (by kernel_rfl) rfl (fun K hK => ?_)
  go_simp
  refine (patterns_any _).mono ?_
  rintro e w4 ⟨b, rfl, hbb, hcl, hb'⟩
  have hc1 := hcl kk hkk2
  rw [HKK.out.2] at hc1
  have hX9 := hX8.next hb'
  clear hcl
  go_wp2_with fail
  refine hK.out _ _ (fun _ => hX9) ?_
  clear hK K
  try simp only [Act.put, List.setIfInBounds_toArray, List.set_cons_zero, List.set_cons_succ]
  refine Late.ready1 (i := 4) (by kernel_rfl) rfl (fun K hK => ?_)
  go_simp
  refine hK.out _ _ (fun _ => hX9) ?_
  clear hK K
  try simp only [Act.put, List.setIfInBounds_toArray, List.set_cons_zero, List.set_cons_succ]
  refine Late.ready1 (i := 5) (by kernel_rfl) rfl (fun K hK => ?_)
  go_simp
  refine hK.out _ _ (fun _ => hX9) ?_
  clear hK K
  try simp only [Act.put, List.setIfInBounds_toArray, List.set_cons_zero, List.set_cons_succ]
  refine Late.ready1 (i := 6) (by kernel_rfl) rfl (fun K hK => ?_)
  go_simp
  refine hK.out _ _ (fun _ => hX9) ?_
  clear hK K
  try simp only [Act.put, List.setIfInBounds_toArray, List.set_cons_zero, List.set_cons_succ]
  refine Late.ready1 (i := 7) (by kernel_rfl) rfl (fun K hK => ?_)
  go_simp
  refine hK.out _ _ (fun _ => hX9) ?_
  clear hK K
  try simp only [Act.put, List.setIfInBounds_toArray, List.set_cons_zero, List.set_cons_succ]
  refine Late.done (by kernel_rfl) ?_ _
  have hXP := hX9
  obtain ⟨k0, k1, k2, k3, k4, k5⟩ := hXP.cells
  clear hc1 hX8 hX9
  go_wp2_with (first | (go_at_call 83; refine (rput_any _ _ _ _ _ (by first | exact HZ1.out | exact HZ2.out | exact HZ3.out) (by omega) (by omega) (by decide)).mono ?_; (first | rw [HV1.out] | rw [HV2.out] | rw [HV3.out]); rintro e w' ⟨rfl, hb'⟩; replace hXP := hXP.next hb'; clear k0 k1 k2 k3 k4 k5; obtain ⟨k0, k1, k2, k3, k4, k5⟩ := hXP.cells) | (go_at_call 84; refine (rpart_any _ _ _ _ h0 h1 (by decide)).mono ?_; (skip); rintro e w' ⟨rfl, hb'⟩; replace hXP := hXP.next hb'; clear k0 k1 k2 k3 k4 k5; obtain ⟨k0, k1, k2, k3, k4, k5⟩ := hXP.cells))
  refine bodyPost_ret (v := .tuple #[.int .u32 v3, .bool true]) ?_ rfl ⟨by rw [HW.out, hk.out], hXP.bel⟩
  simp [results, Tryd.results67, go_sem]

-- form 7
theorem match_fz7_1 : ∀ k : Nat, k < 58 → formP (k : Int) = 7 → FZ (matchI k) 7 5 := by
  unfold FZ
  decide +kernel
theorem match_fz7_2 : ∀ k : Nat, k < 58 → formP (k : Int) = 7 → FZ (matchI k) 15 5 := by
  unfold FZ
  decide +kernel
theorem match_fz7_3 : ∀ k : Nat, k < 58 → formP (k : Int) = 7 → FZ (matchI k) 20 5 := by
  unfold FZ
  decide +kernel
set_option maxRecDepth 100000 in
set_option maxHeartbeats 4000000 in
theorem rencode_7 (x : NI) (w : World) (h0 : 0 ≤ x.imm) (h1 : x.imm < 4294967296) (hop : x.op ≠ 0) (hR : rightB x = true) (hf : formP x.op = 7) :
    Calls Tryd.prog 67 #[.agg (NC x)] w fun e w' => REncPost x w w' e := by
  have HRt := Hd.mk hR
  have HF := Hd.mk hf
  obtain ⟨⟨ho0, ho1⟩, ⟨hd0, hd1⟩, ⟨hs0, hs1⟩, ⟨ht0, ht1⟩, ⟨hc0, hc1⟩, himm, honly⟩ := rightB_parts hR
  have hk : Hd (encOk x = true) := ⟨by unfold encOk; rw [decide_eq_true hop, hR]; rfl⟩
  obtain ⟨k, hk0⟩ := Int.eq_ofNat_of_zero_le ho0
  have hk58 : k < 58 := by omega
  obtain ⟨m, hm⟩ : ∃ m, matchI x.op.toNat = m := ⟨_, rfl⟩
  have HM := Hd.mk hm
  have hmk : matchI k = m := by rw [← hm, hk0]; rfl
  have hmr := matchI_range k hk58
  rw [hmk] at hmr
  have HMk : ∃ kk : Nat, x.op = (kk : Int) + 1 ∧ kk < 57 ∧ matchI (kk + 1) = m := by
    have : 1 ≤ k := by omega
    exact ⟨k - 1, by omega, by omega, by rw [Nat.sub_add_cancel this]; exact hmk⟩
  obtain ⟨kk, hkk1, hkk2, hkk3⟩ := HMk
  have HKK := Hd.mk (And.intro hkk1 hkk3)
  have hki : (kk : Int) < 57 := by omega
  have hwk : IntKind.i64.wrap (kk : Int) = (kk : Int) := IntWalk.i64_in _ (by omega)
  have hwk2 : IntKind.i64.wrap ((kk : Int) + 1 - 1) = (kk : Int) := by rw [IntWalk.i64_in _ (by omega)]; omega
  have z1 := match_fz7_1 k hk58 (by rw [← hk0]; exact hf)
  rw [hmk] at z1
  have z2 := match_fz7_2 k hk58 (by rw [← hk0]; exact hf)
  rw [hmk] at z2
  have z3 := match_fz7_3 k hk58 (by rw [← hk0]; exact hf)
  rw [hmk] at z3
  have g1 : 0 ≤ x.rd % 32 * 128 ∧ x.rd % 32 * 128 < 4294967296 := by omega
  have HZ1 := Hd.mk z1
  obtain ⟨v1, hv1⟩ : ∃ v, orW m (x.rd % 32 * 128) = v := ⟨_, rfl⟩
  have HV1 : Hd (fput m x.rd 11 7 = v1) := ⟨by rw [← hv1]; unfold fput; congr 1⟩
  have r1 : 0 ≤ v1 ∧ v1 < 4294967296 := by rw [← hv1]; exact orW_range hmr g1
  have g2 : 0 ≤ x.rs1 % 32 * 32768 ∧ x.rs1 % 32 * 32768 < 4294967296 := by omega
  have HZ2 : Hd (FZ v1 15 5) := ⟨by rw [← hv1]; exact (z2).orW (⟨g1.1, g1.2, by omega⟩ : FZ (x.rd % 32 * 128) 15 5)⟩
  obtain ⟨v2, hv2⟩ : ∃ v, orW v1 (x.rs1 % 32 * 32768) = v := ⟨_, rfl⟩
  have HV2 : Hd (fput v1 x.rs1 19 15 = v2) := ⟨by rw [← hv2]; unfold fput; congr 1⟩
  have r2 : 0 ≤ v2 ∧ v2 < 4294967296 := by rw [← hv2]; exact orW_range r1 g2
  have g3 : 0 ≤ x.imm % 32 * 1048576 ∧ x.imm % 32 * 1048576 < 4294967296 := by omega
  have HZ3 : Hd (FZ v2 20 5) := ⟨by rw [← hv2]; rw [← hv1]; exact ((z3).orW (⟨g1.1, g1.2, by omega⟩ : FZ (x.rd % 32 * 128) 20 5)).orW (⟨g2.1, g2.2, by omega⟩ : FZ (x.rs1 % 32 * 32768) 20 5)⟩
  obtain ⟨v3, hv3⟩ : ∃ v, orW v2 (x.imm % 32 * 1048576) = v := ⟨_, rfl⟩
  have HV3 : Hd (fput v2 x.imm 24 20 = v3) := ⟨by rw [← hv3]; unfold fput; congr 1⟩
  have r3 : 0 ≤ v3 ∧ v3 < 4294967296 := by rw [← hv3]; exact orW_range r2 g3
  have HW : Hd (encV x = v3) := ⟨by
    unfold encV; rw [if_pos hk.out]; unfold encW; rw [hf]
    have qrs2 : x.rs2 % 32 * 1048576 = 0 := by
      have := congrArg NI.rs2 honly
      simp [onlyX] at this
      omega
    have qcsr : x.csr % 4096 * 1048576 = 0 := by
      have := congrArg NI.csr honly
      simp [onlyX] at this
      omega
    have hEA : encA x = v2 := by unfold encA; rw [hm, hv1, hv2, qrs2, orW_zero r2, qcsr, orW_zero r2]
    rw [if_neg (by decide), if_neg (by decide), if_neg (by decide), if_neg (by decide), if_neg (by decide), if_pos rfl, hEA, hv3]⟩
  have hop2 : (x.op == 0) = false := beq_eq_false_iff_ne.2 hop
  clear r1 r2 r3 hkk1 hkk3 hm hmk hmr hk0 hk58 hR hf himm honly hop z1 z2 z3 hv1 g1 hv2 g2 hv3 g3
  have hXP : XP w (w.alloc (.cells (NC x) 36)) x := ⟨(Below.refl _ _).alloc (Nat.le_refl _) _, blk_new _ _ _⟩
  go_enter Tryd.func67, Tryd.ntmps67
  go_upto_region 1 with fail
  generalize w.alloc _ = w1 at hXP ⊢
  obtain ⟨k0, k1, k2, k3, k4, k5⟩ := hXP.cells
  go_wp2_with (first | (refine ld_blk rfl 36 _ rfl w.heap.size rfl hXP.blk Tryd.underlying36 (by rw [info36]; rfl) ?_) | (go_at_call 17; refine (rright_any x _ h0 h1).mono ?_; rw [HRt.out]; rintro e w2 ⟨rfl, hb'⟩; replace hXP := hXP.next hb'; clear k0 k1 k2 k3 k4 k5; obtain ⟨k0, k1, k2, k3, k4, k5⟩ := hXP.cells) | (go_at_call 39; refine (rform_any _ _).mono ?_; rw [HF.out]; rintro e w' ⟨rfl, rfl⟩))
  refine Late.region (S := fun w' => XP w w' x) (late := fun j => j == 1) (by kernel_rfl) ?_
  have hX8 := hXP.drew
  generalize w2.drew = w3 at hX8 ⊢
  clear hXP k0 k1 k2 k3 k4 k5
  refine Late.take (i := 1) (v := ?_) rfl (by kernel_rfl) rfl (by kernel_rfl) (by kernel_rfl) (fun _ _ _ h => h) (Or.inl ⟨by rfl, ?_⟩) ?_
  case refine_2 => intro W _; go_simp; (try with_reducible rfl)
  try simp only [Act.put, List.setIfInBounds_toArray, List.set_cons_zero, List.set_cons_succ]
  refine Late.load (i := 2) (v := ?_) rfl (by kernel_rfl) (by kernel_rfl) (by kernel_rfl) (by kernel_rfl) (fun _ _ _ h => h) (Or.inl ⟨by rfl, ?_⟩) hX8 ?_
  case refine_2 => intro W hW; have c0 := hW.cells.1; rw [HKK.out.1] at c0; clear hW; go_simp; (try with_reducible rfl)
  try simp only [Act.put, List.setIfInBounds_toArray, List.set_cons_zero, List.set_cons_succ]
  refine Late.load (i := 3) (v := ?_) rfl (by kernel_rfl) (by kernel_rfl) (by kernel_rfl) (by kernel_rfl) (fun _ _ _ h => h) (Or.inl ⟨by rfl, ?_⟩) hX8 ?_
  case refine_2 => intro W hW; clear hW; go_simp; (try with_reducible rfl)
  try simp only [Act.put, List.setIfInBounds_toArray, List.set_cons_zero, List.set_cons_succ]
  refine Late.ready1 (i := 0) (by kernel_rfl) rfl (fun K hK => ?_)
  go_simp
  refine (patterns_any _).mono ?_
  rintro e w4 ⟨b, rfl, hbb, hcl, hb'⟩
  have hc1 := hcl kk hkk2
  rw [HKK.out.2] at hc1
  have hX9 := hX8.next hb'
  clear hcl
  go_wp2_with fail
  refine hK.out _ _ (fun _ => hX9) ?_
  clear hK K
  try simp only [Act.put, List.setIfInBounds_toArray, List.set_cons_zero, List.set_cons_succ]
  refine Late.ready1 (i := 4) (by kernel_rfl) rfl (fun K hK => ?_)
  go_simp
  refine hK.out _ _ (fun _ => hX9) ?_
  clear hK K
  try simp only [Act.put, List.setIfInBounds_toArray, List.set_cons_zero, List.set_cons_succ]
  refine Late.ready1 (i := 5) (by kernel_rfl) rfl (fun K hK => ?_)
  go_simp
  refine hK.out _ _ (fun _ => hX9) ?_
  clear hK K
  try simp only [Act.put, List.setIfInBounds_toArray, List.set_cons_zero, List.set_cons_succ]
  refine Late.ready1 (i := 6) (by kernel_rfl) rfl (fun K hK => ?_)
  go_simp
  refine hK.out _ _ (fun _ => hX9) ?_
  clear hK K
  try simp only [Act.put, List.setIfInBounds_toArray, List.set_cons_zero, List.set_cons_succ]
  refine Late.ready1 (i := 7) (by kernel_rfl) rfl (fun K hK => ?_)
  go_simp
  refine hK.out _ _ (fun _ => hX9) ?_
  clear hK K
  try simp only [Act.put, List.setIfInBounds_toArray, List.set_cons_zero, List.set_cons_succ]
  refine Late.done (by kernel_rfl) ?_ _
  have hXP := hX9
  obtain ⟨k0, k1, k2, k3, k4, k5⟩ := hXP.cells
  clear hc1 hX8 hX9
  go_wp2_with (first | (go_at_call 83; refine (rput_any _ _ _ _ _ (by first | exact HZ1.out | exact HZ2.out | exact HZ3.out) (by omega) (by omega) (by decide)).mono ?_; (first | rw [HV1.out] | rw [HV2.out] | rw [HV3.out]); rintro e w' ⟨rfl, hb'⟩; replace hXP := hXP.next hb'; clear k0 k1 k2 k3 k4 k5; obtain ⟨k0, k1, k2, k3, k4, k5⟩ := hXP.cells) | (go_at_call 84; refine (rpart_any _ _ _ _ h0 h1 (by decide)).mono ?_; (skip); rintro e w' ⟨rfl, hb'⟩; replace hXP := hXP.next hb'; clear k0 k1 k2 k3 k4 k5; obtain ⟨k0, k1, k2, k3, k4, k5⟩ := hXP.cells))
  refine bodyPost_ret (v := .tuple #[.int .u32 v3, .bool true]) ?_ rfl ⟨by rw [HW.out, hk.out], hXP.bel⟩
  simp [results, Tryd.results67, go_sem]

-- form 8
theorem match_fz8_1 : ∀ k : Nat, k < 58 → formP (k : Int) = 8 → FZ (matchI k) 7 5 := by
  unfold FZ
  decide +kernel
theorem match_fz8_2 : ∀ k : Nat, k < 58 → formP (k : Int) = 8 → FZ (matchI k) 15 5 := by
  unfold FZ
  decide +kernel
theorem match_fz8_3 : ∀ k : Nat, k < 58 → formP (k : Int) = 8 → FZ (matchI k) 20 12 := by
  unfold FZ
  decide +kernel
set_option maxRecDepth 100000 in
set_option maxHeartbeats 4000000 in
theorem rencode_8 (x : NI) (w : World) (h0 : 0 ≤ x.imm) (h1 : x.imm < 4294967296) (hop : x.op ≠ 0) (hR : rightB x = true) (hf : formP x.op = 8) :
    Calls Tryd.prog 67 #[.agg (NC x)] w fun e w' => REncPost x w w' e := by
  have HRt := Hd.mk hR
  have HF := Hd.mk hf
  obtain ⟨⟨ho0, ho1⟩, ⟨hd0, hd1⟩, ⟨hs0, hs1⟩, ⟨ht0, ht1⟩, ⟨hc0, hc1⟩, himm, honly⟩ := rightB_parts hR
  have hk : Hd (encOk x = true) := ⟨by unfold encOk; rw [decide_eq_true hop, hR]; rfl⟩
  obtain ⟨k, hk0⟩ := Int.eq_ofNat_of_zero_le ho0
  have hk58 : k < 58 := by omega
  obtain ⟨m, hm⟩ : ∃ m, matchI x.op.toNat = m := ⟨_, rfl⟩
  have HM := Hd.mk hm
  have hmk : matchI k = m := by rw [← hm, hk0]; rfl
  have hmr := matchI_range k hk58
  rw [hmk] at hmr
  have HMk : ∃ kk : Nat, x.op = (kk : Int) + 1 ∧ kk < 57 ∧ matchI (kk + 1) = m := by
    have : 1 ≤ k := by omega
    exact ⟨k - 1, by omega, by omega, by rw [Nat.sub_add_cancel this]; exact hmk⟩
  obtain ⟨kk, hkk1, hkk2, hkk3⟩ := HMk
  have HKK := Hd.mk (And.intro hkk1 hkk3)
  have hki : (kk : Int) < 57 := by omega
  have hwk : IntKind.i64.wrap (kk : Int) = (kk : Int) := IntWalk.i64_in _ (by omega)
  have hwk2 : IntKind.i64.wrap ((kk : Int) + 1 - 1) = (kk : Int) := by rw [IntWalk.i64_in _ (by omega)]; omega
  have z1 := match_fz8_1 k hk58 (by rw [← hk0]; exact hf)
  rw [hmk] at z1
  have z2 := match_fz8_2 k hk58 (by rw [← hk0]; exact hf)
  rw [hmk] at z2
  have z3 := match_fz8_3 k hk58 (by rw [← hk0]; exact hf)
  rw [hmk] at z3
  have g1 : 0 ≤ x.rd % 32 * 128 ∧ x.rd % 32 * 128 < 4294967296 := by omega
  have HZ1 := Hd.mk z1
  obtain ⟨v1, hv1⟩ : ∃ v, orW m (x.rd % 32 * 128) = v := ⟨_, rfl⟩
  have HV1 : Hd (fput m x.rd 11 7 = v1) := ⟨by rw [← hv1]; unfold fput; congr 1⟩
  have r1 : 0 ≤ v1 ∧ v1 < 4294967296 := by rw [← hv1]; exact orW_range hmr g1
  have g2 : 0 ≤ x.rs1 % 32 * 32768 ∧ x.rs1 % 32 * 32768 < 4294967296 := by omega
  have HZ2 : Hd (FZ v1 15 5) := ⟨by rw [← hv1]; exact (z2).orW (⟨g1.1, g1.2, by omega⟩ : FZ (x.rd % 32 * 128) 15 5)⟩
  obtain ⟨v2, hv2⟩ : ∃ v, orW v1 (x.rs1 % 32 * 32768) = v := ⟨_, rfl⟩
  have HV2 : Hd (fput v1 x.rs1 19 15 = v2) := ⟨by rw [← hv2]; unfold fput; congr 1⟩
  have r2 : 0 ≤ v2 ∧ v2 < 4294967296 := by rw [← hv2]; exact orW_range r1 g2
  have g3 : 0 ≤ x.csr % 4096 * 1048576 ∧ x.csr % 4096 * 1048576 < 4294967296 := by omega
  have HZ3 : Hd (FZ v2 20 12) := ⟨by rw [← hv2]; rw [← hv1]; exact ((z3).orW (⟨g1.1, g1.2, by omega⟩ : FZ (x.rd % 32 * 128) 20 12)).orW (⟨g2.1, g2.2, by omega⟩ : FZ (x.rs1 % 32 * 32768) 20 12)⟩
  obtain ⟨v3, hv3⟩ : ∃ v, orW v2 (x.csr % 4096 * 1048576) = v := ⟨_, rfl⟩
  have HV3 : Hd (fput v2 x.csr 31 20 = v3) := ⟨by rw [← hv3]; unfold fput; congr 1⟩
  have r3 : 0 ≤ v3 ∧ v3 < 4294967296 := by rw [← hv3]; exact orW_range r2 g3
  have HW : Hd (encV x = v3) := ⟨by
    unfold encV; rw [if_pos hk.out]; unfold encW; rw [hf]
    have qrs2 : x.rs2 % 32 * 1048576 = 0 := by
      have := congrArg NI.rs2 honly
      simp [onlyX] at this
      omega
    have hEA : encA x = v3 := by unfold encA; rw [hm, hv1, hv2, qrs2, orW_zero r2, hv3]
    rw [if_neg (by decide), if_neg (by decide), if_neg (by decide), if_neg (by decide), if_neg (by decide), if_neg (by decide), if_neg (by decide), hEA]⟩
  have hop2 : (x.op == 0) = false := beq_eq_false_iff_ne.2 hop
  clear r1 r2 r3 hkk1 hkk3 hm hmk hmr hk0 hk58 hR hf himm honly hop z1 z2 z3 hv1 g1 hv2 g2 hv3 g3
  have hXP : XP w (w.alloc (.cells (NC x) 36)) x := ⟨(Below.refl _ _).alloc (Nat.le_refl _) _, blk_new _ _ _⟩
  go_enter Tryd.func67, Tryd.ntmps67
  go_upto_region 1 with fail
  generalize w.alloc _ = w1 at hXP ⊢
  obtain ⟨k0, k1, k2, k3, k4, k5⟩ := hXP.cells
  go_wp2_with (first | (refine ld_blk rfl 36 _ rfl w.heap.size rfl hXP.blk Tryd.underlying36 (by rw [info36]; rfl) ?_) | (go_at_call 17; refine (rright_any x _ h0 h1).mono ?_; rw [HRt.out]; rintro e w2 ⟨rfl, hb'⟩; replace hXP := hXP.next hb'; clear k0 k1 k2 k3 k4 k5; obtain ⟨k0, k1, k2, k3, k4, k5⟩ := hXP.cells) | (go_at_call 39; refine (rform_any _ _).mono ?_; rw [HF.out]; rintro e w' ⟨rfl, rfl⟩))
  refine Late.region (S := fun w' => XP w w' x) (late := fun j => j == 1) (by kernel_rfl) ?_
  have hX8 := hXP.drew
  generalize w2.drew = w3 at hX8 ⊢
  clear hXP k0 k1 k2 k3 k4 k5
  refine Late.take (i := 1) (v := ?_) rfl (by kernel_rfl) rfl (by kernel_rfl) (by kernel_rfl) (fun _ _ _ h => h) (Or.inl ⟨by rfl, ?_⟩) ?_
  case refine_2 => intro W _; go_simp; (try with_reducible rfl)
  try simp only [Act.put, List.setIfInBounds_toArray, List.set_cons_zero, List.set_cons_succ]
  refine Late.load (i := 2) (v := ?_) rfl (by kernel_rfl) (by kernel_rfl) (by kernel_rfl) (by kernel_rfl) (fun _ _ _ h => h) (Or.inl ⟨by rfl, ?_⟩) hX8 ?_
  case refine_2 => intro W hW; have c0 := hW.cells.1; rw [HKK.out.1] at c0; clear hW; go_simp; (try with_reducible rfl)
  try simp only [Act.put, List.setIfInBounds_toArray, List.set_cons_zero, List.set_cons_succ]
  refine Late.load (i := 3) (v := ?_) rfl (by kernel_rfl) (by kernel_rfl) (by kernel_rfl) (by kernel_rfl) (fun _ _ _ h => h) (Or.inl ⟨by rfl, ?_⟩) hX8 ?_
  case refine_2 => intro W hW; clear hW; go_simp; (try with_reducible rfl)
  try simp only [Act.put, List.setIfInBounds_toArray, List.set_cons_zero, List.set_cons_succ]
  refine Late.ready1 (i := 0) (by kernel_rfl) rfl (fun K hK => ?_)
  go_simp
  refine (patterns_any _).mono ?_
  rintro e w4 ⟨b, rfl, hbb, hcl, hb'⟩
  have hc1 := hcl kk hkk2
  rw [HKK.out.2] at hc1
  have hX9 := hX8.next hb'
  clear hcl
  go_wp2_with fail
  refine hK.out _ _ (fun _ => hX9) ?_
  clear hK K
  try simp only [Act.put, List.setIfInBounds_toArray, List.set_cons_zero, List.set_cons_succ]
  refine Late.ready1 (i := 4) (by kernel_rfl) rfl (fun K hK => ?_)
  go_simp
  refine hK.out _ _ (fun _ => hX9) ?_
  clear hK K
  try simp only [Act.put, List.setIfInBounds_toArray, List.set_cons_zero, List.set_cons_succ]
  refine Late.ready1 (i := 5) (by kernel_rfl) rfl (fun K hK => ?_)
  go_simp
  refine hK.out _ _ (fun _ => hX9) ?_
  clear hK K
  try simp only [Act.put, List.setIfInBounds_toArray, List.set_cons_zero, List.set_cons_succ]
  refine Late.ready1 (i := 6) (by kernel_rfl) rfl (fun K hK => ?_)
  go_simp
  refine hK.out _ _ (fun _ => hX9) ?_
  clear hK K
  try simp only [Act.put, List.setIfInBounds_toArray, List.set_cons_zero, List.set_cons_succ]
  refine Late.ready1 (i := 7) (by kernel_rfl) rfl (fun K hK => ?_)
  go_simp
  refine hK.out _ _ (fun _ => hX9) ?_
  clear hK K
  try simp only [Act.put, List.setIfInBounds_toArray, List.set_cons_zero, List.set_cons_succ]
  refine Late.done (by kernel_rfl) ?_ _
  have hXP := hX9
  obtain ⟨k0, k1, k2, k3, k4, k5⟩ := hXP.cells
  clear hc1 hX8 hX9
  go_wp2_with (first | (go_at_call 83; refine (rput_any _ _ _ _ _ (by first | exact HZ1.out | exact HZ2.out | exact HZ3.out) (by omega) (by omega) (by decide)).mono ?_; (first | rw [HV1.out] | rw [HV2.out] | rw [HV3.out]); rintro e w' ⟨rfl, hb'⟩; replace hXP := hXP.next hb'; clear k0 k1 k2 k3 k4 k5; obtain ⟨k0, k1, k2, k3, k4, k5⟩ := hXP.cells) | (go_at_call 84; refine (rpart_any _ _ _ _ h0 h1 (by decide)).mono ?_; (skip); rintro e w' ⟨rfl, hb'⟩; replace hXP := hXP.next hb'; clear k0 k1 k2 k3 k4 k5; obtain ⟨k0, k1, k2, k3, k4, k5⟩ := hXP.cells))
  refine bodyPost_ret (v := .tuple #[.int .u32 v3, .bool true]) ?_ rfl ⟨by rw [HW.out, hk.out], hXP.bel⟩
  simp [results, Tryd.results67, go_sem]

-- form 9
theorem match_fz9_1 : ∀ k : Nat, k < 58 → formP (k : Int) = 9 → FZ (matchI k) 7 5 := by
  unfold FZ
  decide +kernel
theorem match_fz9_2 : ∀ k : Nat, k < 58 → formP (k : Int) = 9 → FZ (matchI k) 20 12 := by
  unfold FZ
  decide +kernel
theorem match_fz9_3 : ∀ k : Nat, k < 58 → formP (k : Int) = 9 → FZ (matchI k) 15 5 := by
  unfold FZ
  decide +kernel
set_option maxRecDepth 100000 in
set_option maxHeartbeats 4000000 in
theorem rencode_9 (x : NI) (w : World) (h0 : 0 ≤ x.imm) (h1 : x.imm < 4294967296) (hop : x.op ≠ 0) (hR : rightB x = true) (hf : formP x.op = 9) :
    Calls Tryd.prog 67 #[.agg (NC x)] w fun e w' => REncPost x w w' e := by
  have HRt := Hd.mk hR
  have HF := Hd.mk hf
  obtain ⟨⟨ho0, ho1⟩, ⟨hd0, hd1⟩, ⟨hs0, hs1⟩, ⟨ht0, ht1⟩, ⟨hc0, hc1⟩, himm, honly⟩ := rightB_parts hR
  have hk : Hd (encOk x = true) := ⟨by unfold encOk; rw [decide_eq_true hop, hR]; rfl⟩
  obtain ⟨k, hk0⟩ := Int.eq_ofNat_of_zero_le ho0
  have hk58 : k < 58 := by omega
  obtain ⟨m, hm⟩ : ∃ m, matchI x.op.toNat = m := ⟨_, rfl⟩
  have HM := Hd.mk hm
  have hmk : matchI k = m := by rw [← hm, hk0]; rfl
  have hmr := matchI_range k hk58
  rw [hmk] at hmr
  have HMk : ∃ kk : Nat, x.op = (kk : Int) + 1 ∧ kk < 57 ∧ matchI (kk + 1) = m := by
    have : 1 ≤ k := by omega
    exact ⟨k - 1, by omega, by omega, by rw [Nat.sub_add_cancel this]; exact hmk⟩
  obtain ⟨kk, hkk1, hkk2, hkk3⟩ := HMk
  have HKK := Hd.mk (And.intro hkk1 hkk3)
  have hki : (kk : Int) < 57 := by omega
  have hwk : IntKind.i64.wrap (kk : Int) = (kk : Int) := IntWalk.i64_in _ (by omega)
  have hwk2 : IntKind.i64.wrap ((kk : Int) + 1 - 1) = (kk : Int) := by rw [IntWalk.i64_in _ (by omega)]; omega
  have z1 := match_fz9_1 k hk58 (by rw [← hk0]; exact hf)
  rw [hmk] at z1
  have z2 := match_fz9_2 k hk58 (by rw [← hk0]; exact hf)
  rw [hmk] at z2
  have z3 := match_fz9_3 k hk58 (by rw [← hk0]; exact hf)
  rw [hmk] at z3
  have g1 : 0 ≤ x.rd % 32 * 128 ∧ x.rd % 32 * 128 < 4294967296 := by omega
  have HZ1 := Hd.mk z1
  obtain ⟨v1, hv1⟩ : ∃ v, orW m (x.rd % 32 * 128) = v := ⟨_, rfl⟩
  have HV1 : Hd (fput m x.rd 11 7 = v1) := ⟨by rw [← hv1]; unfold fput; congr 1⟩
  have r1 : 0 ≤ v1 ∧ v1 < 4294967296 := by rw [← hv1]; exact orW_range hmr g1
  have g2 : 0 ≤ x.csr % 4096 * 1048576 ∧ x.csr % 4096 * 1048576 < 4294967296 := by omega
  have HZ2 : Hd (FZ v1 20 12) := ⟨by rw [← hv1]; exact (z2).orW (⟨g1.1, g1.2, by omega⟩ : FZ (x.rd % 32 * 128) 20 12)⟩
  obtain ⟨v2, hv2⟩ : ∃ v, orW v1 (x.csr % 4096 * 1048576) = v := ⟨_, rfl⟩
  have HV2 : Hd (fput v1 x.csr 31 20 = v2) := ⟨by rw [← hv2]; unfold fput; congr 1⟩
  have r2 : 0 ≤ v2 ∧ v2 < 4294967296 := by rw [← hv2]; exact orW_range r1 g2
  have g3 : 0 ≤ x.imm % 32 * 32768 ∧ x.imm % 32 * 32768 < 4294967296 := by omega
  have HZ3 : Hd (FZ v2 15 5) := ⟨by rw [← hv2]; rw [← hv1]; exact ((z3).orW (⟨g1.1, g1.2, by omega⟩ : FZ (x.rd % 32 * 128) 15 5)).orW (⟨g2.1, g2.2, by omega⟩ : FZ (x.csr % 4096 * 1048576) 15 5)⟩
  obtain ⟨v3, hv3⟩ : ∃ v, orW v2 (x.imm % 32 * 32768) = v := ⟨_, rfl⟩
  have HV3 : Hd (fput v2 x.imm 19 15 = v3) := ⟨by rw [← hv3]; unfold fput; congr 1⟩
  have r3 : 0 ≤ v3 ∧ v3 < 4294967296 := by rw [← hv3]; exact orW_range r2 g3
  have HW : Hd (encV x = v3) := ⟨by
    unfold encV; rw [if_pos hk.out]; unfold encW; rw [hf]
    have qrs1 : x.rs1 % 32 * 32768 = 0 := by
      have := congrArg NI.rs1 honly
      simp [onlyX] at this
      omega
    have qrs2 : x.rs2 % 32 * 1048576 = 0 := by
      have := congrArg NI.rs2 honly
      simp [onlyX] at this
      omega
    have hEA : encA x = v2 := by unfold encA; rw [hm, hv1, qrs1, orW_zero r1, qrs2, orW_zero r1, hv2]
    rw [if_neg (by decide), if_neg (by decide), if_neg (by decide), if_neg (by decide), if_neg (by decide), if_neg (by decide), if_pos rfl, hEA, hv3]⟩
  have hop2 : (x.op == 0) = false := beq_eq_false_iff_ne.2 hop
  clear r1 r2 r3 hkk1 hkk3 hm hmk hmr hk0 hk58 hR hf himm honly hop z1 z2 z3 hv1 g1 hv2 g2 hv3 g3
  have hXP : XP w (w.alloc (.cells (NC x) 36)) x := ⟨(Below.refl _ _).alloc (Nat.le_refl _) _, blk_new _ _ _⟩
  go_enter Tryd.func67, Tryd.ntmps67
  go_upto_region 1 with fail
  generalize w.alloc _ = w1 at hXP ⊢
  obtain ⟨k0, k1, k2, k3, k4, k5⟩ := hXP.cells
  go_wp2_with (first | (refine ld_blk rfl 36 _ rfl w.heap.size rfl hXP.blk Tryd.underlying36 (by rw [info36]; rfl) ?_) | (go_at_call 17; refine (rright_any x _ h0 h1).mono ?_; rw [HRt.out]; rintro e w2 ⟨rfl, hb'⟩; replace hXP := hXP.next hb'; clear k0 k1 k2 k3 k4 k5; obtain ⟨k0, k1, k2, k3, k4, k5⟩ := hXP.cells) | (go_at_call 39; refine (rform_any _ _).mono ?_; rw [HF.out]; rintro e w' ⟨rfl, rfl⟩))
  refine Late.region (S := fun w' => XP w w' x) (late := fun j => j == 1) (by kernel_rfl) ?_
  have hX8 := hXP.drew
  generalize w2.drew = w3 at hX8 ⊢
  clear hXP k0 k1 k2 k3 k4 k5
  refine Late.take (i := 1) (v := ?_) rfl (by kernel_rfl) rfl (by kernel_rfl) (by kernel_rfl) (fun _ _ _ h => h) (Or.inl ⟨by rfl, ?_⟩) ?_
  case refine_2 => intro W _; go_simp; (try with_reducible rfl)
  try simp only [Act.put, List.setIfInBounds_toArray, List.set_cons_zero, List.set_cons_succ]
  refine Late.load (i := 2) (v := ?_) rfl (by kernel_rfl) (by kernel_rfl) (by kernel_rfl) (by kernel_rfl) (fun _ _ _ h => h) (Or.inl ⟨by rfl, ?_⟩) hX8 ?_
  case refine_2 => intro W hW; have c0 := hW.cells.1; rw [HKK.out.1] at c0; clear hW; go_simp; (try with_reducible rfl)
  try simp only [Act.put, List.setIfInBounds_toArray, List.set_cons_zero, List.set_cons_succ]
  refine Late.load (i := 3) (v := ?_) rfl (by kernel_rfl) (by kernel_rfl) (by kernel_rfl) (by kernel_rfl) (fun _ _ _ h => h) (Or.inl ⟨by rfl, ?_⟩) hX8 ?_
  case refine_2 => intro W hW; clear hW; go_simp; (try with_reducible rfl)
  try simp only [Act.put, List.setIfInBounds_toArray, List.set_cons_zero, List.set_cons_succ]
  refine Late.ready1 (i := 0) (by kernel_rfl) rfl (fun K hK => ?_)
  go_simp
  refine (patterns_any _).mono ?_
  rintro e w4 ⟨b, rfl, hbb, hcl, hb'⟩
  have hc1 := hcl kk hkk2
  rw [HKK.out.2] at hc1
  have hX9 := hX8.next hb'
  clear hcl
  go_wp2_with fail
  refine hK.out _ _ (fun _ => hX9) ?_
  clear hK K
  try simp only [Act.put, List.setIfInBounds_toArray, List.set_cons_zero, List.set_cons_succ]
  refine Late.ready1 (i := 4) (by kernel_rfl) rfl (fun K hK => ?_)
  go_simp
  refine hK.out _ _ (fun _ => hX9) ?_
  clear hK K
  try simp only [Act.put, List.setIfInBounds_toArray, List.set_cons_zero, List.set_cons_succ]
  refine Late.ready1 (i := 5) (by kernel_rfl) rfl (fun K hK => ?_)
  go_simp
  refine hK.out _ _ (fun _ => hX9) ?_
  clear hK K
  try simp only [Act.put, List.setIfInBounds_toArray, List.set_cons_zero, List.set_cons_succ]
  refine Late.ready1 (i := 6) (by kernel_rfl) rfl (fun K hK => ?_)
  go_simp
  refine hK.out _ _ (fun _ => hX9) ?_
  clear hK K
  try simp only [Act.put, List.setIfInBounds_toArray, List.set_cons_zero, List.set_cons_succ]
  refine Late.ready1 (i := 7) (by kernel_rfl) rfl (fun K hK => ?_)
  go_simp
  refine hK.out _ _ (fun _ => hX9) ?_
  clear hK K
  try simp only [Act.put, List.setIfInBounds_toArray, List.set_cons_zero, List.set_cons_succ]
  refine Late.done (by kernel_rfl) ?_ _
  have hXP := hX9
  obtain ⟨k0, k1, k2, k3, k4, k5⟩ := hXP.cells
  clear hc1 hX8 hX9
  go_wp2_with (first | (go_at_call 83; refine (rput_any _ _ _ _ _ (by first | exact HZ1.out | exact HZ2.out | exact HZ3.out) (by omega) (by omega) (by decide)).mono ?_; (first | rw [HV1.out] | rw [HV2.out] | rw [HV3.out]); rintro e w' ⟨rfl, hb'⟩; replace hXP := hXP.next hb'; clear k0 k1 k2 k3 k4 k5; obtain ⟨k0, k1, k2, k3, k4, k5⟩ := hXP.cells) | (go_at_call 84; refine (rpart_any _ _ _ _ h0 h1 (by decide)).mono ?_; (skip); rintro e w' ⟨rfl, hb'⟩; replace hXP := hXP.next hb'; clear k0 k1 k2 k3 k4 k5; obtain ⟨k0, k1, k2, k3, k4, k5⟩ := hXP.cells))
  refine bodyPost_ret (v := .tuple #[.int .u32 v3, .bool true]) ?_ rfl ⟨by rw [HW.out, hk.out], hXP.bel⟩
  simp [results, Tryd.results67, go_sem]

-- form bad
set_option maxRecDepth 100000 in
set_option maxHeartbeats 4000000 in
theorem rencode_bad (x : NI) (w : World) (h0 : 0 ≤ x.imm) (h1 : x.imm < 4294967296) (hk : encOk x = false) :
    Calls Tryd.prog 67 #[.agg (NC x)] w fun e w' => REncPost x w w' e := by
  have HW : Hd (encV x = 0) := ⟨by unfold encV; rw [hk]; rfl⟩
  have HK := Hd.mk hk
  have hXP : XP w (w.alloc (.cells (NC x) 36)) x := ⟨(Below.refl _ _).alloc (Nat.le_refl _) _, blk_new _ _ _⟩
  by_cases hop : x.op = 0
  · have hop2 : (x.op == 0) = true := beq_iff_eq.2 hop
    clear hk hop
    go_enter Tryd.func67, Tryd.ntmps67
    go_upto_region 1 with fail
    generalize w.alloc _ = w1 at hXP ⊢
    obtain ⟨k0, k1, k2, k3, k4, k5⟩ := hXP.cells
    go_wp2_with (first | (refine ld_blk rfl 36 _ rfl w.heap.size rfl hXP.blk Tryd.underlying36 (by rw [info36]; rfl) ?_))
    refine bodyPost_ret (v := .tuple #[.int .u32 0, .bool false]) ?_ rfl ⟨by rw [HW.out, HK.out], hXP.bel⟩
    simp [results, Tryd.results67, go_sem]
  · have hop2 : (x.op == 0) = false := beq_eq_false_iff_ne.2 hop
    have HR : Hd (rightB x = false) := ⟨by
      unfold encOk at hk; rw [decide_eq_true hop] at hk; simpa using hk⟩
    clear hk hop
    go_enter Tryd.func67, Tryd.ntmps67
    go_upto_region 1 with fail
    generalize w.alloc _ = w1 at hXP ⊢
    obtain ⟨k0, k1, k2, k3, k4, k5⟩ := hXP.cells
    go_wp2_with (first | (refine ld_blk rfl 36 _ rfl w.heap.size rfl hXP.blk Tryd.underlying36 (by rw [info36]; rfl) ?_) | (go_at_call 17; refine (rright_any x _ h0 h1).mono ?_; rw [HR.out]; rintro e w2 ⟨rfl, hb'⟩; replace hXP := hXP.next hb'))
    refine bodyPost_ret (v := .tuple #[.int .u32 0, .bool false]) ?_ rfl ⟨by rw [HW.out, HK.out], hXP.bel⟩
    simp [results, Tryd.results67, go_sem]
/-- The reference's Encode, whatever the instruction is. -/
theorem rencode_any (x : NI) (w : World) (h0 : 0 ≤ x.imm) (h1 : x.imm < 4294967296) : Calls Tryd.prog 67 #[.agg (NC x)] w fun e w' => REncPost x w w' e := by
  cases hk : encOk x
  · exact rencode_bad x w h0 h1 hk
  · have h2 := hk
    unfold encOk at h2
    simp only [Bool.and_eq_true, decide_eq_true_eq] at h2
    have hr := formP_range x.op
    have : formP x.op = 0 ∨ formP x.op = 1 ∨ formP x.op = 2 ∨ formP x.op = 3 ∨ formP x.op = 4 ∨ formP x.op = 5 ∨ formP x.op = 6 ∨ formP x.op = 7 ∨ formP x.op = 8 ∨ formP x.op = 9 := by omega
    rcases this with h | h | h | h | h | h | h | h | h | h
    · exact rencode_0 x w h0 h1 h2.1 h2.2 h
    · exact rencode_1 x w h0 h1 h2.1 h2.2 h
    · exact rencode_2 x w h0 h1 h2.1 h2.2 h
    · exact rencode_3 x w h0 h1 h2.1 h2.2 h
    · exact rencode_4 x w h0 h1 h2.1 h2.2 h
    · exact rencode_5 x w h0 h1 h2.1 h2.2 h
    · exact rencode_6 x w h0 h1 h2.1 h2.2 h
    · exact rencode_7 x w h0 h1 h2.1 h2.2 h
    · exact rencode_8 x w h0 h1 h2.1 h2.2 h
    · exact rencode_9 x w h0 h1 h2.1 h2.2 h

end Go.Proofs.YtceelkmedfoefaaDoor

