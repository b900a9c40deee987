/- The text of any right instruction is read as it, and the lines of any words as them: for every instruction and every slice of words; the tables of the packages inst and encode as they are laid. -/
import Derived.Test.YtceelkmedfoefaaDoorB2
import Derived.Test.YtceelkmedfoefaaDoorA17
import Derived.Test.YtceelkmedfoefaaDoorA19
import Derived.Test.YtceelkmedfoefaaDoorL14
import Derived.Test.YtceelkmedfoefaaDoorA20
import Derived.Test.YtceelkmedfoefaaDoorA27
import Derived.Deep.QuietTactic
import Derived.BigQuiet
import Derived.Test.YtceelkmedfoefaaDoorR1
import Derived.Test.YtceelkmedfoefaaDoorTie
import Derived.Test.YtceelkmedfoefaaDoorCards
import Derived.SevenTiedAt
import Derived.Carry
import Derived.ChangeSlices
/- The reference's Right, whatever the instruction is, its immediate a word. -/
set_option linter.unusedVariables false
set_option linter.unusedSimpArgs false
/-! The reference's Power, Signed, signed, reg. -/
namespace Go.Proofs.YtceelkmedfoefaaDoor
open Go.RowKit

theorem tmod2 (m : Int) : m.tmod 2 = 0 ↔ m % 2 = 0 := ⟨fun h => Int.emod_eq_zero_of_dvd (Int.dvd_of_tmod_eq_zero h), fun h => Int.tmod_eq_zero_of_dvd (Int.dvd_of_emod_eq_zero h)⟩
theorem pow_le62 {k : Nat} (h : k ≤ 62) : (2 : Int) ^ k ≤ 4611686018427387904 := by
  have : (2 : Nat) ^ k ≤ 2 ^ 62 := Nat.pow_le_pow_right (by omega) h
  have h2 : ((2 : Int) ^ k) = ((2 ^ k : Nat) : Int) := by simp
  rw [h2]; omega
theorem pow_pos2 (k : Nat) : (1 : Int) ≤ (2 : Int) ^ k := by
  have : 0 < (2 : Nat) ^ k := Nat.pow_pos (by omega)
  have h2 : ((2 : Int) ^ k) = ((2 ^ k : Nat) : Int) := by simp
  rw [h2]; omega
set_option maxHeartbeats 400000 in
theorem power_any (n : Nat) (w : World) (hn : n ≤ 62) :
    Calls Tryd.prog 69 #[.int .i64 n] w fun e w' => e = .returned (.int .u64 (2 ^ n)) ∧ w = w' := by
  go_enter Tryd.func69, Tryd.ntmps69
  go_wp2_with fail
  go_loop [3, 4] (fun o i => ∃ (k : Nat) (v : Int), k ≤ n ∧ i = .int .i64 k ∧ o = .int .u64 v ∧ Hd (v = 2 ^ k) ∧ 0 ≤ v ∧ v ≤ 4611686018427387904) (fun _ i => n - (intOf i).toNat)
  case atStart => exact ⟨0, 1, Nat.zero_le _, rfl, rfl, ⟨rfl⟩, by omega, by omega⟩
  case round =>
    obtain ⟨k, v, hk, rfl, rfl, hv, h0, h1⟩ := hrel
    by_cases hlt : k < n
    · have hw : IntKind.u64.wrap (v * 2) = v * 2 := by rw [IntKind.wrap_u64]; omega
      have hp : Hd (v * 2 ≤ 4611686018427387904) := ⟨by
        have := pow_le62 (k := k + 1) (by omega)
        rw [Int.pow_succ, ← hv.out] at this; exact this⟩
      go_wp2_with fail
      exact ⟨⟨k + 1, v * 2, by omega, by simp, rfl, ⟨by rw [Int.pow_succ, ← hv.out]⟩, by omega, hp.out⟩, by simp [intOf]; omega⟩
    · have : k = n := by omega
      subst this
      go_wp2_with fail
      go_ret
      exact ⟨by have hv2 := hv.out; subst hv2; rfl, rfl⟩
set_option maxHeartbeats 400000 in
theorem signed_any (n : Int) (w : World) (h0 : 0 ≤ n) (h1 : n < 4294967296) :
    Calls Tryd.prog 68 #[.int .u32 n] w fun e w' => e = .returned (.int .i64 (sgnW n)) ∧ w = w' := by
  go_enter Tryd.func68, Tryd.ntmps68
  by_cases h : 2147483648 ≤ n
  · have HX : Hd (sgnW n = n - 4294967296) := ⟨by unfold sgnW; rw [if_pos h]⟩
    go_wp2_with fail
    go_ret
    exact ⟨by rw [HX.out]; rfl, rfl⟩
  · have HX : Hd (sgnW n = n) := ⟨by unfold sgnW; rw [if_neg h]⟩
    go_wp2_with fail
    go_ret
    exact ⟨by rw [HX.out]; rfl, rfl⟩
def rregB (n : Int) (b : Bool) : Bool := decide (0 ≤ n ∧ n ≤ 31 ∧ (b = true ∨ n = 0))
set_option maxHeartbeats 400000 in
theorem rreg_any (n : Int) (b : Bool) (w : World) :
    Calls Tryd.prog 40 #[.int .i64 n, .bool b] w fun e w' => e = .returned (.bool (rregB n b)) ∧ w = w' := by
  cases b
  all_goals
    go_enter Tryd.func40, Tryd.ntmps40
    go_wp2_with fail
  all_goals
    go_ret
    refine ⟨ret_bool ?_, rfl⟩
    (try simp only [beq_iff_eq, beq_eq_false_iff_ne, ne_eq] at *)
    unfold rregB
    rw [Bool.eq_iff_iff]; simp; try omega
set_option maxHeartbeats 400000 in
theorem rsigned12 (n : Int) (w : World) (h0 : 0 ≤ n) (h1 : n < 4294967296) :
    Calls Tryd.prog 41 #[.int .u32 n, .int .i64 12, .int .i64 1] w fun e w' => e = .returned (.bool (sB n 2048 1)) ∧ w = w' := by
  obtain ⟨m, hm⟩ : ∃ m, sgnW n = m := ⟨_, rfl⟩
  have HM := Hd.mk hm
  have hr : -2147483648 ≤ m ∧ m < 2147483648 := by rw [← hm]; unfold sgnW; split <;> omega
  obtain ⟨hr1, hr2⟩ := hr
  clear hm
  go_enter Tryd.func41, Tryd.ntmps41
  go_wp2_with (first | (go_at_call 68; refine (signed_any n _ h0 h1).mono ?_; rw [HM.out]; rintro e w' ⟨rfl, rfl⟩) | (go_at_call 69; refine (power_any 11 _ (by omega)).mono ?_; rintro e w' ⟨rfl, rfl⟩))
  all_goals
    go_ret
    refine ⟨ret_bool ?_, rfl⟩
    unfold sB
    rw [HM.out]
    rw [Bool.eq_iff_iff]
    simp
    try rw [tmod2]
    try omega
set_option maxHeartbeats 400000 in
theorem rsigned13 (n : Int) (w : World) (h0 : 0 ≤ n) (h1 : n < 4294967296) :
    Calls Tryd.prog 41 #[.int .u32 n, .int .i64 13, .int .i64 2] w fun e w' => e = .returned (.bool (sB n 4096 2)) ∧ w = w' := by
  obtain ⟨m, hm⟩ : ∃ m, sgnW n = m := ⟨_, rfl⟩
  have HM := Hd.mk hm
  have hr : -2147483648 ≤ m ∧ m < 2147483648 := by rw [← hm]; unfold sgnW; split <;> omega
  obtain ⟨hr1, hr2⟩ := hr
  clear hm
  go_enter Tryd.func41, Tryd.ntmps41
  go_wp2_with (first | (go_at_call 68; refine (signed_any n _ h0 h1).mono ?_; rw [HM.out]; rintro e w' ⟨rfl, rfl⟩) | (go_at_call 69; refine (power_any 12 _ (by omega)).mono ?_; rintro e w' ⟨rfl, rfl⟩))
  all_goals
    go_ret
    refine ⟨ret_bool ?_, rfl⟩
    unfold sB
    rw [HM.out]
    rw [Bool.eq_iff_iff]
    simp
    try rw [tmod2]
    try omega
set_option maxHeartbeats 400000 in
theorem rsigned21 (n : Int) (w : World) (h0 : 0 ≤ n) (h1 : n < 4294967296) :
    Calls Tryd.prog 41 #[.int .u32 n, .int .i64 21, .int .i64 2] w fun e w' => e = .returned (.bool (sB n 1048576 2)) ∧ w = w' := by
  obtain ⟨m, hm⟩ : ∃ m, sgnW n = m := ⟨_, rfl⟩
  have HM := Hd.mk hm
  have hr : -2147483648 ≤ m ∧ m < 2147483648 := by rw [← hm]; unfold sgnW; split <;> omega
  obtain ⟨hr1, hr2⟩ := hr
  clear hm
  go_enter Tryd.func41, Tryd.ntmps41
  go_wp2_with (first | (go_at_call 68; refine (signed_any n _ h0 h1).mono ?_; rw [HM.out]; rintro e w' ⟨rfl, rfl⟩) | (go_at_call 69; refine (power_any 20 _ (by omega)).mono ?_; rintro e w' ⟨rfl, rfl⟩))
  all_goals
    go_ret
    refine ⟨ret_bool ?_, rfl⟩
    unfold sB
    rw [HM.out]
    rw [Bool.eq_iff_iff]
    simp
    try rw [tmod2]
    try omega
end Go.Proofs.YtceelkmedfoefaaDoor

set_option linter.unusedVariables false
set_option linter.unusedSimpArgs false
/-! The reference's Right. -/
namespace Go.Proofs.YtceelkmedfoefaaDoor
open Go.RowKit

theorem val_bool {a b : Bool} (h : a = b) : Value.bool a = .bool b := by rw [h]
def n1B (f : Int) : Bool := decide (f ≠ 0 ∧ f ≠ 4 ∧ f ≠ 5)
def n2B (f : Int) : Bool := decide (3 ≤ f ∧ f ≤ 8)
def n3B (f : Int) : Bool := decide (4 ≤ f ∧ f ≤ 6)
def halfOf (wd : Int) : Int := if wd = 12 then 2048 else if wd = 13 then 4096 else 1048576
theorem rsigned_any (n wd unit : Int) (w : World) (h0 : 0 ≤ n) (h1 : n < 4294967296) (h : (wd = 12 ∧ unit = 1) ∨ (wd = 13 ∧ unit = 2) ∨ (wd = 21 ∧ unit = 2)) :
    Calls Tryd.prog 41 #[.int .u32 n, .int .i64 wd, .int .i64 unit] w fun e w' => e = .returned (.bool (sB n (halfOf wd) unit)) ∧ w = w' := by
  rcases h with ⟨rfl, rfl⟩ | ⟨rfl, rfl⟩ | ⟨rfl, rfl⟩
  · exact rsigned12 n w h0 h1
  · exact rsigned13 n w h0 h1
  · exact rsigned21 n w h0 h1
def csrB (n f : Int) : Bool := decide (0 ≤ n ∧ n ≤ 4095 ∧ (8 ≤ f ∨ n = 0))
def immR (n f : Int) : Bool :=
  if f = 1 then decide (n % 4096 = 0) else if f = 2 then sB n 1048576 2 else if f = 4 then sB n 4096 2 else if f = 3 ∨ f = 5 then sB n 2048 1
  else if f = 7 ∨ f = 9 then decide (n < 32) else decide (n = 0)
theorem right_split (x : NI) : rightB x = (decide (0 ≤ x.op ∧ x.op < 58) && (rregB x.rd (n1B (formP x.op)) && rregB x.rs1 (n2B (formP x.op)) && rregB x.rs2 (n3B (formP x.op))) && csrB x.csr (formP x.op) && immR x.imm (formP x.op)) := by
  obtain ⟨op, rd, rs1, rs2, imm, csr⟩ := x
  obtain ⟨f, hf⟩ : ∃ f, formP op = f := ⟨_, rfl⟩
  have hr : f = 0 ∨ f = 1 ∨ f = 2 ∨ f = 3 ∨ f = 4 ∨ f = 5 ∨ f = 6 ∨ f = 7 ∨ f = 8 ∨ f = 9 := by
    have := formP_range op; omega
  unfold rightB
  simp only [hf]
  rcases hr with rfl | rfl | rfl | rfl | rfl | rfl | rfl | rfl | rfl | rfl <;>
  · rw [Bool.eq_iff_iff]
    simp [onlyX, rregB, regB, n1B, n2B, n3B, csrB, immR, immB]
    try omega
    try (constructor <;> (intro h; simp_all; try omega))

set_option maxRecDepth 100000 in
set_option maxHeartbeats 16000000 in
theorem rright_any (x : NI) (w : World) (hi0 : 0 ≤ x.imm) (hi1 : x.imm < 4294967296) :
    Calls Tryd.prog 17 #[.agg (NC x)] w fun e w' => e = .returned (.bool (rightB x)) ∧ Below w.heap.size w w' := by
  have hx : Blk (w.alloc (.cells (NC x) 36)) w.heap.size (NC x) 36 := blk_new _ _ _
  have hb : Below w.heap.size w (w.alloc (.cells (NC x) 36)) := (Below.refl _ _).alloc (Nat.le_refl _) _
  have HS := Hd.mk (right_split x)
  have k0 := hx.cell 0 (v := .int .i64 x.op) rfl
  have k1 := hx.cell 1 (v := .int .i64 x.rd) rfl
  have k2 := hx.cell 2 (v := .int .i64 x.rs1) rfl
  have k3 := hx.cell 3 (v := .int .i64 x.rs2) rfl
  have k4 := hx.cell 4 (v := .int .u32 x.imm) rfl
  have k5 := hx.cell 5 (v := .int .i64 x.csr) rfl
  by_cases hop : 0 ≤ x.op ∧ x.op < 58
  · obtain ⟨f, hf⟩ : ∃ f, formP x.op = f := ⟨_, rfl⟩
    have HF := Hd.mk hf
    have hr : f = 0 ∨ f = 1 ∨ f = 2 ∨ f = 3 ∨ f = 4 ∨ f = 5 ∨ f = 6 ∨ f = 7 ∨ f = 8 ∨ f = 9 := by
      have := formP_range x.op; omega
    have HR := Hd.mk hr
    have HS2 : Hd (rightB x = ((rregB x.rd (n1B f) && rregB x.rs1 (n2B f) && rregB x.rs2 (n3B f)) && csrB x.csr f && immR x.imm f)) := ⟨by
      rw [HS.out, HF.out, decide_eq_true hop]; simp⟩
    obtain ⟨q1, hq1⟩ : ∃ q, rregB x.rd (n1B f) = q := ⟨_, rfl⟩
    obtain ⟨q2, hq2⟩ : ∃ q, rregB x.rs1 (n2B f) = q := ⟨_, rfl⟩
    obtain ⟨q3, hq3⟩ : ∃ q, rregB x.rs2 (n3B f) = q := ⟨_, rfl⟩
    rw [hq1, hq2, hq3] at HS2
    have HQ1 := Hd.mk hq1
    have HQ2 := Hd.mk hq2
    have HQ3 := Hd.mk hq3
    obtain ⟨hop1, hop2⟩ := hop
    clear hf hr HS hq1 hq2 hq3
    go_enter Tryd.func17, Tryd.ntmps17
    go_upto_region 1 with fail
    generalize w.alloc _ = w1 at k0 k1 k2 k3 k4 k5 hb hx ⊢
    clear hx
    go_upto_region 4 with (go_at_call 39; refine (rform_any _ _).mono ?_; rw [HF.out]; rintro e w' ⟨rfl, rfl⟩)
    go_cut [52] (fun u w' => w1 = w' ∧ u = .bool (!(q1 && q2 && q3)))
    case first =>
      rcases HR.out with rfl | rfl | rfl | rfl | rfl | rfl | rfl | rfl | rfl | rfl
      all_goals
        cases q1
        · go_wp2_with (go_at_call 40; refine (rreg_any _ _ _).mono ?_; (first | rw [show rregB x.rd true = _ from HQ1.out] | rw [show rregB x.rd false = _ from HQ1.out]); rintro e w' ⟨rfl, rfl⟩)
          go_meet
          exact ⟨rfl, rfl⟩
        cases q2
        · go_wp2_with (go_at_call 40; refine (rreg_any _ _ _).mono ?_; (first | rw [show rregB x.rd true = _ from HQ1.out] | rw [show rregB x.rd false = _ from HQ1.out] | rw [show rregB x.rs1 true = _ from HQ2.out] | rw [show rregB x.rs1 false = _ from HQ2.out]); rintro e w' ⟨rfl, rfl⟩)
          go_meet
          exact ⟨rfl, rfl⟩
        go_wp2_with (go_at_call 40; refine (rreg_any _ _ _).mono ?_; (first | rw [show rregB x.rd true = _ from HQ1.out] | rw [show rregB x.rd false = _ from HQ1.out] | rw [show rregB x.rs1 true = _ from HQ2.out] | rw [show rregB x.rs1 false = _ from HQ2.out] | rw [show rregB x.rs2 true = _ from HQ3.out] | rw [show rregB x.rs2 false = _ from HQ3.out]); rintro e w' ⟨rfl, rfl⟩)
        go_meet
        exact ⟨rfl, rfl⟩
    case rest =>
      obtain ⟨rfl, rfl⟩ := hcut
      obtain ⟨q, hq⟩ : ∃ q, (q1 && q2 && q3) = q := ⟨_, rfl⟩
      rw [hq] at HS2 ⊢
      clear hq
      cases q
      · have HX : Hd (rightB x = false) := ⟨by rw [HS2.out]; rfl⟩
        go_wp2_with fail
        go_ret
        exact ⟨ret_bool HX.out.symm, hb⟩
      go_upto_region 6 with fail
      go_cut [69] (fun u w' => w1 = w' ∧ u = .bool (!(csrB x.csr f)))
      case first =>
        go_wp2_with fail
        all_goals
          go_meet
          refine ⟨rfl, val_bool ?_⟩
          (try simp only [beq_iff_eq, beq_eq_false_iff_ne, ne_eq] at *)
          unfold csrB
          rw [Bool.eq_iff_iff]
          simp
          try omega
      case rest =>
        obtain ⟨rfl, rfl⟩ := hcut
        obtain ⟨q, hq⟩ : ∃ q, csrB x.csr f = q := ⟨_, rfl⟩
        rw [hq] at HS2 ⊢
        clear hq
        cases q
        · have HX : Hd (rightB x = false) := ⟨by rw [HS2.out]; rfl⟩
          go_wp2_with fail
          go_ret
          exact ⟨ret_bool HX.out.symm, hb⟩
        have HX : Hd (rightB x = immR x.imm f) := ⟨by rw [HS2.out]; rfl⟩
        clear HS2
        rcases HR.out with rfl | rfl | rfl | rfl | rfl | rfl | rfl | rfl | rfl | rfl
        all_goals
          go_wp2_with (go_at_call 41; refine (rsigned_any x.imm _ _ _ hi0 hi1 (by decide)).mono ?_; rintro e w' ⟨rfl, rfl⟩)
        all_goals
          go_ret
          refine ⟨ret_bool ?_, hb⟩
          rw [HX.out]
          unfold immR
          first | rfl | (rw [Bool.eq_iff_iff]; simp; done) | (rw [Bool.eq_iff_iff]; simp; omega)
  · have HX : Hd (rightB x = false) := ⟨by rw [HS.out, decide_eq_false hop]; simp⟩
    have ho : x.op < 0 ∨ 58 ≤ x.op := by omega
    clear hop
    go_enter Tryd.func17, Tryd.ntmps17
    rcases ho with ho | ho
    all_goals
      go_wp2_with fail
      go_ret
      exact ⟨ret_bool HX.out.symm, hb⟩
end Go.Proofs.YtceelkmedfoefaaDoor


set_option linter.unusedVariables false
set_option linter.unusedSimpArgs false
namespace Go.Proofs.YtceelkmedfoefaaDoor
open Go.RowKit

set_option maxRecDepth 100000 in
set_option maxHeartbeats 1000000 in
theorem awake_any (w : World) (hE : Env w) (h4 : 4 ≤ w.heap.size) :
    Calls Tryd.prog 8 #[] w fun e w' => e = .returned (.bool true) ∧ Below w.heap.size w w' := by
  have hbA : bs ⟨#[97, 100, 100, 105, 32, 120, 49, 44, 32, 120, 48, 44, 32, 49, 48]⟩ = exA := rfl
  have hbB : bs ⟨#[108, 111, 111, 112, 58, 32, 97, 100, 100, 105, 32, 120, 49, 44, 32, 120, 49, 44, 32, 45, 49, 10, 98, 110, 101, 32, 120, 49, 44, 32, 120, 48, 44, 32, 108, 111, 111, 112, 10]⟩ = exB := rfl
  have HAB := Hd.mk (And.intro hbA hbB)
  clear hbA hbB
  go_enter Tryd.func8, Tryd.ntmps8
  go_wp2_with fail
  refine (line_any right_any ⟨#[97, 100, 100, 105, 32, 120, 49, 44, 32, 120, 48, 44, 32, 49, 48]⟩ w hE (by decide)).mono ?_
  rintro e w1 ⟨rfl, hb1⟩
  rw [HAB.out.1, exA_line]
  have hs1 := hb1.size
  go_wp2_with (refine st_blk rfl 36 _ _ rfl w1.heap.size (NC ⟨19, 1, 0, 0, 10, 0⟩) rfl rfl (blk_new w1 _ _) info36 rfl (nc_one _) ?_; intro w3 hb3 hg3)
  have hB3 := (hb1.alloc hs1 (.cells (NC zeroN) 36)).trans (below_of_grown hg3 hs1 (by simp; omega))
  have hs3 := hB3.size
  refine (program_any ⟨#[108, 111, 111, 112, 58, 32, 97, 100, 100, 105, 32, 120, 49, 44, 32, 120, 49, 44, 32, 45, 49, 10, 98, 110, 101, 32, 120, 49, 44, 32, 120, 48, 44, 32, 108, 111, 111, 112, 10]⟩ w3 (hE.below hB3) (by omega) (by decide)).mono ?_
  rintro e w4 ⟨⟨v, rfl, hv⟩, hb4⟩
  rw [HAB.out.2, exB_prog] at hv ⊢
  have hres4 := hb3.below hb4 hb3.lt
  have hB4 := hB3.trans (hb4.mono hs3)
  obtain ⟨g, cap, rfl, hBg, hg⟩ := hv.form (by decide)
  have c1 := hv.cells (g := g) rfl 1 (.int .u32 4261453539) rfl
  rw [Addr.add_mid, Nat.zero_add] at c1
  clear hb4 hb3 hg3 hv
  have k0 := hres4.cell 0 (v := .int .i64 19) rfl
  have k1 := hres4.cell 1 (v := .int .i64 1) rfl
  have k2 := hres4.cell 2 (v := .int .i64 0) rfl
  have k3 := hres4.cell 3 (v := .int .i64 0) rfl
  have k4 := hres4.cell 4 (v := .int .u32 10) rfl
  have k5 := hres4.cell 5 (v := .int .i64 0) rfl
  go_wp2_with fail
  go_ret
  exact ⟨rfl, hB4⟩
  trace_state

end Go.Proofs.YtceelkmedfoefaaDoor

set_option linter.unusedVariables false
set_option linter.unusedSimpArgs false
namespace Go.Proofs.YtceelkmedfoefaaDoor
open Go.RowKit

/-- What a law leaves. -/
def Lawful (w w' : World) (e : Ending) : Prop := e = .returned (.bool true) ∧ Below w.heap.size w w'
theorem awake_from {w w1 : World} (hE : Env w) (h4 : 4 ≤ w.heap.size) (hB : Below w.heap.size w w1) :
    Calls Tryd.prog 8 #[] w1 fun e w' => e = .returned (.bool true) ∧ Below w.heap.size w w' :=
  (awake_any w1 (hE.below hB) (by have := hB.size; omega)).mono fun e w' ⟨h1, h2⟩ => ⟨h1, hB.trans (h2.mono hB.size)⟩

end Go.Proofs.YtceelkmedfoefaaDoor

set_option linter.unusedVariables false
set_option linter.unusedSimpArgs false
/-! Law AsmBack, walked. -/
namespace Go.Proofs.YtceelkmedfoefaaDoor
open Go.RowKit

set_option maxRecDepth 100000 in
set_option maxHeartbeats 4000000 in
theorem lawBack_big (x : NI) (p : Option Addr) (n cap : Nat) (w : World) (hE : Env w) (h4 : 4 ≤ w.heap.size) (hbig : 400 < n) :
    Calls Tryd.prog 7 #[.agg (NC x), .slice p n cap] w fun e w' => Lawful w w' e := by
  have e1 : decide ((n : Int) > 400) = true := decide_eq_true (by omega)
  have hb1 : Below w.heap.size w (w.alloc (.cells (NC x) 36)) := (Below.refl _ _).alloc (Nat.le_refl _) _
  go_enter Tryd.func7, Tryd.ntmps7
  go_upto_region 1 with fail
  generalize w.alloc _ = w1 at hb1 ⊢
  go_wp2_with (go_at_call 8; refine (awake_from hE h4 hb1).mono ?_; rintro e w' ⟨rfl, hb⟩)
  go_ret
  exact ⟨rfl, hb⟩
/-- The slice of words among the arguments. -/
structure Words (w w' : World) (p : Option Addr) (n : Nat) (l : List Int) : Prop where
  len : l.length = n
  max : n ≤ 400
  range : ∀ x ∈ l, 0 ≤ x ∧ x < 4294967296
  cell : ∀ i, i < n → ∃ ad, p = some ad ∧ ad.block < w.heap.size ∧ w'.cell? (ad.add i) = some (.int .u32 (l.getD i 0))
theorem Words.below {w w' w'' : World} {p : Option Addr} {n : Nat} {l : List Int} (h : Words w w' p n l) (hb : Below w.heap.size w' w'') : Words w w'' p n l :=
  ⟨h.len, h.max, h.range, fun i hi => by
    obtain ⟨ad, h1, h2, h3⟩ := h.cell i hi
    exact ⟨ad, h1, h2, (hb.cell (by rw [addr_block]; exact h2)).trans h3⟩⟩
theorem dlines_words {w w' : World} {p : Option Addr} {n : Nat} {l : List Int} (h : Words w w' p n l) (cap : Nat) (hE : Env w') (hb : w.heap.size ≤ w'.heap.size) :
    Calls Tryd.prog 19 #[.slice p n cap] w' fun e w'' => ∃ s : ByteArray, (programR (bs s) = (l, 0, 0) ∧ s.size ≤ 65536) ∧ e = .returned (.string s) ∧ Below w'.heap.size w' w'' := by
  refine (dlines_any l p n cap w' hE h.len h.max h.range (fun i hi => ?_)).mono ?_
  · obtain ⟨ad, h1, h2, h3⟩ := h.cell i hi
    exact ⟨ad, h1, by omega, h3⟩
  · rintro e w'' ⟨⟨s, hs, rfl⟩, hb'⟩
    have h1 := linesT_len l h.range
    have h2 := h.len
    have h3 := h.max
    refine ⟨s, ⟨?_, ?_⟩, rfl, hb'⟩
    · rw [hs]; exact prog_back h.range (by omega)
    · rw [← bs_length, hs]; omega
set_option maxRecDepth 100000 in
set_option maxHeartbeats 4000000 in
theorem lawBack_ill (x : NI) (l : List Int) (p : Option Addr) (n cap : Nat) (w : World) (hE : Env w) (h4 : 4 ≤ w.heap.size) (hw : Words w w p n l) (h0 : x.op = 0) :
    Calls Tryd.prog 7 #[.agg (NC x), .slice p n cap] w fun e w' => Lawful w w' e := by
  have hX := xq_new w x
  have e0 : decide ((n : Int) > 400) = false := decide_eq_false (by have := hw.max; omega)
  have HW0 := Hd.mk hw
  have hop2 : (x.op != 0) = false := by rw [h0]; rfl
  have hop3 : (x.op == 0) = true := by rw [h0]; rfl
  clear h0 hw
  go_enter Tryd.func7, Tryd.ntmps7
  go_upto_region 1 with fail
  generalize w.alloc _ = w1 at hX ⊢
  obtain ⟨c0, c1, c2, c3, c4, c5⟩ := hX.cells
  go_upto_region 8 with fail
  have hB := hX.bel
  have HW := Hd.mk (HW0.out.below hB)
  have hE1 := hE.below hB
  have hsz := hB.size
  clear hX
  go_wp2_with (go_at_call 19; refine (dlines_words HW.out cap hE1 hsz).mono ?_; rintro e w8 ⟨s8, hs8, rfl, hb8⟩; have HS8 := Hd.mk hs8; clear hs8; have hB8 := hB.trans (hb8.mono hsz))
  refine (program_any s8 w8 (hE.below hB8) (by have := hB8.size; omega) (by have := HS8.out.2; omega)).mono ?_
  rintro e w9 ⟨⟨v9, rfl, ho9⟩, hb9⟩
  rw [HS8.out.1] at ho9 ⊢
  have hB9 := hB8.trans (hb9.mono hB8.size)
  have HW9 := Hd.mk (HW.out.below ((hb8.mono hsz).trans (hb9.mono hB8.size)))
  clear hb8 hb9 hB8 HW HS8 hB hE1 hsz
  replace ho9 : w9.ownsRow w8.heap.size 29 1 v9 l.length (wvals l) := ho9
  rw [HW9.out.len] at ho9
  obtain ⟨a9, cap9, rfl⟩ := own_form ho9
  have hn4 := HW9.out.max
  go_wp2_with fail
  go_loopw [12] (fun i wr => ∃ k : Nat, k ≤ n ∧ i = .int .i64 k ∧ Below w9.heap.size w9 wr) (fun i _ => n - (intOf i).toNat)
  case atStart => exact ⟨0, Nat.zero_le _, rfl, Below.refl _ _⟩
  case round =>
    obtain ⟨k, hk, rfl, hb3⟩ := hrel
    have hB3 := hB9.trans (hb3.mono hB9.size)
    by_cases hlt : k < n
    · have hki : (k : Int) < (n : Int) := by omega
      obtain ⟨ad, rfl, hadb, hcell⟩ := HW9.out.cell k hlt
      have x2 : wr.cell? (ad.add k) = some (.int .u32 (l.getD k 0)) := (hb3.cell (by rw [addr_block]; have := hB9.size; omega)).trans hcell
      obtain ⟨b, hb⟩ : ∃ b, l.getD k 0 = b := ⟨_, rfl⟩
      have hx : (wvals l)[k]? = some (.int .u32 b) := by
        have hk2 : k < l.length := by rw [HW9.out.len]; exact hlt
        unfold wvals
        rw [List.getElem?_map, List.getElem?_eq_getElem hk2, ← hb, List.getD_eq_getElem?_getD, List.getElem?_eq_getElem hk2]; rfl
      rw [hb] at x2
      obtain ⟨g1, d1, hf1, hg1, hg2⟩ := ho9.form (by omega)
      have x1 := (ho9.kept (grown_of_below hb3) (by cases (Value.slice a9 n cap9).ownBlock <;> simp)).cells (g := g1) (by rw [hf1]; rfl) k _ hx
      rw [Addr.add_mid, Nat.zero_add] at x1
      cases hf1
      clear hx hb ho9 hcell hadb
      go_wp2_with fail
      go_quiet (fail)
      go_wp2_with fail
      exact ⟨⟨k + 1, by omega, by simp, pw_below_drewN2 hb3 nq⟩, by simp [intOf]; omega⟩
    · go_wp2_with fail
      refine (awake_from hE h4 hB3).mono ?_
      rintro e w4 ⟨rfl, hb⟩
      go_wp2_with fail
      go_ret
      exact ⟨rfl, hb⟩
set_option maxRecDepth 100000 in
set_option maxHeartbeats 4000000 in
theorem lawBack_wrong (x : NI) (l : List Int) (p : Option Addr) (n cap : Nat) (w : World) (hE : Env w) (h4 : 4 ≤ w.heap.size) (hw : Words w w p n l) (hx0 : 0 ≤ x.imm) (hx1 : x.imm < 4294967296) (h0 : ¬ x.op = 0) (hR : rightB x = false) :
    Calls Tryd.prog 7 #[.agg (NC x), .slice p n cap] w fun e w' => Lawful w w' e := by
  have hX := xq_new w x
  have e0 : decide ((n : Int) > 400) = false := decide_eq_false (by have := hw.max; omega)
  have HW0 := Hd.mk hw
  have hop2 : (x.op != 0) = true := by simpa using h0
  have hop3 : (x.op == 0) = false := beq_eq_false_iff_ne.2 h0
  have HR := Hd.mk hR
  clear h0 hw hR
  go_enter Tryd.func7, Tryd.ntmps7
  go_upto_region 1 with fail
  generalize w.alloc _ = w1 at hX ⊢
  obtain ⟨c0, c1, c2, c3, c4, c5⟩ := hX.cells
  go_upto_region 8 with (first | (refine ld_blk rfl 36 _ rfl w.heap.size rfl hX.blk Tryd.underlying36 (by rw [info36]; rfl) ?_) | (go_at_call 17; refine (rright_any x _ hx0 hx1).mono ?_; rw [HR.out]; rintro e w2 ⟨rfl, hb'⟩; replace hX := hX.next hb'; clear hb' c0 c1 c2 c3 c4 c5; obtain ⟨c0, c1, c2, c3, c4, c5⟩ := hX.cells))
  have hB := hX.bel
  have HW := Hd.mk (HW0.out.below hB)
  have hE1 := hE.below hB
  have hsz := hB.size
  clear hX
  go_wp2_with (go_at_call 19; refine (dlines_words HW.out cap hE1 hsz).mono ?_; rintro e w8 ⟨s8, hs8, rfl, hb8⟩; have HS8 := Hd.mk hs8; clear hs8; have hB8 := hB.trans (hb8.mono hsz))
  refine (program_any s8 w8 (hE.below hB8) (by have := hB8.size; omega) (by have := HS8.out.2; omega)).mono ?_
  rintro e w9 ⟨⟨v9, rfl, ho9⟩, hb9⟩
  rw [HS8.out.1] at ho9 ⊢
  have hB9 := hB8.trans (hb9.mono hB8.size)
  have HW9 := Hd.mk (HW.out.below ((hb8.mono hsz).trans (hb9.mono hB8.size)))
  clear hb8 hb9 hB8 HW HS8 hB hE1 hsz
  replace ho9 : w9.ownsRow w8.heap.size 29 1 v9 l.length (wvals l) := ho9
  rw [HW9.out.len] at ho9
  obtain ⟨a9, cap9, rfl⟩ := own_form ho9
  have hn4 := HW9.out.max
  go_wp2_with fail
  go_loopw [12] (fun i wr => ∃ k : Nat, k ≤ n ∧ i = .int .i64 k ∧ Below w9.heap.size w9 wr) (fun i _ => n - (intOf i).toNat)
  case atStart => exact ⟨0, Nat.zero_le _, rfl, Below.refl _ _⟩
  case round =>
    obtain ⟨k, hk, rfl, hb3⟩ := hrel
    have hB3 := hB9.trans (hb3.mono hB9.size)
    by_cases hlt : k < n
    · have hki : (k : Int) < (n : Int) := by omega
      obtain ⟨ad, rfl, hadb, hcell⟩ := HW9.out.cell k hlt
      have x2 : wr.cell? (ad.add k) = some (.int .u32 (l.getD k 0)) := (hb3.cell (by rw [addr_block]; have := hB9.size; omega)).trans hcell
      obtain ⟨b, hb⟩ : ∃ b, l.getD k 0 = b := ⟨_, rfl⟩
      have hx : (wvals l)[k]? = some (.int .u32 b) := by
        have hk2 : k < l.length := by rw [HW9.out.len]; exact hlt
        unfold wvals
        rw [List.getElem?_map, List.getElem?_eq_getElem hk2, ← hb, List.getD_eq_getElem?_getD, List.getElem?_eq_getElem hk2]; rfl
      rw [hb] at x2
      obtain ⟨g1, d1, hf1, hg1, hg2⟩ := ho9.form (by omega)
      have x1 := (ho9.kept (grown_of_below hb3) (by cases (Value.slice a9 n cap9).ownBlock <;> simp)).cells (g := g1) (by rw [hf1]; rfl) k _ hx
      rw [Addr.add_mid, Nat.zero_add] at x1
      cases hf1
      clear hx hb ho9 hcell hadb
      go_wp2_with fail
      go_quiet (fail)
      go_wp2_with fail
      exact ⟨⟨k + 1, by omega, by simp, pw_below_drewN2 hb3 nq⟩, by simp [intOf]; omega⟩
    · go_wp2_with fail
      refine (awake_from hE h4 hB3).mono ?_
      rintro e w4 ⟨rfl, hb⟩
      go_wp2_with fail
      go_ret
      exact ⟨rfl, hb⟩
end Go.Proofs.YtceelkmedfoefaaDoor

set_option linter.unusedVariables false
set_option linter.unusedSimpArgs false
/-! Law AsmBack, walked: a right instruction. -/
namespace Go.Proofs.YtceelkmedfoefaaDoor
open Go.RowKit

set_option maxRecDepth 100000 in
set_option maxHeartbeats 4000000 in
theorem lawBack_right (x : NI) (l : List Int) (p : Option Addr) (n cap : Nat) (w : World) (hE : Env w) (h4 : 4 ≤ w.heap.size) (hw : Words w w p n l) (hx0 : 0 ≤ x.imm) (hx1 : x.imm < 4294967296) (h0 : ¬ x.op = 0) (hR : rightB x = true) :
    Calls Tryd.prog 7 #[.agg (NC x), .slice p n cap] w fun e w' => Lawful w w' e := by
  have hX := xq_new w x
  have e0 : decide ((n : Int) > 400) = false := decide_eq_false (by have := hw.max; omega)
  have HW0 := Hd.mk hw
  have hop2 : (x.op != 0) = true := by simpa using h0
  have hop3 : (x.op == 0) = false := beq_eq_false_iff_ne.2 h0
  have HR := Hd.mk hR
  have HO := Hd.mk h0
  have HL : Hd (lineR (textR x) = (x, 0)) := ⟨line_back h0 hR hx0 hx1⟩
  have HTL := Hd.mk (textR_len hR hx0 hx1)
  clear h0 hw hR
  go_enter Tryd.func7, Tryd.ntmps7
  go_upto_region 1 with fail
  generalize w.alloc _ = w1 at hX ⊢
  obtain ⟨c0, c1, c2, c3, c4, c5⟩ := hX.cells
  go_upto_region 5 with (first | (refine ld_blk rfl 36 _ rfl w.heap.size rfl hX.blk Tryd.underlying36 (by rw [info36]; rfl) ?_) | (go_at_call 17; refine (rright_any x _ hx0 hx1).mono ?_; rw [HR.out]; rintro e w2 ⟨rfl, hb'⟩; replace hX := hX.next hb'; clear hb' c0 c1 c2 c3 c4 c5; obtain ⟨c0, c1, c2, c3, c4, c5⟩ := hX.cells) | (go_at_call 18; refine (text_any x _ (hE.below hX.bel) hx0 hx1 HO.out HR.out).mono ?_; rintro e w3 ⟨⟨s, hs, rfl⟩, hb'⟩; replace hX := hX.next hb'; have HS := Hd.mk hs; have hsl : s.size ≤ 1048576 := by { rw [← bs_length, hs]; exact Nat.le_trans HTL.out (by decide) }; clear hs hb' c0 c1 c2 c3 c4 c5; obtain ⟨c0, c1, c2, c3, c4, c5⟩ := hX.cells))
  go_wp2_with fail
  refine (line_any right_any s _ (hE.below hX.bel) hsl).mono ?_
  rintro e w4 ⟨hret, hb'⟩
  replace hX := hX.next hb'
  rw [hret, HS.out, HL.out]
  clear hret hb' c0 c1 c2 c3 c4 c5
  have hs4 := hX.bel.size
  have hlt4 := hX.blk.lt
  go_upto_region 6 with (refine st_blk rfl 36 _ _ rfl w4.heap.size (NC x) rfl rfl (blk_new w4 (NC zeroN) 36) info36 rfl (nc_one _) ?_; intro w5 hb5 hg5; have hx5 : Blk w5 w.heap.size #[.int .i64 x.op, .int .i64 x.rd, .int .i64 x.rs1, .int .i64 x.rs2, .int .u32 x.imm, .int .i64 x.csr] 36 := (hX.blk.alloc (.cells (NC zeroN) 36)).grown hg5 (by simp; omega); have hy5 : Blk w5 w4.heap.size #[.int .i64 x.op, .int .i64 x.rd, .int .i64 x.rs1, .int .i64 x.rs2, .int .u32 x.imm, .int .i64 x.csr] 36 := hb5; have hB5 := (hX.bel.alloc hs4 (.cells (NC zeroN) 36)).trans (below_of_grown hg5 hs4 (by simp; omega)); clear hX)
  have a0 := hx5.cell 0 (v := .int .i64 x.op) rfl
  have a1 := hx5.cell 1 (v := .int .i64 x.rd) rfl
  have a2 := hx5.cell 2 (v := .int .i64 x.rs1) rfl
  have a3 := hx5.cell 3 (v := .int .i64 x.rs2) rfl
  have a4 := hx5.cell 4 (v := .int .u32 x.imm) rfl
  have a5 := hx5.cell 5 (v := .int .i64 x.csr) rfl
  have b0 := hy5.cell 0 (v := .int .i64 x.op) rfl
  have b1 := hy5.cell 1 (v := .int .i64 x.rd) rfl
  have b2 := hy5.cell 2 (v := .int .i64 x.rs1) rfl
  have b3 := hy5.cell 3 (v := .int .i64 x.rs2) rfl
  have b4 := hy5.cell 4 (v := .int .u32 x.imm) rfl
  have b5 := hy5.cell 5 (v := .int .i64 x.csr) rfl
  clear hg5 hb5
  go_upto_region 8 with fail
  clear a0 a1 a2 a3 a4 a5 b0 b1 b2 b3 b4 b5
  have hB := hB5
  have HW := Hd.mk (HW0.out.below hB)
  have hE1 := hE.below hB
  have hsz := hB.size
  clear hx5 hy5
  go_wp2_with (go_at_call 19; refine (dlines_words HW.out cap hE1 hsz).mono ?_; rintro e w8 ⟨s8, hs8, rfl, hb8⟩; have HS8 := Hd.mk hs8; clear hs8; have hB8 := hB.trans (hb8.mono hsz))
  refine (program_any s8 w8 (hE.below hB8) (by have := hB8.size; omega) (by have := HS8.out.2; omega)).mono ?_
  rintro e w9 ⟨⟨v9, rfl, ho9⟩, hb9⟩
  rw [HS8.out.1] at ho9 ⊢
  have hB9 := hB8.trans (hb9.mono hB8.size)
  have HW9 := Hd.mk (HW.out.below ((hb8.mono hsz).trans (hb9.mono hB8.size)))
  clear hb8 hb9 hB8 HW HS8 hB hE1 hsz
  replace ho9 : w9.ownsRow w8.heap.size 29 1 v9 l.length (wvals l) := ho9
  rw [HW9.out.len] at ho9
  obtain ⟨a9, cap9, rfl⟩ := own_form ho9
  have hn4 := HW9.out.max
  go_wp2_with fail
  go_loopw [12] (fun i wr => ∃ k : Nat, k ≤ n ∧ i = .int .i64 k ∧ Below w9.heap.size w9 wr) (fun i _ => n - (intOf i).toNat)
  case atStart => exact ⟨0, Nat.zero_le _, rfl, Below.refl _ _⟩
  case round =>
    obtain ⟨k, hk, rfl, hb3⟩ := hrel
    have hB3 := hB9.trans (hb3.mono hB9.size)
    by_cases hlt : k < n
    · have hki : (k : Int) < (n : Int) := by omega
      obtain ⟨ad, rfl, hadb, hcell⟩ := HW9.out.cell k hlt
      have x2 : wr.cell? (ad.add k) = some (.int .u32 (l.getD k 0)) := (hb3.cell (by rw [addr_block]; have := hB9.size; omega)).trans hcell
      obtain ⟨b, hb⟩ : ∃ b, l.getD k 0 = b := ⟨_, rfl⟩
      have hx : (wvals l)[k]? = some (.int .u32 b) := by
        have hk2 : k < l.length := by rw [HW9.out.len]; exact hlt
        unfold wvals
        rw [List.getElem?_map, List.getElem?_eq_getElem hk2, ← hb, List.getD_eq_getElem?_getD, List.getElem?_eq_getElem hk2]; rfl
      rw [hb] at x2
      obtain ⟨g1, d1, hf1, hg1, hg2⟩ := ho9.form (by omega)
      have x1 := (ho9.kept (grown_of_below hb3) (by cases (Value.slice a9 n cap9).ownBlock <;> simp)).cells (g := g1) (by rw [hf1]; rfl) k _ hx
      rw [Addr.add_mid, Nat.zero_add] at x1
      cases hf1
      clear hx hb ho9 hcell hadb
      go_wp2_with fail
      go_quiet (fail)
      go_wp2_with fail
      exact ⟨⟨k + 1, by omega, by simp, pw_below_drewN2 hb3 nq⟩, by simp [intOf]; omega⟩
    · go_wp2_with fail
      refine (awake_from hE h4 hB3).mono ?_
      rintro e w4 ⟨rfl, hb⟩
      go_wp2_with fail
      go_ret
      exact ⟨rfl, hb⟩
theorem lawBack_any (x : NI) (hx0 : 0 ≤ x.imm) (hx1 : x.imm < 4294967296) (l : List Int) (p : Option Addr) (n cap : Nat) (w : World) (hE : Env w) (h4 : 4 ≤ w.heap.size) (hn : l.length = n)
    (hr : ∀ m ∈ l, 0 ≤ m ∧ m < 4294967296) (hc : ∀ i, i < n → ∃ ad, p = some ad ∧ ad.block < w.heap.size ∧ w.cell? (ad.add i) = some (.int .u32 (l.getD i 0))) :
    Calls Tryd.prog 7 #[.agg (NC x), .slice p n cap] w fun e w' => Lawful w w' e := by
  rcases Nat.lt_or_ge 400 n with hbig | hsm
  · exact lawBack_big x p n cap w hE h4 hbig
  have hw : Words w w p n l := ⟨hn, hsm, hr, hc⟩
  by_cases h0 : x.op = 0
  · exact lawBack_ill x l p n cap w hE h4 hw h0
  by_cases hR : rightB x = true
  · exact lawBack_right x l p n cap w hE h4 hw hx0 hx1 h0 hR
  · exact lawBack_wrong x l p n cap w hE h4 hw hx0 hx1 h0 (by simpa using hR)
end Go.Proofs.YtceelkmedfoefaaDoor

set_option linter.unusedVariables false
set_option linter.unusedSimpArgs false
namespace Go.Proofs.YtceelkmedfoefaaDoor
open Go.ChangeShapes Go.WideShapes Go.ChangeAt Go.WideMaps Go.WideElems Go.RowKit
open Go.ChangeMaps (open_string shut_string)

theorem laidOutT : laidOutB Tryd.prog = true := by kernel_rfl
theorem cells36 : Tryd.prog.cellsOf 36 = 6 := by kernel_rfl
theorem fields36 : ∃ f0 f1 f2 f3 f4 f5 : Field, Tryd.prog.underlying 36 = some (.struct #[f0, f1, f2, f3, f4, f5]) ∧
    (f0.type = 3 ∧ f1.type = 3 ∧ f2.type = 3 ∧ f3.type = 3 ∧ f4.type = 29 ∧ f5.type = 3) ∧ (f0.offset = 0 ∧ f1.offset = 1 ∧ f2.offset = 2 ∧ f3.offset = 3 ∧ f4.offset = 4 ∧ f5.offset = 5) :=
  ⟨_, _, _, _, _, _, Tryd.underlying36, ⟨rfl, rfl, rfl, rfl, rfl, rfl⟩, ⟨rfl, rfl, rfl, rfl, rfl, rfl⟩⟩
theorem array6 {α : Type} {a : Array α} (h : a.size = 6) : ∃ x0 x1 x2 x3 x4 x5, a = #[x0, x1, x2, x3, x4, x5] := by
  obtain ⟨l⟩ := a
  simp only [List.size_toArray] at h
  match l, h with
  | [x0, x1, x2, x3, x4, x5], _ => exact ⟨x0, x1, x2, x3, x4, x5, rfl⟩
section
variable {H : Type} {enc : TypeId × Value → H} {W : World} {base : Nat} {sp : Nat → Bool}
theorem block_lt2 {w : World} {a : Addr} {v : Value} (h : w.cell? a = some v) : a.block < w.heap.size := by
  unfold World.cell? at h
  split at h
  · rename_i hb; exact (Array.getElem?_eq_some_iff.1 hb).1
  · cases h
set_option maxRecDepth 100000 in
/-- An instruction among the arguments. -/
theorem open_ni {b0 : Nat} {v : Value} {d : DataW H} {p : List MemPlace} (hv : Value.okWide Tryd.prog W .any b0 36 v) (h : DataW.Trod enc Tryd.prog W base sp true 36 v d p) :
    ∃ x : NI, v = .agg (NC x) ∧ 0 ≤ x.imm ∧ x.imm < 4294967296 := by
  obtain ⟨f0, f1, f2, f3, f4, f5, hU, ⟨t0, t1, t2, t3, t4, t5⟩, ⟨o0, o1, o2, o3, o4, o5⟩⟩ := fields36
  obtain ⟨cs, rfl, hsz⟩ := okWide_struct hU hv
  obtain ⟨c0, c1, c2, c3', c4, c5, rfl⟩ := array6 (hsz.trans cells36)
  obtain ⟨fuel, hf⟩ := h
  obtain ⟨xs, n, rfl, hx, hlen, hxl, hF⟩ := DataW.trod_struct hU hf
  have g0 := hF 0 f0 rfl
  have g1 := hF 1 f1 rfl
  have g2 := hF 2 f2 rfl
  have g3 := hF 3 f3 rfl
  have g4 := hF 4 f4 rfl
  have g5 := hF 5 f5 rfl
  simp only [Value.cells, List.size_toArray, List.length_cons, List.length_nil] at hxl
  rw [t0, o0, c3, List.getElem?_eq_getElem (by simp [hxl])] at g0
  rw [t1, o1, c3, List.getElem?_eq_getElem (by simp [hxl])] at g1
  rw [t2, o2, c3, List.getElem?_eq_getElem (by simp [hxl])] at g2
  rw [t3, o3, c3, List.getElem?_eq_getElem (by simp [hxl])] at g3
  rw [t4, o4, c29, List.getElem?_eq_getElem (by simp [hxl])] at g4
  rw [t5, o5, c3, List.getElem?_eq_getElem (by simp [hxl])] at g5
  obtain ⟨n0, e0, _, _⟩ := DataW.trod_int Tryd.underlying3 g0
  obtain ⟨n1, e1, _, _⟩ := DataW.trod_int Tryd.underlying3 g1
  obtain ⟨n2, e2, _, _⟩ := DataW.trod_int Tryd.underlying3 g2
  obtain ⟨n3, e3, _, _⟩ := DataW.trod_int Tryd.underlying3 g3
  obtain ⟨n4, e4, _, w4⟩ := DataW.trod_int Tryd.underlying29 g4
  obtain ⟨n5, e5, _, _⟩ := DataW.trod_int Tryd.underlying3 g5
  simp [Value.cells] at e0 e1 e2 e3 e4 e5
  subst e0 e1 e2 e3 e4 e5
  have hb := bounds_u32 w4
  exact ⟨⟨n0, n1, n2, n3, n4, n5⟩, rfl, hb.1, by show n4 < 4294967296; omega⟩
end

set_option maxRecDepth 100000 in
theorem asmBack_lifted (os : Os) (started : os.Started) (H : Type) (enc : TypeId × Value → H) :
    ReturnsInHanded {} Tryd.checked os 7 .any (fun w args => (Rows.asmBackSpec.pre enc Tryd.prog Tryd.f7 [] false w args ∧ laidMetH Tryd.prog laid3 w) ∧ sizedMet enc Tryd.prog Tryd.f7 (OpenSpec.ofChange Rows.asmBackSpec) false w args)
      (Rows.asmBackSpec.post enc Tryd.prog Tryd.f7 false true false false) := by
  refine returnsInHanded_of_change_and (C := Tryd.checked) (X := fun w _ => laidMetH Tryd.prog laid3 w) (fun _ _ _ hh h => h.of_heap hh) ownK started (by kernel_rfl) Tryd.func7
    (ChangeSpec.witness_shaped (enc := enc) (C := Tryd.checked) (os := os) (X := fun w _ => laidMetH Tryd.prog laid3 w) false (World.doorLaid Tryd.prog 400 os) #[.agg (NC zeroN), .slice none 0 0] 8 rfl (World.shaped_of_RefB (by kernel_rfl) (by kernel_rfl)) (by kernel_rfl) (by kernel_rfl) (by kernel_rfl) (door_met os _)) ?_
  intro W base args ds gs before hval0 hW _ _ hL hsh
  have hval : ∀ (j : Nat) t v, Tryd.f7.params[j]? = some t → args[j]? = some v → Value.okWide Tryd.prog W .any base t v := hval0
  have hW' := hW
  obtain ⟨p, q, hA0, hV, rfl, hfz, hnd⟩ := hW
  have hA : DataW.TrodAll enc Tryd.prog W 0 (fun _ => true) true Tryd.f7.params.toList args.toList ds p := hA0
  rw [Tryd.params7] at hA hval
  obtain ⟨v0, v1, d0, d1, p0, p1, rfl, rfl, rfl, h0, h1⟩ := trodAll_two hA
  obtain ⟨rfl, rfl⟩ := trodVars_none hV
  have h0k := h0
  have h1k := h1
  obtain ⟨x, rfl, hx0, hx1⟩ := open_ni (hval 0 36 v0 rfl rfl) h0
  obtain ⟨a0, len, cap, rfl⟩ := okWide_slice Tryd.underlying39 (hval 1 39 v1 rfl rfl)
  have hE := env_of_laid hL
  clear hA0 hval0
  simp only [List.append_nil] at hW'
  have hlt0 : ∀ x ∈ p0, x.block < W.heap.size := fun x hx => by simpa using hW'.lt x (List.mem_append_left _ hx)
  have hlt1 : ∀ x ∈ p1, x.block < W.heap.size := fun x hx => by simpa using hW'.lt x (List.mem_append_right _ hx)
  have hcall : Calls Tryd.prog 7 #[.agg (NC x), .slice a0 len cap] W fun e W' => Lawful W W' e := by
    obtain ⟨fuel, hf⟩ := h1
    rcases open_ints Tryd.underlying39 Tryd.underlying29 c29 hf with ⟨hcs, hx⟩ | ⟨a, len', cap', zs, hcs, _, hl, hm, hz, hx, hcell, hwf⟩
    · replace hcs : [Value.slice a0 len cap] = [.slice none 0 0] := hcs
      simp only [List.cons.injEq, Value.slice.injEq, and_true] at hcs
      obtain ⟨rfl, rfl, rfl⟩ := hcs
      exact lawBack_any x hx0 hx1 [] none 0 0 W hE hE.size rfl (by simp) (fun i hi => by omega)
    · replace hcs : [Value.slice a0 len cap] = [.slice (some a) len' cap'] := hcs
      simp only [List.cons.injEq, Value.slice.injEq, and_true] at hcs
      obtain ⟨rfl, rfl, rfl⟩ := hcs
      simp only [if_true] at hz
      have hll : (zs.take len).length = len := by rw [List.length_take]; omega
      refine lawBack_any x hx0 hx1 (zs.take len) (some a) len cap W hE hE.size hll (fun n hn => ?_) (fun i hi => ⟨a, rfl, ?_, ?_⟩)
      · have hb := bounds_u32 (hwf n (List.mem_of_mem_take hn))
        omega
      · have hc := hcell i (by omega)
        have := block_lt2 hc
        rwa [addr_block] at this
      · rw [hcell i (by omega)]
        simp [List.getD_eq_getElem?_getD, List.getElem?_take, hi]
  refine hcall.mono ?_
  rintro e W' ⟨rfl, hB⟩
  exact ⟨_, rfl, _, _, _, [], p0 ++ p1, [], hW', trodAll_mk1 (shut_bool Tryd.underlying4 true), trodAll_mk2 (Below.trod laidOutT (by kernel_rfl) (of_decide_eq_true (by kernel_rfl)) h0k hB hlt0) (Below.trod laidOutT (by kernel_rfl) (of_decide_eq_true (by kernel_rfl)) h1k hB hlt1), rfl, hB.frame _, fun h => by cases h⟩

theorem asmBack_holds : Rows.AsmBackSaid :=
  OpenClaim.holds_of_wide 7 Tryd.f7 rfl rfl rfl rfl rfl rfl rfl ⟨rfl, rfl, rfl, rfl, rfl⟩ rfl rfl rfl rfl rfl (by kernel_rfl) Tryd.func7 (by kernel_rfl)
    (of_decide_eq_true (by kernel_rfl)) (by unfold Func.isWrapper; first | (rw [if_pos (by decide +kernel)]; kernel_rfl) | (rw [if_neg (by decide +kernel)]; exact ⟨rfl, rfl⟩))
    (fun os started H enc _ => asmBack_lifted os started H enc)

theorem asmBack_card : Rows.AsmBackCardSaid :=
  Claim7.holds_tied_plain_at .later [] [.data, .data, .data] true (true, "379bb9740dcee708e54628b5f9eb815e8a3078b48da92db2e74f01d606b64738") false
    asmBack_holds (fun _ h => by cases h) (by kernel_rfl) (fun _ h => by cases h) asmBack_row_tie rfl ⟨rfl, rfl⟩ (by kernel_rfl) rfl
    (fun f fn hf hfn => by
      obtain rfl : f = 7 := Option.some.inj ((show Tryd.prog.funcNamed "mimesis/mimesislaw06.AsmBack" = some 7 by kernel_rfl).symm.trans hf) |>.symm
      obtain rfl : fn = Tryd.f7 := (Option.some.inj (Tryd.func7.symm.trans hfn)).symm
      exact ⟨by kernel_rfl, fun j t ht => by
        rw [Tryd.params7] at ht
        have h3 : t = 36 ∨ t = 39 := by
          rcases j with _ | _ | j
          · left; simpa using ht.symm
          · right; simpa using ht.symm
          · simp at ht
        rcases h3 with rfl | rfl
        · exact (show Tryd.prog.wantsStandIn 36 = false by kernel_rfl)
        · exact (show Tryd.prog.wantsStandIn 39 = false by kernel_rfl)⟩)
    (by kernel_rfl)
#print axioms asmBack_card
end Go.Proofs.YtceelkmedfoefaaDoor

