import Derived.Test.YtceelkmedfoefaaDoorA16
import Derived.Laws.Shifts
import Derived.Laws.ShiftsVarLaws
import Derived.Laws.BitsAllLaws
set_option linter.unusedVariables false
set_option linter.unusedSimpArgs false
namespace Go.Proofs.YtceelkmedfoefaaDoor
open Go.RowKit

/-- A word as a signed number. -/
def sgnW (n : Int) : Int := if 2147483648 ≤ n then n - 4294967296 else n
/-- Is a word a signed number of so many bits ('half' of them), a multiple of a number? -/
def sB (n half unit : Int) : Bool := decide (-half ≤ sgnW n ∧ sgnW n < half ∧ sgnW n % unit = 0)
theorem and_mask (n : Int) (k : Nat) (hk : k ≤ 31) (h0 : 0 ≤ n) (h1 : n < 4294967296) : bits .and .u32 n (((2 ^ k - 1 : Nat)) : Int) = n % ((2 ^ k : Nat) : Int) := by
  have hp : (2 : Nat) ^ k ≤ 2 ^ 31 := Nat.pow_le_pow_right (by omega) hk
  have hp1 : 0 < (2 : Nat) ^ k := Nat.pow_pos (by omega)
  rw [u32_and n _ h0 h1 (by omega) (by omega), Int.toNat_natCast, Nat.and_two_pow_sub_one_eq_mod]
  obtain ⟨m, rfl⟩ := Int.eq_ofNat_of_zero_le h0
  rw [Int.toNat_natCast]
  omega
theorem and_1 (n : Int) (h0 : 0 ≤ n) (h1 : n < 4294967296) : bits .and .u32 n 1 = n % 2 := and_mask n 1 (by omega) h0 h1
theorem and_4095 (n : Int) (h0 : 0 ≤ n) (h1 : n < 4294967296) : bits .and .u32 n 4095 = n % 4096 := and_mask n 12 (by omega) h0 h1

theorem wrap32_eq (n : Int) : wrap32 n = (n + 2147483648) % 4294967296 - 2147483648 := by unfold wrap32; omega
theorem sg12 (n : Int) (h0 : 0 ≤ n) (h1 : n < 4294967296) : (wrap32 (n * 1048576 % 4294967296) / 1048576 % 4294967296 == n) = sB n 2048 1 := by
  rw [Bool.eq_iff_iff, beq_iff_eq, sB, decide_eq_true_eq, sgnW, wrap32_eq]; split <;> omega
theorem sg13 (n : Int) (h0 : 0 ≤ n) (h1 : n < 4294967296) : (wrap32 (n * 524288 % 4294967296) / 524288 % 4294967296 == n) = sB n 4096 1 := by
  rw [Bool.eq_iff_iff, beq_iff_eq, sB, decide_eq_true_eq, sgnW, wrap32_eq]; split <;> omega
theorem sg21 (n : Int) (h0 : 0 ≤ n) (h1 : n < 4294967296) : (wrap32 (n * 2048 % 4294967296) / 2048 % 4294967296 == n) = sB n 1048576 1 := by
  rw [Bool.eq_iff_iff, beq_iff_eq, sB, decide_eq_true_eq, sgnW, wrap32_eq]; split <;> omega

set_option maxHeartbeats 400000 in
theorem signed12 (n : Int) (w : World) (h0 : 0 ≤ n) (h1 : n < 4294967296) :
    Calls Tryd.prog 77 #[.int .u32 n, .int .i64 12] w fun e w' => e = .returned (.bool (sB n 2048 1)) ∧ w = w' := by
  go_enter Tryd.func77, Tryd.ntmps77
  go_wp2_with fail
  go_ret
  exact ⟨ret_bool (sg12 n h0 h1), rfl⟩
set_option maxHeartbeats 400000 in
theorem signed13 (n : Int) (w : World) (h0 : 0 ≤ n) (h1 : n < 4294967296) :
    Calls Tryd.prog 77 #[.int .u32 n, .int .i64 13] w fun e w' => e = .returned (.bool (sB n 4096 1)) ∧ w = w' := by
  go_enter Tryd.func77, Tryd.ntmps77
  go_wp2_with fail
  go_ret
  exact ⟨ret_bool (sg13 n h0 h1), rfl⟩
set_option maxHeartbeats 400000 in
theorem signed21 (n : Int) (w : World) (h0 : 0 ≤ n) (h1 : n < 4294967296) :
    Calls Tryd.prog 77 #[.int .u32 n, .int .i64 21] w fun e w' => e = .returned (.bool (sB n 1048576 1)) ∧ w = w' := by
  go_enter Tryd.func77, Tryd.ntmps77
  go_wp2_with fail
  go_ret
  exact ⟨ret_bool (sg21 n h0 h1), rfl⟩

def regB (n : Int) : Bool := decide (0 ≤ n ∧ n ≤ 31)
set_option maxHeartbeats 400000 in
theorem reg_any (n : Int) (w : World) :
    Calls Tryd.prog 59 #[.int .i64 n] w fun e w' => e = .returned (.bool (regB n)) ∧ w = w' := by
  go_enter Tryd.func59, Tryd.ntmps59
  go_wp2_with fail
  all_goals
    go_ret
    exact ⟨ret_bool (by rw [Bool.eq_iff_iff]; simp [regB]; omega), rfl⟩

theorem sB_two (n half : Int) (h : sgnW n % 2 = 0) : sB n half 1 = sB n half 2 := by
  rw [Bool.eq_iff_iff, sB, sB, decide_eq_true_eq, decide_eq_true_eq]; omega
theorem sB_odd (n half : Int) (h : ¬ sgnW n % 2 = 0) : sB n half 2 = false := by
  rw [sB, decide_eq_false_iff_not]; omega
theorem sgn_mod (n : Int) : sgnW n % 2 = n % 2 := by unfold sgnW; split <;> omega
set_option maxHeartbeats 400000 in
theorem even21 (n : Int) (w : World) (h0 : 0 ≤ n) (h1 : n < 4294967296) :
    Calls Tryd.prog 76 #[.int .u32 n, .int .i64 21] w fun e w' => e = .returned (.bool (sB n 1048576 2)) ∧ w = w' := by
  have hm := and_1 n h0 h1
  by_cases h : n % 2 = 0
  · have hb : bits .and .u32 n 1 = 0 := hm.trans h
    have HX := Hd.mk (sB_two n 1048576 (by rw [sgn_mod]; exact h))
    clear hm h
    go_enter Tryd.func76, Tryd.ntmps76
    go_wp2_with (go_at_call 77; refine (signed21 _ _ h0 h1).mono ?_; rw [HX.out]; rintro e w' ⟨rfl, rfl⟩)
    go_ret
    exact ⟨rfl, rfl⟩
  · have hb : (bits .and .u32 n 1 == 0) = false := beq_eq_false_iff_ne.2 (by rw [hm]; exact h)
    have HX := Hd.mk (sB_odd n 1048576 (by rw [sgn_mod]; exact h))
    clear hm h
    go_enter Tryd.func76, Tryd.ntmps76
    go_wp2_with fail
    go_ret
    exact ⟨ret_bool HX.out.symm, rfl⟩
set_option maxHeartbeats 400000 in
theorem even13 (n : Int) (w : World) (h0 : 0 ≤ n) (h1 : n < 4294967296) :
    Calls Tryd.prog 76 #[.int .u32 n, .int .i64 13] w fun e w' => e = .returned (.bool (sB n 4096 2)) ∧ w = w' := by
  have hm := and_1 n h0 h1
  by_cases h : n % 2 = 0
  · have hb : bits .and .u32 n 1 = 0 := hm.trans h
    have HX := Hd.mk (sB_two n 4096 (by rw [sgn_mod]; exact h))
    clear hm h
    go_enter Tryd.func76, Tryd.ntmps76
    go_wp2_with (go_at_call 77; refine (signed13 _ _ h0 h1).mono ?_; rw [HX.out]; rintro e w' ⟨rfl, rfl⟩)
    go_ret
    exact ⟨rfl, rfl⟩
  · have hb : (bits .and .u32 n 1 == 0) = false := beq_eq_false_iff_ne.2 (by rw [hm]; exact h)
    have HX := Hd.mk (sB_odd n 4096 (by rw [sgn_mod]; exact h))
    clear hm h
    go_enter Tryd.func76, Tryd.ntmps76
    go_wp2_with fail
    go_ret
    exact ⟨ret_bool HX.out.symm, rfl⟩

/-- May an instruction's immediate number be, by its form? -/
def immB (n f : Int) : Bool :=
  if f = 1 then decide (n % 4096 = 0) else if f = 2 then sB n 1048576 2 else if f = 4 then sB n 4096 2 else if f = 3 ∨ f = 5 then sB n 2048 1
  else if f = 7 ∨ f = 9 then decide (n < 32) else true
set_option maxRecDepth 100000 in
set_option maxHeartbeats 400000 in
theorem number_0 (n : Int) (w : World) (h0 : 0 ≤ n) (h1 : n < 4294967296) :
    Calls Tryd.prog 60 #[.int .u32 n, .int .i64 0] w fun e w' => e = .returned (.bool (immB n 0)) ∧ w = w' := by
  have HU := Hd.mk (and_4095 n h0 h1)
  go_enter Tryd.func60, Tryd.ntmps60
  go_wp2_with fail
  go_ret
  exact ⟨ret_bool rfl, rfl⟩
set_option maxRecDepth 100000 in
set_option maxHeartbeats 400000 in
theorem number_1 (n : Int) (w : World) (h0 : 0 ≤ n) (h1 : n < 4294967296) :
    Calls Tryd.prog 60 #[.int .u32 n, .int .i64 1] w fun e w' => e = .returned (.bool (immB n 1)) ∧ w = w' := by
  have HU := Hd.mk (and_4095 n h0 h1)
  go_enter Tryd.func60, Tryd.ntmps60
  go_wp2_with fail
  go_ret
  exact ⟨ret_bool (by rw [HU.out]; rfl), rfl⟩
set_option maxRecDepth 100000 in
set_option maxHeartbeats 400000 in
theorem number_2 (n : Int) (w : World) (h0 : 0 ≤ n) (h1 : n < 4294967296) :
    Calls Tryd.prog 60 #[.int .u32 n, .int .i64 2] w fun e w' => e = .returned (.bool (immB n 2)) ∧ w = w' := by
  have HU := Hd.mk (and_4095 n h0 h1)
  go_enter Tryd.func60, Tryd.ntmps60
  go_wp2_with (go_at_call 76; refine (even21 _ _ h0 h1).mono ?_; rintro e w' ⟨rfl, rfl⟩)
  go_ret
  exact ⟨rfl, rfl⟩
set_option maxRecDepth 100000 in
set_option maxHeartbeats 400000 in
theorem number_3 (n : Int) (w : World) (h0 : 0 ≤ n) (h1 : n < 4294967296) :
    Calls Tryd.prog 60 #[.int .u32 n, .int .i64 3] w fun e w' => e = .returned (.bool (immB n 3)) ∧ w = w' := by
  have HU := Hd.mk (and_4095 n h0 h1)
  go_enter Tryd.func60, Tryd.ntmps60
  go_wp2_with (go_at_call 77; refine (signed12 _ _ h0 h1).mono ?_; rintro e w' ⟨rfl, rfl⟩)
  go_ret
  exact ⟨rfl, rfl⟩
set_option maxRecDepth 100000 in
set_option maxHeartbeats 400000 in
theorem number_4 (n : Int) (w : World) (h0 : 0 ≤ n) (h1 : n < 4294967296) :
    Calls Tryd.prog 60 #[.int .u32 n, .int .i64 4] w fun e w' => e = .returned (.bool (immB n 4)) ∧ w = w' := by
  have HU := Hd.mk (and_4095 n h0 h1)
  go_enter Tryd.func60, Tryd.ntmps60
  go_wp2_with (go_at_call 76; refine (even13 _ _ h0 h1).mono ?_; rintro e w' ⟨rfl, rfl⟩)
  go_ret
  exact ⟨rfl, rfl⟩
set_option maxRecDepth 100000 in
set_option maxHeartbeats 400000 in
theorem number_5 (n : Int) (w : World) (h0 : 0 ≤ n) (h1 : n < 4294967296) :
    Calls Tryd.prog 60 #[.int .u32 n, .int .i64 5] w fun e w' => e = .returned (.bool (immB n 5)) ∧ w = w' := by
  have HU := Hd.mk (and_4095 n h0 h1)
  go_enter Tryd.func60, Tryd.ntmps60
  go_wp2_with (go_at_call 77; refine (signed12 _ _ h0 h1).mono ?_; rintro e w' ⟨rfl, rfl⟩)
  go_ret
  exact ⟨rfl, rfl⟩
set_option maxRecDepth 100000 in
set_option maxHeartbeats 400000 in
theorem number_6 (n : Int) (w : World) (h0 : 0 ≤ n) (h1 : n < 4294967296) :
    Calls Tryd.prog 60 #[.int .u32 n, .int .i64 6] w fun e w' => e = .returned (.bool (immB n 6)) ∧ w = w' := by
  have HU := Hd.mk (and_4095 n h0 h1)
  go_enter Tryd.func60, Tryd.ntmps60
  go_wp2_with fail
  go_ret
  exact ⟨ret_bool rfl, rfl⟩
set_option maxRecDepth 100000 in
set_option maxHeartbeats 400000 in
theorem number_7 (n : Int) (w : World) (h0 : 0 ≤ n) (h1 : n < 4294967296) :
    Calls Tryd.prog 60 #[.int .u32 n, .int .i64 7] w fun e w' => e = .returned (.bool (immB n 7)) ∧ w = w' := by
  have HU := Hd.mk (and_4095 n h0 h1)
  go_enter Tryd.func60, Tryd.ntmps60
  go_wp2_with fail
  go_ret
  exact ⟨ret_bool (by rw [Bool.eq_iff_iff]; simp [immB]; omega), rfl⟩
set_option maxRecDepth 100000 in
set_option maxHeartbeats 400000 in
theorem number_8 (n : Int) (w : World) (h0 : 0 ≤ n) (h1 : n < 4294967296) :
    Calls Tryd.prog 60 #[.int .u32 n, .int .i64 8] w fun e w' => e = .returned (.bool (immB n 8)) ∧ w = w' := by
  have HU := Hd.mk (and_4095 n h0 h1)
  go_enter Tryd.func60, Tryd.ntmps60
  go_wp2_with fail
  go_ret
  exact ⟨ret_bool rfl, rfl⟩
set_option maxRecDepth 100000 in
set_option maxHeartbeats 400000 in
theorem number_9 (n : Int) (w : World) (h0 : 0 ≤ n) (h1 : n < 4294967296) :
    Calls Tryd.prog 60 #[.int .u32 n, .int .i64 9] w fun e w' => e = .returned (.bool (immB n 9)) ∧ w = w' := by
  have HU := Hd.mk (and_4095 n h0 h1)
  go_enter Tryd.func60, Tryd.ntmps60
  go_wp2_with fail
  go_ret
  exact ⟨ret_bool (by rw [Bool.eq_iff_iff]; simp [immB]; omega), rfl⟩
theorem number_form (n f : Int) (w : World) (h0 : 0 ≤ n) (h1 : n < 4294967296) (hf : 0 ≤ f ∧ f ≤ 9) :
    Calls Tryd.prog 60 #[.int .u32 n, .int .i64 f] w fun e w' => e = .returned (.bool (immB n f)) ∧ w = w' := by
  have hr : f = 0 ∨ f = 1 ∨ f = 2 ∨ f = 3 ∨ f = 4 ∨ f = 5 ∨ f = 6 ∨ f = 7 ∨ f = 8 ∨ f = 9 := by omega
  rcases hr with rfl | rfl | rfl | rfl | rfl | rfl | rfl | rfl | rfl | rfl
  · exact number_0 n w h0 h1
  · exact number_1 n w h0 h1
  · exact number_2 n w h0 h1
  · exact number_3 n w h0 h1
  · exact number_4 n w h0 h1
  · exact number_5 n w h0 h1
  · exact number_6 n w h0 h1
  · exact number_7 n w h0 h1
  · exact number_8 n w h0 h1
  · exact number_9 n w h0 h1

end Go.Proofs.YtceelkmedfoefaaDoor
