/- The instruction that a word is; its text, and that it is read as the word, whatever the word is. -/
import Derived.Test.YtceelkmedfoefaaDoorB1
import Derived.Test.YtceelkmedfoefaaDoorA17
import Derived.Test.YtceelkmedfoefaaDoorA22
import Derived.Test.YtceelkmedfoefaaDoorA11
import Derived.Test.YtceelkmedfoefaaDoorA23
import Derived.Laws.BitsAllLaws
import Derived.Test.YtceelkmedfoefaaDoorL7
import Derived.Test.YtceelkmedfoefaaDoorA27
import Derived.Lib.AppendStr
set_option linter.unusedVariables false
set_option linter.unusedSimpArgs false
/-! Fields of a word. -/
namespace Go.Proofs.YtceelkmedfoefaaDoor
open Go.RowKit

def fieldD (n h l : Int) : Int := n / ((2 ^ l.toNat : Nat) : Int) % ((2 ^ (h - l + 1).toNat : Nat) : Int)
theorem fieldD_14_12 (n : Int) : fieldD n 14 12 = n / 4096 % 8 := rfl
set_option maxRecDepth 100000 in
set_option maxHeartbeats 400000 in
theorem field_14_12 (n : Int) (w : World) (h0 : 0 ≤ n) (h1 : n < 4294967296) :
    Calls Tryd.prog 93 #[.int .u32 n, .int .u64 14, .int .u64 12] w fun e w' => e = .returned (.int .u32 (fieldD n 14 12)) ∧ w = w' := by
  rw [fieldD_14_12]
  obtain ⟨m, hm⟩ : ∃ m, n / 4096 % 8 = m := ⟨_, rfl⟩
  rw [hm]
  have HM := Hd.mk hm
  clear hm
  go_enter Tryd.func93, Tryd.ntmps93
  go_wp2_with fail
  go_ret
  exact ⟨ret_int (by rw [← HM.out]; omega), rfl⟩
theorem fieldD_19_12 (n : Int) : fieldD n 19 12 = n / 4096 % 256 := rfl
set_option maxRecDepth 100000 in
set_option maxHeartbeats 400000 in
theorem field_19_12 (n : Int) (w : World) (h0 : 0 ≤ n) (h1 : n < 4294967296) :
    Calls Tryd.prog 93 #[.int .u32 n, .int .u64 19, .int .u64 12] w fun e w' => e = .returned (.int .u32 (fieldD n 19 12)) ∧ w = w' := by
  rw [fieldD_19_12]
  obtain ⟨m, hm⟩ : ∃ m, n / 4096 % 256 = m := ⟨_, rfl⟩
  rw [hm]
  have HM := Hd.mk hm
  clear hm
  go_enter Tryd.func93, Tryd.ntmps93
  go_wp2_with fail
  go_ret
  exact ⟨ret_int (by rw [← HM.out]; omega), rfl⟩
theorem fieldD_20_20 (n : Int) : fieldD n 20 20 = n / 1048576 % 2 := rfl
set_option maxRecDepth 100000 in
set_option maxHeartbeats 400000 in
theorem field_20_20 (n : Int) (w : World) (h0 : 0 ≤ n) (h1 : n < 4294967296) :
    Calls Tryd.prog 93 #[.int .u32 n, .int .u64 20, .int .u64 20] w fun e w' => e = .returned (.int .u32 (fieldD n 20 20)) ∧ w = w' := by
  rw [fieldD_20_20]
  obtain ⟨m, hm⟩ : ∃ m, n / 1048576 % 2 = m := ⟨_, rfl⟩
  rw [hm]
  have HM := Hd.mk hm
  clear hm
  go_enter Tryd.func93, Tryd.ntmps93
  go_wp2_with fail
  go_ret
  exact ⟨ret_int (by rw [← HM.out]; omega), rfl⟩
theorem fieldD_30_21 (n : Int) : fieldD n 30 21 = n / 2097152 % 1024 := rfl
set_option maxRecDepth 100000 in
set_option maxHeartbeats 400000 in
theorem field_30_21 (n : Int) (w : World) (h0 : 0 ≤ n) (h1 : n < 4294967296) :
    Calls Tryd.prog 93 #[.int .u32 n, .int .u64 30, .int .u64 21] w fun e w' => e = .returned (.int .u32 (fieldD n 30 21)) ∧ w = w' := by
  rw [fieldD_30_21]
  obtain ⟨m, hm⟩ : ∃ m, n / 2097152 % 1024 = m := ⟨_, rfl⟩
  rw [hm]
  have HM := Hd.mk hm
  clear hm
  go_enter Tryd.func93, Tryd.ntmps93
  go_wp2_with fail
  go_ret
  exact ⟨ret_int (by rw [← HM.out]; omega), rfl⟩
theorem fieldD_7_7 (n : Int) : fieldD n 7 7 = n / 128 % 2 := rfl
set_option maxRecDepth 100000 in
set_option maxHeartbeats 400000 in
theorem field_7_7 (n : Int) (w : World) (h0 : 0 ≤ n) (h1 : n < 4294967296) :
    Calls Tryd.prog 93 #[.int .u32 n, .int .u64 7, .int .u64 7] w fun e w' => e = .returned (.int .u32 (fieldD n 7 7)) ∧ w = w' := by
  rw [fieldD_7_7]
  obtain ⟨m, hm⟩ : ∃ m, n / 128 % 2 = m := ⟨_, rfl⟩
  rw [hm]
  have HM := Hd.mk hm
  clear hm
  go_enter Tryd.func93, Tryd.ntmps93
  go_wp2_with fail
  go_ret
  exact ⟨ret_int (by rw [← HM.out]; omega), rfl⟩
theorem fieldD_30_25 (n : Int) : fieldD n 30 25 = n / 33554432 % 64 := rfl
set_option maxRecDepth 100000 in
set_option maxHeartbeats 400000 in
theorem field_30_25 (n : Int) (w : World) (h0 : 0 ≤ n) (h1 : n < 4294967296) :
    Calls Tryd.prog 93 #[.int .u32 n, .int .u64 30, .int .u64 25] w fun e w' => e = .returned (.int .u32 (fieldD n 30 25)) ∧ w = w' := by
  rw [fieldD_30_25]
  obtain ⟨m, hm⟩ : ∃ m, n / 33554432 % 64 = m := ⟨_, rfl⟩
  rw [hm]
  have HM := Hd.mk hm
  clear hm
  go_enter Tryd.func93, Tryd.ntmps93
  go_wp2_with fail
  go_ret
  exact ⟨ret_int (by rw [← HM.out]; omega), rfl⟩
theorem fieldD_11_8 (n : Int) : fieldD n 11 8 = n / 256 % 16 := rfl
set_option maxRecDepth 100000 in
set_option maxHeartbeats 400000 in
theorem field_11_8 (n : Int) (w : World) (h0 : 0 ≤ n) (h1 : n < 4294967296) :
    Calls Tryd.prog 93 #[.int .u32 n, .int .u64 11, .int .u64 8] w fun e w' => e = .returned (.int .u32 (fieldD n 11 8)) ∧ w = w' := by
  rw [fieldD_11_8]
  obtain ⟨m, hm⟩ : ∃ m, n / 256 % 16 = m := ⟨_, rfl⟩
  rw [hm]
  have HM := Hd.mk hm
  clear hm
  go_enter Tryd.func93, Tryd.ntmps93
  go_wp2_with fail
  go_ret
  exact ⟨ret_int (by rw [← HM.out]; omega), rfl⟩
theorem fieldD_11_7 (n : Int) : fieldD n 11 7 = n / 128 % 32 := rfl
set_option maxRecDepth 100000 in
set_option maxHeartbeats 400000 in
theorem field_11_7 (n : Int) (w : World) (h0 : 0 ≤ n) (h1 : n < 4294967296) :
    Calls Tryd.prog 93 #[.int .u32 n, .int .u64 11, .int .u64 7] w fun e w' => e = .returned (.int .u32 (fieldD n 11 7)) ∧ w = w' := by
  rw [fieldD_11_7]
  obtain ⟨m, hm⟩ : ∃ m, n / 128 % 32 = m := ⟨_, rfl⟩
  rw [hm]
  have HM := Hd.mk hm
  clear hm
  go_enter Tryd.func93, Tryd.ntmps93
  go_wp2_with fail
  go_ret
  exact ⟨ret_int (by rw [← HM.out]; omega), rfl⟩
theorem fieldD_24_20 (n : Int) : fieldD n 24 20 = n / 1048576 % 32 := rfl
set_option maxRecDepth 100000 in
set_option maxHeartbeats 400000 in
theorem field_24_20 (n : Int) (w : World) (h0 : 0 ≤ n) (h1 : n < 4294967296) :
    Calls Tryd.prog 93 #[.int .u32 n, .int .u64 24, .int .u64 20] w fun e w' => e = .returned (.int .u32 (fieldD n 24 20)) ∧ w = w' := by
  rw [fieldD_24_20]
  obtain ⟨m, hm⟩ : ∃ m, n / 1048576 % 32 = m := ⟨_, rfl⟩
  rw [hm]
  have HM := Hd.mk hm
  clear hm
  go_enter Tryd.func93, Tryd.ntmps93
  go_wp2_with fail
  go_ret
  exact ⟨ret_int (by rw [← HM.out]; omega), rfl⟩
theorem fieldD_19_15 (n : Int) : fieldD n 19 15 = n / 32768 % 32 := rfl
set_option maxRecDepth 100000 in
set_option maxHeartbeats 400000 in
theorem field_19_15 (n : Int) (w : World) (h0 : 0 ≤ n) (h1 : n < 4294967296) :
    Calls Tryd.prog 93 #[.int .u32 n, .int .u64 19, .int .u64 15] w fun e w' => e = .returned (.int .u32 (fieldD n 19 15)) ∧ w = w' := by
  rw [fieldD_19_15]
  obtain ⟨m, hm⟩ : ∃ m, n / 32768 % 32 = m := ⟨_, rfl⟩
  rw [hm]
  have HM := Hd.mk hm
  clear hm
  go_enter Tryd.func93, Tryd.ntmps93
  go_wp2_with fail
  go_ret
  exact ⟨ret_int (by rw [← HM.out]; omega), rfl⟩
def FldOk (h l : Int) : Prop := (h = 14 ∧ l = 12) ∨ (h = 19 ∧ l = 12) ∨ (h = 20 ∧ l = 20) ∨ (h = 30 ∧ l = 21) ∨ (h = 7 ∧ l = 7) ∨ (h = 30 ∧ l = 25) ∨ (h = 11 ∧ l = 8) ∨ (h = 11 ∧ l = 7) ∨ (h = 24 ∧ l = 20) ∨ (h = 19 ∧ l = 15)
instance (h l : Int) : Decidable (FldOk h l) := by unfold FldOk; infer_instance
theorem field_any (n h l : Int) (w : World) (h0 : 0 ≤ n) (h1 : n < 4294967296) (hc : FldOk h l) :
    Calls Tryd.prog 93 #[.int .u32 n, .int .u64 h, .int .u64 l] w fun e w' => e = .returned (.int .u32 (fieldD n h l)) ∧ w = w' := by
  unfold FldOk at hc
  rcases hc with ⟨rfl, rfl⟩ | ⟨rfl, rfl⟩ | ⟨rfl, rfl⟩ | ⟨rfl, rfl⟩ | ⟨rfl, rfl⟩ | ⟨rfl, rfl⟩ | ⟨rfl, rfl⟩ | ⟨rfl, rfl⟩ | ⟨rfl, rfl⟩ | ⟨rfl, rfl⟩
  · exact field_14_12 n w h0 h1
  · exact field_19_12 n w h0 h1
  · exact field_20_20 n w h0 h1
  · exact field_30_21 n w h0 h1
  · exact field_7_7 n w h0 h1
  · exact field_30_25 n w h0 h1
  · exact field_11_8 n w h0 h1
  · exact field_11_7 n w h0 h1
  · exact field_24_20 n w h0 h1
  · exact field_19_15 n w h0 h1
/-- A signed number's top: what stands above a place. -/
def topD (n p : Int) : Int := if 2147483648 ≤ n then 4294967296 - ((2 ^ p.toNat : Nat) : Int) else 0
theorem topD_20 (n : Int) : topD n 20 = if 2147483648 ≤ n then 4293918720 else 0 := rfl
set_option maxRecDepth 100000 in
set_option maxHeartbeats 400000 in
theorem top_20 (n : Int) (w : World) (h0 : 0 ≤ n) (h1 : n < 4294967296) :
    Calls Tryd.prog 102 #[.int .u32 n, .int .u64 20] w fun e w' => e = .returned (.int .u32 (topD n 20)) ∧ w = w' := by
  obtain ⟨m, hm⟩ : ∃ m, topD n 20 = m := ⟨_, rfl⟩
  rw [hm]
  have HM := Hd.mk hm
  clear hm
  go_enter Tryd.func102, Tryd.ntmps102
  go_wp2_with fail
  go_ret
  refine ⟨ret_int ?_, rfl⟩
  rw [← HM.out, topD_20, wrap32_eq, wrap32_eq]
  split <;> omega
theorem topD_12 (n : Int) : topD n 12 = if 2147483648 ≤ n then 4294963200 else 0 := rfl
set_option maxRecDepth 100000 in
set_option maxHeartbeats 400000 in
theorem top_12 (n : Int) (w : World) (h0 : 0 ≤ n) (h1 : n < 4294967296) :
    Calls Tryd.prog 102 #[.int .u32 n, .int .u64 12] w fun e w' => e = .returned (.int .u32 (topD n 12)) ∧ w = w' := by
  obtain ⟨m, hm⟩ : ∃ m, topD n 12 = m := ⟨_, rfl⟩
  rw [hm]
  have HM := Hd.mk hm
  clear hm
  go_enter Tryd.func102, Tryd.ntmps102
  go_wp2_with fail
  go_ret
  refine ⟨ret_int ?_, rfl⟩
  rw [← HM.out, topD_12, wrap32_eq, wrap32_eq]
  split <;> omega
theorem topD_11 (n : Int) : topD n 11 = if 2147483648 ≤ n then 4294965248 else 0 := rfl
set_option maxRecDepth 100000 in
set_option maxHeartbeats 400000 in
theorem top_11 (n : Int) (w : World) (h0 : 0 ≤ n) (h1 : n < 4294967296) :
    Calls Tryd.prog 102 #[.int .u32 n, .int .u64 11] w fun e w' => e = .returned (.int .u32 (topD n 11)) ∧ w = w' := by
  obtain ⟨m, hm⟩ : ∃ m, topD n 11 = m := ⟨_, rfl⟩
  rw [hm]
  have HM := Hd.mk hm
  clear hm
  go_enter Tryd.func102, Tryd.ntmps102
  go_wp2_with fail
  go_ret
  refine ⟨ret_int ?_, rfl⟩
  rw [← HM.out, topD_11, wrap32_eq, wrap32_eq]
  split <;> omega
theorem top_any (n p : Int) (w : World) (h0 : 0 ≤ n) (h1 : n < 4294967296) (hc : p = 20 ∨ p = 12 ∨ p = 11) :
    Calls Tryd.prog 102 #[.int .u32 n, .int .u64 p] w fun e w' => e = .returned (.int .u32 (topD n p)) ∧ w = w' := by
  rcases hc with rfl | rfl | rfl
  · exact top_20 n w h0 h1
  · exact top_12 n w h0 h1
  · exact top_11 n w h0 h1
/-- A branch's kind; a load's. -/
def branchK (f : Int) : Int := if f = 0 ∨ f = 1 then 5 + f else if 4 ≤ f ∧ f ≤ 7 then 3 + f else 0
def loadK (f : Int) : Int := if 0 ≤ f ∧ f ≤ 2 then 11 + f else if f = 4 ∨ f = 5 then 10 + f else 0
set_option maxRecDepth 100000 in
set_option maxHeartbeats 1000000 in
theorem branch_any (f : Int) (w : World) (h0 : 0 ≤ f) (h1 : f < 8) :
    Calls Tryd.prog 94 #[.int .u32 f] w fun e w' => e = .returned (.int .i64 (branchK f)) ∧ w = w' := by
  obtain rfl | rfl | rfl | rfl | rfl | rfl | rfl | rfl : f = 0 ∨ f = 1 ∨ f = 2 ∨ f = 3 ∨ f = 4 ∨ f = 5 ∨ f = 6 ∨ f = 7 := by omega
  all_goals
    go_enter Tryd.func94, Tryd.ntmps94
    go_wp2_with fail
    go_ret
    exact ⟨ret_int rfl, rfl⟩
set_option maxRecDepth 100000 in
set_option maxHeartbeats 1000000 in
theorem load_any (f : Int) (w : World) (h0 : 0 ≤ f) (h1 : f < 8) :
    Calls Tryd.prog 95 #[.int .u32 f] w fun e w' => e = .returned (.int .i64 (loadK f)) ∧ w = w' := by
  obtain rfl | rfl | rfl | rfl | rfl | rfl | rfl | rfl : f = 0 ∨ f = 1 ∨ f = 2 ∨ f = 3 ∨ f = 4 ∨ f = 5 ∨ f = 6 ∨ f = 7 := by omega
  all_goals
    go_enter Tryd.func95, Tryd.ntmps95
    go_wp2_with fail
    go_ret
    exact ⟨ret_int rfl, rfl⟩
end Go.Proofs.YtceelkmedfoefaaDoor

set_option linter.unusedVariables false
set_option linter.unusedSimpArgs false
/-! A word's kind. -/
namespace Go.Proofs.YtceelkmedfoefaaDoor
open Go.RowKit

def immK (n : Int) : Int :=
  let f := n / 4096 % 8; let t := n / 33554432
  if f = 0 then 19 else if f = 2 then 20 else if f = 3 then 21 else if f = 4 then 22 else if f = 6 then 23 else if f = 7 then 24
  else if f = 1 then (if t = 0 then 25 else 0) else if t = 0 then 26 else if t = 32 then 27 else 0
def regK (n : Int) : Int :=
  let f := n / 4096 % 8; let t := n / 33554432
  if t = 0 then (if f = 0 then 28 else if f = 1 then 30 else if f = 2 then 31 else if f = 3 then 32 else if f = 4 then 33 else if f = 5 then 34 else if f = 6 then 36 else 37)
  else if t = 1 then 50 + f else if t = 32 then (if f = 0 then 29 else if f = 5 then 35 else 0) else 0
def sysK (n : Int) : Int :=
  let f := n / 4096 % 8
  if 1 ≤ f ∧ f ≤ 3 then 41 + f else if 5 ≤ f ∧ f ≤ 7 then 40 + f
  else if n = 115 then 40 else if n = 1048691 then 41 else if n = 807403635 then 48 else if n = 273678451 then 49 else 0
def kindK (n : Int) : Int :=
  let o := n % 128; let f := n / 4096 % 8
  if o = 55 then 1 else if o = 23 then 2 else if o = 111 then 3 else if o = 103 then (if f = 0 then 4 else 0)
  else if o = 99 then branchK f else if o = 3 then loadK f else if o = 35 then (if f < 3 then 16 + f else 0)
  else if o = 19 then immK n else if o = 51 then regK n else if o = 15 then (if f < 2 then 38 + f else 0) else if o = 115 then sysK n else 0
theorem f3_cases (n : Int) : n / 4096 % 8 = 0 ∨ n / 4096 % 8 = 1 ∨ n / 4096 % 8 = 2 ∨ n / 4096 % 8 = 3 ∨ n / 4096 % 8 = 4 ∨ n / 4096 % 8 = 5 ∨ n / 4096 % 8 = 6 ∨ n / 4096 % 8 = 7 := by omega
set_option maxRecDepth 100000 in
set_option maxHeartbeats 4000000 in
theorem immediate_any (n : Int) (w : World) (h0 : 0 ≤ n) (h1 : n < 4294967296) :
    Calls Tryd.prog 96 #[.int .u32 n] w fun e w' => e = .returned (.int .i64 (immK n)) ∧ w = w' := by
  rcases f3_cases n with h | h | h | h | h | h | h | h
  all_goals
    have HF := Hd.mk h
    have HG := Hd.mk ((fieldD_14_12 n).trans h)
    clear h
    go_enter Tryd.func96, Tryd.ntmps96
    go_wp2_with (go_at_call 93; refine (field_any _ _ _ _ h0 h1 (by decide)).mono ?_; rw [HG.out]; rintro e w' ⟨rfl, rfl⟩)
    all_goals
      go_ret
      refine ⟨ret_int ?_, rfl⟩
      have HF2 := HF.out
      clear HG HF
      try simp only [beq_iff_eq, beq_eq_false_iff_ne, ne_eq] at *
      unfold immK
      simp only [HF2]
      simp [*]
set_option maxRecDepth 100000 in
theorem idx_0 (w : World) : (Instr.index 126 (.agg #[.int .i64 28, .int .i64 30, .int .i64 31, .int .i64 32, .int .i64 33, .int .i64 34, .int .i64 36, .int .i64 37]) (.int .u32 0)).run Tryd.prog w = .ok (.int .i64 28) w := by first | rfl | kernel_rfl
set_option maxRecDepth 100000 in
theorem idx_1 (w : World) : (Instr.index 126 (.agg #[.int .i64 28, .int .i64 30, .int .i64 31, .int .i64 32, .int .i64 33, .int .i64 34, .int .i64 36, .int .i64 37]) (.int .u32 1)).run Tryd.prog w = .ok (.int .i64 30) w := by first | rfl | kernel_rfl
set_option maxRecDepth 100000 in
theorem idx_2 (w : World) : (Instr.index 126 (.agg #[.int .i64 28, .int .i64 30, .int .i64 31, .int .i64 32, .int .i64 33, .int .i64 34, .int .i64 36, .int .i64 37]) (.int .u32 2)).run Tryd.prog w = .ok (.int .i64 31) w := by first | rfl | kernel_rfl
set_option maxRecDepth 100000 in
theorem idx_3 (w : World) : (Instr.index 126 (.agg #[.int .i64 28, .int .i64 30, .int .i64 31, .int .i64 32, .int .i64 33, .int .i64 34, .int .i64 36, .int .i64 37]) (.int .u32 3)).run Tryd.prog w = .ok (.int .i64 32) w := by first | rfl | kernel_rfl
set_option maxRecDepth 100000 in
theorem idx_4 (w : World) : (Instr.index 126 (.agg #[.int .i64 28, .int .i64 30, .int .i64 31, .int .i64 32, .int .i64 33, .int .i64 34, .int .i64 36, .int .i64 37]) (.int .u32 4)).run Tryd.prog w = .ok (.int .i64 33) w := by first | rfl | kernel_rfl
set_option maxRecDepth 100000 in
theorem idx_5 (w : World) : (Instr.index 126 (.agg #[.int .i64 28, .int .i64 30, .int .i64 31, .int .i64 32, .int .i64 33, .int .i64 34, .int .i64 36, .int .i64 37]) (.int .u32 5)).run Tryd.prog w = .ok (.int .i64 34) w := by first | rfl | kernel_rfl
set_option maxRecDepth 100000 in
theorem idx_6 (w : World) : (Instr.index 126 (.agg #[.int .i64 28, .int .i64 30, .int .i64 31, .int .i64 32, .int .i64 33, .int .i64 34, .int .i64 36, .int .i64 37]) (.int .u32 6)).run Tryd.prog w = .ok (.int .i64 36) w := by first | rfl | kernel_rfl
set_option maxRecDepth 100000 in
theorem idx_7 (w : World) : (Instr.index 126 (.agg #[.int .i64 28, .int .i64 30, .int .i64 31, .int .i64 32, .int .i64 33, .int .i64 34, .int .i64 36, .int .i64 37]) (.int .u32 7)).run Tryd.prog w = .ok (.int .i64 37) w := by first | rfl | kernel_rfl
set_option maxRecDepth 100000 in
set_option maxHeartbeats 4000000 in
theorem registers_any (n : Int) (w : World) (h0 : 0 ≤ n) (h1 : n < 4294967296) :
    Calls Tryd.prog 97 #[.int .u32 n] w fun e w' => e = .returned (.int .i64 (regK n)) ∧ w = w' := by
  rcases f3_cases n with h | h | h | h | h | h | h | h
  all_goals
    have HF := Hd.mk h
    have HG := Hd.mk ((fieldD_14_12 n).trans h)
    clear h
    have hix := And.intro (idx_0 w) (And.intro (idx_1 w) (And.intro (idx_2 w) (And.intro (idx_3 w) (And.intro (idx_4 w) (And.intro (idx_5 w) (And.intro (idx_6 w) (idx_7 w)))))))
    obtain ⟨x0, x1, x2, x3, x4, x5, x6, x7⟩ := hix
    go_enter Tryd.func97, Tryd.ntmps97
    go_wp2_with (go_at_call 93; refine (field_any _ _ _ _ h0 h1 (by decide)).mono ?_; rw [HG.out]; rintro e w' ⟨rfl, rfl⟩)
    all_goals
      go_ret
      refine ⟨ret_int ?_, rfl⟩
      have HF2 := HF.out
      clear HG HF x0 x1 x2 x3 x4 x5 x6 x7
      try simp only [beq_iff_eq, beq_eq_false_iff_ne, ne_eq] at *
      unfold regK
      simp only [HF2]
      simp [*]
set_option maxRecDepth 100000 in
set_option maxHeartbeats 4000000 in
theorem system_any (n : Int) (w : World) (h0 : 0 ≤ n) (h1 : n < 4294967296) :
    Calls Tryd.prog 98 #[.int .u32 n] w fun e w' => e = .returned (.int .i64 (sysK n)) ∧ w = w' := by
  rcases f3_cases n with h | h | h | h | h | h | h | h
  all_goals
    have HF := Hd.mk h
    have HG := Hd.mk ((fieldD_14_12 n).trans h)
    clear h
    go_enter Tryd.func98, Tryd.ntmps98
    go_wp2_with (go_at_call 93; refine (field_any _ _ _ _ h0 h1 (by decide)).mono ?_; rw [HG.out]; rintro e w' ⟨rfl, rfl⟩)
    all_goals
      go_ret
      refine ⟨ret_int ?_, rfl⟩
      have HF2 := HF.out
      clear HG HF
      try simp only [beq_iff_eq, beq_eq_false_iff_ne, ne_eq] at *
      unfold sysK
      simp only [HF2]
      simp [*]
theorem and_127 (n : Int) (h0 : 0 ≤ n) (h1 : n < 4294967296) : bits .and .u32 n 127 = n % 128 := and_mask n 7 (by omega) h0 h1
set_option maxRecDepth 100000 in
set_option maxHeartbeats 4000000 in
theorem dkind_any (n : Int) (w : World) (h0 : 0 ≤ n) (h1 : n < 4294967296) :
    Calls Tryd.prog 85 #[.int .u32 n] w fun e w' => e = .returned (.int .i64 (kindK n)) ∧ w = w' := by
  obtain ⟨m, hm⟩ : ∃ m, fieldD n 14 12 = m := ⟨_, rfl⟩
  obtain ⟨o, ho⟩ : ∃ o, bits .and .u32 n 127 = o := ⟨_, rfl⟩
  have HG := Hd.mk hm
  have hm2 := (fieldD_14_12 n).symm.trans hm
  have hm0 : 0 ≤ m := by omega
  have hm1 : m < 8 := by omega
  have HF := Hd.mk hm2
  have HO := Hd.mk ((and_127 n h0 h1).symm.trans ho)
  clear hm hm2
  go_enter Tryd.func85, Tryd.ntmps85
  go_wp2_with (first
    | (go_at_call 93; refine (field_any _ _ _ _ h0 h1 (by decide)).mono ?_; rw [HG.out]; rintro e w' ⟨rfl, rfl⟩)
    | (go_at_call 94; refine (branch_any _ _ hm0 hm1).mono ?_; rintro e w' ⟨rfl, rfl⟩)
    | (go_at_call 95; refine (load_any _ _ hm0 hm1).mono ?_; rintro e w' ⟨rfl, rfl⟩)
    | (go_at_call 96; refine (immediate_any _ _ h0 h1).mono ?_; rintro e w' ⟨rfl, rfl⟩)
    | (go_at_call 97; refine (registers_any _ _ h0 h1).mono ?_; rintro e w' ⟨rfl, rfl⟩)
    | (go_at_call 98; refine (system_any _ _ h0 h1).mono ?_; rintro e w' ⟨rfl, rfl⟩))
  all_goals
    go_ret
    refine ⟨ret_int ?_, rfl⟩
    have HF2 := HF.out
    have HO2 := HO.out
    clear HG HF HO ho
    try simp only [beq_iff_eq, beq_eq_false_iff_ne, ne_eq] at *
    unfold kindK
    simp only [HF2, HO2]
    first | (simp [*]; done) | (simp [*]; omega)
end Go.Proofs.YtceelkmedfoefaaDoor

set_option linter.unusedVariables false
set_option linter.unusedSimpArgs false
/-! The immediate number of a word. -/
namespace Go.Proofs.YtceelkmedfoefaaDoor
open Go.RowKit

theorem andNot_4095 (n : Int) (h0 : 0 ≤ n) (h1 : n < 4294967296) : bits .andNot .u32 n 4095 = n - n % 4096 := by
  have e : bits .andNot .u32 n 4095 = bits .and .u32 n 4294963200 := by
    unfold bits
    have : ~~~ (BitVec.ofInt IntKind.u32.bits 4095) = BitVec.ofInt IntKind.u32.bits 4294963200 := by decide
    simp only []
    rw [this]
  rw [e, u32_and n _ h0 h1 (by omega) (by omega)]
  obtain ⟨m, rfl⟩ := Int.eq_ofNat_of_zero_le h0
  have h2 : m < 2 ^ 32 := by omega
  have e2 : (Int.toNat (m : Int)) &&& (Int.toNat 4294963200) = m / 4096 * 4096 := by
    rw [Int.toNat_natCast, show Int.toNat 4294963200 = (2 ^ 20 - 1) <<< 12 from by decide, show m / 4096 * 4096 = (m >>> 12) <<< 12 from by rw [Nat.shiftLeft_eq, Nat.shiftRight_eq_div_pow]]
    refine Nat.eq_of_testBit_eq fun i => ?_
    rw [Nat.testBit_and, Nat.testBit_shiftLeft, Nat.testBit_shiftLeft, Nat.testBit_two_pow_sub_one, Nat.testBit_shiftRight]
    by_cases h12 : 12 ≤ i
    · rw [show 12 + (i - 12) = i by omega]
      by_cases h32 : i < 32
      · simp [h12, show i - 12 < 20 by omega]
      · rw [Nat.testBit_lt_two_pow (Nat.lt_of_lt_of_le h2 (Nat.pow_le_pow_right (by omega) (by omega)))]
        simp
    · simp [h12]
  rw [e2]
  omega
def numD (n f : Int) : Int :=
  if f = 1 then n - n % 4096
  else if f = 2 then orW (orW (orW (topD n 20) (fieldD n 19 12 * 4096)) (fieldD n 20 20 * 2048)) (fieldD n 30 21 * 2)
  else if f = 3 then (if 2147483648 ≤ n then n / 1048576 + 4294963200 else n / 1048576)
  else if f = 4 then orW (orW (orW (topD n 12) (fieldD n 7 7 * 2048)) (fieldD n 30 25 * 32)) (fieldD n 11 8 * 2)
  else if f = 5 then orW (orW (topD n 11) (fieldD n 30 25 * 32)) (fieldD n 11 7)
  else if f = 7 then fieldD n 24 20
  else if f = 9 then fieldD n 19 15 else 0
set_option maxRecDepth 100000 in
set_option maxHeartbeats 1000000 in
theorem dnum_1 (n : Int) (w : World) (h0 : 0 ≤ n) (h1 : n < 4294967296) :
    Calls Tryd.prog 99 #[.int .u32 n, .int .i64 1] w fun e w' => e = .returned (.int .u32 (numD n 1)) ∧ w = w' := by
  go_enter Tryd.func99, Tryd.ntmps99
  go_wp2_with fail
  go_ret
  exact ⟨ret_int (andNot_4095 n h0 h1), rfl⟩
set_option maxRecDepth 100000 in
set_option maxHeartbeats 1000000 in
theorem dnum_2 (n : Int) (w : World) (h0 : 0 ≤ n) (h1 : n < 4294967296) :
    Calls Tryd.prog 99 #[.int .u32 n, .int .i64 2] w fun e w' => e = .returned (.int .u32 (numD n 2)) ∧ w = w' := by
  obtain ⟨m0, hm0⟩ : ∃ m, fieldD n 19 12 = m := ⟨_, rfl⟩
  have b0 : 0 ≤ m0 ∧ m0 < 256 := by rw [← hm0, fieldD_19_12]; omega
  obtain ⟨b00, b01⟩ := b0
  have HM0 := Hd.mk hm0
  clear hm0
  obtain ⟨m1, hm1⟩ : ∃ m, fieldD n 20 20 = m := ⟨_, rfl⟩
  have b1 : 0 ≤ m1 ∧ m1 < 2 := by rw [← hm1, fieldD_20_20]; omega
  obtain ⟨b10, b11⟩ := b1
  have HM1 := Hd.mk hm1
  clear hm1
  obtain ⟨m2, hm2⟩ : ∃ m, fieldD n 30 21 = m := ⟨_, rfl⟩
  have b2 : 0 ≤ m2 ∧ m2 < 1024 := by rw [← hm2, fieldD_30_21]; omega
  obtain ⟨b20, b21⟩ := b2
  have HM2 := Hd.mk hm2
  clear hm2
  obtain ⟨t, ht⟩ : ∃ t, topD n 20 = t := ⟨_, rfl⟩
  have HT := Hd.mk ht
  clear ht
  go_enter Tryd.func99, Tryd.ntmps99
  go_wp2_with (first | (go_at_call 93; refine (field_any _ _ _ _ h0 h1 (by decide)).mono ?_; (first | rw [HM0.out] | rw [HM1.out] | rw [HM2.out]); rintro e w' ⟨rfl, rfl⟩) | (go_at_call 102; refine (top_any _ _ _ h0 h1 (by decide)).mono ?_; rw [HT.out]; rintro e w' ⟨rfl, rfl⟩))
  go_ret
  exact ⟨ret_int (by unfold numD; rw [if_neg (by decide), if_pos rfl, HM0.out, HM1.out, HM2.out, HT.out]; rfl), rfl⟩
set_option maxRecDepth 100000 in
set_option maxHeartbeats 1000000 in
theorem dnum_3 (n : Int) (w : World) (h0 : 0 ≤ n) (h1 : n < 4294967296) :
    Calls Tryd.prog 99 #[.int .u32 n, .int .i64 3] w fun e w' => e = .returned (.int .u32 (numD n 3)) ∧ w = w' := by
  go_enter Tryd.func99, Tryd.ntmps99
  go_wp2_with fail
  all_goals
    go_ret
    refine ⟨ret_int ?_, rfl⟩
    unfold numD
    rw [if_neg (by decide), if_neg (by decide), if_pos rfl]
    first | (rw [if_pos (by assumption)]; done) | skip
    try rw [wrap32_eq]
    try (split <;> omega)
set_option maxRecDepth 100000 in
set_option maxHeartbeats 1000000 in
theorem dnum_4 (n : Int) (w : World) (h0 : 0 ≤ n) (h1 : n < 4294967296) :
    Calls Tryd.prog 99 #[.int .u32 n, .int .i64 4] w fun e w' => e = .returned (.int .u32 (numD n 4)) ∧ w = w' := by
  obtain ⟨m0, hm0⟩ : ∃ m, fieldD n 7 7 = m := ⟨_, rfl⟩
  have b0 : 0 ≤ m0 ∧ m0 < 2 := by rw [← hm0, fieldD_7_7]; omega
  obtain ⟨b00, b01⟩ := b0
  have HM0 := Hd.mk hm0
  clear hm0
  obtain ⟨m1, hm1⟩ : ∃ m, fieldD n 30 25 = m := ⟨_, rfl⟩
  have b1 : 0 ≤ m1 ∧ m1 < 64 := by rw [← hm1, fieldD_30_25]; omega
  obtain ⟨b10, b11⟩ := b1
  have HM1 := Hd.mk hm1
  clear hm1
  obtain ⟨m2, hm2⟩ : ∃ m, fieldD n 11 8 = m := ⟨_, rfl⟩
  have b2 : 0 ≤ m2 ∧ m2 < 16 := by rw [← hm2, fieldD_11_8]; omega
  obtain ⟨b20, b21⟩ := b2
  have HM2 := Hd.mk hm2
  clear hm2
  obtain ⟨t, ht⟩ : ∃ t, topD n 12 = t := ⟨_, rfl⟩
  have HT := Hd.mk ht
  clear ht
  go_enter Tryd.func99, Tryd.ntmps99
  go_wp2_with (first | (go_at_call 93; refine (field_any _ _ _ _ h0 h1 (by decide)).mono ?_; (first | rw [HM0.out] | rw [HM1.out] | rw [HM2.out]); rintro e w' ⟨rfl, rfl⟩) | (go_at_call 102; refine (top_any _ _ _ h0 h1 (by decide)).mono ?_; rw [HT.out]; rintro e w' ⟨rfl, rfl⟩))
  go_ret
  exact ⟨ret_int (by unfold numD; rw [if_neg (by decide), if_neg (by decide), if_neg (by decide), if_pos rfl, HM0.out, HM1.out, HM2.out, HT.out]; rfl), rfl⟩
set_option maxRecDepth 100000 in
set_option maxHeartbeats 1000000 in
theorem dnum_5 (n : Int) (w : World) (h0 : 0 ≤ n) (h1 : n < 4294967296) :
    Calls Tryd.prog 99 #[.int .u32 n, .int .i64 5] w fun e w' => e = .returned (.int .u32 (numD n 5)) ∧ w = w' := by
  obtain ⟨m0, hm0⟩ : ∃ m, fieldD n 30 25 = m := ⟨_, rfl⟩
  have b0 : 0 ≤ m0 ∧ m0 < 64 := by rw [← hm0, fieldD_30_25]; omega
  obtain ⟨b00, b01⟩ := b0
  have HM0 := Hd.mk hm0
  clear hm0
  obtain ⟨m1, hm1⟩ : ∃ m, fieldD n 11 7 = m := ⟨_, rfl⟩
  have b1 : 0 ≤ m1 ∧ m1 < 32 := by rw [← hm1, fieldD_11_7]; omega
  obtain ⟨b10, b11⟩ := b1
  have HM1 := Hd.mk hm1
  clear hm1
  obtain ⟨t, ht⟩ : ∃ t, topD n 11 = t := ⟨_, rfl⟩
  have HT := Hd.mk ht
  clear ht
  go_enter Tryd.func99, Tryd.ntmps99
  go_wp2_with (first | (go_at_call 93; refine (field_any _ _ _ _ h0 h1 (by decide)).mono ?_; (first | rw [HM0.out] | rw [HM1.out]); rintro e w' ⟨rfl, rfl⟩) | (go_at_call 102; refine (top_any _ _ _ h0 h1 (by decide)).mono ?_; rw [HT.out]; rintro e w' ⟨rfl, rfl⟩))
  go_ret
  exact ⟨ret_int (by unfold numD; rw [if_neg (by decide), if_neg (by decide), if_neg (by decide), if_neg (by decide), if_pos rfl, HM0.out, HM1.out, HT.out]; rfl), rfl⟩
set_option maxRecDepth 100000 in
set_option maxHeartbeats 1000000 in
theorem dnum_7 (n : Int) (w : World) (h0 : 0 ≤ n) (h1 : n < 4294967296) :
    Calls Tryd.prog 99 #[.int .u32 n, .int .i64 7] w fun e w' => e = .returned (.int .u32 (numD n 7)) ∧ w = w' := by
  obtain ⟨m0, hm0⟩ : ∃ m, fieldD n 24 20 = m := ⟨_, rfl⟩
  have b0 : 0 ≤ m0 ∧ m0 < 32 := by rw [← hm0, fieldD_24_20]; omega
  obtain ⟨b00, b01⟩ := b0
  have HM0 := Hd.mk hm0
  clear hm0
  go_enter Tryd.func99, Tryd.ntmps99
  go_wp2_with (first | (go_at_call 93; refine (field_any _ _ _ _ h0 h1 (by decide)).mono ?_; (first | rw [HM0.out]); rintro e w' ⟨rfl, rfl⟩))
  go_ret
  exact ⟨ret_int (by unfold numD; rw [if_neg (by decide), if_neg (by decide), if_neg (by decide), if_neg (by decide), if_neg (by decide), if_pos rfl, HM0.out]), rfl⟩
set_option maxRecDepth 100000 in
set_option maxHeartbeats 1000000 in
theorem dnum_9 (n : Int) (w : World) (h0 : 0 ≤ n) (h1 : n < 4294967296) :
    Calls Tryd.prog 99 #[.int .u32 n, .int .i64 9] w fun e w' => e = .returned (.int .u32 (numD n 9)) ∧ w = w' := by
  obtain ⟨m0, hm0⟩ : ∃ m, fieldD n 19 15 = m := ⟨_, rfl⟩
  have b0 : 0 ≤ m0 ∧ m0 < 32 := by rw [← hm0, fieldD_19_15]; omega
  obtain ⟨b00, b01⟩ := b0
  have HM0 := Hd.mk hm0
  clear hm0
  go_enter Tryd.func99, Tryd.ntmps99
  go_wp2_with (first | (go_at_call 93; refine (field_any _ _ _ _ h0 h1 (by decide)).mono ?_; (first | rw [HM0.out]); rintro e w' ⟨rfl, rfl⟩))
  go_ret
  exact ⟨ret_int (by unfold numD; rw [if_neg (by decide), if_neg (by decide), if_neg (by decide), if_neg (by decide), if_neg (by decide), if_neg (by decide), if_pos rfl, HM0.out]), rfl⟩
set_option maxRecDepth 100000 in
set_option maxHeartbeats 1000000 in
theorem dnum_0 (n : Int) (w : World) (h0 : 0 ≤ n) (h1 : n < 4294967296) :
    Calls Tryd.prog 99 #[.int .u32 n, .int .i64 0] w fun e w' => e = .returned (.int .u32 (numD n 0)) ∧ w = w' := by
  go_enter Tryd.func99, Tryd.ntmps99
  go_wp2_with fail
  go_ret
  exact ⟨ret_int rfl, rfl⟩
set_option maxRecDepth 100000 in
set_option maxHeartbeats 1000000 in
theorem dnum_6 (n : Int) (w : World) (h0 : 0 ≤ n) (h1 : n < 4294967296) :
    Calls Tryd.prog 99 #[.int .u32 n, .int .i64 6] w fun e w' => e = .returned (.int .u32 (numD n 6)) ∧ w = w' := by
  go_enter Tryd.func99, Tryd.ntmps99
  go_wp2_with fail
  go_ret
  exact ⟨ret_int rfl, rfl⟩
set_option maxRecDepth 100000 in
set_option maxHeartbeats 1000000 in
theorem dnum_8 (n : Int) (w : World) (h0 : 0 ≤ n) (h1 : n < 4294967296) :
    Calls Tryd.prog 99 #[.int .u32 n, .int .i64 8] w fun e w' => e = .returned (.int .u32 (numD n 8)) ∧ w = w' := by
  go_enter Tryd.func99, Tryd.ntmps99
  go_wp2_with fail
  go_ret
  exact ⟨ret_int rfl, rfl⟩
theorem dnum_any (n f : Int) (w : World) (h0 : 0 ≤ n) (h1 : n < 4294967296) (hf : 0 ≤ f ∧ f ≤ 9) :
    Calls Tryd.prog 99 #[.int .u32 n, .int .i64 f] w fun e w' => e = .returned (.int .u32 (numD n f)) ∧ w = w' := by
  obtain rfl | rfl | rfl | rfl | rfl | rfl | rfl | rfl | rfl | rfl : f = 0 ∨ f = 1 ∨ f = 2 ∨ f = 3 ∨ f = 4 ∨ f = 5 ∨ f = 6 ∨ f = 7 ∨ f = 8 ∨ f = 9 := by omega
  · exact dnum_0 n w h0 h1
  · exact dnum_1 n w h0 h1
  · exact dnum_2 n w h0 h1
  · exact dnum_3 n w h0 h1
  · exact dnum_4 n w h0 h1
  · exact dnum_5 n w h0 h1
  · exact dnum_6 n w h0 h1
  · exact dnum_7 n w h0 h1
  · exact dnum_8 n w h0 h1
  · exact dnum_9 n w h0 h1
end Go.Proofs.YtceelkmedfoefaaDoor

set_option linter.unusedVariables false
set_option linter.unusedSimpArgs false
/-! A word, read as an instruction of a kind; as an instruction. -/
namespace Go.Proofs.YtceelkmedfoefaaDoor
open Go.RowKit

def laidD (n k : Int) : NI where
  op := k
  rd := if formP k = 0 ∨ formP k = 4 ∨ formP k = 5 then 0 else fieldD n 11 7
  rs1 := if 3 ≤ formP k ∧ formP k ≠ 9 then fieldD n 19 15 else 0
  rs2 := if 4 ≤ formP k ∧ formP k ≤ 6 then fieldD n 24 20 else 0
  imm := numD n (formP k)
  csr := if 8 ≤ formP k then n / 1048576 else 0
theorem field5_range (n : Int) : (0 ≤ fieldD n 11 7 ∧ fieldD n 11 7 < 32) ∧ (0 ≤ fieldD n 19 15 ∧ fieldD n 19 15 < 32) ∧ (0 ≤ fieldD n 24 20 ∧ fieldD n 24 20 < 32) := by
  rw [fieldD_11_7, fieldD_19_15, fieldD_24_20]; omega
set_option maxRecDepth 100000 in
set_option maxHeartbeats 1000000 in
theorem laid_0 (n k : Int) (w : World) (hE : Env w) (h0 : 0 ≤ n) (h1 : n < 4294967296) (hk : 0 ≤ k ∧ k < 58) (hf : formP k = 0) :
    Calls Tryd.prog 86 #[.int .u32 n, .int .i64 k] w fun e w' => e = .returned (.agg (NC (laidD n k))) ∧ Below w.heap.size w w' := by
  have HF : Hd (formV k = 0 ∧ formE k = 0) := ⟨by rw [formV_eq, formE, if_pos hk, hf]; simp⟩
  have HFF := Hd.mk hf
  obtain ⟨⟨a0, a1⟩, ⟨b0, b1⟩, ⟨c0, c1⟩⟩ := field5_range n
  obtain ⟨rd, hrd⟩ : ∃ m, fieldD n 11 7 = m := ⟨_, rfl⟩
  obtain ⟨rs1, hrs1⟩ : ∃ m, fieldD n 19 15 = m := ⟨_, rfl⟩
  obtain ⟨rs2, hrs2⟩ : ∃ m, fieldD n 24 20 = m := ⟨_, rfl⟩
  obtain ⟨im, him⟩ : ∃ m, numD n 0 = m := ⟨_, rfl⟩
  rw [hrd] at a0 a1
  rw [hrs1] at b0 b1
  rw [hrs2] at c0 c1
  have HRd := Hd.mk hrd
  have HRs1 := Hd.mk hrs1
  have HRs2 := Hd.mk hrs2
  have HIm := Hd.mk him
  clear hrd hrs1 hrs2 him hf
  go_enter Tryd.func86, Tryd.ntmps86
  go_wp2_with (first
    | (go_at_call 43; refine (form_any _ _ (hE.alloc _)).mono ?_; rw [HF.out.1, HF.out.2]; rintro e w' ⟨rfl, rfl⟩)
    | (go_at_call 99; refine (dnum_any _ _ _ h0 h1 (by decide)).mono ?_; rw [HIm.out]; rintro e w' ⟨rfl, rfl⟩)
    | (go_at_call 93; refine (field_any _ _ _ _ h0 h1 (by decide)).mono ?_; (first | rw [HRd.out] | rw [HRs1.out] | rw [HRs2.out]); rintro e w' ⟨rfl, rfl⟩))
  refine bodyPost_ret (v := .agg (NC (laidD n k))) ?_ rfl ⟨rfl, ?_⟩
  · simp [results, Tryd.results86, go_sem, NC, laidD, HFF.out, HRd.out, HRs1.out, HRs2.out, HIm.out]
  · exact below_two _ _
set_option maxRecDepth 100000 in
set_option maxHeartbeats 1000000 in
theorem laid_1 (n k : Int) (w : World) (hE : Env w) (h0 : 0 ≤ n) (h1 : n < 4294967296) (hk : 0 ≤ k ∧ k < 58) (hf : formP k = 1) :
    Calls Tryd.prog 86 #[.int .u32 n, .int .i64 k] w fun e w' => e = .returned (.agg (NC (laidD n k))) ∧ Below w.heap.size w w' := by
  have HF : Hd (formV k = 1 ∧ formE k = 0) := ⟨by rw [formV_eq, formE, if_pos hk, hf]; simp⟩
  have HFF := Hd.mk hf
  obtain ⟨⟨a0, a1⟩, ⟨b0, b1⟩, ⟨c0, c1⟩⟩ := field5_range n
  obtain ⟨rd, hrd⟩ : ∃ m, fieldD n 11 7 = m := ⟨_, rfl⟩
  obtain ⟨rs1, hrs1⟩ : ∃ m, fieldD n 19 15 = m := ⟨_, rfl⟩
  obtain ⟨rs2, hrs2⟩ : ∃ m, fieldD n 24 20 = m := ⟨_, rfl⟩
  obtain ⟨im, him⟩ : ∃ m, numD n 1 = m := ⟨_, rfl⟩
  rw [hrd] at a0 a1
  rw [hrs1] at b0 b1
  rw [hrs2] at c0 c1
  have HRd := Hd.mk hrd
  have HRs1 := Hd.mk hrs1
  have HRs2 := Hd.mk hrs2
  have HIm := Hd.mk him
  clear hrd hrs1 hrs2 him hf
  go_enter Tryd.func86, Tryd.ntmps86
  go_wp2_with (first
    | (go_at_call 43; refine (form_any _ _ (hE.alloc _)).mono ?_; rw [HF.out.1, HF.out.2]; rintro e w' ⟨rfl, rfl⟩)
    | (go_at_call 99; refine (dnum_any _ _ _ h0 h1 (by decide)).mono ?_; rw [HIm.out]; rintro e w' ⟨rfl, rfl⟩)
    | (go_at_call 93; refine (field_any _ _ _ _ h0 h1 (by decide)).mono ?_; (first | rw [HRd.out] | rw [HRs1.out] | rw [HRs2.out]); rintro e w' ⟨rfl, rfl⟩))
  refine bodyPost_ret (v := .agg (NC (laidD n k))) ?_ rfl ⟨rfl, ?_⟩
  · simp [results, Tryd.results86, go_sem, NC, laidD, HFF.out, HRd.out, HRs1.out, HRs2.out, HIm.out]
  · exact below_two _ _
set_option maxRecDepth 100000 in
set_option maxHeartbeats 1000000 in
theorem laid_2 (n k : Int) (w : World) (hE : Env w) (h0 : 0 ≤ n) (h1 : n < 4294967296) (hk : 0 ≤ k ∧ k < 58) (hf : formP k = 2) :
    Calls Tryd.prog 86 #[.int .u32 n, .int .i64 k] w fun e w' => e = .returned (.agg (NC (laidD n k))) ∧ Below w.heap.size w w' := by
  have HF : Hd (formV k = 2 ∧ formE k = 0) := ⟨by rw [formV_eq, formE, if_pos hk, hf]; simp⟩
  have HFF := Hd.mk hf
  obtain ⟨⟨a0, a1⟩, ⟨b0, b1⟩, ⟨c0, c1⟩⟩ := field5_range n
  obtain ⟨rd, hrd⟩ : ∃ m, fieldD n 11 7 = m := ⟨_, rfl⟩
  obtain ⟨rs1, hrs1⟩ : ∃ m, fieldD n 19 15 = m := ⟨_, rfl⟩
  obtain ⟨rs2, hrs2⟩ : ∃ m, fieldD n 24 20 = m := ⟨_, rfl⟩
  obtain ⟨im, him⟩ : ∃ m, numD n 2 = m := ⟨_, rfl⟩
  rw [hrd] at a0 a1
  rw [hrs1] at b0 b1
  rw [hrs2] at c0 c1
  have HRd := Hd.mk hrd
  have HRs1 := Hd.mk hrs1
  have HRs2 := Hd.mk hrs2
  have HIm := Hd.mk him
  clear hrd hrs1 hrs2 him hf
  go_enter Tryd.func86, Tryd.ntmps86
  go_wp2_with (first
    | (go_at_call 43; refine (form_any _ _ (hE.alloc _)).mono ?_; rw [HF.out.1, HF.out.2]; rintro e w' ⟨rfl, rfl⟩)
    | (go_at_call 99; refine (dnum_any _ _ _ h0 h1 (by decide)).mono ?_; rw [HIm.out]; rintro e w' ⟨rfl, rfl⟩)
    | (go_at_call 93; refine (field_any _ _ _ _ h0 h1 (by decide)).mono ?_; (first | rw [HRd.out] | rw [HRs1.out] | rw [HRs2.out]); rintro e w' ⟨rfl, rfl⟩))
  refine bodyPost_ret (v := .agg (NC (laidD n k))) ?_ rfl ⟨rfl, ?_⟩
  · simp [results, Tryd.results86, go_sem, NC, laidD, HFF.out, HRd.out, HRs1.out, HRs2.out, HIm.out]
  · exact below_two _ _
set_option maxRecDepth 100000 in
set_option maxHeartbeats 1000000 in
theorem laid_3 (n k : Int) (w : World) (hE : Env w) (h0 : 0 ≤ n) (h1 : n < 4294967296) (hk : 0 ≤ k ∧ k < 58) (hf : formP k = 3) :
    Calls Tryd.prog 86 #[.int .u32 n, .int .i64 k] w fun e w' => e = .returned (.agg (NC (laidD n k))) ∧ Below w.heap.size w w' := by
  have HF : Hd (formV k = 3 ∧ formE k = 0) := ⟨by rw [formV_eq, formE, if_pos hk, hf]; simp⟩
  have HFF := Hd.mk hf
  obtain ⟨⟨a0, a1⟩, ⟨b0, b1⟩, ⟨c0, c1⟩⟩ := field5_range n
  obtain ⟨rd, hrd⟩ : ∃ m, fieldD n 11 7 = m := ⟨_, rfl⟩
  obtain ⟨rs1, hrs1⟩ : ∃ m, fieldD n 19 15 = m := ⟨_, rfl⟩
  obtain ⟨rs2, hrs2⟩ : ∃ m, fieldD n 24 20 = m := ⟨_, rfl⟩
  obtain ⟨im, him⟩ : ∃ m, numD n 3 = m := ⟨_, rfl⟩
  rw [hrd] at a0 a1
  rw [hrs1] at b0 b1
  rw [hrs2] at c0 c1
  have HRd := Hd.mk hrd
  have HRs1 := Hd.mk hrs1
  have HRs2 := Hd.mk hrs2
  have HIm := Hd.mk him
  clear hrd hrs1 hrs2 him hf
  go_enter Tryd.func86, Tryd.ntmps86
  go_wp2_with (first
    | (go_at_call 43; refine (form_any _ _ (hE.alloc _)).mono ?_; rw [HF.out.1, HF.out.2]; rintro e w' ⟨rfl, rfl⟩)
    | (go_at_call 99; refine (dnum_any _ _ _ h0 h1 (by decide)).mono ?_; rw [HIm.out]; rintro e w' ⟨rfl, rfl⟩)
    | (go_at_call 93; refine (field_any _ _ _ _ h0 h1 (by decide)).mono ?_; (first | rw [HRd.out] | rw [HRs1.out] | rw [HRs2.out]); rintro e w' ⟨rfl, rfl⟩))
  refine bodyPost_ret (v := .agg (NC (laidD n k))) ?_ rfl ⟨rfl, ?_⟩
  · simp [results, Tryd.results86, go_sem, NC, laidD, HFF.out, HRd.out, HRs1.out, HRs2.out, HIm.out]
  · exact below_two _ _
set_option maxRecDepth 100000 in
set_option maxHeartbeats 1000000 in
theorem laid_4 (n k : Int) (w : World) (hE : Env w) (h0 : 0 ≤ n) (h1 : n < 4294967296) (hk : 0 ≤ k ∧ k < 58) (hf : formP k = 4) :
    Calls Tryd.prog 86 #[.int .u32 n, .int .i64 k] w fun e w' => e = .returned (.agg (NC (laidD n k))) ∧ Below w.heap.size w w' := by
  have HF : Hd (formV k = 4 ∧ formE k = 0) := ⟨by rw [formV_eq, formE, if_pos hk, hf]; simp⟩
  have HFF := Hd.mk hf
  obtain ⟨⟨a0, a1⟩, ⟨b0, b1⟩, ⟨c0, c1⟩⟩ := field5_range n
  obtain ⟨rd, hrd⟩ : ∃ m, fieldD n 11 7 = m := ⟨_, rfl⟩
  obtain ⟨rs1, hrs1⟩ : ∃ m, fieldD n 19 15 = m := ⟨_, rfl⟩
  obtain ⟨rs2, hrs2⟩ : ∃ m, fieldD n 24 20 = m := ⟨_, rfl⟩
  obtain ⟨im, him⟩ : ∃ m, numD n 4 = m := ⟨_, rfl⟩
  rw [hrd] at a0 a1
  rw [hrs1] at b0 b1
  rw [hrs2] at c0 c1
  have HRd := Hd.mk hrd
  have HRs1 := Hd.mk hrs1
  have HRs2 := Hd.mk hrs2
  have HIm := Hd.mk him
  clear hrd hrs1 hrs2 him hf
  go_enter Tryd.func86, Tryd.ntmps86
  go_wp2_with (first
    | (go_at_call 43; refine (form_any _ _ (hE.alloc _)).mono ?_; rw [HF.out.1, HF.out.2]; rintro e w' ⟨rfl, rfl⟩)
    | (go_at_call 99; refine (dnum_any _ _ _ h0 h1 (by decide)).mono ?_; rw [HIm.out]; rintro e w' ⟨rfl, rfl⟩)
    | (go_at_call 93; refine (field_any _ _ _ _ h0 h1 (by decide)).mono ?_; (first | rw [HRd.out] | rw [HRs1.out] | rw [HRs2.out]); rintro e w' ⟨rfl, rfl⟩))
  refine bodyPost_ret (v := .agg (NC (laidD n k))) ?_ rfl ⟨rfl, ?_⟩
  · simp [results, Tryd.results86, go_sem, NC, laidD, HFF.out, HRd.out, HRs1.out, HRs2.out, HIm.out]
  · exact below_two _ _
set_option maxRecDepth 100000 in
set_option maxHeartbeats 1000000 in
theorem laid_5 (n k : Int) (w : World) (hE : Env w) (h0 : 0 ≤ n) (h1 : n < 4294967296) (hk : 0 ≤ k ∧ k < 58) (hf : formP k = 5) :
    Calls Tryd.prog 86 #[.int .u32 n, .int .i64 k] w fun e w' => e = .returned (.agg (NC (laidD n k))) ∧ Below w.heap.size w w' := by
  have HF : Hd (formV k = 5 ∧ formE k = 0) := ⟨by rw [formV_eq, formE, if_pos hk, hf]; simp⟩
  have HFF := Hd.mk hf
  obtain ⟨⟨a0, a1⟩, ⟨b0, b1⟩, ⟨c0, c1⟩⟩ := field5_range n
  obtain ⟨rd, hrd⟩ : ∃ m, fieldD n 11 7 = m := ⟨_, rfl⟩
  obtain ⟨rs1, hrs1⟩ : ∃ m, fieldD n 19 15 = m := ⟨_, rfl⟩
  obtain ⟨rs2, hrs2⟩ : ∃ m, fieldD n 24 20 = m := ⟨_, rfl⟩
  obtain ⟨im, him⟩ : ∃ m, numD n 5 = m := ⟨_, rfl⟩
  rw [hrd] at a0 a1
  rw [hrs1] at b0 b1
  rw [hrs2] at c0 c1
  have HRd := Hd.mk hrd
  have HRs1 := Hd.mk hrs1
  have HRs2 := Hd.mk hrs2
  have HIm := Hd.mk him
  clear hrd hrs1 hrs2 him hf
  go_enter Tryd.func86, Tryd.ntmps86
  go_wp2_with (first
    | (go_at_call 43; refine (form_any _ _ (hE.alloc _)).mono ?_; rw [HF.out.1, HF.out.2]; rintro e w' ⟨rfl, rfl⟩)
    | (go_at_call 99; refine (dnum_any _ _ _ h0 h1 (by decide)).mono ?_; rw [HIm.out]; rintro e w' ⟨rfl, rfl⟩)
    | (go_at_call 93; refine (field_any _ _ _ _ h0 h1 (by decide)).mono ?_; (first | rw [HRd.out] | rw [HRs1.out] | rw [HRs2.out]); rintro e w' ⟨rfl, rfl⟩))
  refine bodyPost_ret (v := .agg (NC (laidD n k))) ?_ rfl ⟨rfl, ?_⟩
  · simp [results, Tryd.results86, go_sem, NC, laidD, HFF.out, HRd.out, HRs1.out, HRs2.out, HIm.out]
  · exact below_two _ _
set_option maxRecDepth 100000 in
set_option maxHeartbeats 1000000 in
theorem laid_6 (n k : Int) (w : World) (hE : Env w) (h0 : 0 ≤ n) (h1 : n < 4294967296) (hk : 0 ≤ k ∧ k < 58) (hf : formP k = 6) :
    Calls Tryd.prog 86 #[.int .u32 n, .int .i64 k] w fun e w' => e = .returned (.agg (NC (laidD n k))) ∧ Below w.heap.size w w' := by
  have HF : Hd (formV k = 6 ∧ formE k = 0) := ⟨by rw [formV_eq, formE, if_pos hk, hf]; simp⟩
  have HFF := Hd.mk hf
  obtain ⟨⟨a0, a1⟩, ⟨b0, b1⟩, ⟨c0, c1⟩⟩ := field5_range n
  obtain ⟨rd, hrd⟩ : ∃ m, fieldD n 11 7 = m := ⟨_, rfl⟩
  obtain ⟨rs1, hrs1⟩ : ∃ m, fieldD n 19 15 = m := ⟨_, rfl⟩
  obtain ⟨rs2, hrs2⟩ : ∃ m, fieldD n 24 20 = m := ⟨_, rfl⟩
  obtain ⟨im, him⟩ : ∃ m, numD n 6 = m := ⟨_, rfl⟩
  rw [hrd] at a0 a1
  rw [hrs1] at b0 b1
  rw [hrs2] at c0 c1
  have HRd := Hd.mk hrd
  have HRs1 := Hd.mk hrs1
  have HRs2 := Hd.mk hrs2
  have HIm := Hd.mk him
  clear hrd hrs1 hrs2 him hf
  go_enter Tryd.func86, Tryd.ntmps86
  go_wp2_with (first
    | (go_at_call 43; refine (form_any _ _ (hE.alloc _)).mono ?_; rw [HF.out.1, HF.out.2]; rintro e w' ⟨rfl, rfl⟩)
    | (go_at_call 99; refine (dnum_any _ _ _ h0 h1 (by decide)).mono ?_; rw [HIm.out]; rintro e w' ⟨rfl, rfl⟩)
    | (go_at_call 93; refine (field_any _ _ _ _ h0 h1 (by decide)).mono ?_; (first | rw [HRd.out] | rw [HRs1.out] | rw [HRs2.out]); rintro e w' ⟨rfl, rfl⟩))
  refine bodyPost_ret (v := .agg (NC (laidD n k))) ?_ rfl ⟨rfl, ?_⟩
  · simp [results, Tryd.results86, go_sem, NC, laidD, HFF.out, HRd.out, HRs1.out, HRs2.out, HIm.out]
  · exact below_two _ _
set_option maxRecDepth 100000 in
set_option maxHeartbeats 1000000 in
theorem laid_7 (n k : Int) (w : World) (hE : Env w) (h0 : 0 ≤ n) (h1 : n < 4294967296) (hk : 0 ≤ k ∧ k < 58) (hf : formP k = 7) :
    Calls Tryd.prog 86 #[.int .u32 n, .int .i64 k] w fun e w' => e = .returned (.agg (NC (laidD n k))) ∧ Below w.heap.size w w' := by
  have HF : Hd (formV k = 7 ∧ formE k = 0) := ⟨by rw [formV_eq, formE, if_pos hk, hf]; simp⟩
  have HFF := Hd.mk hf
  obtain ⟨⟨a0, a1⟩, ⟨b0, b1⟩, ⟨c0, c1⟩⟩ := field5_range n
  obtain ⟨rd, hrd⟩ : ∃ m, fieldD n 11 7 = m := ⟨_, rfl⟩
  obtain ⟨rs1, hrs1⟩ : ∃ m, fieldD n 19 15 = m := ⟨_, rfl⟩
  obtain ⟨rs2, hrs2⟩ : ∃ m, fieldD n 24 20 = m := ⟨_, rfl⟩
  obtain ⟨im, him⟩ : ∃ m, numD n 7 = m := ⟨_, rfl⟩
  rw [hrd] at a0 a1
  rw [hrs1] at b0 b1
  rw [hrs2] at c0 c1
  have HRd := Hd.mk hrd
  have HRs1 := Hd.mk hrs1
  have HRs2 := Hd.mk hrs2
  have HIm := Hd.mk him
  clear hrd hrs1 hrs2 him hf
  go_enter Tryd.func86, Tryd.ntmps86
  go_wp2_with (first
    | (go_at_call 43; refine (form_any _ _ (hE.alloc _)).mono ?_; rw [HF.out.1, HF.out.2]; rintro e w' ⟨rfl, rfl⟩)
    | (go_at_call 99; refine (dnum_any _ _ _ h0 h1 (by decide)).mono ?_; rw [HIm.out]; rintro e w' ⟨rfl, rfl⟩)
    | (go_at_call 93; refine (field_any _ _ _ _ h0 h1 (by decide)).mono ?_; (first | rw [HRd.out] | rw [HRs1.out] | rw [HRs2.out]); rintro e w' ⟨rfl, rfl⟩))
  refine bodyPost_ret (v := .agg (NC (laidD n k))) ?_ rfl ⟨rfl, ?_⟩
  · simp [results, Tryd.results86, go_sem, NC, laidD, HFF.out, HRd.out, HRs1.out, HRs2.out, HIm.out]
  · exact below_two _ _
set_option maxRecDepth 100000 in
set_option maxHeartbeats 1000000 in
theorem laid_8 (n k : Int) (w : World) (hE : Env w) (h0 : 0 ≤ n) (h1 : n < 4294967296) (hk : 0 ≤ k ∧ k < 58) (hf : formP k = 8) :
    Calls Tryd.prog 86 #[.int .u32 n, .int .i64 k] w fun e w' => e = .returned (.agg (NC (laidD n k))) ∧ Below w.heap.size w w' := by
  have HF : Hd (formV k = 8 ∧ formE k = 0) := ⟨by rw [formV_eq, formE, if_pos hk, hf]; simp⟩
  have HFF := Hd.mk hf
  obtain ⟨⟨a0, a1⟩, ⟨b0, b1⟩, ⟨c0, c1⟩⟩ := field5_range n
  obtain ⟨rd, hrd⟩ : ∃ m, fieldD n 11 7 = m := ⟨_, rfl⟩
  obtain ⟨rs1, hrs1⟩ : ∃ m, fieldD n 19 15 = m := ⟨_, rfl⟩
  obtain ⟨rs2, hrs2⟩ : ∃ m, fieldD n 24 20 = m := ⟨_, rfl⟩
  obtain ⟨im, him⟩ : ∃ m, numD n 8 = m := ⟨_, rfl⟩
  rw [hrd] at a0 a1
  rw [hrs1] at b0 b1
  rw [hrs2] at c0 c1
  have HRd := Hd.mk hrd
  have HRs1 := Hd.mk hrs1
  have HRs2 := Hd.mk hrs2
  have HIm := Hd.mk him
  clear hrd hrs1 hrs2 him hf
  go_enter Tryd.func86, Tryd.ntmps86
  go_wp2_with (first
    | (go_at_call 43; refine (form_any _ _ (hE.alloc _)).mono ?_; rw [HF.out.1, HF.out.2]; rintro e w' ⟨rfl, rfl⟩)
    | (go_at_call 99; refine (dnum_any _ _ _ h0 h1 (by decide)).mono ?_; rw [HIm.out]; rintro e w' ⟨rfl, rfl⟩)
    | (go_at_call 93; refine (field_any _ _ _ _ h0 h1 (by decide)).mono ?_; (first | rw [HRd.out] | rw [HRs1.out] | rw [HRs2.out]); rintro e w' ⟨rfl, rfl⟩))
  refine bodyPost_ret (v := .agg (NC (laidD n k))) ?_ rfl ⟨rfl, ?_⟩
  · simp [results, Tryd.results86, go_sem, NC, laidD, HFF.out, HRd.out, HRs1.out, HRs2.out, HIm.out]
  · exact below_two _ _
set_option maxRecDepth 100000 in
set_option maxHeartbeats 1000000 in
theorem laid_9 (n k : Int) (w : World) (hE : Env w) (h0 : 0 ≤ n) (h1 : n < 4294967296) (hk : 0 ≤ k ∧ k < 58) (hf : formP k = 9) :
    Calls Tryd.prog 86 #[.int .u32 n, .int .i64 k] w fun e w' => e = .returned (.agg (NC (laidD n k))) ∧ Below w.heap.size w w' := by
  have HF : Hd (formV k = 9 ∧ formE k = 0) := ⟨by rw [formV_eq, formE, if_pos hk, hf]; simp⟩
  have HFF := Hd.mk hf
  obtain ⟨⟨a0, a1⟩, ⟨b0, b1⟩, ⟨c0, c1⟩⟩ := field5_range n
  obtain ⟨rd, hrd⟩ : ∃ m, fieldD n 11 7 = m := ⟨_, rfl⟩
  obtain ⟨rs1, hrs1⟩ : ∃ m, fieldD n 19 15 = m := ⟨_, rfl⟩
  obtain ⟨rs2, hrs2⟩ : ∃ m, fieldD n 24 20 = m := ⟨_, rfl⟩
  obtain ⟨im, him⟩ : ∃ m, numD n 9 = m := ⟨_, rfl⟩
  rw [hrd] at a0 a1
  rw [hrs1] at b0 b1
  rw [hrs2] at c0 c1
  have HRd := Hd.mk hrd
  have HRs1 := Hd.mk hrs1
  have HRs2 := Hd.mk hrs2
  have HIm := Hd.mk him
  clear hrd hrs1 hrs2 him hf
  go_enter Tryd.func86, Tryd.ntmps86
  go_wp2_with (first
    | (go_at_call 43; refine (form_any _ _ (hE.alloc _)).mono ?_; rw [HF.out.1, HF.out.2]; rintro e w' ⟨rfl, rfl⟩)
    | (go_at_call 99; refine (dnum_any _ _ _ h0 h1 (by decide)).mono ?_; rw [HIm.out]; rintro e w' ⟨rfl, rfl⟩)
    | (go_at_call 93; refine (field_any _ _ _ _ h0 h1 (by decide)).mono ?_; (first | rw [HRd.out] | rw [HRs1.out] | rw [HRs2.out]); rintro e w' ⟨rfl, rfl⟩))
  refine bodyPost_ret (v := .agg (NC (laidD n k))) ?_ rfl ⟨rfl, ?_⟩
  · simp [results, Tryd.results86, go_sem, NC, laidD, HFF.out, HRd.out, HRs1.out, HRs2.out, HIm.out]
  · exact below_two _ _
theorem laid_any (n k : Int) (w : World) (hE : Env w) (h0 : 0 ≤ n) (h1 : n < 4294967296) (hk : 0 ≤ k ∧ k < 58) :
    Calls Tryd.prog 86 #[.int .u32 n, .int .i64 k] w fun e w' => e = .returned (.agg (NC (laidD n k))) ∧ Below w.heap.size w w' := by
  have hr := formP_range k
  have : formP k = 0 ∨ formP k = 1 ∨ formP k = 2 ∨ formP k = 3 ∨ formP k = 4 ∨ formP k = 5 ∨ formP k = 6 ∨ formP k = 7 ∨ formP k = 8 ∨ formP k = 9 := by omega
  rcases this with h | h | h | h | h | h | h | h | h | h
  · exact laid_0 n k w hE h0 h1 hk h
  · exact laid_1 n k w hE h0 h1 hk h
  · exact laid_2 n k w hE h0 h1 hk h
  · exact laid_3 n k w hE h0 h1 hk h
  · exact laid_4 n k w hE h0 h1 hk h
  · exact laid_5 n k w hE h0 h1 hk h
  · exact laid_6 n k w hE h0 h1 hk h
  · exact laid_7 n k w hE h0 h1 hk h
  · exact laid_8 n k w hE h0 h1 hk h
  · exact laid_9 n k w hE h0 h1 hk h
end Go.Proofs.YtceelkmedfoefaaDoor

/-! Bits that are put into a word where there are none: or is a sum. -/
set_option linter.unusedVariables false
set_option linter.unusedSimpArgs false
namespace Go.Proofs.YtceelkmedfoefaaDoor
open Go.RowKit

theorem nat_or_add (v y a k : Nat) (hy : y < 2 ^ k) (hz : v / 2 ^ a % 2 ^ k = 0) : v ||| (y * 2 ^ a) = v + y * 2 ^ a := by
  have ha : 0 < 2 ^ a := Nat.pow_pos (by omega)
  have h1 : v = 2 ^ (a + k) * (v / 2 ^ (a + k)) + v % 2 ^ a := by
    have e1 := Nat.div_add_mod v (2 ^ a)
    have e2 := Nat.div_add_mod (v / 2 ^ a) (2 ^ k)
    rw [hz, Nat.add_zero, Nat.div_div_eq_div_mul, ← Nat.pow_add] at e2
    rw [Nat.pow_add, Nat.mul_assoc, ← Nat.pow_add, e2]
    exact e1.symm
  have hlo : v % 2 ^ a < 2 ^ a := Nat.mod_lt _ ha
  have h2 : 2 ^ a * y + v % 2 ^ a < 2 ^ (a + k) := by
    have : 2 ^ a * y + v % 2 ^ a < 2 ^ a * (y + 1) := by rw [Nat.mul_succ]; omega
    have h3 : 2 ^ a * (y + 1) ≤ 2 ^ a * 2 ^ k := Nat.mul_le_mul_left _ hy
    rw [Nat.pow_add]; omega
  have hle : 2 ^ a ≤ 2 ^ (a + k) := Nat.pow_le_pow_right (by omega) (by omega)
  have e1 := Nat.two_pow_add_eq_or_of_lt (b := v % 2 ^ a) (i := a + k) (by omega) (v / 2 ^ (a + k))
  have e2 := Nat.two_pow_add_eq_or_of_lt h2 (v / 2 ^ (a + k))
  have e3 := Nat.two_pow_add_eq_or_of_lt hlo y
  rw [Nat.mul_comm y]
  generalize v / 2 ^ (a + k) = hi at h1 e1 e2
  generalize v % 2 ^ a = lo at h1 e1 e2 e3 h2 hlo
  calc v ||| 2 ^ a * y = (2 ^ (a + k) * hi ||| lo) ||| 2 ^ a * y := by rw [← e1, ← h1]
    _ = 2 ^ (a + k) * hi ||| (2 ^ a * y ||| lo) := by rw [Nat.or_assoc, Nat.or_comm lo]
    _ = 2 ^ (a + k) * hi + (2 ^ a * y + lo) := by rw [← e3, ← e2]
    _ = v + 2 ^ a * y := by omega
/-- No bit of a word stands in k places from a on. -/
def FZ (v : Int) (a k : Nat) : Prop := 0 ≤ v ∧ v < 4294967296 ∧ v.toNat / 2 ^ a % 2 ^ k = 0
theorem orW_nat {v g : Nat} (h1 : v < 4294967296) (h2 : g < 4294967296) : orW (v : Int) (g : Int) = ((v ||| g : Nat) : Int) := by
  unfold orW
  rw [u32_or _ _ (by omega) (by omega) (by omega) (by omega)]
  simp
theorem orW_range {v g : Int} (h1 : 0 ≤ v ∧ v < 4294967296) (h2 : 0 ≤ g ∧ g < 4294967296) : 0 ≤ orW v g ∧ orW v g < 4294967296 := by
  obtain ⟨n, rfl⟩ := Int.eq_ofNat_of_zero_le h1.1
  obtain ⟨m, rfl⟩ := Int.eq_ofNat_of_zero_le h2.1
  rw [orW_nat (by omega) (by omega)]
  have := Nat.or_lt_two_pow (x := n) (y := m) (n := 32) (by omega) (by omega)
  omega
theorem orW_zero {v : Int} (h1 : 0 ≤ v ∧ v < 4294967296) : orW v 0 = v := by
  obtain ⟨n, rfl⟩ := Int.eq_ofNat_of_zero_le h1.1
  have := orW_nat (v := n) (g := 0) (by omega) (by omega)
  simpa using this
theorem FZ.orW {v g : Int} {a k : Nat} (h1 : FZ v a k) (h2 : FZ g a k) : FZ (orW v g) a k := by
  obtain ⟨a1, a2, a3⟩ := h1
  obtain ⟨b1, b2, b3⟩ := h2
  have hr := orW_range ⟨a1, a2⟩ ⟨b1, b2⟩
  refine ⟨hr.1, hr.2, ?_⟩
  obtain ⟨n, rfl⟩ := Int.eq_ofNat_of_zero_le a1
  obtain ⟨m, rfl⟩ := Int.eq_ofNat_of_zero_le b1
  rw [orW_nat (by omega) (by omega)]
  simp only [Int.toNat_natCast] at a3 b3 ⊢
  rw [← Nat.shiftRight_eq_div_pow, Nat.shiftRight_or_distrib, Nat.or_mod_two_pow, Nat.shiftRight_eq_div_pow, Nat.shiftRight_eq_div_pow, a3, b3]
  rfl
/-- What the reference's Put makes. -/
def putV (v x a k : Int) : Int := v - v / a % k * a + x % k * a
theorem put_or {v x : Int} {a k : Nat} (h : FZ v a k) (hx : 0 ≤ x) (hak : a + k ≤ 32) : putV v x ((2 ^ a : Nat) : Int) ((2 ^ k : Nat) : Int) = orW v (x % ((2 ^ k : Nat) : Int) * ((2 ^ a : Nat) : Int)) ∧ 0 ≤ x % ((2 ^ k : Nat) : Int) * ((2 ^ a : Nat) : Int) ∧ x % ((2 ^ k : Nat) : Int) * ((2 ^ a : Nat) : Int) < 4294967296 := by
  obtain ⟨a1, a2, a3⟩ := h
  obtain ⟨n, rfl⟩ := Int.eq_ofNat_of_zero_le a1
  obtain ⟨y, rfl⟩ := Int.eq_ofNat_of_zero_le hx
  have hk : 0 < 2 ^ k := Nat.pow_pos (by omega)
  have hy : y % 2 ^ k < 2 ^ k := Nat.mod_lt _ hk
  have hg : y % 2 ^ k * 2 ^ a < 4294967296 := by
    have e1 : y % 2 ^ k * 2 ^ a < 2 ^ k * 2 ^ a := Nat.mul_lt_mul_of_pos_right hy (Nat.pow_pos (by omega))
    have e2 : 2 ^ k * 2 ^ a ≤ 2 ^ 32 := by rw [← Nat.pow_add]; exact Nat.pow_le_pow_right (by omega) (by omega)
    omega
  have hgc : ((y : Int) % ((2 ^ k : Nat) : Int) * ((2 ^ a : Nat) : Int)) = ((y % 2 ^ k * 2 ^ a : Nat) : Int) := by simp
  simp only [Int.toNat_natCast] at a3
  have hz : ((n : Int) / ((2 ^ a : Nat) : Int) % ((2 ^ k : Nat) : Int)) = 0 := by
    have : ((n : Int) / ((2 ^ a : Nat) : Int) % ((2 ^ k : Nat) : Int)) = ((n / 2 ^ a % 2 ^ k : Nat) : Int) := by simp
    rw [this, a3]; rfl
  unfold putV
  rw [hz, hgc, orW_nat (by omega) hg, nat_or_add n _ a k hy a3]
  refine ⟨by simp, by omega, by omega⟩
end Go.Proofs.YtceelkmedfoefaaDoor

set_option linter.unusedVariables false
set_option linter.unusedSimpArgs false
/-! A word's kind, and the instruction that is read from it: it is right, and its word is the word. -/
namespace Go.Proofs.YtceelkmedfoefaaDoor
open Go.RowKit

/-- What a form's own bits are. -/
def maskK (n f : Int) : Int :=
  if f = 1 ∨ f = 2 then n % 128 else if f = 0 then n
  else if f = 6 ∨ f = 7 then n % 128 + n / 4096 % 8 * 4096 + n / 33554432 * 33554432
  else n % 128 + n / 4096 % 8 * 4096
def KS (n k : Int) : Prop := 1 ≤ k ∧ k < 58 ∧ matchI k.toNat = maskK n (formP k)
theorem ks_1 {n : Int} (h : n % 128 = 55) : KS n 1 := by
  refine ⟨by decide, by decide, ?_⟩
  rw [show matchI (Int.toNat 1) = 55 from rfl, show formP 1 = 1 from rfl]
  unfold maskK
  simp
  omega
theorem ks_2 {n : Int} (h : n % 128 = 23) : KS n 2 := by
  refine ⟨by decide, by decide, ?_⟩
  rw [show matchI (Int.toNat 2) = 23 from rfl, show formP 2 = 1 from rfl]
  unfold maskK
  simp
  omega
theorem ks_3 {n : Int} (h : n % 128 = 111) : KS n 3 := by
  refine ⟨by decide, by decide, ?_⟩
  rw [show matchI (Int.toNat 3) = 111 from rfl, show formP 3 = 2 from rfl]
  unfold maskK
  simp
  omega
theorem ks_4 {n : Int} (h : n % 128 = 103) (h2 : n / 4096 % 8 = 0) : KS n 4 := by
  refine ⟨by decide, by decide, ?_⟩
  rw [show matchI (Int.toNat 4) = 103 from rfl, show formP 4 = 3 from rfl]
  unfold maskK
  simp
  omega
theorem ks_5 {n : Int} (h : n % 128 = 99) (h2 : n / 4096 % 8 = 0) : KS n 5 := by
  refine ⟨by decide, by decide, ?_⟩
  rw [show matchI (Int.toNat 5) = 99 from rfl, show formP 5 = 4 from rfl]
  unfold maskK
  simp
  omega
theorem ks_6 {n : Int} (h : n % 128 = 99) (h2 : n / 4096 % 8 = 1) : KS n 6 := by
  refine ⟨by decide, by decide, ?_⟩
  rw [show matchI (Int.toNat 6) = 4195 from rfl, show formP 6 = 4 from rfl]
  unfold maskK
  simp
  omega
theorem ks_7 {n : Int} (h : n % 128 = 99) (h2 : n / 4096 % 8 = 4) : KS n 7 := by
  refine ⟨by decide, by decide, ?_⟩
  rw [show matchI (Int.toNat 7) = 16483 from rfl, show formP 7 = 4 from rfl]
  unfold maskK
  simp
  omega
theorem ks_8 {n : Int} (h : n % 128 = 99) (h2 : n / 4096 % 8 = 5) : KS n 8 := by
  refine ⟨by decide, by decide, ?_⟩
  rw [show matchI (Int.toNat 8) = 20579 from rfl, show formP 8 = 4 from rfl]
  unfold maskK
  simp
  omega
theorem ks_9 {n : Int} (h : n % 128 = 99) (h2 : n / 4096 % 8 = 6) : KS n 9 := by
  refine ⟨by decide, by decide, ?_⟩
  rw [show matchI (Int.toNat 9) = 24675 from rfl, show formP 9 = 4 from rfl]
  unfold maskK
  simp
  omega
theorem ks_10 {n : Int} (h : n % 128 = 99) (h2 : n / 4096 % 8 = 7) : KS n 10 := by
  refine ⟨by decide, by decide, ?_⟩
  rw [show matchI (Int.toNat 10) = 28771 from rfl, show formP 10 = 4 from rfl]
  unfold maskK
  simp
  omega
theorem ks_11 {n : Int} (h : n % 128 = 3) (h2 : n / 4096 % 8 = 0) : KS n 11 := by
  refine ⟨by decide, by decide, ?_⟩
  rw [show matchI (Int.toNat 11) = 3 from rfl, show formP 11 = 3 from rfl]
  unfold maskK
  simp
  omega
theorem ks_12 {n : Int} (h : n % 128 = 3) (h2 : n / 4096 % 8 = 1) : KS n 12 := by
  refine ⟨by decide, by decide, ?_⟩
  rw [show matchI (Int.toNat 12) = 4099 from rfl, show formP 12 = 3 from rfl]
  unfold maskK
  simp
  omega
theorem ks_13 {n : Int} (h : n % 128 = 3) (h2 : n / 4096 % 8 = 2) : KS n 13 := by
  refine ⟨by decide, by decide, ?_⟩
  rw [show matchI (Int.toNat 13) = 8195 from rfl, show formP 13 = 3 from rfl]
  unfold maskK
  simp
  omega
theorem ks_14 {n : Int} (h : n % 128 = 3) (h2 : n / 4096 % 8 = 4) : KS n 14 := by
  refine ⟨by decide, by decide, ?_⟩
  rw [show matchI (Int.toNat 14) = 16387 from rfl, show formP 14 = 3 from rfl]
  unfold maskK
  simp
  omega
theorem ks_15 {n : Int} (h : n % 128 = 3) (h2 : n / 4096 % 8 = 5) : KS n 15 := by
  refine ⟨by decide, by decide, ?_⟩
  rw [show matchI (Int.toNat 15) = 20483 from rfl, show formP 15 = 3 from rfl]
  unfold maskK
  simp
  omega
theorem ks_16 {n : Int} (h : n % 128 = 35) (h2 : n / 4096 % 8 = 0) : KS n 16 := by
  refine ⟨by decide, by decide, ?_⟩
  rw [show matchI (Int.toNat 16) = 35 from rfl, show formP 16 = 5 from rfl]
  unfold maskK
  simp
  omega
theorem ks_17 {n : Int} (h : n % 128 = 35) (h2 : n / 4096 % 8 = 1) : KS n 17 := by
  refine ⟨by decide, by decide, ?_⟩
  rw [show matchI (Int.toNat 17) = 4131 from rfl, show formP 17 = 5 from rfl]
  unfold maskK
  simp
  omega
theorem ks_18 {n : Int} (h : n % 128 = 35) (h2 : n / 4096 % 8 = 2) : KS n 18 := by
  refine ⟨by decide, by decide, ?_⟩
  rw [show matchI (Int.toNat 18) = 8227 from rfl, show formP 18 = 5 from rfl]
  unfold maskK
  simp
  omega
theorem ks_19 {n : Int} (h : n % 128 = 19) (h2 : n / 4096 % 8 = 0) : KS n 19 := by
  refine ⟨by decide, by decide, ?_⟩
  rw [show matchI (Int.toNat 19) = 19 from rfl, show formP 19 = 3 from rfl]
  unfold maskK
  simp
  omega
theorem ks_20 {n : Int} (h : n % 128 = 19) (h2 : n / 4096 % 8 = 2) : KS n 20 := by
  refine ⟨by decide, by decide, ?_⟩
  rw [show matchI (Int.toNat 20) = 8211 from rfl, show formP 20 = 3 from rfl]
  unfold maskK
  simp
  omega
theorem ks_21 {n : Int} (h : n % 128 = 19) (h2 : n / 4096 % 8 = 3) : KS n 21 := by
  refine ⟨by decide, by decide, ?_⟩
  rw [show matchI (Int.toNat 21) = 12307 from rfl, show formP 21 = 3 from rfl]
  unfold maskK
  simp
  omega
theorem ks_22 {n : Int} (h : n % 128 = 19) (h2 : n / 4096 % 8 = 4) : KS n 22 := by
  refine ⟨by decide, by decide, ?_⟩
  rw [show matchI (Int.toNat 22) = 16403 from rfl, show formP 22 = 3 from rfl]
  unfold maskK
  simp
  omega
theorem ks_23 {n : Int} (h : n % 128 = 19) (h2 : n / 4096 % 8 = 6) : KS n 23 := by
  refine ⟨by decide, by decide, ?_⟩
  rw [show matchI (Int.toNat 23) = 24595 from rfl, show formP 23 = 3 from rfl]
  unfold maskK
  simp
  omega
theorem ks_24 {n : Int} (h : n % 128 = 19) (h2 : n / 4096 % 8 = 7) : KS n 24 := by
  refine ⟨by decide, by decide, ?_⟩
  rw [show matchI (Int.toNat 24) = 28691 from rfl, show formP 24 = 3 from rfl]
  unfold maskK
  simp
  omega
theorem ks_25 {n : Int} (h : n % 128 = 19) (h2 : n / 4096 % 8 = 1) (h3 : n / 33554432 = 0) : KS n 25 := by
  refine ⟨by decide, by decide, ?_⟩
  rw [show matchI (Int.toNat 25) = 4115 from rfl, show formP 25 = 7 from rfl]
  unfold maskK
  simp
  omega
theorem ks_26 {n : Int} (h : n % 128 = 19) (h2 : n / 4096 % 8 = 5) (h3 : n / 33554432 = 0) : KS n 26 := by
  refine ⟨by decide, by decide, ?_⟩
  rw [show matchI (Int.toNat 26) = 20499 from rfl, show formP 26 = 7 from rfl]
  unfold maskK
  simp
  omega
theorem ks_27 {n : Int} (h : n % 128 = 19) (h2 : n / 4096 % 8 = 5) (h3 : n / 33554432 = 32) : KS n 27 := by
  refine ⟨by decide, by decide, ?_⟩
  rw [show matchI (Int.toNat 27) = 1073762323 from rfl, show formP 27 = 7 from rfl]
  unfold maskK
  simp
  omega
theorem ks_28 {n : Int} (h : n % 128 = 51) (h2 : n / 4096 % 8 = 0) (h3 : n / 33554432 = 0) : KS n 28 := by
  refine ⟨by decide, by decide, ?_⟩
  rw [show matchI (Int.toNat 28) = 51 from rfl, show formP 28 = 6 from rfl]
  unfold maskK
  simp
  omega
theorem ks_29 {n : Int} (h : n % 128 = 51) (h2 : n / 4096 % 8 = 0) (h3 : n / 33554432 = 32) : KS n 29 := by
  refine ⟨by decide, by decide, ?_⟩
  rw [show matchI (Int.toNat 29) = 1073741875 from rfl, show formP 29 = 6 from rfl]
  unfold maskK
  simp
  omega
theorem ks_30 {n : Int} (h : n % 128 = 51) (h2 : n / 4096 % 8 = 1) (h3 : n / 33554432 = 0) : KS n 30 := by
  refine ⟨by decide, by decide, ?_⟩
  rw [show matchI (Int.toNat 30) = 4147 from rfl, show formP 30 = 6 from rfl]
  unfold maskK
  simp
  omega
theorem ks_31 {n : Int} (h : n % 128 = 51) (h2 : n / 4096 % 8 = 2) (h3 : n / 33554432 = 0) : KS n 31 := by
  refine ⟨by decide, by decide, ?_⟩
  rw [show matchI (Int.toNat 31) = 8243 from rfl, show formP 31 = 6 from rfl]
  unfold maskK
  simp
  omega
theorem ks_32 {n : Int} (h : n % 128 = 51) (h2 : n / 4096 % 8 = 3) (h3 : n / 33554432 = 0) : KS n 32 := by
  refine ⟨by decide, by decide, ?_⟩
  rw [show matchI (Int.toNat 32) = 12339 from rfl, show formP 32 = 6 from rfl]
  unfold maskK
  simp
  omega
theorem ks_33 {n : Int} (h : n % 128 = 51) (h2 : n / 4096 % 8 = 4) (h3 : n / 33554432 = 0) : KS n 33 := by
  refine ⟨by decide, by decide, ?_⟩
  rw [show matchI (Int.toNat 33) = 16435 from rfl, show formP 33 = 6 from rfl]
  unfold maskK
  simp
  omega
theorem ks_34 {n : Int} (h : n % 128 = 51) (h2 : n / 4096 % 8 = 5) (h3 : n / 33554432 = 0) : KS n 34 := by
  refine ⟨by decide, by decide, ?_⟩
  rw [show matchI (Int.toNat 34) = 20531 from rfl, show formP 34 = 6 from rfl]
  unfold maskK
  simp
  omega
theorem ks_35 {n : Int} (h : n % 128 = 51) (h2 : n / 4096 % 8 = 5) (h3 : n / 33554432 = 32) : KS n 35 := by
  refine ⟨by decide, by decide, ?_⟩
  rw [show matchI (Int.toNat 35) = 1073762355 from rfl, show formP 35 = 6 from rfl]
  unfold maskK
  simp
  omega
theorem ks_36 {n : Int} (h : n % 128 = 51) (h2 : n / 4096 % 8 = 6) (h3 : n / 33554432 = 0) : KS n 36 := by
  refine ⟨by decide, by decide, ?_⟩
  rw [show matchI (Int.toNat 36) = 24627 from rfl, show formP 36 = 6 from rfl]
  unfold maskK
  simp
  omega
theorem ks_37 {n : Int} (h : n % 128 = 51) (h2 : n / 4096 % 8 = 7) (h3 : n / 33554432 = 0) : KS n 37 := by
  refine ⟨by decide, by decide, ?_⟩
  rw [show matchI (Int.toNat 37) = 28723 from rfl, show formP 37 = 6 from rfl]
  unfold maskK
  simp
  omega
theorem ks_38 {n : Int} (h : n % 128 = 15) (h2 : n / 4096 % 8 = 0) : KS n 38 := by
  refine ⟨by decide, by decide, ?_⟩
  rw [show matchI (Int.toNat 38) = 15 from rfl, show formP 38 = 3 from rfl]
  unfold maskK
  simp
  omega
theorem ks_39 {n : Int} (h : n % 128 = 15) (h2 : n / 4096 % 8 = 1) : KS n 39 := by
  refine ⟨by decide, by decide, ?_⟩
  rw [show matchI (Int.toNat 39) = 4111 from rfl, show formP 39 = 3 from rfl]
  unfold maskK
  simp
  omega
theorem ks_40 {n : Int} (h : n = 115) : KS n 40 := by
  refine ⟨by decide, by decide, ?_⟩
  rw [show matchI (Int.toNat 40) = 115 from rfl, show formP 40 = 0 from rfl]
  unfold maskK
  simp
  omega
theorem ks_41 {n : Int} (h : n = 1048691) : KS n 41 := by
  refine ⟨by decide, by decide, ?_⟩
  rw [show matchI (Int.toNat 41) = 1048691 from rfl, show formP 41 = 0 from rfl]
  unfold maskK
  simp
  omega
theorem ks_42 {n : Int} (h : n % 128 = 115) (h2 : n / 4096 % 8 = 1) : KS n 42 := by
  refine ⟨by decide, by decide, ?_⟩
  rw [show matchI (Int.toNat 42) = 4211 from rfl, show formP 42 = 8 from rfl]
  unfold maskK
  simp
  omega
theorem ks_43 {n : Int} (h : n % 128 = 115) (h2 : n / 4096 % 8 = 2) : KS n 43 := by
  refine ⟨by decide, by decide, ?_⟩
  rw [show matchI (Int.toNat 43) = 8307 from rfl, show formP 43 = 8 from rfl]
  unfold maskK
  simp
  omega
theorem ks_44 {n : Int} (h : n % 128 = 115) (h2 : n / 4096 % 8 = 3) : KS n 44 := by
  refine ⟨by decide, by decide, ?_⟩
  rw [show matchI (Int.toNat 44) = 12403 from rfl, show formP 44 = 8 from rfl]
  unfold maskK
  simp
  omega
theorem ks_45 {n : Int} (h : n % 128 = 115) (h2 : n / 4096 % 8 = 5) : KS n 45 := by
  refine ⟨by decide, by decide, ?_⟩
  rw [show matchI (Int.toNat 45) = 20595 from rfl, show formP 45 = 9 from rfl]
  unfold maskK
  simp
  omega
theorem ks_46 {n : Int} (h : n % 128 = 115) (h2 : n / 4096 % 8 = 6) : KS n 46 := by
  refine ⟨by decide, by decide, ?_⟩
  rw [show matchI (Int.toNat 46) = 24691 from rfl, show formP 46 = 9 from rfl]
  unfold maskK
  simp
  omega
theorem ks_47 {n : Int} (h : n % 128 = 115) (h2 : n / 4096 % 8 = 7) : KS n 47 := by
  refine ⟨by decide, by decide, ?_⟩
  rw [show matchI (Int.toNat 47) = 28787 from rfl, show formP 47 = 9 from rfl]
  unfold maskK
  simp
  omega
theorem ks_48 {n : Int} (h : n = 807403635) : KS n 48 := by
  refine ⟨by decide, by decide, ?_⟩
  rw [show matchI (Int.toNat 48) = 807403635 from rfl, show formP 48 = 0 from rfl]
  unfold maskK
  simp
  omega
theorem ks_49 {n : Int} (h : n = 273678451) : KS n 49 := by
  refine ⟨by decide, by decide, ?_⟩
  rw [show matchI (Int.toNat 49) = 273678451 from rfl, show formP 49 = 0 from rfl]
  unfold maskK
  simp
  omega
theorem ks_50 {n : Int} (h : n % 128 = 51) (h2 : n / 4096 % 8 = 0) (h3 : n / 33554432 = 1) : KS n 50 := by
  refine ⟨by decide, by decide, ?_⟩
  rw [show matchI (Int.toNat 50) = 33554483 from rfl, show formP 50 = 6 from rfl]
  unfold maskK
  simp
  omega
theorem ks_51 {n : Int} (h : n % 128 = 51) (h2 : n / 4096 % 8 = 1) (h3 : n / 33554432 = 1) : KS n 51 := by
  refine ⟨by decide, by decide, ?_⟩
  rw [show matchI (Int.toNat 51) = 33558579 from rfl, show formP 51 = 6 from rfl]
  unfold maskK
  simp
  omega
theorem ks_52 {n : Int} (h : n % 128 = 51) (h2 : n / 4096 % 8 = 2) (h3 : n / 33554432 = 1) : KS n 52 := by
  refine ⟨by decide, by decide, ?_⟩
  rw [show matchI (Int.toNat 52) = 33562675 from rfl, show formP 52 = 6 from rfl]
  unfold maskK
  simp
  omega
theorem ks_53 {n : Int} (h : n % 128 = 51) (h2 : n / 4096 % 8 = 3) (h3 : n / 33554432 = 1) : KS n 53 := by
  refine ⟨by decide, by decide, ?_⟩
  rw [show matchI (Int.toNat 53) = 33566771 from rfl, show formP 53 = 6 from rfl]
  unfold maskK
  simp
  omega
theorem ks_54 {n : Int} (h : n % 128 = 51) (h2 : n / 4096 % 8 = 4) (h3 : n / 33554432 = 1) : KS n 54 := by
  refine ⟨by decide, by decide, ?_⟩
  rw [show matchI (Int.toNat 54) = 33570867 from rfl, show formP 54 = 6 from rfl]
  unfold maskK
  simp
  omega
theorem ks_55 {n : Int} (h : n % 128 = 51) (h2 : n / 4096 % 8 = 5) (h3 : n / 33554432 = 1) : KS n 55 := by
  refine ⟨by decide, by decide, ?_⟩
  rw [show matchI (Int.toNat 55) = 33574963 from rfl, show formP 55 = 6 from rfl]
  unfold maskK
  simp
  omega
theorem ks_56 {n : Int} (h : n % 128 = 51) (h2 : n / 4096 % 8 = 6) (h3 : n / 33554432 = 1) : KS n 56 := by
  refine ⟨by decide, by decide, ?_⟩
  rw [show matchI (Int.toNat 56) = 33579059 from rfl, show formP 56 = 6 from rfl]
  unfold maskK
  simp
  omega
theorem ks_57 {n : Int} (h : n % 128 = 51) (h2 : n / 4096 % 8 = 7) (h3 : n / 33554432 = 1) : KS n 57 := by
  refine ⟨by decide, by decide, ?_⟩
  rw [show matchI (Int.toNat 57) = 33583155 from rfl, show formP 57 = 6 from rfl]
  unfold maskK
  simp
  omega
set_option maxHeartbeats 1000000 in
theorem kind_spec (n : Int) (h0 : 0 ≤ n) (h1 : n < 4294967296) (hk : kindK n ≠ 0) : KS n (kindK n) := by
  obtain ⟨o, ho⟩ : ∃ o, n % 128 = o := ⟨_, rfl⟩
  obtain ⟨f, hf⟩ : ∃ f, n / 4096 % 8 = f := ⟨_, rfl⟩
  obtain ⟨t, ht⟩ : ∃ t, n / 33554432 = t := ⟨_, rfl⟩
  have hf8 : 0 ≤ f ∧ f < 8 := by omega
  unfold kindK at hk ⊢
  simp only [ho, hf] at hk ⊢
  by_cases c55 : o = 55
  · simp only [c55, if_true, if_false, Int.reduceEq] at hk ⊢
    subst c55
    exact ks_1 ho
  simp only [c55, if_false] at hk ⊢
  by_cases c23 : o = 23
  · simp only [c23, if_true, if_false, Int.reduceEq] at hk ⊢
    subst c23
    exact ks_2 ho
  simp only [c23, if_false] at hk ⊢
  by_cases c111 : o = 111
  · simp only [c111, if_true, if_false, Int.reduceEq] at hk ⊢
    subst c111
    exact ks_3 ho
  simp only [c111, if_false] at hk ⊢
  by_cases c103 : o = 103
  · simp only [c103, if_true, if_false, Int.reduceEq] at hk ⊢
    subst c103
    obtain rfl | rfl | rfl | rfl | rfl | rfl | rfl | rfl : f = 0 ∨ f = 1 ∨ f = 2 ∨ f = 3 ∨ f = 4 ∨ f = 5 ∨ f = 6 ∨ f = 7 := by omega
    · exact ks_4 ho hf
    · exact absurd rfl hk
    · exact absurd rfl hk
    · exact absurd rfl hk
    · exact absurd rfl hk
    · exact absurd rfl hk
    · exact absurd rfl hk
    · exact absurd rfl hk
  simp only [c103, if_false] at hk ⊢
  by_cases c99 : o = 99
  · simp only [c99, if_true, if_false, Int.reduceEq] at hk ⊢
    subst c99
    unfold branchK at hk ⊢
    obtain rfl | rfl | rfl | rfl | rfl | rfl | rfl | rfl : f = 0 ∨ f = 1 ∨ f = 2 ∨ f = 3 ∨ f = 4 ∨ f = 5 ∨ f = 6 ∨ f = 7 := by omega
    · exact ks_5 ho hf
    · exact ks_6 ho hf
    · exact absurd rfl hk
    · exact absurd rfl hk
    · exact ks_7 ho hf
    · exact ks_8 ho hf
    · exact ks_9 ho hf
    · exact ks_10 ho hf
  simp only [c99, if_false] at hk ⊢
  by_cases c3 : o = 3
  · simp only [c3, if_true, if_false, Int.reduceEq] at hk ⊢
    subst c3
    unfold loadK at hk ⊢
    obtain rfl | rfl | rfl | rfl | rfl | rfl | rfl | rfl : f = 0 ∨ f = 1 ∨ f = 2 ∨ f = 3 ∨ f = 4 ∨ f = 5 ∨ f = 6 ∨ f = 7 := by omega
    · exact ks_11 ho hf
    · exact ks_12 ho hf
    · exact ks_13 ho hf
    · exact absurd rfl hk
    · exact ks_14 ho hf
    · exact ks_15 ho hf
    · exact absurd rfl hk
    · exact absurd rfl hk
  simp only [c3, if_false] at hk ⊢
  by_cases c35 : o = 35
  · simp only [c35, if_true, if_false, Int.reduceEq] at hk ⊢
    subst c35
    obtain rfl | rfl | rfl | rfl | rfl | rfl | rfl | rfl : f = 0 ∨ f = 1 ∨ f = 2 ∨ f = 3 ∨ f = 4 ∨ f = 5 ∨ f = 6 ∨ f = 7 := by omega
    · exact ks_16 ho hf
    · exact ks_17 ho hf
    · exact ks_18 ho hf
    · exact absurd rfl hk
    · exact absurd rfl hk
    · exact absurd rfl hk
    · exact absurd rfl hk
    · exact absurd rfl hk
  simp only [c35, if_false] at hk ⊢
  by_cases c19 : o = 19
  · simp only [c19, if_true, if_false, Int.reduceEq] at hk ⊢
    subst c19
    unfold immK at hk ⊢
    simp only [hf, ht] at hk ⊢
    obtain rfl | rfl | rfl | rfl | rfl | rfl | rfl | rfl : f = 0 ∨ f = 1 ∨ f = 2 ∨ f = 3 ∨ f = 4 ∨ f = 5 ∨ f = 6 ∨ f = 7 := by omega
    · exact ks_19 ho hf
    · by_cases c : t = 0
      · subst c; exact ks_25 ho hf ht
      · exact absurd (by simp [c]) hk
    · exact ks_20 ho hf
    · exact ks_21 ho hf
    · exact ks_22 ho hf
    · by_cases c : t = 0
      · subst c; exact ks_26 ho hf ht
      · by_cases c2 : t = 32
        · subst c2; exact ks_27 ho hf ht
        · exact absurd (by simp [c, c2]) hk
    · exact ks_23 ho hf
    · exact ks_24 ho hf
  simp only [c19, if_false] at hk ⊢
  by_cases c51 : o = 51
  · simp only [c51, if_true, if_false, Int.reduceEq] at hk ⊢
    subst c51
    unfold regK at hk ⊢
    simp only [hf, ht] at hk ⊢
    obtain rfl | rfl | rfl | rfl | rfl | rfl | rfl | rfl : f = 0 ∨ f = 1 ∨ f = 2 ∨ f = 3 ∨ f = 4 ∨ f = 5 ∨ f = 6 ∨ f = 7 := by omega
    · by_cases c : t = 0
      · subst c; exact ks_28 ho hf ht
      · by_cases c1 : t = 1
        · subst c1; exact ks_50 ho hf ht
        · by_cases c2 : t = 32
          · subst c2; exact ks_29 ho hf ht
          · exact absurd (by simp [c, c1, c2]) hk
    · by_cases c : t = 0
      · subst c; exact ks_30 ho hf ht
      · by_cases c1 : t = 1
        · subst c1; exact ks_51 ho hf ht
        · exact absurd (by simp [c, c1]) hk
    · by_cases c : t = 0
      · subst c; exact ks_31 ho hf ht
      · by_cases c1 : t = 1
        · subst c1; exact ks_52 ho hf ht
        · exact absurd (by simp [c, c1]) hk
    · by_cases c : t = 0
      · subst c; exact ks_32 ho hf ht
      · by_cases c1 : t = 1
        · subst c1; exact ks_53 ho hf ht
        · exact absurd (by simp [c, c1]) hk
    · by_cases c : t = 0
      · subst c; exact ks_33 ho hf ht
      · by_cases c1 : t = 1
        · subst c1; exact ks_54 ho hf ht
        · exact absurd (by simp [c, c1]) hk
    · by_cases c : t = 0
      · subst c; exact ks_34 ho hf ht
      · by_cases c1 : t = 1
        · subst c1; exact ks_55 ho hf ht
        · by_cases c2 : t = 32
          · subst c2; exact ks_35 ho hf ht
          · exact absurd (by simp [c, c1, c2]) hk
    · by_cases c : t = 0
      · subst c; exact ks_36 ho hf ht
      · by_cases c1 : t = 1
        · subst c1; exact ks_56 ho hf ht
        · exact absurd (by simp [c, c1]) hk
    · by_cases c : t = 0
      · subst c; exact ks_37 ho hf ht
      · by_cases c1 : t = 1
        · subst c1; exact ks_57 ho hf ht
        · exact absurd (by simp [c, c1]) hk
  simp only [c51, if_false] at hk ⊢
  by_cases c15 : o = 15
  · simp only [c15, if_true, if_false, Int.reduceEq] at hk ⊢
    subst c15
    obtain rfl | rfl | rfl | rfl | rfl | rfl | rfl | rfl : f = 0 ∨ f = 1 ∨ f = 2 ∨ f = 3 ∨ f = 4 ∨ f = 5 ∨ f = 6 ∨ f = 7 := by omega
    · exact ks_38 ho hf
    · exact ks_39 ho hf
    · exact absurd rfl hk
    · exact absurd rfl hk
    · exact absurd rfl hk
    · exact absurd rfl hk
    · exact absurd rfl hk
    · exact absurd rfl hk
  simp only [c15, if_false] at hk ⊢
  by_cases c115 : o = 115
  · simp only [c115, if_true, if_false, Int.reduceEq] at hk ⊢
    subst c115
    unfold sysK at hk ⊢
    simp only [hf] at hk ⊢
    obtain rfl | rfl | rfl | rfl | rfl | rfl | rfl | rfl : f = 0 ∨ f = 1 ∨ f = 2 ∨ f = 3 ∨ f = 4 ∨ f = 5 ∨ f = 6 ∨ f = 7 := by omega
    · by_cases c : n = 115
      · simp only [c] at hk ⊢; exact ks_40 rfl
      · by_cases c1 : n = 1048691
        · simp only [c1] at hk ⊢; exact ks_41 rfl
        · by_cases c2 : n = 807403635
          · simp only [c2] at hk ⊢; exact ks_48 rfl
          · by_cases c3 : n = 273678451
            · simp only [c3] at hk ⊢; exact ks_49 rfl
            · exact absurd (by simp [c, c1, c2, c3]) hk
    · exact ks_42 ho hf
    · exact ks_43 ho hf
    · exact ks_44 ho hf
    · exact absurd (by simp; omega) hk
    · exact ks_45 ho hf
    · exact ks_46 ho hf
    · exact ks_47 ho hf
  simp only [c115, if_false] at hk ⊢
  exact absurd rfl hk
end Go.Proofs.YtceelkmedfoefaaDoor

set_option linter.unusedVariables false
set_option linter.unusedSimpArgs false
/-! A word that is an instruction's is the word of what is read from it; that is right. -/
namespace Go.Proofs.YtceelkmedfoefaaDoor
open Go.RowKit

theorem or_7_5 {v x : Int} (h0 : 0 ≤ v) (h1 : v < 4294967296) (hz : v / 128 % 32 = 0) (hx : 0 ≤ x) : orW v (x % 32 * 128) = v + x % 32 * 128 := by
  have h := (put_or (v := v) (x := x) (a := 7) (k := 5) ⟨h0, h1, by show v.toNat / 128 % 32 = 0; omega⟩ hx (by omega)).1
  have e1 : ((2 ^ 7 : Nat) : Int) = 128 := rfl
  have e2 : ((2 ^ 5 : Nat) : Int) = 32 := rfl
  unfold putV at h
  rw [e1, e2, hz] at h
  omega
theorem or_15_5 {v x : Int} (h0 : 0 ≤ v) (h1 : v < 4294967296) (hz : v / 32768 % 32 = 0) (hx : 0 ≤ x) : orW v (x % 32 * 32768) = v + x % 32 * 32768 := by
  have h := (put_or (v := v) (x := x) (a := 15) (k := 5) ⟨h0, h1, by show v.toNat / 32768 % 32 = 0; omega⟩ hx (by omega)).1
  have e1 : ((2 ^ 15 : Nat) : Int) = 32768 := rfl
  have e2 : ((2 ^ 5 : Nat) : Int) = 32 := rfl
  unfold putV at h
  rw [e1, e2, hz] at h
  omega
theorem or_20_5 {v x : Int} (h0 : 0 ≤ v) (h1 : v < 4294967296) (hz : v / 1048576 % 32 = 0) (hx : 0 ≤ x) : orW v (x % 32 * 1048576) = v + x % 32 * 1048576 := by
  have h := (put_or (v := v) (x := x) (a := 20) (k := 5) ⟨h0, h1, by show v.toNat / 1048576 % 32 = 0; omega⟩ hx (by omega)).1
  have e1 : ((2 ^ 20 : Nat) : Int) = 1048576 := rfl
  have e2 : ((2 ^ 5 : Nat) : Int) = 32 := rfl
  unfold putV at h
  rw [e1, e2, hz] at h
  omega
theorem or_20_12 {v x : Int} (h0 : 0 ≤ v) (h1 : v < 4294967296) (hz : v / 1048576 % 4096 = 0) (hx : 0 ≤ x) : orW v (x % 4096 * 1048576) = v + x % 4096 * 1048576 := by
  have h := (put_or (v := v) (x := x) (a := 20) (k := 12) ⟨h0, h1, by show v.toNat / 1048576 % 4096 = 0; omega⟩ hx (by omega)).1
  have e1 : ((2 ^ 20 : Nat) : Int) = 1048576 := rfl
  have e2 : ((2 ^ 12 : Nat) : Int) = 4096 := rfl
  unfold putV at h
  rw [e1, e2, hz] at h
  omega
theorem or_12_20 {v x : Int} (h0 : 0 ≤ v) (h1 : v < 4294967296) (hz : v / 4096 % 1048576 = 0) (hx : 0 ≤ x) : orW v (x % 1048576 * 4096) = v + x % 1048576 * 4096 := by
  have h := (put_or (v := v) (x := x) (a := 12) (k := 20) ⟨h0, h1, by show v.toNat / 4096 % 1048576 = 0; omega⟩ hx (by omega)).1
  have e1 : ((2 ^ 12 : Nat) : Int) = 4096 := rfl
  have e2 : ((2 ^ 20 : Nat) : Int) = 1048576 := rfl
  unfold putV at h
  rw [e1, e2, hz] at h
  omega
theorem or_31_1 {v x : Int} (h0 : 0 ≤ v) (h1 : v < 4294967296) (hz : v / 2147483648 % 2 = 0) (hx : 0 ≤ x) : orW v (x % 2 * 2147483648) = v + x % 2 * 2147483648 := by
  have h := (put_or (v := v) (x := x) (a := 31) (k := 1) ⟨h0, h1, by show v.toNat / 2147483648 % 2 = 0; omega⟩ hx (by omega)).1
  have e1 : ((2 ^ 31 : Nat) : Int) = 2147483648 := rfl
  have e2 : ((2 ^ 1 : Nat) : Int) = 2 := rfl
  unfold putV at h
  rw [e1, e2, hz] at h
  omega
theorem or_12_8 {v x : Int} (h0 : 0 ≤ v) (h1 : v < 4294967296) (hz : v / 4096 % 256 = 0) (hx : 0 ≤ x) : orW v (x % 256 * 4096) = v + x % 256 * 4096 := by
  have h := (put_or (v := v) (x := x) (a := 12) (k := 8) ⟨h0, h1, by show v.toNat / 4096 % 256 = 0; omega⟩ hx (by omega)).1
  have e1 : ((2 ^ 12 : Nat) : Int) = 4096 := rfl
  have e2 : ((2 ^ 8 : Nat) : Int) = 256 := rfl
  unfold putV at h
  rw [e1, e2, hz] at h
  omega
theorem or_20_1 {v x : Int} (h0 : 0 ≤ v) (h1 : v < 4294967296) (hz : v / 1048576 % 2 = 0) (hx : 0 ≤ x) : orW v (x % 2 * 1048576) = v + x % 2 * 1048576 := by
  have h := (put_or (v := v) (x := x) (a := 20) (k := 1) ⟨h0, h1, by show v.toNat / 1048576 % 2 = 0; omega⟩ hx (by omega)).1
  have e1 : ((2 ^ 20 : Nat) : Int) = 1048576 := rfl
  have e2 : ((2 ^ 1 : Nat) : Int) = 2 := rfl
  unfold putV at h
  rw [e1, e2, hz] at h
  omega
theorem or_21_10 {v x : Int} (h0 : 0 ≤ v) (h1 : v < 4294967296) (hz : v / 2097152 % 1024 = 0) (hx : 0 ≤ x) : orW v (x % 1024 * 2097152) = v + x % 1024 * 2097152 := by
  have h := (put_or (v := v) (x := x) (a := 21) (k := 10) ⟨h0, h1, by show v.toNat / 2097152 % 1024 = 0; omega⟩ hx (by omega)).1
  have e1 : ((2 ^ 21 : Nat) : Int) = 2097152 := rfl
  have e2 : ((2 ^ 10 : Nat) : Int) = 1024 := rfl
  unfold putV at h
  rw [e1, e2, hz] at h
  omega
theorem or_7_1 {v x : Int} (h0 : 0 ≤ v) (h1 : v < 4294967296) (hz : v / 128 % 2 = 0) (hx : 0 ≤ x) : orW v (x % 2 * 128) = v + x % 2 * 128 := by
  have h := (put_or (v := v) (x := x) (a := 7) (k := 1) ⟨h0, h1, by show v.toNat / 128 % 2 = 0; omega⟩ hx (by omega)).1
  have e1 : ((2 ^ 7 : Nat) : Int) = 128 := rfl
  have e2 : ((2 ^ 1 : Nat) : Int) = 2 := rfl
  unfold putV at h
  rw [e1, e2, hz] at h
  omega
theorem or_25_6 {v x : Int} (h0 : 0 ≤ v) (h1 : v < 4294967296) (hz : v / 33554432 % 64 = 0) (hx : 0 ≤ x) : orW v (x % 64 * 33554432) = v + x % 64 * 33554432 := by
  have h := (put_or (v := v) (x := x) (a := 25) (k := 6) ⟨h0, h1, by show v.toNat / 33554432 % 64 = 0; omega⟩ hx (by omega)).1
  have e1 : ((2 ^ 25 : Nat) : Int) = 33554432 := rfl
  have e2 : ((2 ^ 6 : Nat) : Int) = 64 := rfl
  unfold putV at h
  rw [e1, e2, hz] at h
  omega
theorem or_8_4 {v x : Int} (h0 : 0 ≤ v) (h1 : v < 4294967296) (hz : v / 256 % 16 = 0) (hx : 0 ≤ x) : orW v (x % 16 * 256) = v + x % 16 * 256 := by
  have h := (put_or (v := v) (x := x) (a := 8) (k := 4) ⟨h0, h1, by show v.toNat / 256 % 16 = 0; omega⟩ hx (by omega)).1
  have e1 : ((2 ^ 8 : Nat) : Int) = 256 := rfl
  have e2 : ((2 ^ 4 : Nat) : Int) = 16 := rfl
  unfold putV at h
  rw [e1, e2, hz] at h
  omega
theorem or_25_7 {v x : Int} (h0 : 0 ≤ v) (h1 : v < 4294967296) (hz : v / 33554432 % 128 = 0) (hx : 0 ≤ x) : orW v (x % 128 * 33554432) = v + x % 128 * 33554432 := by
  have h := (put_or (v := v) (x := x) (a := 25) (k := 7) ⟨h0, h1, by show v.toNat / 33554432 % 128 = 0; omega⟩ hx (by omega)).1
  have e1 : ((2 ^ 25 : Nat) : Int) = 33554432 := rfl
  have e2 : ((2 ^ 7 : Nat) : Int) = 128 := rfl
  unfold putV at h
  rw [e1, e2, hz] at h
  omega
theorem or_11_1 {v x : Int} (h0 : 0 ≤ v) (h1 : v < 4294967296) (hz : v / 2048 % 2 = 0) (hx : 0 ≤ x) : orW v (x % 2 * 2048) = v + x % 2 * 2048 := by
  have h := (put_or (v := v) (x := x) (a := 11) (k := 1) ⟨h0, h1, by show v.toNat / 2048 % 2 = 0; omega⟩ hx (by omega)).1
  have e1 : ((2 ^ 11 : Nat) : Int) = 2048 := rfl
  have e2 : ((2 ^ 1 : Nat) : Int) = 2 := rfl
  unfold putV at h
  rw [e1, e2, hz] at h
  omega
theorem or_1_10 {v x : Int} (h0 : 0 ≤ v) (h1 : v < 4294967296) (hz : v / 2 % 1024 = 0) (hx : 0 ≤ x) : orW v (x % 1024 * 2) = v + x % 1024 * 2 := by
  have h := (put_or (v := v) (x := x) (a := 1) (k := 10) ⟨h0, h1, by show v.toNat / 2 % 1024 = 0; omega⟩ hx (by omega)).1
  have e1 : ((2 ^ 1 : Nat) : Int) = 2 := rfl
  have e2 : ((2 ^ 10 : Nat) : Int) = 1024 := rfl
  unfold putV at h
  rw [e1, e2, hz] at h
  omega
theorem or_5_6 {v x : Int} (h0 : 0 ≤ v) (h1 : v < 4294967296) (hz : v / 32 % 64 = 0) (hx : 0 ≤ x) : orW v (x % 64 * 32) = v + x % 64 * 32 := by
  have h := (put_or (v := v) (x := x) (a := 5) (k := 6) ⟨h0, h1, by show v.toNat / 32 % 64 = 0; omega⟩ hx (by omega)).1
  have e1 : ((2 ^ 5 : Nat) : Int) = 32 := rfl
  have e2 : ((2 ^ 6 : Nat) : Int) = 64 := rfl
  unfold putV at h
  rw [e1, e2, hz] at h
  omega
theorem or_1_4 {v x : Int} (h0 : 0 ≤ v) (h1 : v < 4294967296) (hz : v / 2 % 16 = 0) (hx : 0 ≤ x) : orW v (x % 16 * 2) = v + x % 16 * 2 := by
  have h := (put_or (v := v) (x := x) (a := 1) (k := 4) ⟨h0, h1, by show v.toNat / 2 % 16 = 0; omega⟩ hx (by omega)).1
  have e1 : ((2 ^ 1 : Nat) : Int) = 2 := rfl
  have e2 : ((2 ^ 4 : Nat) : Int) = 16 := rfl
  unfold putV at h
  rw [e1, e2, hz] at h
  omega
theorem or_0_5 {v x : Int} (h0 : 0 ≤ v) (h1 : v < 4294967296) (hz : v % 32 = 0) (hx : 0 ≤ x) : orW v (x % 32) = v + x % 32 := by
  have h := (put_or (v := v) (x := x) (a := 0) (k := 5) ⟨h0, h1, by show v.toNat / 1 % 32 = 0; omega⟩ hx (by omega)).1
  have e1 : ((2 ^ 0 : Nat) : Int) = 1 := rfl
  have e2 : ((2 ^ 5 : Nat) : Int) = 32 := rfl
  unfold putV at h
  rw [e1, e2] at h
  simp only [Int.ediv_one, Int.mul_one] at h
  rw [hz] at h
  omega
/-- The numbers that are read, as sums. -/
def tp (n p : Int) : Int := if 2147483648 ≤ n then 4294967296 - p else 0
theorem num2 {n : Int} (h0 : 0 ≤ n) (h1 : n < 4294967296) : numD n 2 = tp n 1048576 + n / 4096 % 256 * 4096 + n / 1048576 % 2 * 2048 + n / 2097152 % 1024 * 2 := by
  unfold numD
  rw [if_neg (by decide), if_pos rfl, topD_20, fieldD_19_12, fieldD_20_20, fieldD_30_21]
  obtain ⟨t, ht⟩ : ∃ t, (if 2147483648 ≤ n then (4293918720 : Int) else 0) = t := ⟨_, rfl⟩
  have ht2 : tp n 1048576 = t := by rw [← ht]; rfl
  have ht3 : t = 0 ∨ t = 4293918720 := by rw [← ht]; split <;> simp
  rw [ht, ht2]
  clear ht ht2
  rw [or_12_8 (by omega) (by omega) (by omega) (by omega), or_11_1 (by omega) (by omega) (by omega) (by omega), or_1_10 (by omega) (by omega) (by omega) (by omega)]
theorem num4 {n : Int} (h0 : 0 ≤ n) (h1 : n < 4294967296) : numD n 4 = tp n 4096 + n / 128 % 2 * 2048 + n / 33554432 % 64 * 32 + n / 256 % 16 * 2 := by
  unfold numD
  rw [if_neg (by decide), if_neg (by decide), if_neg (by decide), if_pos rfl, topD_12, fieldD_7_7, fieldD_30_25, fieldD_11_8]
  obtain ⟨t, ht⟩ : ∃ t, (if 2147483648 ≤ n then (4294963200 : Int) else 0) = t := ⟨_, rfl⟩
  have ht2 : tp n 4096 = t := by rw [← ht]; rfl
  have ht3 : t = 0 ∨ t = 4294963200 := by rw [← ht]; split <;> simp
  rw [ht, ht2]
  clear ht ht2
  rw [or_11_1 (by omega) (by omega) (by omega) (by omega), or_5_6 (by omega) (by omega) (by omega) (by omega), or_1_4 (by omega) (by omega) (by omega) (by omega)]
theorem num5 {n : Int} (h0 : 0 ≤ n) (h1 : n < 4294967296) : numD n 5 = tp n 2048 + n / 33554432 % 64 * 32 + n / 128 % 32 := by
  unfold numD
  rw [if_neg (by decide), if_neg (by decide), if_neg (by decide), if_neg (by decide), if_pos rfl, topD_11, fieldD_30_25, fieldD_11_7]
  obtain ⟨t, ht⟩ : ∃ t, (if 2147483648 ≤ n then (4294965248 : Int) else 0) = t := ⟨_, rfl⟩
  have ht2 : tp n 2048 = t := by rw [← ht]; rfl
  have ht3 : t = 0 ∨ t = 4294965248 := by rw [← ht]; split <;> simp
  rw [ht, ht2]
  clear ht ht2
  rw [or_5_6 (by omega) (by omega) (by omega) (by omega), or_0_5 (by omega) (by omega) (by omega) (by omega)]
/-- The number that is read is one that the form may have. -/
theorem num_imm {n : Int} (h0 : 0 ≤ n) (h1 : n < 4294967296) (f : Int) (hf : 0 ≤ f ∧ f ≤ 9) : immB (numD n f) f = true := by
  obtain rfl | rfl | rfl | rfl | rfl | rfl | rfl | rfl | rfl | rfl : f = 0 ∨ f = 1 ∨ f = 2 ∨ f = 3 ∨ f = 4 ∨ f = 5 ∨ f = 6 ∨ f = 7 ∨ f = 8 ∨ f = 9 := by omega
  · rfl
  · unfold immB numD; simp; try omega
  · unfold immB; rw [num2 h0 h1]; unfold sB sgnW tp; simp; repeat' split
    all_goals omega
  · unfold immB numD; simp [sB, sgnW]; repeat' split
    all_goals omega
  · unfold immB; rw [num4 h0 h1]; unfold sB sgnW tp; simp; repeat' split
    all_goals omega
  · unfold immB; rw [num5 h0 h1]; unfold sB sgnW tp; simp; repeat' split
    all_goals omega
  · rfl
  · unfold immB numD; rw [fieldD_24_20]; simp; omega
  · rfl
  · unfold immB numD; rw [fieldD_19_15]; simp; omega
theorem num_range {n : Int} (h0 : 0 ≤ n) (h1 : n < 4294967296) (f : Int) (hf : 0 ≤ f ∧ f ≤ 9) : 0 ≤ numD n f ∧ numD n f < 4294967296 := by
  obtain rfl | rfl | rfl | rfl | rfl | rfl | rfl | rfl | rfl | rfl : f = 0 ∨ f = 1 ∨ f = 2 ∨ f = 3 ∨ f = 4 ∨ f = 5 ∨ f = 6 ∨ f = 7 ∨ f = 8 ∨ f = 9 := by omega
  · unfold numD; simp
  · unfold numD; simp; try omega
  · rw [num2 h0 h1]; unfold tp; split <;> omega
  · unfold numD; simp; split <;> omega
  · rw [num4 h0 h1]; unfold tp; split <;> omega
  · rw [num5 h0 h1]; unfold tp; split <;> omega
  · unfold numD; simp
  · unfold numD; rw [fieldD_24_20]; simp; omega
  · unfold numD; simp
  · unfold numD; rw [fieldD_19_15]; simp; omega
theorem laid_right {n k : Int} (h0 : 0 ≤ n) (h1 : n < 4294967296) (hk : 0 ≤ k ∧ k < 58) : rightB (laidD n k) = true := by
  have hr := formP_range k
  have hi := num_imm h0 h1 (formP k) hr
  obtain ⟨⟨a0, a1⟩, ⟨b0, b1⟩, ⟨c0, c1⟩⟩ := field5_range n
  unfold rightB regB
  simp only [Bool.and_eq_true, decide_eq_true_eq]
  obtain ⟨f, hf⟩ : ∃ f, formP k = f := ⟨_, rfl⟩
  rw [hf] at hi hr
  refine ⟨⟨⟨⟨⟨⟨hk, ?_⟩, ?_⟩, ?_⟩, ?_⟩, ?_⟩, ?_⟩
  · show onlyX (laidD n k) (formP k) = _
    unfold onlyX laidD
    rw [hf]
    obtain rfl | rfl | rfl | rfl | rfl | rfl | rfl | rfl | rfl | rfl : f = 0 ∨ f = 1 ∨ f = 2 ∨ f = 3 ∨ f = 4 ∨ f = 5 ∨ f = 6 ∨ f = 7 ∨ f = 8 ∨ f = 9 := by omega
    all_goals simp [numD]
  · unfold laidD; rw [hf]; simp only []; split <;> omega
  · unfold laidD; rw [hf]; simp only []; split <;> omega
  · unfold laidD; rw [hf]; simp only []; split <;> omega
  · show immB (numD n (formP k)) (formP k) = true
    rw [hf]; exact hi
  · unfold laidD; rw [hf]; simp only []; split <;> omega
theorem ol_7_5 {v g : Int} (lo hi : Int) (hg : 0 ≤ g ∧ g < 32) (hv : v = lo + hi * 4096) (hl : 0 ≤ lo ∧ lo < 128) (hh : 0 ≤ hi ∧ hi < 1048576) : orW v (g * 128) = v + g * 128 := by
  have hz0 : v / 128 = hi * 32 := by omega
  have hz : v / 128 % 32 = 0 := by rw [hz0]; omega
  have h := or_7_5 (v := v) (x := g) (by omega) (by omega) hz hg.1
  rwa [show g % 32 = g by omega] at h
theorem ol_15_5 {v g : Int} (lo hi : Int) (hg : 0 ≤ g ∧ g < 32) (hv : v = lo + hi * 1048576) (hl : 0 ≤ lo ∧ lo < 32768) (hh : 0 ≤ hi ∧ hi < 4096) : orW v (g * 32768) = v + g * 32768 := by
  have hz0 : v / 32768 = hi * 32 := by omega
  have hz : v / 32768 % 32 = 0 := by rw [hz0]; omega
  have h := or_15_5 (v := v) (x := g) (by omega) (by omega) hz hg.1
  rwa [show g % 32 = g by omega] at h
theorem ol_20_5 {v g : Int} (lo hi : Int) (hg : 0 ≤ g ∧ g < 32) (hv : v = lo + hi * 33554432) (hl : 0 ≤ lo ∧ lo < 1048576) (hh : 0 ≤ hi ∧ hi < 128) : orW v (g * 1048576) = v + g * 1048576 := by
  have hz0 : v / 1048576 = hi * 32 := by omega
  have hz : v / 1048576 % 32 = 0 := by rw [hz0]; omega
  have h := or_20_5 (v := v) (x := g) (by omega) (by omega) hz hg.1
  rwa [show g % 32 = g by omega] at h
theorem ol_20_12 {v g : Int} (lo hi : Int) (hg : 0 ≤ g ∧ g < 4096) (hv : v = lo + hi * 4294967296) (hl : 0 ≤ lo ∧ lo < 1048576) (hh : 0 ≤ hi ∧ hi < 1) : orW v (g * 1048576) = v + g * 1048576 := by
  have hz0 : v / 1048576 = hi * 4096 := by omega
  have hz : v / 1048576 % 4096 = 0 := by rw [hz0]; omega
  have h := or_20_12 (v := v) (x := g) (by omega) (by omega) hz hg.1
  rwa [show g % 4096 = g by omega] at h
theorem ol_12_20 {v g : Int} (lo hi : Int) (hg : 0 ≤ g ∧ g < 1048576) (hv : v = lo + hi * 4294967296) (hl : 0 ≤ lo ∧ lo < 4096) (hh : 0 ≤ hi ∧ hi < 1) : orW v (g * 4096) = v + g * 4096 := by
  have hz0 : v / 4096 = hi * 1048576 := by omega
  have hz : v / 4096 % 1048576 = 0 := by rw [hz0]; omega
  have h := or_12_20 (v := v) (x := g) (by omega) (by omega) hz hg.1
  rwa [show g % 1048576 = g by omega] at h
theorem ol_31_1 {v g : Int} (lo hi : Int) (hg : 0 ≤ g ∧ g < 2) (hv : v = lo + hi * 4294967296) (hl : 0 ≤ lo ∧ lo < 2147483648) (hh : 0 ≤ hi ∧ hi < 1) : orW v (g * 2147483648) = v + g * 2147483648 := by
  have hz0 : v / 2147483648 = hi * 2 := by omega
  have hz : v / 2147483648 % 2 = 0 := by rw [hz0]; omega
  have h := or_31_1 (v := v) (x := g) (by omega) (by omega) hz hg.1
  rwa [show g % 2 = g by omega] at h
theorem ol_12_8 {v g : Int} (lo hi : Int) (hg : 0 ≤ g ∧ g < 256) (hv : v = lo + hi * 1048576) (hl : 0 ≤ lo ∧ lo < 4096) (hh : 0 ≤ hi ∧ hi < 4096) : orW v (g * 4096) = v + g * 4096 := by
  have hz0 : v / 4096 = hi * 256 := by omega
  have hz : v / 4096 % 256 = 0 := by rw [hz0]; omega
  have h := or_12_8 (v := v) (x := g) (by omega) (by omega) hz hg.1
  rwa [show g % 256 = g by omega] at h
theorem ol_20_1 {v g : Int} (lo hi : Int) (hg : 0 ≤ g ∧ g < 2) (hv : v = lo + hi * 2097152) (hl : 0 ≤ lo ∧ lo < 1048576) (hh : 0 ≤ hi ∧ hi < 2048) : orW v (g * 1048576) = v + g * 1048576 := by
  have hz0 : v / 1048576 = hi * 2 := by omega
  have hz : v / 1048576 % 2 = 0 := by rw [hz0]; omega
  have h := or_20_1 (v := v) (x := g) (by omega) (by omega) hz hg.1
  rwa [show g % 2 = g by omega] at h
theorem ol_21_10 {v g : Int} (lo hi : Int) (hg : 0 ≤ g ∧ g < 1024) (hv : v = lo + hi * 2147483648) (hl : 0 ≤ lo ∧ lo < 2097152) (hh : 0 ≤ hi ∧ hi < 2) : orW v (g * 2097152) = v + g * 2097152 := by
  have hz0 : v / 2097152 = hi * 1024 := by omega
  have hz : v / 2097152 % 1024 = 0 := by rw [hz0]; omega
  have h := or_21_10 (v := v) (x := g) (by omega) (by omega) hz hg.1
  rwa [show g % 1024 = g by omega] at h
theorem ol_7_1 {v g : Int} (lo hi : Int) (hg : 0 ≤ g ∧ g < 2) (hv : v = lo + hi * 256) (hl : 0 ≤ lo ∧ lo < 128) (hh : 0 ≤ hi ∧ hi < 16777216) : orW v (g * 128) = v + g * 128 := by
  have hz0 : v / 128 = hi * 2 := by omega
  have hz : v / 128 % 2 = 0 := by rw [hz0]; omega
  have h := or_7_1 (v := v) (x := g) (by omega) (by omega) hz hg.1
  rwa [show g % 2 = g by omega] at h
theorem ol_25_6 {v g : Int} (lo hi : Int) (hg : 0 ≤ g ∧ g < 64) (hv : v = lo + hi * 2147483648) (hl : 0 ≤ lo ∧ lo < 33554432) (hh : 0 ≤ hi ∧ hi < 2) : orW v (g * 33554432) = v + g * 33554432 := by
  have hz0 : v / 33554432 = hi * 64 := by omega
  have hz : v / 33554432 % 64 = 0 := by rw [hz0]; omega
  have h := or_25_6 (v := v) (x := g) (by omega) (by omega) hz hg.1
  rwa [show g % 64 = g by omega] at h
theorem ol_8_4 {v g : Int} (lo hi : Int) (hg : 0 ≤ g ∧ g < 16) (hv : v = lo + hi * 4096) (hl : 0 ≤ lo ∧ lo < 256) (hh : 0 ≤ hi ∧ hi < 1048576) : orW v (g * 256) = v + g * 256 := by
  have hz0 : v / 256 = hi * 16 := by omega
  have hz : v / 256 % 16 = 0 := by rw [hz0]; omega
  have h := or_8_4 (v := v) (x := g) (by omega) (by omega) hz hg.1
  rwa [show g % 16 = g by omega] at h
theorem ol_25_7 {v g : Int} (lo hi : Int) (hg : 0 ≤ g ∧ g < 128) (hv : v = lo + hi * 4294967296) (hl : 0 ≤ lo ∧ lo < 33554432) (hh : 0 ≤ hi ∧ hi < 1) : orW v (g * 33554432) = v + g * 33554432 := by
  have hz0 : v / 33554432 = hi * 128 := by omega
  have hz : v / 33554432 % 128 = 0 := by rw [hz0]; omega
  have h := or_25_7 (v := v) (x := g) (by omega) (by omega) hz hg.1
  rwa [show g % 128 = g by omega] at h
theorem ol_11_1 {v g : Int} (lo hi : Int) (hg : 0 ≤ g ∧ g < 2) (hv : v = lo + hi * 4096) (hl : 0 ≤ lo ∧ lo < 2048) (hh : 0 ≤ hi ∧ hi < 1048576) : orW v (g * 2048) = v + g * 2048 := by
  have hz0 : v / 2048 = hi * 2 := by omega
  have hz : v / 2048 % 2 = 0 := by rw [hz0]; omega
  have h := or_11_1 (v := v) (x := g) (by omega) (by omega) hz hg.1
  rwa [show g % 2 = g by omega] at h
theorem ol_1_10 {v g : Int} (lo hi : Int) (hg : 0 ≤ g ∧ g < 1024) (hv : v = lo + hi * 2048) (hl : 0 ≤ lo ∧ lo < 2) (hh : 0 ≤ hi ∧ hi < 2097152) : orW v (g * 2) = v + g * 2 := by
  have hz0 : v / 2 = hi * 1024 := by omega
  have hz : v / 2 % 1024 = 0 := by rw [hz0]; omega
  have h := or_1_10 (v := v) (x := g) (by omega) (by omega) hz hg.1
  rwa [show g % 1024 = g by omega] at h
theorem ol_5_6 {v g : Int} (lo hi : Int) (hg : 0 ≤ g ∧ g < 64) (hv : v = lo + hi * 2048) (hl : 0 ≤ lo ∧ lo < 32) (hh : 0 ≤ hi ∧ hi < 2097152) : orW v (g * 32) = v + g * 32 := by
  have hz0 : v / 32 = hi * 64 := by omega
  have hz : v / 32 % 64 = 0 := by rw [hz0]; omega
  have h := or_5_6 (v := v) (x := g) (by omega) (by omega) hz hg.1
  rwa [show g % 64 = g by omega] at h
theorem ol_1_4 {v g : Int} (lo hi : Int) (hg : 0 ≤ g ∧ g < 16) (hv : v = lo + hi * 32) (hl : 0 ≤ lo ∧ lo < 2) (hh : 0 ≤ hi ∧ hi < 134217728) : orW v (g * 2) = v + g * 2 := by
  have hz0 : v / 2 = hi * 16 := by omega
  have hz : v / 2 % 16 = 0 := by rw [hz0]; omega
  have h := or_1_4 (v := v) (x := g) (by omega) (by omega) hz hg.1
  rwa [show g % 16 = g by omega] at h
set_option maxHeartbeats 1000000 in
theorem enc_0 {n k : Int} (h0 : 0 ≤ n) (h1 : n < 4294967296) (hs : KS n k) (hf : formP k = 0) : encW (laidD n k) = n := by
  have hm := hs.2.2
  have e1 : (laidD n k).op = k := rfl
  have e2 : (laidD n k).rd = 0 := by unfold laidD; rw [hf]; first | rfl | simp [fieldD_11_7]
  have e3 : (laidD n k).rs1 = 0 := by unfold laidD; rw [hf]; first | rfl | simp [fieldD_19_15]
  have e4 : (laidD n k).rs2 = 0 := by unfold laidD; rw [hf]; first | rfl | simp [fieldD_24_20]
  have e5 : (laidD n k).csr = 0 := by unfold laidD; rw [hf]; first | rfl | simp
  have e6 : (laidD n k).imm = numD n 0 := by unfold laidD; rw [hf]
  unfold encW encA
  rw [e1, hf, if_neg (by decide), if_neg (by decide), if_neg (by decide), if_neg (by decide), if_neg (by decide), if_neg (by decide), if_neg (by decide), hm, hf, e2, e3, e4, e5]
  unfold maskK
  simp only [Int.reduceEq, if_true, if_false, or_true, true_or, or_self, or_false, false_or, Int.reduceMod, Int.reduceMul]
  clear hm e1 e2 e3 e4 e5 e6 hs
  have hz := orW_zero ⟨h0, h1⟩
  simp [hz]
set_option maxHeartbeats 1000000 in
theorem enc_1 {n k : Int} (h0 : 0 ≤ n) (h1 : n < 4294967296) (hs : KS n k) (hf : formP k = 1) : encW (laidD n k) = n := by
  have hm := hs.2.2
  have e1 : (laidD n k).op = k := rfl
  have e2 : (laidD n k).rd = n / 128 % 32 := by unfold laidD; rw [hf]; first | rfl | simp [fieldD_11_7]
  have e3 : (laidD n k).rs1 = 0 := by unfold laidD; rw [hf]; first | rfl | simp [fieldD_19_15]
  have e4 : (laidD n k).rs2 = 0 := by unfold laidD; rw [hf]; first | rfl | simp [fieldD_24_20]
  have e5 : (laidD n k).csr = 0 := by unfold laidD; rw [hf]; first | rfl | simp
  have e6 : (laidD n k).imm = numD n 1 := by unfold laidD; rw [hf]
  unfold encW encA
  rw [e1, hf, if_pos rfl, hm, hf, e2, e3, e4, e5, e6]
  unfold maskK
  simp only [Int.reduceEq, if_true, if_false, or_true, true_or, or_self, or_false, false_or, Int.reduceMod, Int.reduceMul]
  clear hm e1 e2 e3 e4 e5 e6 hs
  rw [show numD n 1 = n - n % 4096 from rfl, show (n - n % 4096) / 4096 % 1048576 = n / 4096 by omega]
  have hn : n = n % 128 + n / 128 % 32 * 128 + (n / 4096) * 4096 := by omega
  have bo : 0 ≤ n % 128 ∧ n % 128 < 128 := by omega
  have ba : 0 ≤ n / 128 % 32 ∧ n / 128 % 32 < 32 := by omega
  have bu : 0 ≤ n / 4096 ∧ n / 4096 < 1048576 := by omega
  obtain ⟨a, ha⟩ : ∃ z, n / 128 % 32 = z := ⟨_, rfl⟩
  obtain ⟨u, hu⟩ : ∃ z, n / 4096 = z := ⟨_, rfl⟩
  obtain ⟨o, ho⟩ : ∃ z, n % 128 = z := ⟨_, rfl⟩
  simp only [ha, hu, ho] at *
  clear ha hu ho
  rw [ol_7_5 (v := o) (o * 1) (0) (by omega) (by omega) (by omega) (by omega)]
  rw [orW_zero (v := o + a % 32 * 128) ⟨by omega, by omega⟩]
  rw [orW_zero (v := o + a % 32 * 128) ⟨by omega, by omega⟩]
  rw [orW_zero (v := o + a % 32 * 128) ⟨by omega, by omega⟩]
  rw [ol_12_20 (v := o + a % 32 * 128) (o * 1 + a * 128) (0) (by omega) (by omega) (by omega) (by omega)]
  omega
set_option maxHeartbeats 1000000 in
theorem enc_2 {n k : Int} (h0 : 0 ≤ n) (h1 : n < 4294967296) (hs : KS n k) (hf : formP k = 2) : encW (laidD n k) = n := by
  have hm := hs.2.2
  have e1 : (laidD n k).op = k := rfl
  have e2 : (laidD n k).rd = n / 128 % 32 := by unfold laidD; rw [hf]; first | rfl | simp [fieldD_11_7]
  have e3 : (laidD n k).rs1 = 0 := by unfold laidD; rw [hf]; first | rfl | simp [fieldD_19_15]
  have e4 : (laidD n k).rs2 = 0 := by unfold laidD; rw [hf]; first | rfl | simp [fieldD_24_20]
  have e5 : (laidD n k).csr = 0 := by unfold laidD; rw [hf]; first | rfl | simp
  have e6 : (laidD n k).imm = numD n 2 := by unfold laidD; rw [hf]
  unfold encW encA
  rw [e1, hf, if_neg (by decide), if_pos rfl, hm, hf, e2, e3, e4, e5, e6]
  unfold maskK
  simp only [Int.reduceEq, if_true, if_false, or_true, true_or, or_self, or_false, false_or, Int.reduceMod, Int.reduceMul]
  clear hm e1 e2 e3 e4 e5 e6 hs
  rw [num2 h0 h1]
  obtain ⟨t, ht⟩ : ∃ t, tp n 1048576 = t := ⟨_, rfl⟩
  have ht3 : (t = 0 ∧ n / 2147483648 = 0) ∨ (t = 4293918720 ∧ n / 2147483648 = 1) := by rw [← ht]; unfold tp; split <;> omega
  simp only [ht]
  clear ht
  have hn : n = n % 128 * 1 + n / 128 % 32 * 128 + n / 4096 % 256 * 4096 + n / 1048576 % 2 * 1048576 + n / 2097152 % 1024 * 2097152 + n / 2147483648 * 2147483648 := by omega
  have bo : 0 ≤ n % 128 ∧ n % 128 < 128 := by omega
  have ba : 0 ≤ n / 128 % 32 ∧ n / 128 % 32 < 32 := by omega
  have bA : 0 ≤ n / 4096 % 256 ∧ n / 4096 % 256 < 256 := by omega
  have bB : 0 ≤ n / 1048576 % 2 ∧ n / 1048576 % 2 < 2 := by omega
  have bC : 0 ≤ n / 2097152 % 1024 ∧ n / 2097152 % 1024 < 1024 := by omega
  have bs : 0 ≤ n / 2147483648 ∧ n / 2147483648 < 2 := by omega
  obtain ⟨C, hC⟩ : ∃ z, n / 2097152 % 1024 = z := ⟨_, rfl⟩
  obtain ⟨B, hB⟩ : ∃ z, n / 1048576 % 2 = z := ⟨_, rfl⟩
  obtain ⟨A, hA⟩ : ∃ z, n / 4096 % 256 = z := ⟨_, rfl⟩
  obtain ⟨s, hs⟩ : ∃ z, n / 2147483648 = z := ⟨_, rfl⟩
  obtain ⟨a, ha⟩ : ∃ z, n / 128 % 32 = z := ⟨_, rfl⟩
  obtain ⟨o, ho⟩ : ∃ z, n % 128 = z := ⟨_, rfl⟩
  simp only [hC, hB, hA, hs, ha, ho] at *
  have j1 : (t + A * 4096 + B * 2048 + C * 2) / 1048576 = 4095 * s := by omega
  have j2 : (t + A * 4096 + B * 2048 + C * 2) / 4096 = A + s * 1048320 := by omega
  have j3 : (t + A * 4096 + B * 2048 + C * 2) / 2048 = B + 2 * A + s * 2096640 := by omega
  have j4 : (t + A * 4096 + B * 2048 + C * 2) / 2 = C + 1024 * B + 2048 * A + s * 2146959360 := by omega
  have i1 : 4095 * s % 2 = s := by omega
  have i2 : (A + s * 1048320) % 256 = A := by omega
  have i3 : (B + 2 * A + s * 2096640) % 2 = B := by omega
  have i4 : (C + 1024 * B + 2048 * A + s * 2146959360) % 1024 = C := by omega
  rw [j1, j2, j3, j4, i1, i2, i3, i4]
  clear j1 j2 j3 j4 i1 i2 i3 i4
  clear hC hB hA hs ha ho
  rw [ol_7_5 (v := o) (o * 1) (0) (by omega) (by omega) (by omega) (by omega)]
  rw [orW_zero (v := o + a % 32 * 128) ⟨by omega, by omega⟩]
  rw [orW_zero (v := o + a % 32 * 128) ⟨by omega, by omega⟩]
  rw [orW_zero (v := o + a % 32 * 128) ⟨by omega, by omega⟩]
  rw [ol_31_1 (v := o + a % 32 * 128) (o * 1 + a * 128) (0) (by omega) (by omega) (by omega) (by omega)]
  rw [ol_12_8 (v := o + a % 32 * 128 + s * 2147483648) (o * 1 + a * 128) (s * 2048) (by omega) (by omega) (by omega) (by omega)]
  rw [ol_20_1 (v := o + a % 32 * 128 + s * 2147483648 + A * 4096) (o * 1 + a * 128 + A * 4096) (s * 1024) (by omega) (by omega) (by omega) (by omega)]
  rw [ol_21_10 (v := o + a % 32 * 128 + s * 2147483648 + A * 4096 + B * 1048576) (o * 1 + a * 128 + A * 4096 + B * 1048576) (s * 1) (by omega) (by omega) (by omega) (by omega)]
  omega
set_option maxHeartbeats 1000000 in
theorem enc_3 {n k : Int} (h0 : 0 ≤ n) (h1 : n < 4294967296) (hs : KS n k) (hf : formP k = 3) : encW (laidD n k) = n := by
  have hm := hs.2.2
  have e1 : (laidD n k).op = k := rfl
  have e2 : (laidD n k).rd = n / 128 % 32 := by unfold laidD; rw [hf]; first | rfl | simp [fieldD_11_7]
  have e3 : (laidD n k).rs1 = n / 32768 % 32 := by unfold laidD; rw [hf]; first | rfl | simp [fieldD_19_15]
  have e4 : (laidD n k).rs2 = 0 := by unfold laidD; rw [hf]; first | rfl | simp [fieldD_24_20]
  have e5 : (laidD n k).csr = 0 := by unfold laidD; rw [hf]; first | rfl | simp
  have e6 : (laidD n k).imm = numD n 3 := by unfold laidD; rw [hf]
  unfold encW encA
  rw [e1, hf, if_neg (by decide), if_neg (by decide), if_pos rfl, hm, hf, e2, e3, e4, e5, e6]
  unfold maskK
  simp only [Int.reduceEq, if_true, if_false, or_true, true_or, or_self, or_false, false_or, Int.reduceMod, Int.reduceMul]
  clear hm e1 e2 e3 e4 e5 e6 hs
  have ht : numD n 3 % 4096 = n / 1048576 := by
    rw [show numD n 3 = if 2147483648 ≤ n then n / 1048576 + 4294963200 else n / 1048576 from rfl]; split <;> omega
  rw [ht]
  clear ht
  have hn : n = n % 128 * 1 + n / 128 % 32 * 128 + n / 4096 % 8 * 4096 + n / 32768 % 32 * 32768 + n / 1048576 * 1048576 := by omega
  have bo : 0 ≤ n % 128 ∧ n % 128 < 128 := by omega
  have ba : 0 ≤ n / 128 % 32 ∧ n / 128 % 32 < 32 := by omega
  have bb : 0 ≤ n / 4096 % 8 ∧ n / 4096 % 8 < 8 := by omega
  have bc : 0 ≤ n / 32768 % 32 ∧ n / 32768 % 32 < 32 := by omega
  have bq : 0 ≤ n / 1048576 ∧ n / 1048576 < 4096 := by omega
  obtain ⟨c, hc⟩ : ∃ z, n / 32768 % 32 = z := ⟨_, rfl⟩
  obtain ⟨a, ha⟩ : ∃ z, n / 128 % 32 = z := ⟨_, rfl⟩
  obtain ⟨b, hb⟩ : ∃ z, n / 4096 % 8 = z := ⟨_, rfl⟩
  obtain ⟨q, hq⟩ : ∃ z, n / 1048576 = z := ⟨_, rfl⟩
  obtain ⟨o, ho⟩ : ∃ z, n % 128 = z := ⟨_, rfl⟩
  simp only [hc, ha, hb, hq, ho] at *
  clear hc ha hb hq ho
  rw [ol_7_5 (v := o + b * 4096) (o * 1) (b * 1) (by omega) (by omega) (by omega) (by omega)]
  rw [ol_15_5 (v := o + b * 4096 + a % 32 * 128) (o * 1 + b * 4096 + a * 128) (0) (by omega) (by omega) (by omega) (by omega)]
  rw [orW_zero (v := o + b * 4096 + a % 32 * 128 + c % 32 * 32768) ⟨by omega, by omega⟩]
  rw [orW_zero (v := o + b * 4096 + a % 32 * 128 + c % 32 * 32768) ⟨by omega, by omega⟩]
  rw [ol_20_12 (v := o + b * 4096 + a % 32 * 128 + c % 32 * 32768) (o * 1 + b * 4096 + a * 128 + c * 32768) (0) (by omega) (by omega) (by omega) (by omega)]
  omega
set_option maxHeartbeats 1000000 in
theorem enc_4 {n k : Int} (h0 : 0 ≤ n) (h1 : n < 4294967296) (hs : KS n k) (hf : formP k = 4) : encW (laidD n k) = n := by
  have hm := hs.2.2
  have e1 : (laidD n k).op = k := rfl
  have e2 : (laidD n k).rd = 0 := by unfold laidD; rw [hf]; first | rfl | simp [fieldD_11_7]
  have e3 : (laidD n k).rs1 = n / 32768 % 32 := by unfold laidD; rw [hf]; first | rfl | simp [fieldD_19_15]
  have e4 : (laidD n k).rs2 = n / 1048576 % 32 := by unfold laidD; rw [hf]; first | rfl | simp [fieldD_24_20]
  have e5 : (laidD n k).csr = 0 := by unfold laidD; rw [hf]; first | rfl | simp
  have e6 : (laidD n k).imm = numD n 4 := by unfold laidD; rw [hf]
  unfold encW encA
  rw [e1, hf, if_neg (by decide), if_neg (by decide), if_neg (by decide), if_pos rfl, hm, hf, e2, e3, e4, e5, e6]
  unfold maskK
  simp only [Int.reduceEq, if_true, if_false, or_true, true_or, or_self, or_false, false_or, Int.reduceMod, Int.reduceMul]
  clear hm e1 e2 e3 e4 e5 e6 hs
  rw [num4 h0 h1]
  obtain ⟨t, ht⟩ : ∃ t, tp n 4096 = t := ⟨_, rfl⟩
  have ht3 : (t = 0 ∧ n / 2147483648 = 0) ∨ (t = 4294963200 ∧ n / 2147483648 = 1) := by rw [← ht]; unfold tp; split <;> omega
  simp only [ht]
  clear ht
  have hn : n = n % 128 * 1 + n / 128 % 2 * 128 + n / 256 % 16 * 256 + n / 4096 % 8 * 4096 + n / 32768 % 32 * 32768 + n / 1048576 % 32 * 1048576 + n / 33554432 % 64 * 33554432 + n / 2147483648 * 2147483648 := by omega
  have bo : 0 ≤ n % 128 ∧ n % 128 < 128 := by omega
  have ba0 : 0 ≤ n / 128 % 2 ∧ n / 128 % 2 < 2 := by omega
  have ba1 : 0 ≤ n / 256 % 16 ∧ n / 256 % 16 < 16 := by omega
  have bb : 0 ≤ n / 4096 % 8 ∧ n / 4096 % 8 < 8 := by omega
  have bc : 0 ≤ n / 32768 % 32 ∧ n / 32768 % 32 < 32 := by omega
  have bd : 0 ≤ n / 1048576 % 32 ∧ n / 1048576 % 32 < 32 := by omega
  have be0 : 0 ≤ n / 33554432 % 64 ∧ n / 33554432 % 64 < 64 := by omega
  have bs : 0 ≤ n / 2147483648 ∧ n / 2147483648 < 2 := by omega
  obtain ⟨e0, he0⟩ : ∃ z, n / 33554432 % 64 = z := ⟨_, rfl⟩
  obtain ⟨d, hd⟩ : ∃ z, n / 1048576 % 32 = z := ⟨_, rfl⟩
  obtain ⟨c, hc⟩ : ∃ z, n / 32768 % 32 = z := ⟨_, rfl⟩
  obtain ⟨s, hs⟩ : ∃ z, n / 2147483648 = z := ⟨_, rfl⟩
  obtain ⟨a1, ha1⟩ : ∃ z, n / 256 % 16 = z := ⟨_, rfl⟩
  obtain ⟨b, hb⟩ : ∃ z, n / 4096 % 8 = z := ⟨_, rfl⟩
  obtain ⟨a0, ha0⟩ : ∃ z, n / 128 % 2 = z := ⟨_, rfl⟩
  obtain ⟨o, ho⟩ : ∃ z, n % 128 = z := ⟨_, rfl⟩
  simp only [he0, hd, hc, hs, ha1, hb, ha0, ho] at *
  have j1 : (t + a0 * 2048 + e0 * 32 + a1 * 2) / 4096 = s * 1048575 := by omega
  have j2 : (t + a0 * 2048 + e0 * 32 + a1 * 2) / 2048 = a0 + s * 2097150 := by omega
  have j3 : (t + a0 * 2048 + e0 * 32 + a1 * 2) / 32 = e0 + a0 * 64 + s * 134217600 := by omega
  have j4 : (t + a0 * 2048 + e0 * 32 + a1 * 2) / 2 = a1 + e0 * 16 + a0 * 1024 + s * 2147481600 := by omega
  have i1 : s * 1048575 % 2 = s := by omega
  have i2 : (a0 + s * 2097150) % 2 = a0 := by omega
  have i3 : (e0 + a0 * 64 + s * 134217600) % 64 = e0 := by omega
  have i4 : (a1 + e0 * 16 + a0 * 1024 + s * 2147481600) % 16 = a1 := by omega
  rw [j1, j2, j3, j4, i1, i2, i3, i4]
  clear j1 j2 j3 j4 i1 i2 i3 i4
  clear he0 hd hc hs ha1 hb ha0 ho
  rw [orW_zero (v := o + b * 4096) ⟨by omega, by omega⟩]
  rw [ol_15_5 (v := o + b * 4096) (o * 1 + b * 4096) (0) (by omega) (by omega) (by omega) (by omega)]
  rw [ol_20_5 (v := o + b * 4096 + c % 32 * 32768) (o * 1 + b * 4096 + c * 32768) (0) (by omega) (by omega) (by omega) (by omega)]
  rw [orW_zero (v := o + b * 4096 + c % 32 * 32768 + d % 32 * 1048576) ⟨by omega, by omega⟩]
  rw [ol_31_1 (v := o + b * 4096 + c % 32 * 32768 + d % 32 * 1048576) (o * 1 + b * 4096 + c * 32768 + d * 1048576) (0) (by omega) (by omega) (by omega) (by omega)]
  rw [ol_7_1 (v := o + b * 4096 + c % 32 * 32768 + d % 32 * 1048576 + s * 2147483648) (o * 1) (b * 16 + c * 128 + d * 4096 + s * 8388608) (by omega) (by omega) (by omega) (by omega)]
  rw [ol_25_6 (v := o + b * 4096 + c % 32 * 32768 + d % 32 * 1048576 + s * 2147483648 + a0 * 128) (o * 1 + b * 4096 + c * 32768 + d * 1048576 + a0 * 128) (s * 1) (by omega) (by omega) (by omega) (by omega)]
  rw [ol_8_4 (v := o + b * 4096 + c % 32 * 32768 + d % 32 * 1048576 + s * 2147483648 + a0 * 128 + e0 * 33554432) (o * 1 + a0 * 128) (b * 1 + c * 8 + d * 256 + s * 524288 + e0 * 8192) (by omega) (by omega) (by omega) (by omega)]
  omega
set_option maxHeartbeats 1000000 in
theorem enc_5 {n k : Int} (h0 : 0 ≤ n) (h1 : n < 4294967296) (hs : KS n k) (hf : formP k = 5) : encW (laidD n k) = n := by
  have hm := hs.2.2
  have e1 : (laidD n k).op = k := rfl
  have e2 : (laidD n k).rd = 0 := by unfold laidD; rw [hf]; first | rfl | simp [fieldD_11_7]
  have e3 : (laidD n k).rs1 = n / 32768 % 32 := by unfold laidD; rw [hf]; first | rfl | simp [fieldD_19_15]
  have e4 : (laidD n k).rs2 = n / 1048576 % 32 := by unfold laidD; rw [hf]; first | rfl | simp [fieldD_24_20]
  have e5 : (laidD n k).csr = 0 := by unfold laidD; rw [hf]; first | rfl | simp
  have e6 : (laidD n k).imm = numD n 5 := by unfold laidD; rw [hf]
  unfold encW encA
  rw [e1, hf, if_neg (by decide), if_neg (by decide), if_neg (by decide), if_neg (by decide), if_pos rfl, hm, hf, e2, e3, e4, e5, e6]
  unfold maskK
  simp only [Int.reduceEq, if_true, if_false, or_true, true_or, or_self, or_false, false_or, Int.reduceMod, Int.reduceMul]
  clear hm e1 e2 e3 e4 e5 e6 hs
  rw [num5 h0 h1]
  obtain ⟨t, ht⟩ : ∃ t, tp n 2048 = t := ⟨_, rfl⟩
  have ht3 : (t = 0 ∧ n / 2147483648 = 0) ∨ (t = 4294965248 ∧ n / 2147483648 = 1) := by rw [← ht]; unfold tp; split <;> omega
  simp only [ht]
  clear ht
  have hn : n = n % 128 * 1 + n / 128 % 32 * 128 + n / 4096 % 8 * 4096 + n / 32768 % 32 * 32768 + n / 1048576 % 32 * 1048576 + n / 33554432 % 64 * 33554432 + n / 2147483648 * 2147483648 := by omega
  have bo : 0 ≤ n % 128 ∧ n % 128 < 128 := by omega
  have ba : 0 ≤ n / 128 % 32 ∧ n / 128 % 32 < 32 := by omega
  have bb : 0 ≤ n / 4096 % 8 ∧ n / 4096 % 8 < 8 := by omega
  have bc : 0 ≤ n / 32768 % 32 ∧ n / 32768 % 32 < 32 := by omega
  have bd : 0 ≤ n / 1048576 % 32 ∧ n / 1048576 % 32 < 32 := by omega
  have be0 : 0 ≤ n / 33554432 % 64 ∧ n / 33554432 % 64 < 64 := by omega
  have bs : 0 ≤ n / 2147483648 ∧ n / 2147483648 < 2 := by omega
  obtain ⟨e0, he0⟩ : ∃ z, n / 33554432 % 64 = z := ⟨_, rfl⟩
  obtain ⟨d, hd⟩ : ∃ z, n / 1048576 % 32 = z := ⟨_, rfl⟩
  obtain ⟨c, hc⟩ : ∃ z, n / 32768 % 32 = z := ⟨_, rfl⟩
  obtain ⟨s, hs⟩ : ∃ z, n / 2147483648 = z := ⟨_, rfl⟩
  obtain ⟨a, ha⟩ : ∃ z, n / 128 % 32 = z := ⟨_, rfl⟩
  obtain ⟨b, hb⟩ : ∃ z, n / 4096 % 8 = z := ⟨_, rfl⟩
  obtain ⟨o, ho⟩ : ∃ z, n % 128 = z := ⟨_, rfl⟩
  simp only [he0, hd, hc, hs, ha, hb, ho] at *
  have j1 : (t + e0 * 32 + a) / 32 = e0 + s * 134217664 := by omega
  have i1 : (e0 + s * 134217664) % 128 = e0 + 64 * s := by omega
  have i2 : (t + e0 * 32 + a) % 32 = a := by omega
  rw [j1, i1, i2]
  clear j1 i1 i2
  clear he0 hd hc hs ha hb ho
  rw [orW_zero (v := o + b * 4096) ⟨by omega, by omega⟩]
  rw [ol_15_5 (v := o + b * 4096) (o * 1 + b * 4096) (0) (by omega) (by omega) (by omega) (by omega)]
  rw [ol_20_5 (v := o + b * 4096 + c % 32 * 32768) (o * 1 + b * 4096 + c * 32768) (0) (by omega) (by omega) (by omega) (by omega)]
  rw [orW_zero (v := o + b * 4096 + c % 32 * 32768 + d % 32 * 1048576) ⟨by omega, by omega⟩]
  rw [ol_25_7 (v := o + b * 4096 + c % 32 * 32768 + d % 32 * 1048576) (o * 1 + b * 4096 + c * 32768 + d * 1048576) (0) (by omega) (by omega) (by omega) (by omega)]
  rw [ol_7_5 (v := o + b * 4096 + c % 32 * 32768 + d % 32 * 1048576 + (e0 + 64 * s) * 33554432) (o * 1) (b * 1 + c * 8 + d * 256 + e0 * 8192 + s * 524288) (by omega) (by omega) (by omega) (by omega)]
  omega
set_option maxHeartbeats 1000000 in
theorem enc_6 {n k : Int} (h0 : 0 ≤ n) (h1 : n < 4294967296) (hs : KS n k) (hf : formP k = 6) : encW (laidD n k) = n := by
  have hm := hs.2.2
  have e1 : (laidD n k).op = k := rfl
  have e2 : (laidD n k).rd = n / 128 % 32 := by unfold laidD; rw [hf]; first | rfl | simp [fieldD_11_7]
  have e3 : (laidD n k).rs1 = n / 32768 % 32 := by unfold laidD; rw [hf]; first | rfl | simp [fieldD_19_15]
  have e4 : (laidD n k).rs2 = n / 1048576 % 32 := by unfold laidD; rw [hf]; first | rfl | simp [fieldD_24_20]
  have e5 : (laidD n k).csr = 0 := by unfold laidD; rw [hf]; first | rfl | simp
  have e6 : (laidD n k).imm = numD n 6 := by unfold laidD; rw [hf]
  unfold encW encA
  rw [e1, hf, if_neg (by decide), if_neg (by decide), if_neg (by decide), if_neg (by decide), if_neg (by decide), if_neg (by decide), if_neg (by decide), hm, hf, e2, e3, e4, e5]
  unfold maskK
  simp only [Int.reduceEq, if_true, if_false, or_true, true_or, or_self, or_false, false_or, Int.reduceMod, Int.reduceMul]
  clear hm e1 e2 e3 e4 e5 e6 hs
  have hn : n = n % 128 * 1 + n / 128 % 32 * 128 + n / 4096 % 8 * 4096 + n / 32768 % 32 * 32768 + n / 1048576 % 32 * 1048576 + n / 33554432 * 33554432 := by omega
  have bo : 0 ≤ n % 128 ∧ n % 128 < 128 := by omega
  have ba : 0 ≤ n / 128 % 32 ∧ n / 128 % 32 < 32 := by omega
  have bb : 0 ≤ n / 4096 % 8 ∧ n / 4096 % 8 < 8 := by omega
  have bc : 0 ≤ n / 32768 % 32 ∧ n / 32768 % 32 < 32 := by omega
  have bd : 0 ≤ n / 1048576 % 32 ∧ n / 1048576 % 32 < 32 := by omega
  have be : 0 ≤ n / 33554432 ∧ n / 33554432 < 128 := by omega
  obtain ⟨d, hd⟩ : ∃ z, n / 1048576 % 32 = z := ⟨_, rfl⟩
  obtain ⟨c, hc⟩ : ∃ z, n / 32768 % 32 = z := ⟨_, rfl⟩
  obtain ⟨a, ha⟩ : ∃ z, n / 128 % 32 = z := ⟨_, rfl⟩
  obtain ⟨b, hb⟩ : ∃ z, n / 4096 % 8 = z := ⟨_, rfl⟩
  obtain ⟨e, he⟩ : ∃ z, n / 33554432 = z := ⟨_, rfl⟩
  obtain ⟨o, ho⟩ : ∃ z, n % 128 = z := ⟨_, rfl⟩
  simp only [hd, hc, ha, hb, he, ho] at *
  clear hd hc ha hb he ho
  rw [ol_7_5 (v := o + b * 4096 + e * 33554432) (o * 1) (b * 1 + e * 8192) (by omega) (by omega) (by omega) (by omega)]
  rw [ol_15_5 (v := o + b * 4096 + e * 33554432 + a % 32 * 128) (o * 1 + b * 4096 + a * 128) (e * 32) (by omega) (by omega) (by omega) (by omega)]
  rw [ol_20_5 (v := o + b * 4096 + e * 33554432 + a % 32 * 128 + c % 32 * 32768) (o * 1 + b * 4096 + a * 128 + c * 32768) (e * 1) (by omega) (by omega) (by omega) (by omega)]
  rw [orW_zero (v := o + b * 4096 + e * 33554432 + a % 32 * 128 + c % 32 * 32768 + d % 32 * 1048576) ⟨by omega, by omega⟩]
  omega
set_option maxHeartbeats 1000000 in
theorem enc_7 {n k : Int} (h0 : 0 ≤ n) (h1 : n < 4294967296) (hs : KS n k) (hf : formP k = 7) : encW (laidD n k) = n := by
  have hm := hs.2.2
  have e1 : (laidD n k).op = k := rfl
  have e2 : (laidD n k).rd = n / 128 % 32 := by unfold laidD; rw [hf]; first | rfl | simp [fieldD_11_7]
  have e3 : (laidD n k).rs1 = n / 32768 % 32 := by unfold laidD; rw [hf]; first | rfl | simp [fieldD_19_15]
  have e4 : (laidD n k).rs2 = 0 := by unfold laidD; rw [hf]; first | rfl | simp [fieldD_24_20]
  have e5 : (laidD n k).csr = 0 := by unfold laidD; rw [hf]; first | rfl | simp
  have e6 : (laidD n k).imm = numD n 7 := by unfold laidD; rw [hf]
  unfold encW encA
  rw [e1, hf, if_neg (by decide), if_neg (by decide), if_neg (by decide), if_neg (by decide), if_neg (by decide), if_pos rfl, hm, hf, e2, e3, e4, e5, e6]
  unfold maskK
  simp only [Int.reduceEq, if_true, if_false, or_true, true_or, or_self, or_false, false_or, Int.reduceMod, Int.reduceMul]
  clear hm e1 e2 e3 e4 e5 e6 hs
  rw [show numD n 7 = n / 1048576 % 32 from fieldD_24_20 n]
  have hn : n = n % 128 * 1 + n / 128 % 32 * 128 + n / 4096 % 8 * 4096 + n / 32768 % 32 * 32768 + n / 1048576 % 32 * 1048576 + n / 33554432 * 33554432 := by omega
  have bo : 0 ≤ n % 128 ∧ n % 128 < 128 := by omega
  have ba : 0 ≤ n / 128 % 32 ∧ n / 128 % 32 < 32 := by omega
  have bb : 0 ≤ n / 4096 % 8 ∧ n / 4096 % 8 < 8 := by omega
  have bc : 0 ≤ n / 32768 % 32 ∧ n / 32768 % 32 < 32 := by omega
  have bd : 0 ≤ n / 1048576 % 32 ∧ n / 1048576 % 32 < 32 := by omega
  have be : 0 ≤ n / 33554432 ∧ n / 33554432 < 128 := by omega
  obtain ⟨d, hd⟩ : ∃ z, n / 1048576 % 32 = z := ⟨_, rfl⟩
  obtain ⟨c, hc⟩ : ∃ z, n / 32768 % 32 = z := ⟨_, rfl⟩
  obtain ⟨a, ha⟩ : ∃ z, n / 128 % 32 = z := ⟨_, rfl⟩
  obtain ⟨b, hb⟩ : ∃ z, n / 4096 % 8 = z := ⟨_, rfl⟩
  obtain ⟨e, he⟩ : ∃ z, n / 33554432 = z := ⟨_, rfl⟩
  obtain ⟨o, ho⟩ : ∃ z, n % 128 = z := ⟨_, rfl⟩
  simp only [hd, hc, ha, hb, he, ho] at *
  clear hd hc ha hb he ho
  rw [ol_7_5 (v := o + b * 4096 + e * 33554432) (o * 1) (b * 1 + e * 8192) (by omega) (by omega) (by omega) (by omega)]
  rw [ol_15_5 (v := o + b * 4096 + e * 33554432 + a % 32 * 128) (o * 1 + b * 4096 + a * 128) (e * 32) (by omega) (by omega) (by omega) (by omega)]
  rw [orW_zero (v := o + b * 4096 + e * 33554432 + a % 32 * 128 + c % 32 * 32768) ⟨by omega, by omega⟩]
  rw [orW_zero (v := o + b * 4096 + e * 33554432 + a % 32 * 128 + c % 32 * 32768) ⟨by omega, by omega⟩]
  rw [ol_20_5 (v := o + b * 4096 + e * 33554432 + a % 32 * 128 + c % 32 * 32768) (o * 1 + b * 4096 + a * 128 + c * 32768) (e * 1) (by omega) (by omega) (by omega) (by omega)]
  omega
set_option maxHeartbeats 1000000 in
theorem enc_8 {n k : Int} (h0 : 0 ≤ n) (h1 : n < 4294967296) (hs : KS n k) (hf : formP k = 8) : encW (laidD n k) = n := by
  have hm := hs.2.2
  have e1 : (laidD n k).op = k := rfl
  have e2 : (laidD n k).rd = n / 128 % 32 := by unfold laidD; rw [hf]; first | rfl | simp [fieldD_11_7]
  have e3 : (laidD n k).rs1 = n / 32768 % 32 := by unfold laidD; rw [hf]; first | rfl | simp [fieldD_19_15]
  have e4 : (laidD n k).rs2 = 0 := by unfold laidD; rw [hf]; first | rfl | simp [fieldD_24_20]
  have e5 : (laidD n k).csr = n / 1048576 := by unfold laidD; rw [hf]; first | rfl | simp
  have e6 : (laidD n k).imm = numD n 8 := by unfold laidD; rw [hf]
  unfold encW encA
  rw [e1, hf, if_neg (by decide), if_neg (by decide), if_neg (by decide), if_neg (by decide), if_neg (by decide), if_neg (by decide), if_neg (by decide), hm, hf, e2, e3, e4, e5]
  unfold maskK
  simp only [Int.reduceEq, if_true, if_false, or_true, true_or, or_self, or_false, false_or, Int.reduceMod, Int.reduceMul]
  clear hm e1 e2 e3 e4 e5 e6 hs
  have hn : n = n % 128 * 1 + n / 128 % 32 * 128 + n / 4096 % 8 * 4096 + n / 32768 % 32 * 32768 + n / 1048576 * 1048576 := by omega
  have bo : 0 ≤ n % 128 ∧ n % 128 < 128 := by omega
  have ba : 0 ≤ n / 128 % 32 ∧ n / 128 % 32 < 32 := by omega
  have bb : 0 ≤ n / 4096 % 8 ∧ n / 4096 % 8 < 8 := by omega
  have bc : 0 ≤ n / 32768 % 32 ∧ n / 32768 % 32 < 32 := by omega
  have bq : 0 ≤ n / 1048576 ∧ n / 1048576 < 4096 := by omega
  obtain ⟨c, hc⟩ : ∃ z, n / 32768 % 32 = z := ⟨_, rfl⟩
  obtain ⟨a, ha⟩ : ∃ z, n / 128 % 32 = z := ⟨_, rfl⟩
  obtain ⟨b, hb⟩ : ∃ z, n / 4096 % 8 = z := ⟨_, rfl⟩
  obtain ⟨q, hq⟩ : ∃ z, n / 1048576 = z := ⟨_, rfl⟩
  obtain ⟨o, ho⟩ : ∃ z, n % 128 = z := ⟨_, rfl⟩
  simp only [hc, ha, hb, hq, ho] at *
  clear hc ha hb hq ho
  rw [ol_7_5 (v := o + b * 4096) (o * 1) (b * 1) (by omega) (by omega) (by omega) (by omega)]
  rw [ol_15_5 (v := o + b * 4096 + a % 32 * 128) (o * 1 + b * 4096 + a * 128) (0) (by omega) (by omega) (by omega) (by omega)]
  rw [orW_zero (v := o + b * 4096 + a % 32 * 128 + c % 32 * 32768) ⟨by omega, by omega⟩]
  rw [ol_20_12 (v := o + b * 4096 + a % 32 * 128 + c % 32 * 32768) (o * 1 + b * 4096 + a * 128 + c * 32768) (0) (by omega) (by omega) (by omega) (by omega)]
  omega
set_option maxHeartbeats 1000000 in
theorem enc_9 {n k : Int} (h0 : 0 ≤ n) (h1 : n < 4294967296) (hs : KS n k) (hf : formP k = 9) : encW (laidD n k) = n := by
  have hm := hs.2.2
  have e1 : (laidD n k).op = k := rfl
  have e2 : (laidD n k).rd = n / 128 % 32 := by unfold laidD; rw [hf]; first | rfl | simp [fieldD_11_7]
  have e3 : (laidD n k).rs1 = 0 := by unfold laidD; rw [hf]; first | rfl | simp [fieldD_19_15]
  have e4 : (laidD n k).rs2 = 0 := by unfold laidD; rw [hf]; first | rfl | simp [fieldD_24_20]
  have e5 : (laidD n k).csr = n / 1048576 := by unfold laidD; rw [hf]; first | rfl | simp
  have e6 : (laidD n k).imm = numD n 9 := by unfold laidD; rw [hf]
  unfold encW encA
  rw [e1, hf, if_neg (by decide), if_neg (by decide), if_neg (by decide), if_neg (by decide), if_neg (by decide), if_neg (by decide), if_pos rfl, hm, hf, e2, e3, e4, e5, e6]
  unfold maskK
  simp only [Int.reduceEq, if_true, if_false, or_true, true_or, or_self, or_false, false_or, Int.reduceMod, Int.reduceMul]
  clear hm e1 e2 e3 e4 e5 e6 hs
  rw [show numD n 9 = n / 32768 % 32 from fieldD_19_15 n]
  have hn : n = n % 128 * 1 + n / 128 % 32 * 128 + n / 4096 % 8 * 4096 + n / 32768 % 32 * 32768 + n / 1048576 * 1048576 := by omega
  have bo : 0 ≤ n % 128 ∧ n % 128 < 128 := by omega
  have ba : 0 ≤ n / 128 % 32 ∧ n / 128 % 32 < 32 := by omega
  have bb : 0 ≤ n / 4096 % 8 ∧ n / 4096 % 8 < 8 := by omega
  have bc : 0 ≤ n / 32768 % 32 ∧ n / 32768 % 32 < 32 := by omega
  have bq : 0 ≤ n / 1048576 ∧ n / 1048576 < 4096 := by omega
  obtain ⟨c, hc⟩ : ∃ z, n / 32768 % 32 = z := ⟨_, rfl⟩
  obtain ⟨a, ha⟩ : ∃ z, n / 128 % 32 = z := ⟨_, rfl⟩
  obtain ⟨b, hb⟩ : ∃ z, n / 4096 % 8 = z := ⟨_, rfl⟩
  obtain ⟨q, hq⟩ : ∃ z, n / 1048576 = z := ⟨_, rfl⟩
  obtain ⟨o, ho⟩ : ∃ z, n % 128 = z := ⟨_, rfl⟩
  simp only [hc, ha, hb, hq, ho] at *
  clear hc ha hb hq ho
  rw [ol_7_5 (v := o + b * 4096) (o * 1) (b * 1) (by omega) (by omega) (by omega) (by omega)]
  rw [orW_zero (v := o + b * 4096 + a % 32 * 128) ⟨by omega, by omega⟩]
  rw [orW_zero (v := o + b * 4096 + a % 32 * 128) ⟨by omega, by omega⟩]
  rw [ol_20_12 (v := o + b * 4096 + a % 32 * 128) (o * 1 + b * 4096 + a * 128) (0) (by omega) (by omega) (by omega) (by omega)]
  rw [ol_15_5 (v := o + b * 4096 + a % 32 * 128 + q % 4096 * 1048576) (o * 1 + b * 4096 + a * 128) (q * 1) (by omega) (by omega) (by omega) (by omega)]
  omega
/-- What the word that is read from a word is. -/
def decR (n : Int) : NI := if kindK n = 0 then zeroN else laidD n (kindK n)
theorem enc_dec {n : Int} (h0 : 0 ≤ n) (h1 : n < 4294967296) (hk : kindK n ≠ 0) : encW (laidD n (kindK n)) = n := by
  have hs := kind_spec n h0 h1 hk
  have hr := formP_range (kindK n)
  have : formP (kindK n) = 0 ∨ formP (kindK n) = 1 ∨ formP (kindK n) = 2 ∨ formP (kindK n) = 3 ∨ formP (kindK n) = 4 ∨ formP (kindK n) = 5 ∨ formP (kindK n) = 6 ∨ formP (kindK n) = 7 ∨ formP (kindK n) = 8 ∨ formP (kindK n) = 9 := by omega
  rcases this with h | h | h | h | h | h | h | h | h | h
  · exact enc_0 h0 h1 hs h
  · exact enc_1 h0 h1 hs h
  · exact enc_2 h0 h1 hs h
  · exact enc_3 h0 h1 hs h
  · exact enc_4 h0 h1 hs h
  · exact enc_5 h0 h1 hs h
  · exact enc_6 h0 h1 hs h
  · exact enc_7 h0 h1 hs h
  · exact enc_8 h0 h1 hs h
  · exact enc_9 h0 h1 hs h
theorem dec_right {n : Int} (h0 : 0 ≤ n) (h1 : n < 4294967296) (hk : kindK n ≠ 0) : rightB (laidD n (kindK n)) = true := by
  have hs := kind_spec n h0 h1 hk
  exact laid_right h0 h1 ⟨by have := hs.1; omega, hs.2.1⟩
end Go.Proofs.YtceelkmedfoefaaDoor

set_option linter.unusedVariables false
set_option linter.unusedSimpArgs false
/-! An instruction's text is read as the instruction. -/
namespace Go.Proofs.YtceelkmedfoefaaDoor
open Go.RowKit

/-- Signs of a piece alone. -/
def ltB (s : Bytes) : Bool := !s.isEmpty && s.all (fun c => decide (kindI (c.toNat : Int) = 3))
abbrev LtB (s : Bytes) : Prop := ltB s = true
theorem LtB.ne {s : Bytes} (h : LtB s) : s ≠ [] := by
  intro e; subst e; simp [LtB, ltB] at h
theorem LtB.all {s : Bytes} (h : LtB s) : ∀ c ∈ s, kindI (c.toNat : Int) = 3 := by
  simp only [LtB, ltB, Bool.and_eq_true, List.all_eq_true, decide_eq_true_eq] at h
  exact h.2
theorem pcs_letters : ∀ (s l piece : Bytes) (out : List Bytes), (∀ c ∈ s, kindI (c.toNat : Int) = 3) → pcs (s ++ l) piece out = pcs l (piece ++ s) out
  | [], l, piece, out, h => by simp
  | c :: s, l, piece, out, h => by
    rw [List.cons_append, pcs, if_pos (h c (by simp)), pcs_letters s l _ out (fun d hd => h d (by simp [hd]))]
    simp
theorem pcs_sp (l piece : Bytes) (out : List Bytes) : pcs (32 :: l) piece out = pcs l [] (flush piece out) := by
  rw [pcs]; rfl
theorem pcs_44 (l piece : Bytes) (out : List Bytes) : pcs (44 :: l) piece out = pcs l [] (flush piece out ++ [[44]]) := by
  rw [pcs]; rfl
theorem pcs_40 (l piece : Bytes) (out : List Bytes) : pcs (40 :: l) piece out = pcs l [] (flush piece out ++ [[40]]) := by
  rw [pcs]; rfl
theorem pcs_41 (l piece : Bytes) (out : List Bytes) : pcs (41 :: l) piece out = pcs l [] (flush piece out ++ [[41]]) := by
  rw [pcs]; rfl
theorem flush_ne {s : Bytes} (h : s ≠ []) (out : List Bytes) : flush s out = out ++ [s] := by unfold flush; rw [if_neg h]
theorem flush_nil (out : List Bytes) : flush [] out = out := by unfold flush; rw [if_pos rfl]
theorem pcs_last {s : Bytes} (h : LtB s) (out : List Bytes) : pcs s [] out = some (out ++ [s]) := by
  have := pcs_letters s [] [] out h.all
  rw [List.append_nil, List.nil_append] at this
  rw [this, pcs, flush_ne h.ne]
theorem pieces_1 {a : Bytes} (ha : LtB a) : pieces a = some [a] := pcs_last ha []
theorem pieces_sp {a b : Bytes} (ha : LtB a) (hb : LtB b) : pieces (a ++ 32 :: b) = some [a, b] := by
  unfold pieces
  rw [pcs_letters a _ _ _ ha.all, pcs_sp, List.nil_append, flush_ne ha.ne, pcs_last hb]; rfl
theorem pieces_3 {a b c : Bytes} (ha : LtB a) (hb : LtB b) (hc : LtB c) : pieces (withT a [b, c]) = some [a, b, [44], c] := by
  unfold pieces withT
  simp only [tailT, List.append_nil]
  rw [pcs_letters a _ _ _ ha.all, List.cons_append, pcs_sp, List.nil_append, flush_ne ha.ne, pcs_letters b _ _ _ hb.all, pcs_44, List.nil_append, flush_ne hb.ne, pcs_sp, flush_nil, pcs_last hc]; rfl
theorem pieces_4 {a b c d : Bytes} (ha : LtB a) (hb : LtB b) (hc : LtB c) (hd : LtB d) : pieces (withT a [b, c, d]) = some [a, b, [44], c, [44], d] := by
  unfold pieces withT
  simp only [tailT, List.append_nil]
  rw [pcs_letters a _ _ _ ha.all, List.cons_append, pcs_sp, List.nil_append, flush_ne ha.ne, pcs_letters b _ _ _ hb.all, List.cons_append, pcs_44, List.nil_append, flush_ne hb.ne, List.cons_append, pcs_sp, flush_nil,
    pcs_letters c _ _ _ hc.all, pcs_44, List.nil_append, flush_ne hc.ne, pcs_sp, flush_nil, pcs_last hd]; rfl
theorem pieces_b {a b c d : Bytes} (ha : LtB a) (hb : LtB b) (hc : LtB c) (hd : LtB d) : pieces (withT a [b, c ++ 40 :: (d ++ [41])]) = some [a, b, [44], c, [40], d, [41]] := by
  unfold pieces withT
  simp only [tailT, List.append_nil]
  rw [pcs_letters a _ _ _ ha.all, List.cons_append, pcs_sp, List.nil_append, flush_ne ha.ne, pcs_letters b _ _ _ hb.all, pcs_44, List.nil_append, flush_ne hb.ne, pcs_sp, flush_nil,
    pcs_letters c _ _ _ hc.all, pcs_40, List.nil_append, flush_ne hc.ne, pcs_letters d _ _ _ hd.all, pcs_41, List.nil_append, flush_ne hd.ne, pcs, flush_nil]; rfl

theorem names_lt : ∀ k, k < 58 → LtB (nameL k) ∧ nameL k ≠ wordB ∧ nameB (nameL k) = true := by decide +kernel
theorem regs_back : ∀ r : Nat, r < 32 → LtB (regT r) ∧ regOk (regT r) = true ∧ regV (regT r) = (r : Int) := by decide +kernel
theorem reg_back {r : Int} (h : 0 ≤ r ∧ r ≤ 31) : LtB (regT r) ∧ regOk (regT r) = true ∧ regV (regT r) = r := by
  obtain ⟨k, rfl⟩ := Int.eq_ofNat_of_zero_le h.1
  exact regs_back k (by omega)
theorem dig_kind {c : UInt8} (h : isDig c = true) : kindI (c.toNat : Int) = 3 := by
  have : 48 ≤ (c.toNat : Int) ∧ (c.toNat : Int) ≤ 57 := by simpa [isDig] using h
  unfold kindI
  rw [if_neg (by omega), if_neg (by omega), if_pos (by omega)]
theorem decT_lt {u : Nat} (h : u < 10000000000) : LtB (decT u) := by
  have h1 := decT_len h
  have h2 := decT_dig u
  unfold LtB ltB
  rw [Bool.and_eq_true]
  refine ⟨?_, ?_⟩
  · cases e : decT u with
    | nil => rw [e] at h1; simp at h1
    | cons a b => rfl
  · rw [List.all_eq_true]
    intro c hc
    unfold allDig at h2
    rw [List.all_eq_true] at h2
    exact decide_eq_true (dig_kind (h2 c hc))
theorem numT_lt {n : Int} (h : -2147483648 ≤ n ∧ n < 4294967296) : LtB (numT n) := by
  unfold numT
  split
  · have h1 := decT_lt (u := (-n).toNat) (by omega)
    have h2 := h1.all
    unfold LtB ltB
    rw [Bool.and_eq_true]
    refine ⟨rfl, ?_⟩
    rw [List.all_eq_true]
    intro c hc
    rcases List.mem_cons.1 hc with rfl | hc
    · rfl
    · exact decide_eq_true (h2 c hc)
  · exact decT_lt (by omega)
theorem numT_noname {n : Int} (h : -2147483648 ≤ n ∧ n < 4294967296) : nameB (numT n) = false := by
  unfold numT
  split
  · rfl
  · have h1 := decT_len (u := n.toNat) (by omega)
    have h2 := decT_dig n.toNat
    cases e : decT n.toNat with
    | nil => rfl
    | cons a b =>
      rw [e] at h2
      simp only [allDig, List.all_cons, Bool.and_eq_true] at h2
      have : 48 ≤ (a.toNat : Int) ∧ (a.toNat : Int) ≤ 57 := by simpa [isDig] using h2.1
      unfold nameB
      exact decide_eq_false (by omega)
theorem num_back {n : Int} (h : 0 ≤ n ∧ n < 4294967296) : numOk (numT n) = true ∧ numV (numT n) = n := by
  have := numT_word h
  unfold numOk numV; rw [this]; simp
theorem sgn_back {n : Int} (h : 0 ≤ n ∧ n < 4294967296) : LtB (numT (sgnW n)) ∧ numOk (numT (sgnW n)) = true ∧ numV (numT (sgnW n)) = n ∧ nameB (numT (sgnW n)) = false := by
  have hs : -2147483648 ≤ sgnW n ∧ sgnW n < 2147483648 ∧ sgnW n % 4294967296 = n := by unfold sgnW; split <;> omega
  have := numT_signed (n := sgnW n) ⟨hs.1, hs.2.1⟩
  refine ⟨numT_lt (by omega), ?_, ?_, numT_noname (by omega)⟩
  · unfold numOk; rw [this]; rfl
  · unfold numV; rw [this, hs.2.2]; rfl
/-- The item of an instruction. -/
def itemT (x : NI) : AItem := ⟨x.op, x.rd, x.rs1, x.rs2, x.imm, x.csr, [], 0, false, true⟩
/-- What is said of a text: its pieces are an item's. -/
structure Back (t : Bytes) (y : AItem) : Prop where
  ex : ∃ p, pieces t = some p ∧ p ≠ [] ∧ readO p = some y ∧ ¬ (2 ≤ p.length ∧ p.getD 1 [] = [58])
theorem lt_mark {s : Bytes} (h : LtB s) : ¬ s = [58] := by intro e; subst e; revert h; decide
/-- The item that is read of pieces: a name and what stands behind it. -/
theorem read_named {k : Nat} (h1 : 1 ≤ k) (h : k < 58) (q : List Bytes) (y : AItem) (hq : q.length = (shapeL k).length) (hf : fillAll { zeroX with op := (k : Int), has := true } (shapeL k) q = some y) (hu : upOk y = true) : readO (nameL k :: q) = some (upX y) := by
  unfold readO
  have e0 : (nameL k :: q).getD 0 [] = nameL k := rfl
  rw [e0, if_neg (fun hh => (names_lt k h).2.1 hh.2), opE_hit h rfl, opI_hit h rfl, if_pos ⟨rfl, by omega, by simp [hq]; omega⟩]
  rw [show (nameL k :: q).drop 1 = q from rfl, hf]
  simp only []
  rw [if_pos hu]
end Go.Proofs.YtceelkmedfoefaaDoor

set_option linter.unusedVariables false
set_option linter.unusedSimpArgs false
/-! An instruction's text is read as the instruction: form by form. -/
namespace Go.Proofs.YtceelkmedfoefaaDoor
open Go.RowKit

theorem upX_not {y : AItem} (h : ¬ (y.op = 1 ∨ y.op = 2)) : upX y = y ∧ upOk y = true := by
  unfold upX upOk; rw [if_neg h, if_neg h]; exact ⟨rfl, rfl⟩
theorem form_12 {n : Int} (h : formP n ≠ 1) : ¬ (n = 1 ∨ n = 2) := by
  intro e; apply h; unfold formP; rw [if_pos e]
theorem form_12b {n : Int} (h : formP n = 1) : n = 1 ∨ n = 2 := by
  unfold formP at h
  split at h
  · assumption
  · exfalso; revert h; (repeat' split) <;> omega
theorem text_back (x : NI) (hop : x.op ≠ 0) (hR : rightB x = true) (h0 : 0 ≤ x.imm) (h1 : x.imm < 4294967296) : Back (textR x) (itemT x) := by
  obtain ⟨⟨ho0, ho1⟩, hd, hs, ht, hc, himm, honly⟩ := rightB_parts hR
  clear hR
  obtain ⟨op, rd, rs1, rs2, imm, csr⟩ := x
  simp only at *
  obtain ⟨k, rfl⟩ := Int.eq_ofNat_of_zero_le ho0
  have k1 : 1 ≤ k := by omega
  have k58 : k < 58 := by omega
  have hN := names_lt k k58
  have hfr := formP_range (k : Int)
  obtain ⟨f, hf⟩ : ∃ f, formP (k : Int) = f := ⟨_, rfl⟩
  have hsg := sgn_back (n := imm) ⟨h0, h1⟩
  have hrd := reg_back hd
  have hr1 := reg_back hs
  have hr2 := reg_back ht
  have hcs := num_back (n := csr) (by omega)
  have hcl := numT_lt (n := csr) (by omega)
  have him := num_back (n := imm) (by omega)
  have hil := numT_lt (n := imm) (by omega)
  have hu := num_back (n := imm / 4096) (by omega)
  have hul := numT_lt (n := imm / 4096) (by omega)
  have hnm : nameL (k : Int).toNat = nameL k := by rw [Int.toNat_natCast]
  rw [hf] at himm honly hfr
  simp only [onlyX, NI.mk.injEq, true_and] at honly
  obtain ⟨o1, o2, o3, o4, o5⟩ := honly
  obtain rfl | rfl | rfl | rfl | rfl | rfl | rfl | rfl | rfl | rfl : f = 0 ∨ f = 1 ∨ f = 2 ∨ f = 3 ∨ f = 4 ∨ f = 5 ∨ f = 6 ∨ f = 7 ∨ f = 8 ∨ f = 9 := by omega
  all_goals simp (config := { decide := true }) only [Int.reduceEq, Int.reduceLE, if_true, if_false, or_true, true_or, or_self, or_false, false_or, ne_eq, not_true_eq_false, not_false_eq_true, and_true, true_and, and_self, and_false, false_and] at o1 o2 o3 o4 o5
  · have e : textR ⟨k, rd, rs1, rs2, imm, csr⟩ = nameL k := by unfold textR; simp only [hf, hnm, Int.reduceEq, if_false]
    have hsh : shapeL k = [] := by unfold shapeL; rw [hf]; rfl
    have hx := upX_not (y := itemT ⟨k, rd, rs1, rs2, imm, csr⟩) (form_12 (by show formP (k : Int) ≠ 1; rw [hf]; decide))
    rw [e]
    refine ⟨_, pieces_1 hN.1, by simp, ?_, by simp⟩
    rw [← hx.1]
    exact read_named k1 k58 [] _ (by rw [hsh]; rfl) (by rw [hsh]; simp [fillAll, zeroX, itemT, ← o1, ← o2, ← o3, ← o4, ← o5]) hx.2
  · have e : textR ⟨k, rd, rs1, rs2, imm, csr⟩ = withT (nameL k) [regT rd, numT (imm / 4096)] := by unfold textR; simp only [hf, hnm, Int.reduceEq, if_false, if_true]
    have hsh : shapeL k = [100, 44, 110] := by unfold shapeL; rw [hf]; rfl
    have h12 := form_12b hf
    have hi : imm % 4096 = 0 := by simpa [immB] using himm
    have hx : upX (itemT ⟨k, rd, rs1, rs2, imm / 4096, csr⟩) = itemT ⟨k, rd, rs1, rs2, imm, csr⟩ := by
      unfold upX itemT
      rw [if_pos h12]
      simp only [AItem.mk.injEq, true_and, and_true]
      omega
    have hy : upOk (itemT ⟨k, rd, rs1, rs2, imm / 4096, csr⟩) = true := by
      unfold upOk itemT
      rw [if_pos h12]
      exact decide_eq_true (by simp only []; omega)
    rw [e]
    refine ⟨_, pieces_3 hN.1 hrd.1 hul, by simp, ?_, fun hh => lt_mark hrd.1 hh.2⟩
    rw [← hx]
    exact read_named k1 k58 _ _ (by rw [hsh]; rfl) (by rw [hsh]; simp [fillAll, fillOk, fillX, zeroX, itemT, hrd, hr1, hr2, hcs, hu, hsg, ← o2, ← o3, ← o5]) hy
  · have e : textR ⟨k, rd, rs1, rs2, imm, csr⟩ = withT (nameL k) [regT rd, numT (sgnW imm)] := by unfold textR; simp only [hf, hnm, Int.reduceEq, if_false, if_true]
    have hsh : shapeL k = [100, 44, 116] := by unfold shapeL; rw [hf]; rfl
    have hx := upX_not (y := itemT ⟨k, rd, rs1, rs2, imm, csr⟩) (form_12 (by show formP (k : Int) ≠ 1; rw [hf]; decide))
    rw [e]
    refine ⟨_, pieces_3 hN.1 hrd.1 hsg.1, by simp, ?_, fun hh => lt_mark hrd.1 hh.2⟩
    rw [← hx.1]
    exact read_named k1 k58 _ _ (by rw [hsh]; rfl) (by rw [hsh]; simp [fillAll, fillOk, fillX, zeroX, itemT, hrd, hr1, hr2, hcs, him, hsg, ← o2, ← o3, ← o5]) hx.2
  · have hx := upX_not (y := itemT ⟨k, rd, rs1, rs2, imm, csr⟩) (form_12 (by show formP (k : Int) ≠ 1; rw [hf]; decide))
    by_cases hl : (k : Int) = 4 ∨ 0 < loadsI k
    · have e : textR ⟨k, rd, rs1, rs2, imm, csr⟩ = withT (nameL k) [regT rd, numT (sgnW imm) ++ 40 :: (regT rs1 ++ [41])] := by
        unfold textR; simp only [hf, hnm, Int.reduceEq, if_false, if_true]; rw [if_pos hl]; simp [besideT]
      have hsh : shapeL k = [100, 44, 110, 40, 49, 41] := by unfold shapeL; rw [hf]; simp only [Int.reduceEq, if_false, if_true]; rw [if_pos hl]
      rw [e]
      refine ⟨_, pieces_b hN.1 hrd.1 hsg.1 hr1.1, by simp, ?_, fun hh => lt_mark hrd.1 hh.2⟩
      rw [← hx.1]
      exact read_named k1 k58 _ _ (by rw [hsh]; rfl) (by rw [hsh]; simp [fillAll, fillOk, fillX, zeroX, itemT, hrd, hr1, hr2, hcs, him, hsg, ← o3, ← o5]) hx.2
    · have e : textR ⟨k, rd, rs1, rs2, imm, csr⟩ = withT (nameL k) [regT rd, regT rs1, numT (sgnW imm)] := by
        unfold textR; simp only [hf, hnm, Int.reduceEq, if_false, if_true]; rw [if_neg hl]
      have hsh : shapeL k = [100, 44, 49, 44, 110] := by unfold shapeL; rw [hf]; simp only [Int.reduceEq, if_false, if_true]; rw [if_neg hl]
      rw [e]
      refine ⟨_, pieces_4 hN.1 hrd.1 hr1.1 hsg.1, by simp, ?_, fun hh => lt_mark hrd.1 hh.2⟩
      rw [← hx.1]
      exact read_named k1 k58 _ _ (by rw [hsh]; rfl) (by rw [hsh]; simp [fillAll, fillOk, fillX, zeroX, itemT, hrd, hr1, hr2, hcs, him, hsg, ← o3, ← o5]) hx.2
  · have e : textR ⟨k, rd, rs1, rs2, imm, csr⟩ = withT (nameL k) [regT rs1, regT rs2, numT (sgnW imm)] := by unfold textR; simp only [hf, hnm, Int.reduceEq, if_false, if_true]
    have hsh : shapeL k = [49, 44, 50, 44, 116] := by unfold shapeL; rw [hf]; rfl
    have hx := upX_not (y := itemT ⟨k, rd, rs1, rs2, imm, csr⟩) (form_12 (by show formP (k : Int) ≠ 1; rw [hf]; decide))
    rw [e]
    refine ⟨_, pieces_4 hN.1 hr1.1 hr2.1 hsg.1, by simp, ?_, fun hh => lt_mark hr1.1 hh.2⟩
    rw [← hx.1]
    exact read_named k1 k58 _ _ (by rw [hsh]; rfl) (by rw [hsh]; simp [fillAll, fillOk, fillX, zeroX, itemT, hrd, hr1, hr2, hcs, him, hsg, ← o1, ← o5]) hx.2
  · have e : textR ⟨k, rd, rs1, rs2, imm, csr⟩ = withT (nameL k) [regT rs2, numT (sgnW imm) ++ 40 :: (regT rs1 ++ [41])] := by unfold textR; simp only [hf, hnm, Int.reduceEq, if_false, if_true]; simp [besideT]
    have hsh : shapeL k = [50, 44, 110, 40, 49, 41] := by unfold shapeL; rw [hf]; rfl
    have hx := upX_not (y := itemT ⟨k, rd, rs1, rs2, imm, csr⟩) (form_12 (by show formP (k : Int) ≠ 1; rw [hf]; decide))
    rw [e]
    refine ⟨_, pieces_b hN.1 hr2.1 hsg.1 hr1.1, by simp, ?_, fun hh => lt_mark hr2.1 hh.2⟩
    rw [← hx.1]
    exact read_named k1 k58 _ _ (by rw [hsh]; rfl) (by rw [hsh]; simp [fillAll, fillOk, fillX, zeroX, itemT, hrd, hr1, hr2, hcs, him, hsg, ← o1, ← o5]) hx.2
  · have e : textR ⟨k, rd, rs1, rs2, imm, csr⟩ = withT (nameL k) [regT rd, regT rs1, regT rs2] := by unfold textR; simp only [hf, hnm, Int.reduceEq, if_false, if_true]
    have hsh : shapeL k = [100, 44, 49, 44, 50] := by unfold shapeL; rw [hf]; rfl
    have hx := upX_not (y := itemT ⟨k, rd, rs1, rs2, imm, csr⟩) (form_12 (by show formP (k : Int) ≠ 1; rw [hf]; decide))
    rw [e]
    refine ⟨_, pieces_4 hN.1 hrd.1 hr1.1 hr2.1, by simp, ?_, fun hh => lt_mark hrd.1 hh.2⟩
    rw [← hx.1]
    exact read_named k1 k58 _ _ (by rw [hsh]; rfl) (by rw [hsh]; simp [fillAll, fillOk, fillX, zeroX, itemT, hrd, hr1, hr2, hcs, him, hsg, ← o4, ← o5]) hx.2
  · have e : textR ⟨k, rd, rs1, rs2, imm, csr⟩ = withT (nameL k) [regT rd, regT rs1, numT imm] := by unfold textR; simp only [hf, hnm, Int.reduceEq, if_false, if_true]
    have hsh : shapeL k = [100, 44, 49, 44, 110] := by unfold shapeL; rw [hf]; rfl
    have hx := upX_not (y := itemT ⟨k, rd, rs1, rs2, imm, csr⟩) (form_12 (by show formP (k : Int) ≠ 1; rw [hf]; decide))
    rw [e]
    refine ⟨_, pieces_4 hN.1 hrd.1 hr1.1 hil, by simp, ?_, fun hh => lt_mark hrd.1 hh.2⟩
    rw [← hx.1]
    exact read_named k1 k58 _ _ (by rw [hsh]; rfl) (by rw [hsh]; simp [fillAll, fillOk, fillX, zeroX, itemT, hrd, hr1, hr2, hcs, him, hsg, ← o3, ← o5]) hx.2
  · have e : textR ⟨k, rd, rs1, rs2, imm, csr⟩ = withT (nameL k) [regT rd, numT csr, regT rs1] := by unfold textR; simp only [hf, hnm, Int.reduceEq, if_false, if_true]
    have hsh : shapeL k = [100, 44, 99, 44, 49] := by unfold shapeL; rw [hf]; rfl
    have hx := upX_not (y := itemT ⟨k, rd, rs1, rs2, imm, csr⟩) (form_12 (by show formP (k : Int) ≠ 1; rw [hf]; decide))
    rw [e]
    refine ⟨_, pieces_4 hN.1 hrd.1 hcl hr1.1, by simp, ?_, fun hh => lt_mark hrd.1 hh.2⟩
    rw [← hx.1]
    exact read_named k1 k58 _ _ (by rw [hsh]; rfl) (by rw [hsh]; simp [fillAll, fillOk, fillX, zeroX, itemT, hrd, hr1, hr2, hcs, him, hsg, ← o3, ← o4]) hx.2
  · have e : textR ⟨k, rd, rs1, rs2, imm, csr⟩ = withT (nameL k) [regT rd, numT csr, numT imm] := by unfold textR; simp only [hf, hnm, Int.reduceEq, if_false, if_true]
    have hsh : shapeL k = [100, 44, 99, 44, 110] := by unfold shapeL; rw [hf]; rfl
    have hx := upX_not (y := itemT ⟨k, rd, rs1, rs2, imm, csr⟩) (form_12 (by show formP (k : Int) ≠ 1; rw [hf]; decide))
    rw [e]
    refine ⟨_, pieces_4 hN.1 hrd.1 hcl hil, by simp, ?_, fun hh => lt_mark hrd.1 hh.2⟩
    rw [← hx.1]
    exact read_named k1 k58 _ _ (by rw [hsh]; rfl) (by rw [hsh]; simp [fillAll, fillOk, fillX, zeroX, itemT, hrd, hr1, hr2, hcs, him, hsg, ← o2, ← o3]) hx.2
end Go.Proofs.YtceelkmedfoefaaDoor

set_option linter.unusedVariables false
set_option linter.unusedSimpArgs false
/-! A word's instruction; its text. -/
namespace Go.Proofs.YtceelkmedfoefaaDoor
open Go.RowKit

set_option maxRecDepth 100000 in
set_option maxHeartbeats 1000000 in
theorem decode_any (n : Int) (w : World) (hE : Env w) (h0 : 0 ≤ n) (h1 : n < 4294967296) :
    Calls Tryd.prog 73 #[.int .u32 n] w fun e w' => e = .returned (.agg (NC (decR n))) ∧ Below w.heap.size w w' := by
  by_cases hk : kindK n = 0
  · have HD : Hd (decR n = zeroN) := ⟨by unfold decR; rw [if_pos hk]⟩
    have HK := Hd.mk hk
    clear hk
    go_enter Tryd.func73, Tryd.ntmps73
    go_wp2_with (go_at_call 85; refine (dkind_any n _ h0 h1).mono ?_; rw [HK.out]; rintro e w' ⟨rfl, rfl⟩)
    refine bodyPost_ret (v := .agg (NC (decR n))) ?_ rfl ⟨rfl, (Below.refl _ _).alloc (Nat.le_refl _) _⟩
    rw [HD.out]
    simp [results, Tryd.results73, go_sem, NC, zeroN]
  · have hks := kind_spec n h0 h1 hk
    have hkr : 0 ≤ kindK n ∧ kindK n < 58 := ⟨by have := hks.1; omega, hks.2.1⟩
    obtain ⟨x, hx⟩ : ∃ x, decR n = x := ⟨_, rfl⟩
    have HX : Hd (laidD n (kindK n) = x) := ⟨by rw [← hx]; unfold decR; rw [if_neg hk]⟩
    obtain ⟨k, hkk⟩ : ∃ k, kindK n = k := ⟨_, rfl⟩
    have HK := Hd.mk hkk
    rw [hkk] at hkr hk HX
    rw [hx]
    clear hks hkk hx
    have hr : Blk (w.alloc (.cells (NC zeroN) 36)) w.heap.size (NC zeroN) 36 := blk_new _ _ _
    go_enter Tryd.func73, Tryd.ntmps73
    go_wp2_with (first
      | (go_at_call 85; refine (dkind_any n _ h0 h1).mono ?_; rw [HK.out]; rintro e w' ⟨rfl, rfl⟩)
      | (go_at_call 86; refine (laid_any n k _ (hE.alloc _) h0 h1 hkr).mono ?_; rw [HX.out]; rintro e w2 ⟨rfl, hb2⟩; have hr2 := Blk.below hr hb2 (by simp); have hbel := ((Below.refl w.heap.size w).alloc (Nat.le_refl _) (.cells (NC zeroN) 36)).trans (hb2.mono (by simp)))
      | (refine st_blk rfl 36 _ _ rfl w.heap.size (NC x) rfl rfl hr2 (by rw [info36]; rfl) rfl (nc_one x) ?_; intro w3 hr3 hg3; have hbel3 := hbel.grown hg3 hbel.size (by intro k hk2; cases hk2; exact Nat.le_refl _)))
    refine bodyPost_ret (v := .agg (NC x)) ?_ rfl ⟨rfl, hbel3⟩
    exact results_cell_row Tryd.results73 _ w3 w.heap.size 36 (NC x) (0, 0) _ rfl hr3.at_ Tryd.underlying36 rfl info36

def dotWord : Bytes := [46, 119, 111, 114, 100, 32]
def wordT (n : Int) : Bytes := if kindK n = 0 then dotWord ++ numT n else textR (laidD n (kindK n))
theorem num_range2 {n k : Int} (h0 : 0 ≤ n) (h1 : n < 4294967296) : 0 ≤ (laidD n k).imm ∧ (laidD n k).imm < 4294967296 := num_range h0 h1 (formP k) (formP_range k)
set_option maxRecDepth 100000 in
set_option maxHeartbeats 1000000 in
theorem word_text_any (n : Int) (w : World) (hE : Env w) (h0 : 0 ≤ n) (h1 : n < 4294967296) :
    Calls Tryd.prog 50 #[.int .u32 n] w fun e w' => TextPost (wordT n) w w' e := by
  by_cases hk : kindK n = 0
  · have HD : Hd (decR n = zeroN) := ⟨by unfold decR; rw [if_pos hk]⟩
    have HW : Hd (wordT n = dotWord ++ numT n) := ⟨by unfold wordT; rw [if_pos hk]⟩
    have hnl := numT_len (n := n) (by omega)
    obtain ⟨T, hT⟩ : ∃ T, numT n = T := ⟨_, rfl⟩
    rw [hT] at hnl HW
    have HT := Hd.mk hT
    clear hk hT
    go_enter Tryd.func50, Tryd.ntmps50
    go_wp2_with (first
      | (go_at_call 73; refine (decode_any n _ hE h0 h1).mono ?_; rw [HD.out]; rintro e w2 ⟨rfl, hb2⟩)
      | (go_at_call 18; refine (text_ill zeroN _ rfl).mono ?_; rintro e w3 ⟨⟨s0, hs0, rfl⟩, hb3⟩)
      | (go_at_call 46; refine (dnumber_any n _ (by omega)).mono ?_; rw [HT.out]; rintro e w4 ⟨⟨s1, hs1, rfl⟩, hb4⟩; have hl1 : s1.size ≤ 11 := by { rw [← bs_length, hs1]; exact hnl }; have HS1 := Hd.mk hs1; clear hs1))
    go_ret
    exact ⟨⟨_, by rw [HW.out, bs_app, HS1.out]; rfl, rfl⟩, (hb2.trans (hb3.mono hb2.size)).trans (hb4.mono (Nat.le_trans hb2.size hb3.size))⟩
  · have HD : Hd (decR n = laidD n (kindK n)) := ⟨by unfold decR; rw [if_neg hk]⟩
    have HW : Hd (wordT n = textR (laidD n (kindK n))) := ⟨by unfold wordT; rw [if_neg hk]⟩
    have hR := dec_right h0 h1 hk
    obtain ⟨i0, i1⟩ := num_range2 (k := kindK n) h0 h1
    have hop : (laidD n (kindK n)).op ≠ 0 := hk
    obtain ⟨x, hx⟩ : ∃ x, laidD n (kindK n) = x := ⟨_, rfl⟩
    rw [hx] at HD HW hR i0 i1 hop
    have HR := Hd.mk hR
    have HO := Hd.mk hop
    clear hk hx hR hop
    go_enter Tryd.func50, Tryd.ntmps50
    go_wp2_with (first
      | (go_at_call 73; refine (decode_any n _ hE h0 h1).mono ?_; rw [HD.out]; rintro e w2 ⟨rfl, hb2⟩)
      | (go_at_call 18; refine (text_any x _ (hE.below hb2) i0 i1 HO.out HR.out).mono ?_; rintro e w3 ⟨⟨s0, hs0, rfl⟩, hb3⟩; have HS := Hd.mk hs0; clear hs0))
    go_ret
    exact ⟨⟨_, by rw [HW.out]; exact HS.out, rfl⟩, hb2.trans (hb3.mono hb2.size)⟩
end Go.Proofs.YtceelkmedfoefaaDoor

set_option linter.unusedVariables false
set_option linter.unusedSimpArgs false
/-! The lines of words. -/
namespace Go.Proofs.YtceelkmedfoefaaDoor
open Go.RowKit

theorem textR_len {x : NI} (hR : rightB x = true) (h0 : 0 ≤ x.imm) (h1 : x.imm < 4294967296) : (textR x).length ≤ 100 := by
  obtain ⟨⟨ho0, ho1⟩, ⟨hd0, hd1⟩, ⟨hs0, hs1⟩, ⟨ht0, ht1⟩, ⟨hc0, hc1⟩, himm, honly⟩ := rightB_parts hR
  have hn := name_len x.op.toNat (by omega)
  have a := numT_len (n := x.rd) (by omega)
  have b := numT_len (n := x.rs1) (by omega)
  have c := numT_len (n := x.rs2) (by omega)
  have d := numT_len (n := x.csr) (by omega)
  have e := numT_len (n := x.imm) (by omega)
  have f := numT_len (n := x.imm / 4096) (by omega)
  have g := sgn_len h0 h1
  have h := besideT_len (x := x) ⟨hs0, hs1⟩ h0 h1
  unfold textR
  simp only []
  repeat' split
  all_goals
    (simp [withT, tailT, regT] <;> omega)
theorem wordT_len {n : Int} (h0 : 0 ≤ n) (h1 : n < 4294967296) : (wordT n).length ≤ 100 := by
  unfold wordT
  split
  · have := numT_len (n := n) (by omega)
    simp [dotWord]; omega
  · rename_i hk
    obtain ⟨i0, i1⟩ := num_range2 (k := kindK n) h0 h1
    exact textR_len (dec_right h0 h1 hk) i0 i1
/-- The lines' text. -/
def linesT : List Int → Bytes
  | [] => []
  | n :: ns => wordT n ++ 10 :: linesT ns
theorem linesT_snoc (l : List Int) (n : Int) : linesT (l ++ [n]) = linesT l ++ (wordT n ++ [10]) := by
  induction l with
  | nil => simp [linesT]
  | cons a l ih => simp [linesT, ih]
theorem linesT_len (l : List Int) (h : ∀ n ∈ l, 0 ≤ n ∧ n < 4294967296) : (linesT l).length ≤ 101 * l.length := by
  induction l with
  | nil => simp [linesT]
  | cons a l ih =>
    have h1 := ih (fun n hn => h n (by simp [hn]))
    have h2 := wordT_len (h a (by simp)).1 (h a (by simp)).2
    simp [linesT]; omega
theorem strCells_bs (s : ByteArray) : Lib.strCells s = bvals (bs s) := rfl
theorem bvals_app (a b : Bytes) : bvals (a ++ b) = bvals a ++ bvals b := by simp [bvals]
theorem addr_block (a : Addr) (i : Nat) : (a.add i).block = a.block := by unfold Addr.add; split <;> rfl
set_option maxRecDepth 100000 in
theorem conv_own {w : World} {base : Nat} {v : Value} {l : Bytes} (h : w.ownsRow base 5 1 v l.length (bvals l)) : (convert 42 9 v).run Tryd.prog w = .ok (.string ⟨l.toArray⟩) w := by
  by_cases h1 : 1 ≤ l.length
  · obtain ⟨g, cap, cur, rfl, _, _, hb, _, hc⟩ := own_block h h1
    have := conv_row (l := l.reverse) (n := l.length) (cap := cap) hb (by simp) (by simpa using hc)
    simpa using this
  · have hl : l = [] := List.eq_nil_of_length_eq_zero (by omega)
    subst hl
    rcases own_form h with ⟨a, cap, rfl⟩
    cases a with
    | none =>
      rcases h.2 with ⟨h2, _⟩ | ⟨g, cap, cur, h2, _⟩
      · cases h2; rfl
      · cases h2
    | some a =>
      have := run_convert_bytes_back (P := Tryd.prog) w 42 9 5 a cap ([] : Bytes) Tryd.underlying42 Tryd.underlying5 Tryd.underlying9 (fun j hj => by simp at hj)
      simpa using this
structure LnInv (l : List Int) (w wr : World) (k : Nat) (out : Bytes) (vs : Value) : Prop where
  own : wr.ownsRow w.heap.size 5 1 vs out.length (bvals out)
  bel : Below w.heap.size w wr
  eq : linesT (l.take k) = out
  len : out.length ≤ 101 * k
set_option maxRecDepth 100000 in
set_option maxHeartbeats 2000000 in
theorem dlines_any (l : List Int) (p : Option Addr) (n cap : Nat) (w : World) (hE : Env w) (hn : l.length = n) (hn4 : n ≤ 400) (hr : ∀ x ∈ l, 0 ≤ x ∧ x < 4294967296)
    (hc : ∀ i, i < n → ∃ ad, p = some ad ∧ ad.block < w.heap.size ∧ w.cell? (ad.add i) = some (.int .u32 (l.getD i 0))) :
    Calls Tryd.prog 19 #[.slice p n cap] w fun e w' => TextPost (linesT l) w w' e := by
  obtain ⟨i0, hi, hz0, hz1, hz2⟩ := info_parts info5b
  have HN := Hd.mk hn
  have HR := Hd.mk hr
  have HC := Hd.mk hc
  clear hn hr hc
  go_enter Tryd.func19, Tryd.ntmps19
  go_wp2_with fail
  go_loopw [3, 8] (fun a b wr => ∃ (k : Nat) (out : Bytes), k ≤ n ∧ b = .int .i64 (k : Int) ∧ LnInv l w wr k out a) (fun _ b _ => n - (intOf b).toNat)
  case atStart => exact ⟨0, [], Nat.zero_le _, rfl, World.ownsRow_nil _ _ _ _, Below.refl _ _, rfl, by simp⟩
  case round =>
    obtain ⟨k, out, hk, rfl, hI⟩ := hrel
    have hB := hI.bel.size
    by_cases hlt : k < n
    · obtain ⟨ad, rfl, hadb, hcell⟩ := HC.out k hlt
      have hcell2 : wr.cell? (ad.add k) = some (.int .u32 (l.getD k 0)) := by
        rw [← hcell]
        exact hI.bel.cell (by rw [addr_block]; exact hadb)
      have hx := HR.out (l.getD k 0) (by
        rw [List.getD_eq_getElem?_getD, List.getElem?_eq_getElem (by rw [HN.out]; exact hlt)]
        exact List.getElem_mem _)
      obtain ⟨x, hxx⟩ : ∃ x, l.getD k 0 = x := ⟨_, rfl⟩
      rw [hxx] at hcell2 hx
      have HX := Hd.mk hxx
      obtain ⟨hx0, hx1⟩ := hx
      have hwl := Hd.mk (wordT_len hx0 hx1)
      have hlen := hI.len
      clear hcell hxx
      go_wp2_with (first
        | (go_at_call 50; refine (word_text_any x _ (hE.below hI.bel) hx0 hx1).mono ?_; rintro e w2 ⟨⟨s, hs, rfl⟩, hb2⟩; have hsl : s.size ≤ 100 := by { rw [← bs_length, hs]; exact hwl.out }; have HS := Hd.mk hs; clear hs; have ho2 := hI.own.kept (grown_of_below hb2) (by cases (Value.ownBlock _) <;> simp); have hbel2 := hI.bel.trans (hb2.mono hB))
        | (at_builtin; refine Lib.wpList_append_own_string _ rfl _ _ 42 9 rfl w.heap.size 5 i0 Tryd.underlying42 Tryd.underlying9 hi hz0 hz1 hz2 u3 out.length (bvals out) rfl ho2 s rfl (by unfold maxLen; omega) (by omega) hbel2.size ?_; intro v3 w3 ho3 hg3 _; have hbel3 := hbel2.grown hg3 hbel2.size (fun j hj => (ho2.lt j hj).1); have ho3b : w3.ownsRow w.heap.size 5 1 v3 (out ++ bs s).length (bvals (out ++ bs s)) := (by rw [bvals_app, ← strCells_bs, List.length_append, bs_length]; exact ho3); clear ho2 ho3 hg3)
        | (at_builtin; refine app5 rfl _ _ rfl w.heap.size v3 _ (out ++ bs s) rfl (ho3b.alloc _) 10 _ rfl ?_ ?_ ?_ ?_; (exact World.cell?_alloc_at _ _ _ _ rfl); (rw [List.length_append, bs_length]; omega); (simp; exact Nat.le_succ_of_le hbel3.size); intro v4 w4 ho4 hg4))
      refine ⟨⟨k + 1, out ++ bs s ++ [10], by omega, rfl, ?_, own_step hbel3 ho3b _ hg4, ?_, ?_⟩, by simp [intOf]; omega⟩
      · rw [List.length_append (bs := [10])]; exact ho4
      · rw [List.take_add_one, List.getElem?_eq_getElem (by rw [HN.out]; exact hlt)]
        have hx2 : l[k]'(by rw [HN.out]; exact hlt) = x := by
          rw [← HX.out, List.getD_eq_getElem?_getD, List.getElem?_eq_getElem (by rw [HN.out]; exact hlt)]; rfl
        rw [hx2]
        simp only [Option.toList_some]
        rw [linesT_snoc, hI.eq, HS.out, List.append_assoc]
      · rw [List.length_append, List.length_append, bs_length]; simp; omega
    · have hkn : k = n := by omega
      subst hkn
      have hcv := conv_own hI.own
      have HE : Hd (linesT l = out) := ⟨by rw [← hI.eq, ← HN.out, List.take_length]⟩
      have hbel := hI.bel
      clear hI
      go_wp2_with fail
      go_ret
      exact ⟨⟨_, by rw [HE.out]; exact bs_mk _, rfl⟩, hbel⟩
end Go.Proofs.YtceelkmedfoefaaDoor

set_option linter.unusedVariables false
set_option linter.unusedSimpArgs false
/-! The lines of words are read as the words. -/
namespace Go.Proofs.YtceelkmedfoefaaDoor
open Go.RowKit

theorem line_back {x : NI} (hop : x.op ≠ 0) (hR : rightB x = true) (h0 : 0 ≤ x.imm) (h1 : x.imm < 4294967296) : lineR (textR x) = (x, 0) := by
  obtain ⟨p, hp, hne, hr, _⟩ := (text_back x hop hR h0 h1).ex
  unfold lineR
  rw [hp]
  simp only []
  rw [if_neg hne]
  unfold lineP
  rw [hr]
  simp only []
  have e : niOf (itemT x) = x := rfl
  rw [if_neg (by simp [itemT]), e, if_pos hR]
/-- A word's item. -/
def wordI (n : Int) : AItem := if kindK n = 0 then { zeroX with word := n, raw := true, has := true } else itemT (laidD n (kindK n))
theorem word_back {n : Int} (h0 : 0 ≤ n) (h1 : n < 4294967296) : Back (wordT n) (wordI n) := by
  unfold wordT wordI
  by_cases hk : kindK n = 0
  · rw [if_pos hk, if_pos hk]
    have hn := num_back (n := n) ⟨h0, h1⟩
    have hl := numT_lt (n := n) (by omega)
    refine ⟨[wordB, numT n], ?_, by simp, ?_, fun hh => lt_mark hl hh.2⟩
    · have := pieces_sp (a := wordB) (by decide) hl
      rw [← this]; rfl
    · unfold readO
      rw [if_pos ⟨rfl, rfl⟩]
      have e : ([wordB, numT n] : List Bytes).getD 1 [] = numT n := rfl
      rw [e, if_pos hn.1, hn.2]
  · rw [if_neg hk, if_neg hk]
    obtain ⟨i0, i1⟩ := num_range2 (k := kindK n) h0 h1
    exact text_back _ hk (dec_right h0 h1 hk) i0 i1
theorem step_back {st : RSt} {m n : Int} (h0 : 0 ≤ n) (h1 : n < 4294967296) (hs : st.items.length < 4096) :
    stepL st m (wordT n) = (0, ⟨st.items ++ [wordI n], st.lines ++ [m], st.labels⟩) := by
  obtain ⟨p, hp, hne, hr, hm⟩ := (word_back h0 h1).ex
  unfold stepL
  rw [hp]
  simp only []
  unfold piecesL
  rw [if_neg hm]
  unfold bodyL
  rw [if_neg hne, hr]
  simp only []
  rw [if_neg (by omega)]
theorem run_back : ∀ (l : List Int) (st : RSt) (m : Int), (∀ n ∈ l, 0 ≤ n ∧ n < 4294967296) → st.items.length + l.length ≤ 4096 →
    ∃ ns, runL st m (l.map wordT) = (0, 0, ⟨st.items ++ l.map wordI, ns, st.labels⟩)
  | [], st, m, h, hl => ⟨st.lines, by simp [runL]⟩
  | n :: l, st, m, h, hl => by
    have hn := h n (by simp)
    have hs := step_back (st := st) (m := m) hn.1 hn.2 (by simp at hl; omega)
    obtain ⟨ns, hns⟩ := run_back l ⟨st.items ++ [wordI n], st.lines ++ [m], st.labels⟩ (m + 1) (fun k hk => h k (by simp [hk])) (by simp at hl ⊢; omega)
    refine ⟨ns, ?_⟩
    rw [List.map_cons, runL, hs]
    simp only [if_true]
    rw [hns]
    simp
theorem wordX_back {L : Labels} {k : Nat} {n : Int} (h0 : 0 ≤ n) (h1 : n < 4294967296) : wordX L k (wordI n) = (n, 0) := by
  unfold wordX wordI
  by_cases hk : kindK n = 0
  · rw [if_pos hk]; rfl
  · rw [if_neg hk]
    have e : niOf (itemT (laidD n (kindK n))) = laidD n (kindK n) := rfl
    have ho : encOk (laidD n (kindK n)) = true := by
      unfold encOk
      rw [dec_right h0 h1 hk, Bool.and_true]
      exact decide_eq_true hk
    rw [if_neg (by simp [itemT]), if_neg (by simp [itemT]), e, encV, encE, ho, if_pos rfl, if_pos rfl, enc_dec h0 h1 hk]
theorem words_back (L : Labels) : ∀ (l : List Int) (k : Nat) (ns out : List Int), (∀ n ∈ l, 0 ≤ n ∧ n < 4294967296) → wordsL L k (l.map wordI) ns out = (out ++ l, 0, 0)
  | [], k, ns, out, h => by simp [wordsL]
  | n :: l, k, ns, out, h => by
    have hn := h n (by simp)
    have hx := wordX_back (L := L) (k := k) hn.1 hn.2
    rw [List.map_cons, wordsL_good (by rw [hx]), hx, words_back L l _ _ _ (fun m hm => h m (by simp [hm]))]
    simp
/-- No sign 10. -/
def noNl (s : Bytes) : Bool := s.all (fun c => decide (c ≠ 10))
theorem LtB.noNl {s : Bytes} (h : LtB s) : noNl s = true := by
  unfold YtceelkmedfoefaaDoor.noNl
  rw [List.all_eq_true]
  intro c hc
  refine decide_eq_true (fun e => ?_)
  have := h.all c hc
  rw [e] at this
  revert this; decide
theorem noNl_app (a b : Bytes) : noNl (a ++ b) = (noNl a && noNl b) := by simp [noNl]
theorem noNl_cons (c : UInt8) (b : Bytes) : noNl (c :: b) = (decide (c ≠ 10) && noNl b) := by simp [noNl]
theorem cut_noNl : ∀ (s r : Bytes), noNl s = true → cutNl (s ++ 10 :: r) = (s, r)
  | [], r, h => by simp [cutNl]
  | c :: s, r, h => by
    rw [noNl_cons, Bool.and_eq_true, decide_eq_true_eq] at h
    rw [List.cons_append, cutNl, if_neg h.1, cut_noNl s r h.2]
theorem text_noNl {x : NI} (hR : rightB x = true) (h0 : 0 ≤ x.imm) (h1 : x.imm < 4294967296) : noNl (textR x) = true := by
  obtain ⟨⟨ho0, ho1⟩, hd, hs, ht, hc, himm, honly⟩ := rightB_parts hR
  have a := (names_lt x.op.toNat (by omega)).1.noNl
  have b := (reg_back hd).1.noNl
  have c := (reg_back hs).1.noNl
  have d := (reg_back ht).1.noNl
  have e := (numT_lt (n := x.csr) (by omega)).noNl
  have f := (numT_lt (n := x.imm) (by omega)).noNl
  have g := (numT_lt (n := x.imm / 4096) (by omega)).noNl
  have h := (sgn_back (n := x.imm) ⟨h0, h1⟩).1.noNl
  unfold textR
  simp only []
  repeat' split
  all_goals simp [withT, tailT, besideT, noNl_app, noNl_cons, a, b, c, d, e, f, g, h, show noNl [] = true from rfl]
theorem word_noNl {n : Int} (h0 : 0 ≤ n) (h1 : n < 4294967296) : noNl (wordT n) = true := by
  unfold wordT
  split
  · rw [noNl_app, (numT_lt (n := n) (by omega)).noNl]; rfl
  · rename_i hk
    obtain ⟨i0, i1⟩ := num_range2 (k := kindK n) h0 h1
    exact text_noNl (dec_right h0 h1 hk) i0 i1
theorem lines_back : ∀ l : List Int, (∀ n ∈ l, 0 ≤ n ∧ n < 4294967296) → linesL (linesT l) = l.map wordT
  | [], h => by simp [linesT, linesL_nil]
  | n :: l, h => by
    have hn := h n (by simp)
    have hc := cut_noNl (wordT n) (linesT l) (word_noNl hn.1 hn.2)
    rw [linesT, linesL_cons (by simp), hc, lines_back l (fun m hm => h m (by simp [hm])), List.map_cons]
theorem prog_back {l : List Int} (h : ∀ n ∈ l, 0 ≤ n ∧ n < 4294967296) (hl : l.length ≤ 400) : programR (linesT l) = (l, 0, 0) := by
  have hlen := linesT_len l h
  obtain ⟨ns, hns⟩ := run_back l st0 1 h (by simp [st0]; omega)
  unfold programR
  rw [if_neg (by omega), lines_back l h, hns]
  unfold endL
  simp only [if_true]
  rw [show st0.items ++ l.map wordI = l.map wordI from rfl, words_back _ l _ _ _ h]
  simp
end Go.Proofs.YtceelkmedfoefaaDoor

