import Derived.Test.YtceelkmedfoefaaDoorL3
import Derived.Test.YtceelkmedfoefaaDoorA9
set_option linter.unusedVariables false
set_option linter.unusedSimpArgs false
namespace Go.Proofs.YtceelkmedfoefaaDoor
open Go.RowKit

set_option maxHeartbeats 1000000 in
theorem op_any (s : ByteArray) (w : World) (hE : Env w) :
    Calls Tryd.prog 54 #[.string s] w fun e w' => e = .returned (.tuple #[.int .i64 (opI (bs s)), .int .i64 (opE (bs s))]) ∧ w = w' := by
  go_enter Tryd.func54, Tryd.ntmps54
  go_wp2_with fail
  go_loop [5] (fun i => ∃ k : Nat, k ≤ 58 ∧ i = .int .i64 k ∧ Hd (∀ j, j < k → ¬ nameL j = bs s)) (fun i => 58 - (intOf i).toNat)
  case atStart => exact ⟨0, Nat.zero_le _, rfl, ⟨fun j hj => absurd hj (Nat.not_lt_zero _)⟩⟩
  case round =>
    obtain ⟨k, hk, rfl, hN⟩ := hrel
    by_cases hlt : k < 58
    · have hc : w.cell? ⟨0, k, none⟩ = some (.string ⟨(nameL k).toArray⟩) := hE.names k hlt
      go_wp2_with fail
      · have h1 : (nameL k == s.toList) = true := by assumption
        have h2 : nameL k = bs s := by rw [toList_eq_bs] at h1; exact eq_of_beq h1
        go_ret2
        exact ⟨ret_pair (by rw [opI_hit hlt h2]; rfl) (by rw [opE_hit hlt h2]; rfl), rfl⟩
      · have h1 : (nameL k == s.toList) = false := by assumption
        have h2 : ¬ nameL k = bs s := by rw [toList_eq_bs] at h1; exact ne_of_beq_false h1
        go_round
        case rel => exact ⟨k + 1, by omega, by go_num, ⟨fun j hj => by
          by_cases e : j = k
          · subst e; exact h2
          · exact hN.out j (by omega)⟩⟩
        case measure => simp [intOf]; omega
    · have hk2 : k = 58 := by omega
      subst hk2
      go_wp2_with fail
      go_ret2
      exact ⟨ret_pair (by rw [opI_none hN.out]; rfl) (by rw [opE_none hN.out]; rfl), rfl⟩

def hasB (n : Int) : Bool := decide (0 ≤ n ∧ n < 58)
set_option maxHeartbeats 400000 in
theorem has_any (n : Int) (w : World) :
    Calls Tryd.prog 70 #[.int .i64 n] w fun e w' => e = .returned (.bool (hasB n)) ∧ w = w' := by
  go_enter Tryd.func70, Tryd.ntmps70
  go_wp2_with fail
  all_goals
    go_ret
    exact ⟨ret_bool (by rw [Bool.eq_iff_iff]; simp [hasB]; omega), rfl⟩

/-- A form, with what inst.Form tells beside it. -/
def formV (n : Int) : Int := if 0 ≤ n ∧ n < 58 then formI n.toNat else 0
def formE (n : Int) : Int := if 0 ≤ n ∧ n < 58 then 0 else 9
set_option maxHeartbeats 400000 in
theorem form_any (n : Int) (w : World) (hE : Env w) :
    Calls Tryd.prog 43 #[.int .i64 n] w fun e w' => e = .returned (.tuple #[.int .i64 (formV n), .int .i64 (formE n)]) ∧ w = w' := by
  by_cases hn : 0 ≤ n ∧ n < 58
  · have hb : hasB n = true := by simp [hasB, hn]
    obtain ⟨k, rfl⟩ := Int.eq_ofNat_of_zero_le hn.1
    have hk : k < 58 := by omega
    have hc : w.cell? ⟨1, k, none⟩ = some (.int .i64 (formI k)) := hE.forms k hk
    have HV : Hd (formV k = formI k) := ⟨by rw [formV, if_pos hn, Int.toNat_natCast]⟩
    have HW : Hd (formE k = 0) := ⟨by rw [formE, if_pos hn]⟩
    clear hn
    go_enter Tryd.func43, Tryd.ntmps43
    go_wp2_with (go_at_call 70; refine (has_any _ _).mono ?_; rintro e w' ⟨rfl, rfl⟩)
    go_ret2
    exact ⟨ret_pair (by rw [HV.out]; rfl) (by rw [HW.out]; rfl), rfl⟩
  · have hb : hasB n = false := by simp [hasB]; omega
    have HV : Hd (formV n = 0) := ⟨by rw [formV, if_neg hn]⟩
    have HW : Hd (formE n = 9) := ⟨by rw [formE, if_neg hn]⟩
    clear hn
    go_enter Tryd.func43, Tryd.ntmps43
    go_wp2_with (go_at_call 70; refine (has_any _ _).mono ?_; rintro e w' ⟨rfl, rfl⟩)
    go_ret2
    exact ⟨ret_pair (by rw [HV.out]; rfl) (by rw [HW.out]; rfl), rfl⟩

def matchV (n : Int) : Int := if 1 ≤ n ∧ n < 58 then matchI n.toNat else 0
def matchE (n : Int) : Int := if 1 ≤ n ∧ n < 58 then 0 else 9
set_option maxHeartbeats 400000 in
theorem match_any (n : Int) (w : World) (hE : Env w) :
    Calls Tryd.prog 80 #[.int .i64 n] w fun e w' => e = .returned (.tuple #[.int .u32 (matchV n), .int .i64 (matchE n)]) ∧ w = w' := by
  by_cases hn : 1 ≤ n ∧ n < 58
  · have hn' : 0 ≤ n := by omega
    obtain ⟨k, rfl⟩ := Int.eq_ofNat_of_zero_le hn'
    have hk : k < 58 := by omega
    have hk1 : 1 ≤ k := by omega
    have hc : w.cell? ⟨3, k, none⟩ = some (.int .u32 (matchI k)) := hE.words k hk
    have HV : Hd (matchV k = matchI k) := ⟨by rw [matchV, if_pos hn, Int.toNat_natCast]⟩
    have HW : Hd (matchE k = 0) := ⟨by rw [matchE, if_pos hn]⟩
    have b1 : decide ((k : Int) ≤ 0) = false := by simp; omega
    have b2 : decide (58 ≤ (k : Int)) = false := by simp; omega
    clear hn hn'
    go_enter Tryd.func80, Tryd.ntmps80
    go_wp2_with fail
    go_ret2
    exact ⟨ret_pair (by rw [HV.out]; rfl) (by rw [HW.out]; rfl), rfl⟩
  · have HV : Hd (matchV n = 0) := ⟨by rw [matchV, if_neg hn]⟩
    have HW : Hd (matchE n = 9) := ⟨by rw [matchE, if_neg hn]⟩
    by_cases h1 : n ≤ 0
    · clear hn
      go_enter Tryd.func80, Tryd.ntmps80
      go_wp2_with fail
      go_ret2
      exact ⟨ret_pair (by rw [HV.out]; rfl) (by rw [HW.out]; rfl), rfl⟩
    · have h2 : 58 ≤ n := by omega
      clear hn
      go_enter Tryd.func80, Tryd.ntmps80
      go_wp2_with fail
      go_ret2
      exact ⟨ret_pair (by rw [HV.out]; rfl) (by rw [HW.out]; rfl), rfl⟩

def loadsI (n : Int) : Int := if n = 11 ∨ n = 14 then 1 else if n = 12 ∨ n = 15 then 2 else if n = 13 then 4 else 0
set_option maxHeartbeats 400000 in
theorem loads_any (n : Int) (w : World) :
    Calls Tryd.prog 48 #[.int .i64 n] w fun e w' => e = .returned (.int .i64 (loadsI n)) ∧ w = w' := by
  go_enter Tryd.func48, Tryd.ntmps48
  go_wp2_with fail
  all_goals
    go_ret
    exact ⟨ret_int (by (try simp only [beq_iff_eq, beq_eq_false_iff_ne, ne_eq] at *); first | decide | (unfold loadsI; (repeat' split) <;> omega)), rfl⟩

set_option maxHeartbeats 1000000 in
set_option maxRecDepth 100000 in
theorem rnames_any (w : World) :
    Calls Tryd.prog 61 #[] w fun e w' => ∃ v, e = .returned v ∧ w'.ownsRow w.heap.size 9 1 v 58 (strs nameList) ∧ Below w.heap.size w w' := by
  go_enter Tryd.func61, Tryd.ntmps61
  go_wp2_with fail
  go_ret
  refine ⟨_, rfl, ?_, (Below.refl _ _).alloc (Nat.le_refl _) _⟩
  exact ⟨by rfl, .inr ⟨w.heap.size, 58, _, rfl, Nat.le_refl _, heap_alloc_new w _, by decide, by decide, rfl, rfl⟩⟩

end Go.Proofs.YtceelkmedfoefaaDoor
