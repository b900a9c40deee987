import Derived.Test.YtceelkmedfoefaaDoorA6
set_option linter.unusedVariables false
set_option linter.unusedSimpArgs false
namespace Go.Proofs.YtceelkmedfoefaaDoor
open Go.RowKit

theorem toList_eq_bs (s : ByteArray) : s.toList = bs s := by
  unfold bs; exact Go.ByteArray.toList_eq s
theorem tl_cons {s : ByteArray} (h : 0 < s.size) : ¬ s.toList = [] ∧ s.toList.isEmpty = false := by
  have e : s.toList ≠ [] := by rw [toList_eq_bs, bs_cons s h]; simp
  exact ⟨e, by simpa using e⟩
theorem tl_nil {s : ByteArray} (h : s.size = 0) : s.toList = [] ∧ s.toList.isEmpty = true := by
  have e : s.toList = [] := by rw [toList_eq_bs]; exact size_zero_bs h
  exact ⟨e, by rw [e]; rfl⟩

set_option maxHeartbeats 1000000 in
theorem name_any (s : ByteArray) (w : World) :
    Calls Tryd.prog 65 #[.string s] w fun e w' => e = .returned (.bool (nameB (bs s))) ∧ w = w' := by
  by_cases hz : 0 < s.size
  · have HN := Hd.mk (nameB_at s hz)
    obtain ⟨t1, t2⟩ := tl_cons hz
    have HL : Hd (letterB (s[0].toNat : Int) = decide ((97 ≤ (s[0].toNat : Int) ∧ (s[0].toNat : Int) ≤ 122) ∨ (65 ≤ (s[0].toNat : Int) ∧ (s[0].toNat : Int) ≤ 90) ∨ (48 ≤ (s[0].toNat : Int) ∧ (s[0].toNat : Int) ≤ 57) ∨ (s[0].toNat : Int) = 95 ∨ (s[0].toNat : Int) = 46 ∨ (s[0].toNat : Int) = 45)) := ⟨rfl⟩
    go_enter Tryd.func65, Tryd.ntmps65
    go_wp2_with (go_at_call 21; refine (letter_any _ _).mono ?_; rintro e w' ⟨rfl, rfl⟩)
    · have h1 : letterB (s[0].toNat : Int) = true := by assumption
      rw [HL.out, decide_eq_true_eq] at h1
      go_ret
      exact ⟨ret_bool (by rw [HN.out, Bool.eq_iff_iff]; simp [t2]; omega), rfl⟩
    · have h1 : letterB (s[0].toNat : Int) = true := by assumption
      rw [HL.out, decide_eq_true_eq] at h1
      go_ret
      exact ⟨ret_bool (by rw [HN.out, Bool.eq_iff_iff]; simp [t2]; omega), rfl⟩
    · go_ret
      exact ⟨ret_bool (by rw [HN.out, Bool.eq_iff_iff]; simp [t2]; omega), rfl⟩
    · have h1 : letterB (s[0].toNat : Int) = true := by assumption
      rw [HL.out, decide_eq_true_eq] at h1
      go_ret
      exact ⟨ret_bool (by rw [HN.out, Bool.eq_iff_iff]; simp [t2]; omega), rfl⟩
    · have h1 : ¬ letterB (s[0].toNat : Int) = true := by assumption
      rw [HL.out, decide_eq_true_eq] at h1
      go_ret
      exact ⟨ret_bool (by rw [HN.out, Bool.eq_iff_iff]; simp [t2]; omega), rfl⟩
  · have HN : Hd (nameB (bs s) = false) := ⟨by rw [size_zero_bs (by omega)]; rfl⟩
    obtain ⟨t1, t2⟩ := tl_nil (s := s) (by omega)
    go_enter Tryd.func65, Tryd.ntmps65
    go_wp2_with fail
    go_ret
    exact ⟨ret_bool HN.out.symm, rfl⟩

set_option maxHeartbeats 1000000 in
theorem rname_any (s : ByteArray) (w : World) :
    Calls Tryd.prog 36 #[.string s] w fun e w' => e = .returned (.bool (nameB (bs s))) ∧ w = w' := by
  by_cases hz : 0 < s.size
  · have HN := Hd.mk (nameB_at s hz)
    obtain ⟨t1, t2⟩ := tl_cons hz
    have hr := s[0].toNat_lt
    go_enter Tryd.func36, Tryd.ntmps36
    go_wp2_with fail
    all_goals
      go_ret
      exact ⟨ret_bool (by rw [HN.out, Bool.eq_iff_iff]; simp; omega), rfl⟩
  · have HN : Hd (nameB (bs s) = false) := ⟨by rw [size_zero_bs (by omega)]; rfl⟩
    obtain ⟨t1, t2⟩ := tl_nil (s := s) (by omega)
    go_enter Tryd.func36, Tryd.ntmps36
    go_wp2_with fail
    go_ret
    exact ⟨ret_bool HN.out.symm, rfl⟩

end Go.Proofs.YtceelkmedfoefaaDoor
