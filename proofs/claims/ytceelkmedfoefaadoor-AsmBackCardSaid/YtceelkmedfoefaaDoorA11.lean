import Derived.Test.YtceelkmedfoefaaDoorA10
set_option linter.unusedVariables false
set_option linter.unusedSimpArgs false
namespace Go.Proofs.YtceelkmedfoefaaDoor
open Go.RowKit

/-- An instruction's form, by the reference's rows. -/
def formP (n : Int) : Int :=
  if n = 1 ∨ n = 2 then 1 else if n = 3 then 2
  else if n = 4 ∨ (11 ≤ n ∧ n ≤ 15) ∨ (19 ≤ n ∧ n ≤ 24) ∨ n = 38 ∨ n = 39 then 3
  else if 5 ≤ n ∧ n ≤ 10 then 4 else if 16 ≤ n ∧ n ≤ 18 then 5
  else if (28 ≤ n ∧ n ≤ 37) ∨ (50 ≤ n ∧ n ≤ 57) then 6
  else if 25 ≤ n ∧ n ≤ 27 then 7 else if 42 ≤ n ∧ n ≤ 44 then 8 else if 45 ≤ n ∧ n ≤ 47 then 9 else 0
theorem formP_formI : ∀ k, k < 58 → formI k = formP k := by decide +kernel
theorem formV_P (n : Int) : formV n = if 0 ≤ n ∧ n < 58 then formP n else 0 := by
  unfold formV
  by_cases h : 0 ≤ n ∧ n < 58
  · rw [if_pos h, if_pos h, formP_formI n.toNat (by omega)]
    rw [show ((n.toNat : Nat) : Int) = n from Int.toNat_of_nonneg h.1]
  · rw [if_neg h, if_neg h]
theorem formP_out {n : Int} (h : n < 0 ∨ 58 ≤ n) : formP n = 0 := by unfold formP; (repeat' split) <;> omega
theorem formV_eq (n : Int) : formV n = formP n := by
  rw [formV_P]; split
  · rfl
  · rw [formP_out (by omega)]

set_option maxHeartbeats 1000000 in
theorem rform_any (n : Int) (w : World) :
    Calls Tryd.prog 39 #[.int .i64 n] w fun e w' => e = .returned (.int .i64 (formP n)) ∧ w = w' := by
  go_enter Tryd.func39, Tryd.ntmps39
  go_wp2_with fail
  all_goals
    go_ret
    exact ⟨ret_int (by (try simp only [beq_iff_eq, beq_eq_false_iff_ne, ne_eq] at *); first | decide | (exfalso; omega) | (unfold formP; repeat (first | rw [if_pos (by omega)] | rw [if_neg (by omega)]))), rfl⟩

/-- What stands behind an instruction's name: d, 1, 2 registers, n a number, t a number or a label, c a register of control, and marks. -/
def shapeL (n : Int) : Bytes :=
  if formP n = 1 then [100, 44, 110] else if formP n = 2 then [100, 44, 116]
  else if formP n = 3 then (if n = 4 ∨ 0 < loadsI n then [100, 44, 110, 40, 49, 41] else [100, 44, 49, 44, 110])
  else if formP n = 4 then [49, 44, 50, 44, 116] else if formP n = 5 then [50, 44, 110, 40, 49, 41] else if formP n = 6 then [100, 44, 49, 44, 50]
  else if formP n = 7 then [100, 44, 49, 44, 110] else if formP n = 8 then [100, 44, 99, 44, 49] else if formP n = 9 then [100, 44, 99, 44, 110] else []

theorem ret_str {a b : ByteArray} (h : a = b) : Ending.returned (.string a) = .returned (.string b) := by rw [h]
set_option maxHeartbeats 2000000 in
theorem shape_any (n : Int) (w : World) (hE : Env w) :
    Calls Tryd.prog 55 #[.int .i64 n] w fun e w' => e = .returned (.string ⟨(shapeL n).toArray⟩) ∧ w = w' := by
  obtain ⟨f, hf⟩ : ∃ f, formV n = f := ⟨_, rfl⟩
  have HF := Hd.mk hf
  have HP : Hd (formP n = f) := ⟨by rw [← formV_eq]; exact hf⟩
  have hr : f = 0 ∨ f = 1 ∨ f = 2 ∨ f = 3 ∨ f = 4 ∨ f = 5 ∨ f = 6 ∨ f = 7 ∨ f = 8 ∨ f = 9 := by
    rw [← HP.out]; unfold formP; (repeat' split) <;> simp
  clear hf
  rcases hr with rfl | rfl | rfl | rfl | rfl | rfl | rfl | rfl | rfl | rfl
  case inr.inr.inr.inl =>
    by_cases h4 : n = 4
    · have b4 : (n == 4) = true := beq_iff_eq.2 h4
      have HX : Hd (shapeL n = [100, 44, 110, 40, 49, 41]) := ⟨by unfold shapeL; rw [HP.out]; simp [h4]⟩
      clear h4
      go_enter Tryd.func55, Tryd.ntmps55
      go_wp2_with (go_at_call 43; refine (form_any _ _ hE).mono ?_; rw [HF.out]; rintro e w' ⟨rfl, rfl⟩)
      go_ret
      exact ⟨ret_str (by rw [HX.out]), rfl⟩
    · have b4 : (n == 4) = false := beq_eq_false_iff_ne.2 h4
      obtain ⟨q, hq⟩ : ∃ q, loadsI n = q := ⟨_, rfl⟩
      have HQ := Hd.mk hq
      clear hq
      by_cases hl : 0 < q
      · have HX : Hd (shapeL n = [100, 44, 110, 40, 49, 41]) := ⟨by unfold shapeL; rw [HP.out, HQ.out]; simp [hl]⟩
        clear h4
        go_enter Tryd.func55, Tryd.ntmps55
        go_wp2_with (first | (go_at_call 43; refine (form_any _ _ hE).mono ?_; rw [HF.out]; rintro e w' ⟨rfl, rfl⟩) | (go_at_call 48; refine (loads_any _ _).mono ?_; rw [HQ.out]; rintro e w' ⟨rfl, rfl⟩))
        go_ret
        exact ⟨ret_str (by rw [HX.out]), rfl⟩
      · have HX : Hd (shapeL n = [100, 44, 49, 44, 110]) := ⟨by unfold shapeL; rw [HP.out, HQ.out]; simp [hl, h4]⟩
        clear h4
        go_enter Tryd.func55, Tryd.ntmps55
        go_wp2_with (first | (go_at_call 43; refine (form_any _ _ hE).mono ?_; rw [HF.out]; rintro e w' ⟨rfl, rfl⟩) | (go_at_call 48; refine (loads_any _ _).mono ?_; rw [HQ.out]; rintro e w' ⟨rfl, rfl⟩))
        go_ret
        exact ⟨ret_str (by rw [HX.out]), rfl⟩
  all_goals
    go_enter Tryd.func55, Tryd.ntmps55
    go_wp2_with (go_at_call 43; refine (form_any _ _ hE).mono ?_; rw [HF.out]; rintro e w' ⟨rfl, rfl⟩)
    go_ret
    exact ⟨ret_str (by unfold shapeL; rw [HP.out]; rfl), rfl⟩

/-- The reference's words of a shape. -/
def wordOf (c : UInt8) : Bytes :=
  if c = 100 then [114, 100] else if c = 49 then [114, 115, 49] else if c = 50 then [114, 115, 50] else if c = 110 then [110, 117, 109, 98, 101, 114]
  else if c = 116 then [116, 97, 114, 103, 101, 116] else if c = 99 then [99, 115, 114] else [c]
def shapeR (n : Int) : List Bytes := (shapeL n).map wordOf

theorem own_of_build (w : World) (cells : Array Value) (k : Nat) (xs : List Value) (h1 : cells.toList = xs) (h2 : cells.size = k) (h3 : k ≤ 100) :
    (w.alloc (.cells cells 9)).ownsRow w.heap.size 9 1 (.slice (some ⟨w.heap.size, 0, none⟩) k k) k xs := by
  subst h1; subst h2
  exact ⟨by simp, .inr ⟨w.heap.size, cells.size, cells, rfl, Nat.le_refl _, heap_alloc_new w _, Nat.le_refl _, by unfold maxLen; omega, by simp, List.take_of_length_le (by simp)⟩⟩
theorem shapeR_length (n : Int) : (shapeR n).length ≤ 6 := by
  unfold shapeR shapeL; simp only [List.length_map]; (repeat' split) <;> simp

set_option maxHeartbeats 2000000 in
theorem rshape_any (n : Int) (w : World) :
    Calls Tryd.prog 62 #[.int .i64 n] w fun e w' => ∃ v, e = .returned v ∧ w'.ownsRow w.heap.size 9 1 v (shapeR n).length (strs (shapeR n)) ∧ Below w.heap.size w w' := by
  obtain ⟨f, hf⟩ : ∃ f, formP n = f := ⟨_, rfl⟩
  have HP := Hd.mk hf
  have hr : f = 0 ∨ f = 1 ∨ f = 2 ∨ f = 3 ∨ f = 4 ∨ f = 5 ∨ f = 6 ∨ f = 7 ∨ f = 8 ∨ f = 9 := by
    rw [← HP.out]; unfold formP; (repeat' split) <;> simp
  clear hf
  rcases hr with rfl | rfl | rfl | rfl | rfl | rfl | rfl | rfl | rfl | rfl
  case inr.inr.inr.inl =>
    by_cases h4 : n ≤ 15
    · have HX : Hd (shapeL n = [100, 44, 110, 40, 49, 41]) := ⟨by
        unfold shapeL; rw [HP.out]; simp only [Int.reduceEq, if_false, if_true]
        have h5 := HP.out
        rw [if_pos]
        unfold formP at h5
        unfold loadsI
        (repeat' split) <;> first | omega | (exfalso; revert h5; (repeat' split) <;> omega)⟩
      go_enter Tryd.func62, Tryd.ntmps62
      go_wp2_with (go_at_call 39; refine (rform_any _ _).mono ?_; rw [HP.out]; rintro e w' ⟨rfl, rfl⟩)
      go_ret
      refine ⟨_, rfl, ?_, (Below.refl _ _).alloc (Nat.le_refl _) _⟩
      unfold shapeR; rw [HX.out]
      exact own_of_build _ _ _ _ rfl rfl (by decide)
    · have HX : Hd (shapeL n = [100, 44, 49, 44, 110]) := ⟨by
        unfold shapeL; rw [HP.out]; simp only [Int.reduceEq, if_false, if_true]
        rw [if_neg]
        unfold loadsI
        (repeat' split) <;> omega⟩
      go_enter Tryd.func62, Tryd.ntmps62
      go_wp2_with (go_at_call 39; refine (rform_any _ _).mono ?_; rw [HP.out]; rintro e w' ⟨rfl, rfl⟩)
      go_ret
      refine ⟨_, rfl, ?_, (Below.refl _ _).alloc (Nat.le_refl _) _⟩
      unfold shapeR; rw [HX.out]
      exact own_of_build _ _ _ _ rfl rfl (by decide)
  case inl =>
    go_enter Tryd.func62, Tryd.ntmps62
    go_wp2_with (go_at_call 39; refine (rform_any _ _).mono ?_; rw [HP.out]; rintro e w' ⟨rfl, rfl⟩)
    go_ret
    refine ⟨_, rfl, ?_, Below.refl _ _⟩
    have HX : shapeR n = [] := by unfold shapeR shapeL; rw [HP.out]; rfl
    rw [HX]
    exact World.ownsRow_nil _ _ _ _
  all_goals
    go_enter Tryd.func62, Tryd.ntmps62
    go_wp2_with (go_at_call 39; refine (rform_any _ _).mono ?_; rw [HP.out]; rintro e w' ⟨rfl, rfl⟩)
    go_ret
    refine ⟨_, rfl, ?_, (Below.refl _ _).alloc (Nat.le_refl _) _⟩
    unfold shapeR shapeL; rw [HP.out]
    exact own_of_build _ _ _ _ rfl rfl (by decide)

end Go.Proofs.YtceelkmedfoefaaDoor
