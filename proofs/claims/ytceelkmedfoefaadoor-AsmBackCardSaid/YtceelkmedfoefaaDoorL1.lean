import Derived.Below
import Derived.Lib.Strings
/-! Plain words on bytes, digits and numbers. -/
set_option linter.unusedVariables false
set_option linter.unusedSimpArgs false
namespace Go.Proofs.YtceelkmedfoefaaDoor

abbrev Bytes := List UInt8
def bs (s : ByteArray) : Bytes := s.data.toList
def isDig (c : UInt8) : Bool := decide (48 ≤ (c.toNat : Int) ∧ (c.toNat : Int) ≤ 57)
def dval (l : Bytes) : Int := l.foldl (fun n c => n * 10 + ((c.toNat : Int) - 48)) 0
def allDig (l : Bytes) : Bool := l.all isDig

theorem bs_length (s : ByteArray) : (bs s).length = s.size := by simp [bs]
theorem take_snoc (s : ByteArray) (k : Nat) (h : k < s.size) : (bs s).take (k + 1) = (bs s).take k ++ [s[k]] := by
  unfold bs
  rw [List.take_succ_eq_append_getElem (by simpa using h)]; rfl
theorem dval_snoc (l : Bytes) (c : UInt8) : dval (l ++ [c]) = dval l * 10 + ((c.toNat : Int) - 48) := by simp [dval]
theorem allDig_snoc (l : Bytes) (c : UInt8) : allDig (l ++ [c]) = (allDig l && isDig c) := by simp [allDig]
theorem dval_foldl_bound (l : Bytes) : ∀ a : Int, 0 ≤ a → allDig l = true → 0 ≤ l.foldl (fun n c => n * 10 + ((c.toNat : Int) - 48)) a ∧ l.foldl (fun n c => n * 10 + ((c.toNat : Int) - 48)) a < (a + 1) * 10 ^ l.length := by
  induction l with
  | nil => intro a ha _; simp; omega
  | cons c l ih =>
    intro a ha h
    simp only [allDig, List.all_cons, Bool.and_eq_true] at h
    have hc : 48 ≤ (c.toNat : Int) ∧ (c.toNat : Int) ≤ 57 := by simpa [isDig] using h.1
    have := ih (a * 10 + ((c.toNat : Int) - 48)) (by omega) h.2
    refine ⟨this.1, Int.lt_of_lt_of_le this.2 ?_⟩
    rw [List.length_cons, Int.pow_succ]
    have e : (a + 1) * (10 ^ l.length * 10) = (a * 10 + 10) * 10 ^ l.length := by
      rw [show (a * 10 + 10 : Int) = (a + 1) * 10 by omega, Int.mul_assoc, Int.mul_comm (10 ^ l.length) 10]
    rw [e]
    refine Int.mul_le_mul_of_nonneg_right (by omega) ?_
    exact Int.le_of_lt (Int.pow_pos (by omega))
theorem dval_bound (l : Bytes) (h : allDig l = true) : 0 ≤ dval l ∧ dval l < 10 ^ l.length := by
  have := dval_foldl_bound l 0 (by omega) h
  simpa [dval] using this
theorem pow10_le (a b : Nat) (h : a ≤ b) : (10 : Int) ^ a ≤ 10 ^ b := by
  obtain ⟨c, rfl⟩ := Nat.exists_eq_add_of_le h
  rw [Int.pow_add]
  have h1 : (0 : Int) < 10 ^ a := Int.pow_pos (by omega)
  have h2 : (1 : Int) ≤ 10 ^ c := by
    have : (0 : Int) < 10 ^ c := Int.pow_pos (by omega)
    omega
  calc (10 : Int) ^ a = 10 ^ a * 1 := by omega
    _ ≤ 10 ^ a * 10 ^ c := Int.mul_le_mul_of_nonneg_left h2 (by omega)
theorem dval_lt (l : Bytes) (h : allDig l = true) (hl : l.length ≤ 10) : 0 ≤ dval l ∧ dval l < 10000000000 := by
  have := dval_bound l h
  have h2 := pow10_le l.length 10 hl
  exact ⟨this.1, by omega⟩
theorem dval_lt9 (l : Bytes) (h : allDig l = true) (hl : l.length ≤ 9) : 0 ≤ dval l ∧ dval l < 1000000000 := by
  have := dval_bound l h
  have h2 := pow10_le l.length 9 hl
  exact ⟨this.1, by omega⟩
theorem allDig_take (l : Bytes) (k : Nat) (h : allDig l = true) : allDig (l.take k) = true := by
  simp only [allDig, List.all_eq_true] at h ⊢
  exact fun x hx => h x (List.mem_of_mem_take hx)
theorem not_allDig_at (s : ByteArray) (k : Nat) (h : k < s.size) (hc : isDig s[k] = false) : allDig (bs s) = false := by
  simp only [allDig, List.all_eq_false]
  exact ⟨s[k], by unfold bs; rw [Array.mem_toList_iff]; exact Array.getElem_mem (xs := s.data) h, by simp [hc]⟩

/-! Hexadecimal digits. -/
def hdig (c : UInt8) : Int := if 48 ≤ (c.toNat : Int) ∧ (c.toNat : Int) ≤ 57 then (c.toNat : Int) - 48 else if 97 ≤ (c.toNat : Int) ∧ (c.toNat : Int) ≤ 102 then (c.toNat : Int) - 87 else if 65 ≤ (c.toNat : Int) ∧ (c.toNat : Int) ≤ 70 then (c.toNat : Int) - 55 else -1
theorem hdig_range (c : UInt8) : -1 ≤ hdig c ∧ hdig c ≤ 15 := by unfold hdig; (repeat' split) <;> omega
def isHex (c : UInt8) : Bool := decide (0 ≤ hdig c)
def allHex (l : Bytes) : Bool := l.all isHex
def hval (l : Bytes) : Int := l.foldl (fun n c => n * 16 + hdig c) 0
theorem hval_snoc (l : Bytes) (c : UInt8) : hval (l ++ [c]) = hval l * 16 + hdig c := by simp [hval]
theorem allHex_snoc (l : Bytes) (c : UInt8) : allHex (l ++ [c]) = (allHex l && isHex c) := by simp [allHex]
theorem not_allHex_at (s : ByteArray) (k : Nat) (h : k < s.size) (hc : isHex s[k] = false) : allHex (bs s) = false := by
  simp only [allHex, List.all_eq_false]
  exact ⟨s[k], by unfold bs; rw [Array.mem_toList_iff]; exact Array.getElem_mem (xs := s.data) h, by simp [hc]⟩
theorem hval_foldl_bound (l : Bytes) : ∀ a : Int, 0 ≤ a → allHex l = true → 0 ≤ l.foldl (fun n c => n * 16 + hdig c) a ∧ l.foldl (fun n c => n * 16 + hdig c) a < (a + 1) * 16 ^ l.length := by
  induction l with
  | nil => intro a ha _; simp; omega
  | cons c l ih =>
    intro a ha h
    simp only [allHex, List.all_cons, Bool.and_eq_true] at h
    have hc : 0 ≤ hdig c := by simpa [isHex] using h.1
    have hc2 := (hdig_range c).2
    have := ih (a * 16 + hdig c) (by omega) h.2
    refine ⟨this.1, Int.lt_of_lt_of_le this.2 ?_⟩
    rw [List.length_cons, Int.pow_succ]
    have e : (a + 1) * (16 ^ l.length * 16) = (a * 16 + 16) * 16 ^ l.length := by
      rw [show (a * 16 + 16 : Int) = (a + 1) * 16 by omega, Int.mul_assoc, Int.mul_comm (16 ^ l.length) 16]
    rw [e]
    refine Int.mul_le_mul_of_nonneg_right (by omega) ?_
    exact Int.le_of_lt (Int.pow_pos (by omega))
theorem pow16_le (a b : Nat) (h : a ≤ b) : (16 : Int) ^ a ≤ 16 ^ b := by
  obtain ⟨c, rfl⟩ := Nat.exists_eq_add_of_le h
  rw [Int.pow_add]
  have h1 : (0 : Int) < 16 ^ a := Int.pow_pos (by omega)
  have h2 : (1 : Int) ≤ 16 ^ c := by
    have : (0 : Int) < 16 ^ c := Int.pow_pos (by omega)
    omega
  calc (16 : Int) ^ a = 16 ^ a * 1 := by omega
    _ ≤ 16 ^ a * 16 ^ c := Int.mul_le_mul_of_nonneg_left h2 (by omega)
theorem hval_lt7 (l : Bytes) (h : allHex l = true) (hl : l.length ≤ 7) : 0 ≤ hval l ∧ hval l < 268435456 := by
  have := hval_foldl_bound l 0 (by omega) h
  have h2 := pow16_le l.length 7 hl
  unfold hval
  exact ⟨this.1, by omega⟩
theorem hval_lt8 (l : Bytes) (h : allHex l = true) (hl : l.length ≤ 8) : 0 ≤ hval l ∧ hval l < 4294967296 := by
  have := hval_foldl_bound l 0 (by omega) h
  have h2 := pow16_le l.length 8 hl
  unfold hval
  exact ⟨this.1, by omega⟩
/-- A hexadecimal number's value, and whether it is one: one to eight digits. -/
def hexOk (l : Bytes) : Bool := decide (1 ≤ l.length ∧ l.length ≤ 8) && allHex l
def hexV (l : Bytes) : Int := if hexOk l = true then hval l else 0

/-! A number's text. -/
def magn (t : Bytes) : Option Int :=
  if Lib.hasPrefix t [48, 120] = true then (if hexOk (t.drop 2) = true then some (hval (t.drop 2)) else none)
  else if allDig t = true ∧ 1 ≤ t.length ∧ t.length ≤ 10 then some (dval t) else none
/-- The number as a word, of a text that has one. -/
def numOf (l : Bytes) : Option Int :=
  if 10 < (Lib.trimPrefix l [45]).length then none else
  match magn (Lib.trimPrefix l [45]) with
  | none => none
  | some n => if 4294967295 < n ∨ (Lib.hasPrefix l [45] = true ∧ 2147483648 < n) then none else some (if Lib.hasPrefix l [45] = true then (4294967296 - n) % 4294967296 else n)
def numV (l : Bytes) : Int := (numOf l).getD 0
def numE (l : Bytes) : Int := if (numOf l).isSome = true then 0 else 1
def numOk (l : Bytes) : Bool := (numOf l).isSome

end Go.Proofs.YtceelkmedfoefaaDoor
