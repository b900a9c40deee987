import Derived.Test.YtceelkmedfoefaaDoorL2
import Derived.Lib.IndexMore
/-! Lines of a text. -/
set_option linter.unusedVariables false
set_option linter.unusedSimpArgs false
namespace Go.Proofs.YtceelkmedfoefaaDoor

/-- What stands ahead of the first sign 10, and behind it. -/
def cutNl : Bytes → Bytes × Bytes
  | [] => ([], [])
  | c :: l => if c = 10 then ([], l) else (c :: (cutNl l).1, (cutNl l).2)
theorem cutNl_len (l : Bytes) : (cutNl l).1.length + (cutNl l).2.length ≤ l.length ∧ (l ≠ [] → (cutNl l).2.length < l.length) := by
  induction l with
  | nil => simp [cutNl]
  | cons c l ih =>
    rw [cutNl]
    split
    · simp
    · simp only [List.length_cons]
      refine ⟨by omega, fun _ => ?_⟩
      by_cases h : l = []
      · subst h; simp [cutNl]
      · have := ih.2 h; omega
theorem indexByte_none {l : Bytes} {c : UInt8} (h : Lib.indexByte l c = -1) : ∀ x ∈ l, ¬ x = c := by
  induction l with
  | nil => simp
  | cons b l ih =>
    rw [Lib.indexByte] at h
    have hg := Lib.indexByte_ge l c
    split at h
    · omega
    · rename_i hb
      split at h
      · rename_i h2
        intro x hx
        rcases List.mem_cons.1 hx with rfl | hx
        · simpa using hb
        · exact ih (by simpa using h2) x hx
      · rename_i h2; simp at h2; omega
theorem cutNl_index (l : Bytes) : (Lib.indexByte l 10 = -1 ∧ cutNl l = (l, [])) ∨ (0 ≤ Lib.indexByte l 10 ∧ (Lib.indexByte l 10).toNat < l.length ∧ cutNl l = (l.take (Lib.indexByte l 10).toNat, l.drop ((Lib.indexByte l 10).toNat + 1))) := by
  induction l with
  | nil => left; simp [Lib.indexByte, cutNl]
  | cons b l ih =>
    rw [Lib.indexByte, cutNl]
    by_cases hb : b = 10
    · right; subst hb; simp
    · have hb2 : (b == 10) = false := by simpa using hb
      rw [hb2, if_neg hb]
      simp only [Bool.false_eq_true, if_false]
      rcases ih with ⟨h1, h2⟩ | ⟨h1, h2, h3⟩
      · left; rw [h1]; simp [h2]
      · right
        have hne : (Lib.indexByte l 10 == -1) = false := by simp; omega
        rw [hne]
        simp only [Bool.false_eq_true, if_false]
        have ht : (Lib.indexByte l 10 + 1).toNat = (Lib.indexByte l 10).toNat + 1 := by omega
        rw [ht, h3]
        exact ⟨by omega, by simp; omega, by simp⟩
/-- A text's lines. -/
def linesN : Nat → Bytes → List Bytes
  | 0, _ => []
  | n + 1, l => if l = [] then [] else (cutNl l).1 :: linesN n (cutNl l).2
def linesL (l : Bytes) : List Bytes := linesN (l.length + 1) l
theorem linesN_more (n : Nat) : ∀ (l : Bytes) (m : Nat), l.length < n → l.length < m → linesN n l = linesN m l := by
  induction n with
  | zero => intro l m h; omega
  | succ n ih =>
    intro l m h1 h2
    cases m with
    | zero => omega
    | succ m =>
      rw [linesN, linesN]
      by_cases h : l = []
      · rw [if_pos h, if_pos h]
      · have := (cutNl_len l).2 h
        rw [if_neg h, if_neg h, ih _ m (by omega) (by omega)]
theorem linesL_nil : linesL [] = [] := by simp [linesL, linesN]
theorem linesL_cons {l : Bytes} (h : l ≠ []) : linesL l = (cutNl l).1 :: linesL (cutNl l).2 := by
  have := (cutNl_len l).2 h
  unfold linesL
  rw [linesN, if_neg h, linesN_more _ _ ((cutNl l).2.length + 1) (by omega) (by omega)]

end Go.Proofs.YtceelkmedfoefaaDoor
