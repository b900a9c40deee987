import Derived.Test.YtceelkmedfoefaaDoorA7
import Derived.Laws.AppendOwn
/-! The pieces of a line, and rows of strings. -/
set_option linter.unusedVariables false
set_option linter.unusedSimpArgs false
namespace Go.Proofs.YtceelkmedfoefaaDoor
open Go.RowKit

def flush (piece : Bytes) (out : List Bytes) : List Bytes := if piece = [] then out else out ++ [piece]
def pcs : Bytes → Bytes → List Bytes → Option (List Bytes)
  | [], piece, out => some (flush piece out)
  | c :: l, piece, out =>
    if kindI (c.toNat : Int) = 3 then pcs l (piece ++ [c]) out
    else if kindI (c.toNat : Int) = 0 then none
    else if kindI (c.toNat : Int) = 4 then some (flush piece out)
    else if kindI (c.toNat : Int) = 2 then pcs l [] (flush piece out ++ [[c]])
    else pcs l [] (flush piece out)
/-- The pieces of a line; none: a sign is wrong. -/
def pieces (l : Bytes) : Option (List Bytes) := pcs l [] []
def SV (l : Bytes) : Value := .string ⟨l.toArray⟩
def strs (out : List Bytes) : List Value := out.map SV
theorem sv_of (b : ByteArray) : Value.string b = SV (bs b) := by unfold SV bs; simp
theorem strs_snoc (out : List Bytes) (l : Bytes) : strs (out ++ [l]) = strs out ++ [SV l] := by simp [strs]
theorem strs_length (out : List Bytes) : (strs out).length = out.length := by simp [strs]

theorem pcs_flush (c : UInt8) (l : Bytes) (piece : Bytes) (out : List Bytes) (h : ¬ kindI (c.toNat : Int) = 3) : pcs (c :: l) piece out = pcs (c :: l) [] (flush piece out) := by
  simp only [pcs]
  rw [if_neg h, if_neg h]
  simp [flush]
theorem pcs_nil (piece : Bytes) (out : List Bytes) : pcs [] piece out = pcs [] [] (flush piece out) := by simp [pcs, flush]
theorem drop_at (s : ByteArray) (k : Nat) (h : k < s.size) : (bs s).drop k = s[k] :: (bs s).drop (k + 1) := by
  unfold bs; rw [List.drop_eq_getElem_cons (by simpa using h)]; rfl
theorem drop_end (s : ByteArray) (k : Nat) (h : s.size ≤ k) : (bs s).drop k = [] := List.drop_eq_nil_of_le (by rw [bs_length]; exact h)
section
variable {s : ByteArray} {k : Nat} (h : k < s.size) (out : List Bytes)
theorem pcs_rem (hk : (s[k].toNat : Int) = 35) : pcs ((bs s).drop k) [] out = some out := by
  rw [drop_at s k h, pcs, hk]; rfl
theorem pcs_blank (hk : (s[k].toNat : Int) = 32 ∨ (s[k].toNat : Int) = 9) : pcs ((bs s).drop k) [] out = pcs ((bs s).drop (k + 1)) [] out := by
  rw [drop_at s k h, pcs]
  have e : kindI (s[k].toNat : Int) = 1 := by unfold kindI; rw [if_pos hk]
  rw [e]; simp [flush]
theorem kindI_mark {c : Int} (hm : markB c = true) : kindI c = 2 := by
  have : c = 44 ∨ c = 40 ∨ c = 41 ∨ c = 58 := by simpa [markB] using hm
  unfold kindI; rw [if_neg (by omega), if_pos this]
theorem kindI_letter {c : Int} (hm : letterB c = true) : kindI c = 3 := by
  have : (97 ≤ c ∧ c ≤ 122) ∨ (65 ≤ c ∧ c ≤ 90) ∨ (48 ≤ c ∧ c ≤ 57) ∨ c = 95 ∨ c = 46 ∨ c = 45 := by simpa only [letterB, decide_eq_true_eq] using hm
  unfold kindI; rw [if_neg (by omega), if_neg (by omega), if_pos this]
theorem kindI_not {c : Int} (hm : letterB c = false) : ¬ kindI c = 3 := by
  have : ¬ ((97 ≤ c ∧ c ≤ 122) ∨ (65 ≤ c ∧ c ≤ 90) ∨ (48 ≤ c ∧ c ≤ 57) ∨ c = 95 ∨ c = 46 ∨ c = 45) := by simpa only [letterB, decide_eq_false_iff_not] using hm
  unfold kindI; rw [if_neg this]; (repeat' split) <;> omega
theorem kindI_none {c : Int} (h1 : letterB c = false) (h2 : markB c = false) (h3 : ¬ c = 35) (h4 : ¬ c = 32) (h5 : ¬ c = 9) : kindI c = 0 := by
  have a : ¬ ((97 ≤ c ∧ c ≤ 122) ∨ (65 ≤ c ∧ c ≤ 90) ∨ (48 ≤ c ∧ c ≤ 57) ∨ c = 95 ∨ c = 46 ∨ c = 45) := by simpa only [letterB, decide_eq_false_iff_not] using h1
  have b : ¬ (c = 44 ∨ c = 40 ∨ c = 41 ∨ c = 58) := by simpa only [markB, decide_eq_false_iff_not] using h2
  unfold kindI; rw [if_neg (by omega), if_neg b, if_neg a, if_neg h3]
theorem pcs_mark (hm : markB (s[k].toNat : Int) = true) : pcs ((bs s).drop k) [] out = pcs ((bs s).drop (k + 1)) [] (out ++ [[s[k]]]) := by
  rw [drop_at s k h, pcs, kindI_mark hm]; simp [flush]
theorem pcs_bad (h1 : letterB (s[k].toNat : Int) = false) (h2 : markB (s[k].toNat : Int) = false) (h3 : ¬ (s[k].toNat : Int) = 35) (h4 : ¬ (s[k].toNat : Int) = 32) (h5 : ¬ (s[k].toNat : Int) = 9) :
    pcs ((bs s).drop k) [] out = none := by
  rw [drop_at s k h, pcs, kindI_none h1 h2 h3 h4 h5]; rfl
/-- From i to k there are signs of a piece alone. -/
def Run (s : ByteArray) (i k : Nat) (out : List Bytes) (r : Option (List Bytes)) : Prop := i ≤ k ∧ k ≤ s.size ∧ pcs ((bs s).drop k) (((bs s).take k).drop i) out = r
theorem Run.start (hk : k ≤ s.size) {r : Option (List Bytes)} (hr : pcs ((bs s).drop k) [] out = r) : Run s k k out r :=
  ⟨Nat.le_refl _, hk, by
    have e : ((bs s).take k).drop k = [] := List.drop_eq_nil_of_le (by rw [List.length_take]; omega)
    rw [e]; exact hr⟩
theorem slice_snoc (s : ByteArray) (i k : Nat) (hi : i ≤ k) (h : k < s.size) : ((bs s).take (k + 1)).drop i = ((bs s).take k).drop i ++ [s[k]] := by
  rw [take_snoc s k h, List.drop_append_of_le_length]
  rw [List.length_take, bs_length]; omega
theorem Run.more {i : Nat} {r : Option (List Bytes)} (hR : Run s i k out r) (hm : letterB (s[k].toNat : Int) = true) : Run s i (k + 1) out r := by
  obtain ⟨h1, h2, h3⟩ := hR
  refine ⟨by omega, by omega, ?_⟩
  rw [slice_snoc s i k h1 h]
  rw [drop_at s k h, pcs, kindI_letter hm, if_pos rfl] at h3
  exact h3
end
theorem Run.stop {s : ByteArray} {i k : Nat} {out : List Bytes} {r : Option (List Bytes)} (hR : Run s i k out r) (hik : i < k) (hm : ∀ h : k < s.size, letterB (s[k].toNat : Int) = false) :
    pcs ((bs s).drop k) [] (out ++ [bs (s.extract i k)]) = r := by
  obtain ⟨h1, h2, h3⟩ := hR
  have hne : ¬ ((bs s).take k).drop i = [] := by
    intro e
    have := congrArg List.length e
    rw [List.length_drop, List.length_take, bs_length] at this
    simp at this
    omega
  have hf : flush (((bs s).take k).drop i) out = out ++ [bs (s.extract i k)] := by
    rw [bs_extract, flush, if_neg hne]
  by_cases h : k < s.size
  · rw [drop_at s k h, pcs_flush _ _ _ _ (kindI_not (hm h)), hf, ← drop_at s k h] at h3
    exact h3
  · rw [drop_end s k (by omega), pcs_nil, hf] at h3
    rw [drop_end s k (by omega)]; exact h3

/-- What asm.Pieces leaves. -/
inductive PiecesPost (l : Bytes) (w w' : World) : Ending → Prop
  | bad (h : pieces l = none) (hb : Below w.heap.size w w') : PiecesPost l w w' (.returned (.tuple #[.slice none 0 0, .int .i64 1]))
  | good (out : List Bytes) (v : Value) (h : pieces l = some out) (hl : out.length ≤ l.length) (ho : w'.ownsRow w.heap.size 9 1 v out.length (strs out)) (hb : Below w.heap.size w w') : PiecesPost l w w' (.returned (.tuple #[v, .int .i64 0]))

end Go.Proofs.YtceelkmedfoefaaDoor
