import Derived.Test.YtceelkmedfoefaaDoorL12
import Derived.Test.YtceelkmedfoefaaDoorL8
/-! A program's words, from its lines. -/
set_option linter.unusedVariables false
set_option linter.unusedSimpArgs false
namespace Go.Proofs.YtceelkmedfoefaaDoor
open Go.RowKit Go.Maps Go.WideMaps

def st0 : RSt := ⟨[], [], []⟩
/-- Lines are read one after another: what is wrong, in which line; the state behind them. -/
def runL : RSt → Int → List Bytes → Int × Int × RSt
  | st, n, [] => (0, 0, st)
  | st, n, l :: ls => if (stepL st n l).1 = 0 then runL (stepL st n l).2 (n + 1) ls else ((stepL st n l).1, n, st)
/-- The words of items. -/
def wordsL (L : Labels) : Nat → List AItem → List Int → List Int → List Int × Int × Int
  | _, [], _, out => (out, 0, 0)
  | k, x :: xs, ns, out => if (wordX L k x).2 = 0 then wordsL L (k + 1) xs (ns.drop 1) (out ++ [(wordX L k x).1]) else ([], ns.getD 0 0, (wordX L k x).2)
def endL (r : Int × Int × RSt) : List Int × Int × Int :=
  if r.1 = 0 then wordsL r.2.2.labels 0 r.2.2.items r.2.2.lines [] else ([], r.2.1, r.1)
/-- A text's words; the line that is wrong, and why. -/
def programR (l : Bytes) : List Int × Int × Int := if 65536 < l.length then ([], 0, 3) else endL (runL st0 1 (linesL l))

structure SInv (st : RSt) (N : Nat) : Prop where
  items : st.items.length ≤ 4096
  lines : st.lines.length = st.items.length
  labels : st.labels.length ≤ N
  at_ : ∀ p ∈ st.labels, 0 ≤ p.2 ∧ p.2 ≤ 16384
  imm : ∀ x ∈ st.items, (0 ≤ x.imm ∧ x.imm < 4294967296) ∧ x.label.length ≤ 65536
theorem SInv.zero (N : Nat) : SInv st0 N := ⟨by simp [st0], rfl, by simp [st0], by simp [st0], by simp [st0]⟩

theorem fillAll_label (M : Nat) : ∀ (want : Bytes) (p : List Bytes) (x y : AItem), x.label.length ≤ M → (∀ q ∈ p, q.length ≤ M) → fillAll x want p = some y → y.label.length ≤ M
  | [], p, x, y, h, hp, e => by rw [fillAll] at e; cases e; exact h
  | c :: cs, [], x, y, h, hp, e => by rw [fillAll] at e; cases e
  | c :: cs, s :: ss, x, y, h, hp, e => by
    rw [fillAll] at e
    split at e
    · refine fillAll_label M cs ss _ y ?_ (fun q hq => hp q (by simp [hq])) e
      have h2 := hp s (by simp)
      unfold fillX
      (repeat' split) <;> first | exact h | exact h2
    · cases e
theorem readO_label {M : Nat} {p : List Bytes} {x : AItem} (hp : ∀ q ∈ p, q.length ≤ M) (h : readO p = some x) : x.label.length ≤ M := by
  unfold readO at h
  split at h
  · split at h
    · cases h; simp [zeroX]
    · cases h
  · split at h
    · split at h
      · cases h
      · rename_i y hy
        have h2 := fillAll_label M _ _ _ _ (by simp [zeroX]) (fun q hq => hp q (List.mem_of_mem_drop hq)) hy
        split at h
        · cases h
          unfold upX
          split
          · exact h2
          · exact h2
        · cases h
    · cases h
theorem pieces_mem {l : Bytes} {out : List Bytes} (h : pieces l = some out) : ∀ q ∈ out, q.length ≤ l.length :=
  pcs_len l [] [] out h (by simp) (by simp)
theorem SInv.body {st : RSt} {N : Nat} {n : Int} {p : List Bytes} (h : SInv st N) (hp : ∀ q ∈ p, q.length ≤ 65536) : SInv (bodyL st n p).2 N := by
  unfold bodyL
  split
  · exact h
  · split
    · exact h
    · rename_i x hx
      split
      · exact h
      · have h1 := readO_imm hx
        have h2 := readO_label hp hx
        have h3 := h.lines
        exact ⟨by simp; omega, by simp [h3], h.labels, h.at_, fun y hy => by
          rcases List.mem_append.1 hy with hy | hy
          · exact h.imm y hy
          · simp at hy; rw [hy]; exact ⟨h1, h2⟩⟩
theorem SInv.more {st : RSt} {N : Nat} (h : SInv st N) : SInv st (N + 1) := ⟨h.items, h.lines, by have := h.labels; omega, h.at_, h.imm⟩
theorem SInv.step {st : RSt} {N : Nat} {n : Int} {l : Bytes} (h : SInv st N) (hl : l.length ≤ 65536) : SInv (stepL st n l).2 (N + 1) := by
  unfold stepL
  split
  · exact h.more
  · rename_i p hp
    have hq : ∀ q ∈ p, q.length ≤ 65536 := fun q hq => by have := pieces_mem hp q hq; omega
    unfold piecesL
    split
    · split
      · exact h.more
      · refine SInv.body ?_ (fun q h => hq q (List.mem_of_mem_drop h))
        have h1 := h.labels
        have h2 := h.items
        exact ⟨h.items, h.lines, by simp; omega, fun q hq => by
          rcases List.mem_append.1 hq with hq | hq
          · exact h.at_ q hq
          · simp at hq; rw [hq]; simp; omega, h.imm⟩
    · exact h.more.body hq
theorem labV_range {L : Labels} (h : ∀ p ∈ L, 0 ≤ p.2 ∧ p.2 ≤ 16384) (k : Bytes) : 0 ≤ labV L k ∧ labV L k ≤ 16384 := by
  revert h
  refine labD_rec (P := fun L => (∀ p ∈ L, 0 ≤ p.2 ∧ p.2 ≤ 16384) → 0 ≤ labV L k ∧ labV L k ≤ 16384) ?_ ?_ L
  · intro _; simp [labV]
  · intro L p ih h
    rw [labV_snoc]
    split
    · exact h p (by simp)
    · exact ih (fun q hq => h q (by simp [hq]))
theorem linesL_len (l : Bytes) : ∀ n : Nat, l.length ≤ n → (linesL l).length ≤ n := by
  intro n
  induction n generalizing l with
  | zero => intro h; rw [List.eq_nil_of_length_eq_zero (l := l) (by omega), linesL_nil]; simp
  | succ n ih =>
    intro h
    by_cases e : l = []
    · subst e; rw [linesL_nil]; simp
    · rw [linesL_cons e]
      have := (cutNl_len l).2 e
      have := ih (cutNl l).2 (by omega)
      simp; omega
theorem runL_cons {st : RSt} {n : Int} {l : Bytes} (h : l ≠ []) (hs : (stepL st n (cutNl l).1).1 = 0) : runL st n (linesL l) = runL (stepL st n (cutNl l).1).2 (n + 1) (linesL (cutNl l).2) := by
  rw [linesL_cons h, runL, if_pos hs]
theorem runL_bad {st : RSt} {n : Int} {l : Bytes} (h : l ≠ []) (hs : ¬ (stepL st n (cutNl l).1).1 = 0) : runL st n (linesL l) = ((stepL st n (cutNl l).1).1, n, st) := by
  rw [linesL_cons h, runL, if_neg hs]
def wvals (l : List Int) : List Value := l.map (fun n => .int .u32 n)
theorem wvals_snoc (l : List Int) (n : Int) : wvals (l ++ [n]) = wvals l ++ [.int .u32 n] := by simp [wvals]
theorem wordsL_good {L : Labels} {k : Nat} {x : AItem} {xs : List AItem} {ns out : List Int} (h : (wordX L k x).2 = 0) : wordsL L k (x :: xs) ns out = wordsL L (k + 1) xs (ns.drop 1) (out ++ [(wordX L k x).1]) := by
  rw [wordsL, if_pos h]
theorem wordsL_bad {L : Labels} {k : Nat} {x : AItem} {xs : List AItem} {ns out : List Int} (h : ¬ (wordX L k x).2 = 0) : wordsL L k (x :: xs) ns out = ([], ns.getD 0 0, (wordX L k x).2) := by
  rw [wordsL, if_neg h]

/-- What asm.Program leaves. -/
structure ProgPost (B : Nat) (r : List Int × Int × Int) (w w' : World) (e : Ending) : Prop where
  ret : ∃ v, e = .returned (.tuple #[v, .int .i64 r.2.1, .int .i64 r.2.2]) ∧ w'.ownsRow B 29 1 v r.1.length (wvals r.1)
  below : Below B w w'

end Go.Proofs.YtceelkmedfoefaaDoor
