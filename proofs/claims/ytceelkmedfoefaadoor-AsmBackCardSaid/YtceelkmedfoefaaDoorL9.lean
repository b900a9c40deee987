import Derived.Test.YtceelkmedfoefaaDoorL7
import Derived.Test.YtceelkmedfoefaaDoorA8
import Derived.Maps.OwnSet
import Derived.Maps.Views
import Derived.StringKeys
/-! A reader's state, and a line that is read into it. -/
set_option linter.unusedVariables false
set_option linter.unusedSimpArgs false
namespace Go.Proofs.YtceelkmedfoefaaDoor
open Go.RowKit Go.Maps Go.WideMaps

/-- Labels, in the order in which they came. -/
abbrev Labels := List (Bytes × Int)
def lit3 (n : Int) : DataW Unit := .lit (.int .i64 n)
def labD (L : Labels) : DataW Unit := L.foldl (fun D p => D.put (.string p.1) (lit3 p.2)) (.map [])
def labHas (L : Labels) (k : Bytes) : Bool := L.any (fun p => decide (p.1 = k))
def labV (L : Labels) (k : Bytes) : Int := L.foldl (fun v p => if p.1 = k then p.2 else v) 0
theorem labD_snoc (L : Labels) (p : Bytes × Int) : labD (L ++ [p]) = (labD L).put (.string p.1) (lit3 p.2) := by simp [labD]
theorem labV_snoc (L : Labels) (p : Bytes × Int) (k : Bytes) : labV (L ++ [p]) k = if p.1 = k then p.2 else labV L k := by simp [labV]
theorem labHas_snoc (L : Labels) (p : Bytes × Int) (k : Bytes) : labHas (L ++ [p]) k = (labHas L k || decide (p.1 = k)) := by simp [labHas]
theorem law9 : Keyed Tryd.prog 9 := string_keyed Tryd.underlying9
theorem zero3 (w : World) : (zeroValue 3).run Tryd.prog w = .ok (.int .i64 0) w := by kernel_rfl
theorem keyLit (k : Bytes) (hk : k.length ≤ maxLen) : WideAt.IsKeyLit (.string k) :=
  law9.key (v := .string ⟨k.toArray⟩) (l := .string k) (by
    have := keyOf_string_mk (P := Tryd.prog) Tryd.underlying9 (s := ⟨k.toArray⟩) (by simpa [ByteArray.size] using hk)
    simpa using this)
theorem labD_rec {P : Labels → Prop} (h0 : P []) (hs : ∀ L p, P L → P (L ++ [p])) (L : Labels) : P L := by
  have : ∀ n, ∀ L : Labels, L.length = n → P L := by
    intro n
    induction n with
    | zero => intro L hL; rw [List.eq_nil_of_length_eq_zero hL]; exact h0
    | succ n ih =>
      intro L hL
      have hne : L ≠ [] := by intro e; rw [e] at hL; simp at hL
      rw [← List.dropLast_concat_getLast hne]
      exact hs _ _ (ih _ (by rw [List.length_dropLast, hL]; rfl))
  exact this _ L rfl
theorem labD_isMap (L : Labels) : IsMap (labD L) := by
  refine labD_rec (P := fun L => IsMap (labD L)) isMap_empty ?_ L
  intro L p h; rw [labD_snoc]; exact h.put _ _
theorem labD_has (L : Labels) (k : Bytes) : (∀ p ∈ L, p.1.length ≤ maxLen) → Maps.has (labD L) (.string k) = labHas L k := by
  refine labD_rec (P := fun L => (∀ p ∈ L, p.1.length ≤ maxLen) → Maps.has (labD L) (.string k) = labHas L k) ?_ ?_ L
  · intro _; rfl
  · intro L p h hp
    rw [labD_snoc, labHas_snoc]
    by_cases e : p.1 = k
    · rw [← e, has_put_same (labD_isMap L) (keyLit _ (hp p (by simp)))]; simp
    · rw [has_put_other (by simpa using fun h => e h.symm), h (fun q hq => hp q (by simp [hq]))]; simp [e]
theorem labD_at (L : Labels) (k : Bytes) : (∀ p ∈ L, p.1.length ≤ maxLen) → (labD L).atKey (.string k) (lit3 0) = lit3 (labV L k) := by
  refine labD_rec (P := fun L => (∀ p ∈ L, p.1.length ≤ maxLen) → (labD L).atKey (.string k) (lit3 0) = lit3 (labV L k)) ?_ ?_ L
  · intro _; rfl
  · intro L p h hp
    rw [labD_snoc, labV_snoc]
    by_cases e : p.1 = k
    · rw [← e, atKey_put_same (labD_isMap L) (keyLit _ (hp p (by simp))), if_pos rfl]
    · rw [atKey_put_other (by simpa using fun h => e h.symm), h (fun q hq => hp q (by simp [hq])), if_neg e]

/-- A reader's state. -/
structure RSt where
  items : List AItem
  lines : List Int
  labels : Labels
def icells (l : List AItem) : List Value := l.flatMap (fun x => (ICells x).toList)
theorem icells_snoc (l : List AItem) (x : AItem) : icells (l ++ [x]) = icells l ++ (ICells x).toList := by simp [icells]
theorem icells_len (l : List AItem) : (icells l).length = l.length * 10 := by
  induction l with
  | nil => rfl
  | cons x l ih => simp only [icells, List.flatMap_cons, List.length_append, List.length_cons] at ih ⊢; rw [ih]; simp [ICells]; omega
def lvals (l : List Int) : List Value := l.map (fun n => .int .i64 n)
theorem lvals_snoc (l : List Int) (n : Int) : lvals (l ++ [n]) = lvals l ++ [.int .i64 n] := by simp [lvals]
structure RdSt (w : World) (B rb mb : Nat) (vi vl : Value) (st : RSt) : Prop where
  blk : Blk w rb #[vi, vl, .map (some mb)] 70
  items : w.ownsRow B 58 10 vi st.items.length (icells st.items)
  lines : w.ownsRow B 3 1 vl st.items.length (lvals st.lines)
  map : w.ownsMap Tryd.prog 9 (plainElem Tryd.prog 3) mb st.labels.length (labD st.labels)
  keys : ∀ p ∈ st.labels, p.1.length ≤ maxLen
  rlt : rb < B
  mlt : mb < B
  ne : rb ≠ mb
  apart : vl.ownBlock = none ∨ vl.ownBlock ≠ vi.ownBlock
  base : B ≤ w.heap.size
theorem grown_of_below {w w' : World} (h : Below w.heap.size w w') : w.grownBy w' none :=
  ⟨h.os, h.tape, h.output, h.size, fun i hi _ => h.block i hi⟩
theorem RdSt.below {w w' : World} {B rb mb : Nat} {vi vl : Value} {st : RSt} (h : RdSt w B rb mb vi vl st) (hb : Below w.heap.size w w') : RdSt w' B rb mb vi vl st where
  blk := h.blk.below hb h.blk.lt
  items := h.items.kept (grown_of_below hb) (by cases vi.ownBlock <;> simp)
  lines := h.lines.kept (grown_of_below hb) (by cases vl.ownBlock <;> simp)
  map := h.map.kept (grown_of_below hb) (by simp)
  keys := h.keys
  rlt := h.rlt
  mlt := h.mlt
  ne := h.ne
  apart := h.apart
  base := Nat.le_trans h.base hb.size
theorem RdSt.drew {w : World} {B rb mb : Nat} {vi vl : Value} {st : RSt} (h : RdSt w B rb mb vi vl st) : RdSt w.drew B rb mb vi vl st :=
  h.below (Below.refl _ _).drew
/-- A line, behind its label. -/
def bodyL (st : RSt) (n : Int) (p : List Bytes) : Int × RSt :=
  if p = [] then (0, st) else match readO p with
  | none => (1, st)
  | some x => if 4096 ≤ st.items.length then (3, st) else (0, ⟨st.items ++ [x], st.lines ++ [n], st.labels⟩)
def piecesL (st : RSt) (n : Int) (p : List Bytes) : Int × RSt :=
  if 2 ≤ p.length ∧ p.getD 1 [] = [58] then
    if labHas st.labels (p.getD 0 []) = true ∨ nameB (p.getD 0 []) = false then (1, st) else bodyL ⟨st.items, st.lines, st.labels ++ [(p.getD 0 [], 4 * (st.items.length : Int))]⟩ n (p.drop 2)
  else bodyL st n p
def stepL (st : RSt) (n : Int) (l : Bytes) : Int × RSt :=
  match pieces l with
  | none => (1, st)
  | some p => piecesL st n p
theorem flush_len {M : Nat} {piece : Bytes} {out : List Bytes} (ho : ∀ q ∈ out, q.length ≤ M) (hp : piece.length ≤ M) : ∀ q ∈ flush piece out, q.length ≤ M := by
  unfold flush
  split
  · exact ho
  · intro q hq
    rcases List.mem_append.1 hq with h | h
    · exact ho q h
    · simp at h; rw [h]; exact hp
theorem pcs_len {M : Nat} : ∀ (l piece : Bytes) (out r : List Bytes), pcs l piece out = some r → (∀ q ∈ out, q.length ≤ M) → piece.length + l.length ≤ M → ∀ q ∈ r, q.length ≤ M
  | [], piece, out, r, h, ho, hl => by
    rw [pcs] at h; cases h
    exact flush_len ho (by simpa using hl)
  | c :: l, piece, out, r, h, ho, hl => by
    simp only [List.length_cons] at hl
    rw [pcs] at h
    split at h
    · exact pcs_len l _ _ r h ho (by simp; omega)
    · split at h
      · cases h
      · split at h
        · cases h
          exact flush_len ho (by omega)
        · split at h
          · refine pcs_len l _ _ r h (fun q hq => ?_) (by simp; omega)
            rcases List.mem_append.1 hq with h2 | h2
            · exact flush_len ho (by omega) q h2
            · simp at h2; rw [h2]; simp; omega
          · exact pcs_len l _ _ r h (flush_len ho (by omega)) (by simp; omega)
theorem pieces_len {l : Bytes} {out : List Bytes} (h : pieces l = some out) (k : Nat) : (out.getD k []).length ≤ l.length := by
  rw [List.getD_eq_getElem?_getD]
  cases e : out[k]? with
  | none => simp
  | some q => exact pcs_len l [] [] out h (by simp) (by simp) q (List.mem_of_getElem? e)
theorem own_form {w : World} {base : Nat} {e : TypeId} {size : Nat} {v : Value} {n : Nat} {xs : List Value} (h : w.ownsRow base e size v n xs) : ∃ a cap, v = .slice a n cap := by
  rcases h.2 with ⟨rfl, rfl⟩ | ⟨g, cap, cur, rfl, _⟩
  · exact ⟨none, 0, rfl⟩
  · exact ⟨_, cap, rfl⟩
/-- What stands behind (*reader).line: what is wrong; the reader's state, where nothing is. -/
structure RLinePost (B0 B rb mb : Nat) (r : Int × RSt) (w w' : World) (e : Ending) : Prop where
  ret : e = .returned (.int .i64 r.1)
  below : Below B0 w w'
  st : r.1 = 0 → ∃ vi vl, RdSt w' B rb mb vi vl r.2

end Go.Proofs.YtceelkmedfoefaaDoor
