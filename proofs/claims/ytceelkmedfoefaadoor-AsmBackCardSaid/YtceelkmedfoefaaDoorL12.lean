import Derived.Test.YtceelkmedfoefaaDoorL11
import Derived.Test.YtceelkmedfoefaaDoorA23
/-! An item's word. -/
set_option linter.unusedVariables false
set_option linter.unusedSimpArgs false
namespace Go.Proofs.YtceelkmedfoefaaDoor
open Go.RowKit Go.Maps Go.WideMaps

theorem icells_at : ∀ (l : List AItem) (k : Nat) (x : AItem), l[k]? = some x → ∀ (j : Nat) (u : Value), (ICells x).toList[j]? = some u → (icells l)[k * 10 + j]? = some u
  | [], k, x, h, j, u, hu => by simp at h
  | y :: l, 0, x, h, j, u, hu => by
    simp at h; subst h
    have hj := (List.getElem?_eq_some_iff.1 hu).1
    simp only [icells, List.flatMap_cons, Nat.zero_mul, Nat.zero_add]
    rw [List.getElem?_append_left hj]; exact hu
  | y :: l, k + 1, x, h, j, u, hu => by
    have ih := icells_at l k x (by simpa using h) j u hu
    have hl : (ICells y).toList.length = 10 := rfl
    simp only [icells, List.flatMap_cons] at ih ⊢
    rw [List.getElem?_append_right (by omega), hl, show (k + 1) * 10 + j - 10 = k * 10 + j by omega]
    exact ih
theorem item_range {w : World} {B g cap : Nat} {l : List AItem} (h : w.ownsRow B 58 10 (.slice (some ⟨g, 0, none⟩) l.length cap) l.length (icells l)) {k : Nat} {x : AItem} (hk : l[k]? = some x) :
    w.rangeAt g (k * 10) (ICells x).toList := by
  intro j u hu
  have hc := h.cells (g := g) rfl (k * 10 + j) u (icells_at l k x hk j u hu)
  rw [Addr.add_mid] at hc
  simpa using hc
/-- An item's word; what is wrong. -/
def withImm (x : NI) (n : Int) : NI := ⟨x.op, x.rd, x.rs1, x.rs2, n, x.csr⟩
def wordX (L : Labels) (k : Nat) (x : AItem) : Int × Int :=
  if x.raw = true then (x.word, 0)
  else if x.label ≠ [] then
    if labHas L x.label = true then (encV (withImm (niOf x) (IntKind.u32.wrap (labV L x.label - 4 * (k : Int)))), encE (withImm (niOf x) (IntKind.u32.wrap (labV L x.label - 4 * (k : Int))))) else (0, 1)
  else (encV (niOf x), encE (niOf x))

end Go.Proofs.YtceelkmedfoefaaDoor
