import Derived.Test.YtceelkmedfoefaaDoorA13
set_option linter.unusedVariables false
set_option linter.unusedSimpArgs false
/-! A line's item, of its pieces. -/
namespace Go.Proofs.YtceelkmedfoefaaDoor
open Go.RowKit

def fillAll : AItem → Bytes → List Bytes → Option AItem
  | x, [], _ => some x
  | x, c :: cs, s :: ss => if fillOk (c.toNat : Int) s = true then fillAll (fillX x (c.toNat : Int) s) cs ss else none
  | _, _ :: _, [] => none
def zeroX : AItem := ⟨0, 0, 0, 0, 0, 0, [], 0, false, false⟩
def wordB : Bytes := [46, 119, 111, 114, 100]
/-- The item of pieces; none: they are none's. -/
def readO (p : List Bytes) : Option AItem :=
  if p.length = 2 ∧ p.getD 0 [] = wordB then (if numOk (p.getD 1 []) = true then some { zeroX with word := numV (p.getD 1 []), raw := true, has := true } else none)
  else if opE (p.getD 0 []) = 0 ∧ opI (p.getD 0 []) ≠ 0 ∧ p.length = 1 + (shapeL (opI (p.getD 0 []))).length then
    match fillAll { zeroX with op := opI (p.getD 0 []), has := true } (shapeL (opI (p.getD 0 []))) (p.drop 1) with
    | none => none
    | some x => if upOk x = true then some (upX x) else none
  else none
def itemV (x : AItem) : Value := .agg (ICells x)
theorem sv_ex (l : Bytes) : ∃ s : ByteArray, SV l = .string s ∧ bs s = l := ⟨⟨l.toArray⟩, rfl, by simp [bs]⟩
/-- What asm.read leaves. -/
structure ReadPost (p : List Bytes) (w w' : World) (e : Ending) : Prop where
  ret : ∃ x ok, e = .returned (.tuple #[itemV x, .bool ok]) ∧ (ok = true → readO p = some x) ∧ (ok = false → readO p = none)
  below : Below w.heap.size w w'
/-- Cells that hold strings, from a place on. -/
structure StrAt (w : World) (b off : Nat) (p : List Bytes) : Prop where
  cell : ∀ j, j < p.length → w.cell? ⟨b, off + j, none⟩ = some (SV (p.getD j []))
  lt : p = [] ∨ b < w.heap.size
theorem StrAt.below {w w' : World} {b off B : Nat} {p : List Bytes} (h : StrAt w b off p) (hb : Below B w w') (hB : b < B) : StrAt w' b off p :=
  ⟨fun j hj => (hb.cell (p := ⟨b, off + j, none⟩) hB).trans (h.cell j hj), by rcases h.lt with e | e; exact .inl e; exact .inr (Nat.lt_of_lt_of_le e hb.size)⟩
theorem StrAt.drop {w : World} {b off : Nat} {p : List Bytes} (h : StrAt w b off p) (k : Nat) : StrAt w b (off + k) (p.drop k) :=
  ⟨fun j hj => by
    rw [List.length_drop] at hj
    have := h.cell (k + j) (by omega)
    rw [show off + k + j = off + (k + j) by omega, this]
    simp [List.getD_eq_getElem?_getD],
   by rcases h.lt with e | e; exact .inl (by rw [e]; simp); exact .inr e⟩

end Go.Proofs.YtceelkmedfoefaaDoor
