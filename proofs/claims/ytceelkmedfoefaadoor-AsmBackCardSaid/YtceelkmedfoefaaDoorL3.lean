import Derived.Test.YtceelkmedfoefaaDoorL2
/-! The three tables, as the program's text lays them, and the world that holds them. -/
set_option linter.unusedVariables false
set_option linter.unusedSimpArgs false
namespace Go.Proofs.YtceelkmedfoefaaDoor
open Go.RowKit

def nameList : List Bytes := [[105, 108, 108, 101, 103, 97, 108], [108, 117, 105], [97, 117, 105, 112, 99], [106, 97, 108], [106, 97, 108, 114], [98, 101, 113], [98, 110, 101], [98, 108, 116], [98, 103, 101], [98, 108, 116, 117], [98, 103, 101, 117], [108, 98], [108, 104], [108, 119], [108, 98, 117], [108, 104, 117], [115, 98], [115, 104], [115, 119], [97, 100, 100, 105], [115, 108, 116, 105], [115, 108, 116, 105, 117], [120, 111, 114, 105], [111, 114, 105], [97, 110, 100, 105], [115, 108, 108, 105], [115, 114, 108, 105], [115, 114, 97, 105], [97, 100, 100], [115, 117, 98], [115, 108, 108], [115, 108, 116], [115, 108, 116, 117], [120, 111, 114], [115, 114, 108], [115, 114, 97], [111, 114], [97, 110, 100], [102, 101, 110, 99, 101], [102, 101, 110, 99, 101, 46, 105], [101, 99, 97, 108, 108], [101, 98, 114, 101, 97, 107], [99, 115, 114, 114, 119], [99, 115, 114, 114, 115], [99, 115, 114, 114, 99], [99, 115, 114, 114, 119, 105], [99, 115, 114, 114, 115, 105], [99, 115, 114, 114, 99, 105], [109, 114, 101, 116], [119, 102, 105], [109, 117, 108], [109, 117, 108, 104], [109, 117, 108, 104, 115, 117], [109, 117, 108, 104, 117], [100, 105, 118], [100, 105, 118, 117], [114, 101, 109], [114, 101, 109, 117]]
def formList : List Int := [0, 1, 1, 2, 3, 4, 4, 4, 4, 4, 4, 3, 3, 3, 3, 3, 5, 5, 5, 3, 3, 3, 3, 3, 3, 7, 7, 7, 6, 6, 6, 6, 6, 6, 6, 6, 6, 6, 3, 3, 0, 0, 8, 8, 8, 9, 9, 9, 0, 0, 6, 6, 6, 6, 6, 6, 6, 6]
def matchList : List Int := [0, 55, 23, 111, 103, 99, 4195, 16483, 20579, 24675, 28771, 3, 4099, 8195, 16387, 20483, 35, 4131, 8227, 19, 8211, 12307, 16403, 24595, 28691, 4115, 20499, 1073762323, 51, 1073741875, 4147, 8243, 12339, 16435, 20531, 1073762355, 24627, 28723, 15, 4111, 115, 1048691, 4211, 8307, 12403, 20595, 24691, 28787, 807403635, 273678451, 33554483, 33558579, 33562675, 33566771, 33570867, 33574963, 33579059, 33583155]
def nameL (k : Nat) : Bytes := nameList.getD k []
def formI (k : Nat) : Int := formList.getD k 0
def matchI (k : Nat) : Int := matchList.getD k 0

/-- The tables lie where they lay. -/
structure Env (w : World) : Prop where
  size : 4 ≤ w.heap.size
  names : ∀ k, k < 58 → w.cell? ⟨0, k, none⟩ = some (SV (nameL k))
  forms : ∀ k, k < 58 → w.cell? ⟨1, k, none⟩ = some (.int .i64 (formI k))
  words : ∀ k, k < 58 → w.cell? ⟨3, k, none⟩ = some (.int .u32 (matchI k))
theorem Env.below {w w' : World} (h : Env w) (hb : Below w.heap.size w w') : Env w' := by
  have hs := h.size
  exact ⟨by have := hb.size; omega, fun k hk => (hb.cell (p := ⟨0, k, none⟩) (by simp; omega)).trans (h.names k hk), fun k hk => (hb.cell (p := ⟨1, k, none⟩) (by simp; omega)).trans (h.forms k hk),
    fun k hk => (hb.cell (p := ⟨3, k, none⟩) (by simp; omega)).trans (h.words k hk)⟩
theorem Env.below4 {w w' : World} {B : Nat} (h : Env w) (hB : 4 ≤ B) (hb : Below B w w') : Env w' := by
  have hs := h.size
  exact ⟨by have := hb.size; omega, fun k hk => (hb.cell (p := ⟨0, k, none⟩) (by simp; omega)).trans (h.names k hk), fun k hk => (hb.cell (p := ⟨1, k, none⟩) (by simp; omega)).trans (h.forms k hk),
    fun k hk => (hb.cell (p := ⟨3, k, none⟩) (by simp; omega)).trans (h.words k hk)⟩
theorem Env.alloc {w : World} (h : Env w) (o : Obj) : Env (w.alloc o) := h.below ((Below.refl _ _).alloc (Nat.le_refl _) o)

/-- A name's number: 0 if it is none's. -/
def opN (l : Bytes) : Nat := if nameList.idxOf l < 58 then nameList.idxOf l else 0
def opI (l : Bytes) : Int := (opN l : Int)
/-- What inst.Op tells beside it: 8 for none. -/
def opE (l : Bytes) : Int := if nameList.idxOf l < 58 then 0 else 8
theorem nameList_length : nameList.length = 58 := by decide
theorem names_idx : ∀ k, k < 58 → nameList.idxOf (nameL k) = k := by decide +kernel
theorem idx_hit {k : Nat} {l : Bytes} (hk : k < 58) (h : nameL k = l) : nameList.idxOf l = k := by subst h; exact names_idx k hk
theorem idx_at {l : Bytes} (h : nameList.idxOf l < 58) : nameL (nameList.idxOf l) = l := by
  unfold nameL
  have h2 : nameList.idxOf l < nameList.length := by rw [nameList_length]; exact h
  rw [List.getD_eq_getElem?_getD, List.getElem?_eq_getElem h2, Option.getD_some]
  exact List.getElem_idxOf h2
theorem idx_none {l : Bytes} (h : ∀ j, j < 58 → ¬ nameL j = l) : ¬ nameList.idxOf l < 58 := fun hl => h _ hl (idx_at hl)
theorem opI_hit {k : Nat} {l : Bytes} (hk : k < 58) (h : nameL k = l) : opI l = k := by unfold opI opN; rw [idx_hit hk h, if_pos hk]
theorem opE_hit {k : Nat} {l : Bytes} (hk : k < 58) (h : nameL k = l) : opE l = 0 := by unfold opE; rw [idx_hit hk h, if_pos hk]
theorem opI_none {l : Bytes} (h : ∀ j, j < 58 → ¬ nameL j = l) : opI l = 0 := by unfold opI opN; rw [if_neg (idx_none h)]; rfl
theorem opE_none {l : Bytes} (h : ∀ j, j < 58 → ¬ nameL j = l) : opE l = 8 := by unfold opE; rw [if_neg (idx_none h)]
theorem opN_lt (l : Bytes) : opN l < 58 := by unfold opN; split <;> omega
theorem opI_range (l : Bytes) : 0 ≤ opI l ∧ opI l < 58 := by unfold opI; have := opN_lt l; omega

end Go.Proofs.YtceelkmedfoefaaDoor
