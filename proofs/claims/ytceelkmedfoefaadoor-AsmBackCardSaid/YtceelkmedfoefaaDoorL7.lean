import Derived.Test.YtceelkmedfoefaaDoorL6
import Derived.Test.YtceelkmedfoefaaDoorA18
/-! A line's instruction. -/
set_option linter.unusedVariables false
set_option linter.unusedSimpArgs false
namespace Go.Proofs.YtceelkmedfoefaaDoor
open Go.RowKit

theorem formP_range (n : Int) : 0 ≤ formP n ∧ formP n ≤ 9 := by unfold formP; (repeat' split) <;> omega
/-- Is an instruction right? -/
def rightB (x : NI) : Bool := decide (0 ≤ x.op ∧ x.op < 58) && decide (onlyX x (formP x.op) = x) && regB x.rd && regB x.rs1 && regB x.rs2 && immB x.imm (formP x.op) && decide (0 ≤ x.csr ∧ x.csr ≤ 4095)
def zeroN : NI := ⟨0, 0, 0, 0, 0, 0⟩
def niOf (x : AItem) : NI := ⟨x.op, x.rd, x.rs1, x.rs2, x.imm, x.csr⟩
/-- A line's instruction, of its pieces; what is wrong with it beside: 1 its form, 9 it is not right. -/
def lineP (p : List Bytes) : NI × Int :=
  match readO p with
  | none => (zeroN, 1)
  | some x => if x.raw = true ∨ x.label ≠ [] then (zeroN, 1) else if rightB (niOf x) = true then (niOf x, 0) else (zeroN, 9)
def lineR (l : Bytes) : NI × Int :=
  match pieces l with
  | none => (zeroN, 1)
  | some p => if p = [] then (zeroN, 1) else lineP p

theorem fillAll_imm : ∀ (want : Bytes) (p : List Bytes) (x y : AItem), (0 ≤ x.imm ∧ x.imm < 4294967296) → fillAll x want p = some y → 0 ≤ y.imm ∧ y.imm < 4294967296
  | [], p, x, y, h, e => by rw [fillAll] at e; cases e; exact h
  | c :: cs, [], x, y, h, e => by rw [fillAll] at e; cases e
  | c :: cs, s :: ss, x, y, h, e => by
    rw [fillAll] at e
    split at e
    · refine fillAll_imm cs ss _ y ?_ e
      unfold fillX
      have h2 := numV_range s
      obtain ⟨h3, h4⟩ := h
      (repeat' split) <;> first | exact ⟨h3, h4⟩ | exact h2
    · cases e
theorem readO_imm {p : List Bytes} {x : AItem} (h : readO p = some x) : 0 ≤ x.imm ∧ x.imm < 4294967296 := by
  unfold readO at h
  split at h
  · split at h
    · cases h; simp [zeroX]
    · cases h
  · split at h
    · split at h
      · cases h
      · rename_i y hy
        have h2 := fillAll_imm _ _ _ _ (by simp [zeroX]) hy
        split at h
        · cases h
          unfold upX
          split
          · simp only []; omega
          · exact h2
        · cases h
    · cases h
/-- A row of strings of the call's own, as a slice that is read. -/
theorem own_str {w : World} {base g n cap : Nat} {out : List Bytes} (h : w.ownsRow base 9 1 (.slice (some ⟨g, 0, none⟩) n cap) n (strs out)) : StrAt w g 0 out :=
  ⟨fun j hj => by
    have hc := h.cells (g := g) rfl j (SV (out.getD j [])) (by
      unfold strs
      rw [List.getElem?_map, List.getElem?_eq_getElem hj, List.getD_eq_getElem?_getD, List.getElem?_eq_getElem hj]; rfl)
    have e : (⟨g, 0, none⟩ : Addr).add j = ⟨g, 0 + j, none⟩ := by unfold Addr.add; split <;> simp_all
    rw [← e]; exact hc,
   .inr (h.lt g rfl).2⟩
theorem own_cases {w : World} {base : Nat} {v : Value} {out : List Bytes} (h : w.ownsRow base 9 1 v out.length (strs out)) :
    (v = .slice none 0 0 ∧ out = []) ∨ ∃ g cap, v = .slice (some ⟨g, 0, none⟩) out.length cap ∧ base ≤ g ∧ out.length ≤ cap ∧ StrAt w g 0 out := by
  rcases h.2 with ⟨rfl, h0⟩ | ⟨g, cap, cur, rfl, hb, hg, hnc, _⟩
  · exact .inl ⟨rfl, List.eq_nil_of_length_eq_zero h0⟩
  · exact .inr ⟨g, cap, rfl, hb, hnc, own_str h⟩
section
variable {ops : Array Oper} {rest : List Oper} {o : Oper} {a : Act} {w : World} {Q : Exit → Act → World → Prop}
/-- x := the first six cells of a block: an instruction. -/
theorem ld_ni (hgd : o.guard = none) (x : Operand) (ho : o.op = .load 36 x) (g : Nat) (hx : a.eval x = .pointer (some ⟨g, 0, none⟩)) {y : AItem} {T : TypeId} (hb : Blk w g (ICells y) T)
    (h : wpList Tryd.prog ops Q rest (a.put o.dst (.agg (NC (niOf y)))) w) : wpList Tryd.prog ops Q (o :: rest) a w :=
  wpList_load_mid hgd 36 x ho g 0 hx (NC (niOf y)).toList _ (by
    intro j v hj
    have hj6 : j < 6 := by
      have := (List.getElem?_eq_some_iff.1 hj).1
      simpa [NC] using this
    have : ∀ j, j < 6 → w.cell? ⟨g, j, none⟩ = (NC (niOf y))[j]? := fun j hj => by
      have e : (ICells y)[j]? = (NC (niOf y))[j]? := by
        match j, hj with
        | 0, _ => rfl
        | 1, _ => rfl
        | 2, _ => rfl
        | 3, _ => rfl
        | 4, _ => rfl
        | 5, _ => rfl
      rw [cell_of_row w g j (ICells y) T (0, 0) hb.at_, e]
    rw [Nat.zero_add, this j hj6]; simpa using hj) Tryd.underlying36 rfl (by rw [info36]; rfl) (by simpa using h)
end
theorem nc_one (x : NI) : (NC x).all (·.oneCell') = true := by simp [NC, Value.oneCell']

end Go.Proofs.YtceelkmedfoefaaDoor
