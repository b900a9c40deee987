import Derived.Test.YtceelkmedfoefaaDoorRows
import Derived.Test.YtceelkmedfoefaaDoorL3
import Derived.ProofKit
import Derived.LaidMore
import Derived.OpenShut
import Derived.MakeChecks
import Derived.Stop.Joined
/-! From what a row lists to the tables' cells; a world that fits. -/
set_option linter.unusedVariables false
set_option linter.unusedSimpArgs false
namespace Go.Proofs.YtceelkmedfoefaaDoor
open Go.ChangeShapes Go.WideShapes Go.ChangeAt Go.WideMaps Go.WideElems Go.RowKit

theorem ownK : ownKnob Tryd.prog.godebug = none := by kernel_rfl
theorem gNames : Tryd.prog.globalNamed "mimesis/inst.names" = some 0 := by kernel_rfl
theorem gForms : Tryd.prog.globalNamed "mimesis/inst.forms" = some 1 := by kernel_rfl
theorem gWords : Tryd.prog.globalNamed "mimesis/encode.matches" = some 3 := by kernel_rfl
theorem tNames : (Tryd.prog.globals[0]?).map (·.type) = some 104 := by kernel_rfl
theorem tForms : (Tryd.prog.globals[1]?).map (·.type) = some 105 := by kernel_rfl
theorem tWords : (Tryd.prog.globals[3]?).map (·.type) = some 121 := by kernel_rfl
theorem und104 : Tryd.prog.underlying 104 = some (.array 58 9) := by kernel_rfl
theorem und105 : Tryd.prog.underlying 105 = some (.array 58 3) := by kernel_rfl
theorem und121 : Tryd.prog.underlying 121 = some (.array 58 29) := by kernel_rfl
theorem c9 : Tryd.prog.cellsOf 9 = 1 := by kernel_rfl
theorem c3 : Tryd.prog.cellsOf 3 = 1 := by kernel_rfl
theorem c29 : Tryd.prog.cellsOf 29 = 1 := by kernel_rfl
def laid3 : List (String × DataW Unit) := [("mimesis/inst.names", Rows.laid_mimesis_inst_names), ("mimesis/inst.forms", Rows.laid_mimesis_inst_forms), ("mimesis/encode.matches", Rows.laid_mimesis_encode_matches)]
theorem names_data : (Rows.laid_mimesis_inst_names : DataW Unit) = .agg (nameList.map fun b => .lit (.string b)) := by kernel_rfl
theorem forms_data : (Rows.laid_mimesis_inst_forms : DataW Unit) = .agg (formList.map fun n => .lit (.int .i64 n)) := by kernel_rfl
theorem words_data : (Rows.laid_mimesis_encode_matches : DataW Unit) = .agg (matchList.map fun n => .lit (.int .u32 n)) := by kernel_rfl

theorem door_met (os : Os) (args : Array Value) : laidMetH Tryd.prog laid3 ((World.doorLaid Tryd.prog 400 os).forCall (fun _ _ => 0) ⟨#[], args, []⟩).memory :=
  laidMetH_of_parts3 (fuel := 8) (laidMet_of_run' 8 (by kernel_rfl) (by kernel_rfl)) (by kernel_rfl) (by kernel_rfl)

theorem arr_cells {enc : TypeId × Value → Unit} {W : World} {base : Nat} {sp : Nat → Bool} {held : Bool} {fuel : Nat} {t e : TypeId} {cs : List Value} {ds : List (DataW Unit)} {p : List MemPlace} (ht : Tryd.prog.underlying t = some (.array 58 e)) (hc : Tryd.prog.cellsOf e = 1) (h58 : Tryd.prog.cellsOf t = 58)
    (h : DataW.trod enc Tryd.prog W base sp held fuel t cs = some (.agg ds, p)) : ∀ i, i < 58 → ∃ c x m, cs[i]? = some c ∧ ds[i]? = some x.1 ∧ DataW.trod enc Tryd.prog W base sp held m e [c] = some x := by
  obtain ⟨xs, m, rfl, hx, hl, hn, hel⟩ := DataW.trod_array ht h
  intro i hi
  have h1 := hel i hi
  rw [hc] at h1
  have hxi : xs[i]? = some xs[i] := List.getElem?_eq_getElem (by omega)
  rw [hxi] at h1
  simp only [Prod.mk.injEq, DataW.agg.injEq] at hx
  have hds : ds[i]? = some xs[i].1 := by rw [hx.1, List.getElem?_map, hxi]; rfl
  cases hcs : (cs.drop (i * 1)).take 1 with
  | nil =>
    have := congrArg List.length hcs
    simp at this
    omega
  | cons c r =>
    have hr : r = [] := by
      have := congrArg List.length hcs
      simp only [List.length_cons, List.length_take] at this
      exact List.eq_nil_of_length_eq_zero (by omega)
    subst hr
    rw [hcs] at h1
    refine ⟨c, xs[i], m, ?_, hds, h1⟩
    have := congrArg (fun l => l[0]?) hcs
    simpa [List.getElem?_take, List.getElem?_drop] using this

/-- What the condition gives: the tables lie where they lay. -/
theorem heap_of_cell {W : World} {g k : Nat} {v : Value} (h : W.cell? ⟨g, k, none⟩ = some v) : g < W.heap.size := by
  rcases Nat.lt_or_ge g W.heap.size with e | e
  · exact e
  · have : W.heap[g]? = none := Array.getElem?_eq_none e
    simp [World.cell?, this] at h
theorem env_of_laid {W : World} (h : laidMetH Tryd.prog laid3 W) : Env W := by
  rw [MakeChecks.laidMetH_plain _ _ _ (by kernel_rfl)] at h
  obtain ⟨ps, ⟨g0, t0, cs0, f0, p0, q0, hg0, ht0, hv0, hd0, ⟨g1, t1, cs1, f1, p1, q1, hg1, ht1, hv1, hd1, ⟨g2, t2, cs2, f2, p2, q2, hg2, ht2, hv2, hd2, _, _⟩, _⟩, _⟩, _, _⟩ := h
  obtain rfl := Option.some.inj (gNames.symm.trans hg0)
  obtain rfl := Option.some.inj (gForms.symm.trans hg1)
  obtain rfl := Option.some.inj (gWords.symm.trans hg2)
  obtain rfl := Option.some.inj (tNames.symm.trans ht0)
  obtain rfl := Option.some.inj (tForms.symm.trans ht1)
  obtain rfl := Option.some.inj (tWords.symm.trans ht2)
  rw [names_data] at hd0
  rw [forms_data] at hd1
  rw [words_data] at hd2
  have a0 := arr_cells und104 c9 (by kernel_rfl) hd0
  have a1 := arr_cells und105 c3 (by kernel_rfl) hd1
  have a2 := arr_cells und121 c29 (by kernel_rfl) hd2
  refine ⟨?_, fun k hk => ?_, fun k hk => ?_, fun k hk => ?_⟩
  · obtain ⟨c, x, m, e1, e2, e3⟩ := a2 0 (by omega)
    have := World.var?_cell hg2 hv2 0
    have hc0 : cs2[0]? = some c := by simpa using e1
    rw [hc0] at this
    exact heap_of_cell this
  · obtain ⟨c, x, m, e1, e2, e3⟩ := a0 k hk
    obtain ⟨s, e4, e5, _⟩ := DataW.trod_string Tryd.underlying9 e3
    have hn : nameList[k]? = some (nameL k) := by
      unfold nameL
      rw [List.getElem?_eq_getElem (by rw [nameList_length]; exact hk), List.getD_eq_getElem?_getD, List.getElem?_eq_getElem (by rw [nameList_length]; exact hk)]; rfl
    rw [List.getElem?_map, hn, e5] at e2
    simp at e2 e4
    have := World.var?_cell hg0 hv0 k
    have hc0 : cs0[k]? = some c := by simpa using e1
    rw [hc0, e4] at this
    rw [this, sv_of]
    congr 2
    unfold bs; exact e2.symm
  · obtain ⟨c, x, m, e1, e2, e3⟩ := a1 k hk
    obtain ⟨n, e4, e5, _⟩ := DataW.trod_int Tryd.underlying3 e3
    have hn : formList[k]? = some (formI k) := by
      unfold formI
      rw [List.getElem?_eq_getElem (show k < formList.length from hk), List.getD_eq_getElem?_getD, List.getElem?_eq_getElem (show k < formList.length from hk)]; rfl
    rw [List.getElem?_map, hn, e5] at e2
    simp at e2 e4
    have := World.var?_cell hg1 hv1 k
    have hc0 : cs1[k]? = some c := by simpa using e1
    rw [hc0, e4, ← e2] at this
    exact this
  · obtain ⟨c, x, m, e1, e2, e3⟩ := a2 k hk
    obtain ⟨n, e4, e5, _⟩ := DataW.trod_int Tryd.underlying29 e3
    have hn : matchList[k]? = some (matchI k) := by
      unfold matchI
      rw [List.getElem?_eq_getElem (show k < matchList.length from hk), List.getD_eq_getElem?_getD, List.getElem?_eq_getElem (show k < matchList.length from hk)]; rfl
    rw [List.getElem?_map, hn, e5] at e2
    simp at e2 e4
    have := World.var?_cell hg2 hv2 k
    have hc0 : cs2[k]? = some c := by simpa using e1
    rw [hc0, e4, ← e2] at this
    exact this
end Go.Proofs.YtceelkmedfoefaaDoor
