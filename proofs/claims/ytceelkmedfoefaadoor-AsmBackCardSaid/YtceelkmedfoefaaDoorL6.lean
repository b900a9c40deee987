import Derived.Test.YtceelkmedfoefaaDoorL4
import Derived.Laws.Rows
import Derived.Laws.Tables
import Derived.Laws.ResultCell
import Derived.Deep.MidRow
/-! Structs that are loaded and stored whole. -/
set_option linter.unusedVariables false
set_option linter.unusedSimpArgs false
namespace Go.Proofs.YtceelkmedfoefaaDoor
open Go.RowKit

section
variable {ops : Array Oper} {rest : List Oper} {o : Oper} {a : Act} {w : World} {Q : Exit → Act → World → Prop}
/-- x := a whole block. -/
theorem ld_blk (hgd : o.guard = none) (ty : TypeId) (x : Operand) (ho : o.op = .load ty x) (g : Nat) (hx : a.eval x = .pointer (some ⟨g, 0, none⟩)) {cs : Array Value} {T : TypeId} (hb : Blk w g cs T)
    {fs} (hu : Tryd.prog.underlying ty = some (.struct fs)) (hi : (Tryd.prog.info? ty).map (·.size) = some cs.size)
    (h : wpList Tryd.prog ops Q rest (a.put o.dst (.agg cs)) w) : wpList Tryd.prog ops Q (o :: rest) a w :=
  wpList_load_row hgd ty x ho g hx T cs (0, 0) _ hb.at_ hu rfl hi h
theorem setRow_blk {g : Nat} {old cs : Array Value} {T : TypeId} (hb : Blk w g old T) : Blk (w.setRow g cs) g cs T :=
  ⟨by simp [World.setRow, Array.getElem?_modify, hb.at_]⟩
theorem setRow_grown (g : Nat) (cs : Array Value) : w.grownBy (w.setRow g cs) (some g) :=
  ⟨rfl, rfl, rfl, by simp [World.setRow], fun k _ hk => by simp only [World.setRow, Array.getElem?_modify]; rw [if_neg (fun e => hk (by rw [e]))]⟩
/-- a whole block = x. -/
theorem st_blk (hgd : o.guard = none) (ty : TypeId) (x y : Operand) (ho : o.op = .store ty x y) (g : Nat) (cells : Array Value) (hx : a.eval x = .pointer (some ⟨g, 0, none⟩)) (hy : a.eval y = .agg cells)
    {old : Array Value} {T : TypeId} (hb : Blk w g old T) (hi : (Tryd.prog.info? ty).map (·.size) = some cells.size) (hold : old.size = cells.size) (h1 : cells.all (·.oneCell') = true)
    (h : ∀ w', Blk w' g cells T → w.grownBy w' (some g) → wpList Tryd.prog ops Q rest (a.put o.dst undef) w') : wpList Tryd.prog ops Q (o :: rest) a w :=
  wpList_store_row hgd ty x y ho g cells hx hy T old hb.at_ hi hold h1 (h _ (setRow_blk hb) (setRow_grown g cells))
end
/-- Two results, the first one a struct in its block. -/
theorem res_blk {fn : Func} {p u : Tmp} {ty : TypeId} (h : fn.results = #[.cell p ty, .tmp u]) (tmps : Array Value) (w : World) (g : Nat) (cs : Array Value) (T : TypeId) {v : Value} {fs}
    (hp : tmps.getD p undef = .pointer (some ⟨g, 0, none⟩)) (hb : Blk w g cs T) (hu : Tryd.prog.underlying ty = some (.struct fs)) (hi : (Tryd.prog.info? ty).map (·.size) = some cs.size)
    (hv : tmps.getD u undef = v) : (results fn tmps).run Tryd.prog w = .ok (.tuple #[.agg cs, v]) w := by
  rw [results_cell_tmp h, hp, hv]
  simp [asAddr, run_loadVar_row w g T ty cs (0, 0) _ hb.at_ hu rfl hi, Result.andThen]
theorem icells_one (x : AItem) : (ICells x).all (·.oneCell') = true := by simp [ICells, SV, Value.oneCell']
theorem info58 : (Tryd.prog.info? 58).map (·.size) = some 10 := by kernel_rfl
theorem info36 : (Tryd.prog.info? 36).map (·.size) = some 6 := by kernel_rfl
theorem info62 : (Tryd.prog.info? 62).map (·.size) = some 10 := by kernel_rfl

end Go.Proofs.YtceelkmedfoefaaDoor
