import Derived.Test.YtceelkmedfoefaaDoorL9
import Derived.Test.YtceelkmedfoefaaDoorL10
import Derived.Deep.AppendLies
/-! One item more. -/
set_option linter.unusedVariables false
set_option linter.unusedSimpArgs false
namespace Go.Proofs.YtceelkmedfoefaaDoor
open Go.RowKit Go.Maps Go.WideMaps

theorem info58b : (Tryd.prog.info? 58).map (fun i => (i.zero, i.size, i.bytes)) = some (some (itemV zeroX), 10, 72) := by kernel_rfl
theorem info3b : (Tryd.prog.info? 3).map (fun i => (i.zero, i.size, i.bytes)) = some (some (.int .i64 0), 1, 8) := by kernel_rfl
section
variable {ops : Array Oper} {o : Oper} {a : Act} {w : World} {K : Act → World → Prop} {Q : Exit → Act → World → Prop} {E : Prop}
theorem step_app58 (hgd : o.guard = none) (s x : Operand) (ho : o.op = .call { callee := .builtin .append, args := #[s, x], argTypes := #[67, 67] })
    (B : Nat) (v : Value) (k : Nat) (l : List AItem) (hs : a.eval s = v) (hown : w.ownsRow B 58 10 v k (icells l)) (y : AItem) (b : Nat) (hx : a.eval x = .slice (some ⟨b, 0, none⟩) 1 1) (hb : Blk w b (ICells y) 58)
    (hk : k ≤ 4096) (hbase : B ≤ w.heap.size)
    (h : ∀ g cap w', w'.ownsRow B 58 10 (.slice (some ⟨g, 0, none⟩) (k + 1) cap) (k + 1) (icells (l ++ [y])) → w.grownBy w' v.ownBlock → (v.ownBlock = some g ∨ g = w.heap.size) → g < w'.heap.size → K (a.put o.dst (.slice (some ⟨g, 0, none⟩) (k + 1) cap)) w') :
    if Region.wanted o (yielded ops a.tmps) = true then Oper.wp Tryd.prog o a w K Q else E := by
  obtain ⟨i0, hi, hz0, hz1, hz2⟩ := info_parts info58b
  refine step_append_lies w hgd s x 67 ho B 58 i0 (itemV zeroX) 10 72 Tryd.underlying67 hi hz0 hz1 hz2 rfl (by decide) v k (icells l) hs hown ⟨b, 0, none⟩ 1 1 (ICells y).toList hx rfl (World.news_of_block hb.at_) ?_ (by decide) (by unfold maxLen; omega) (by omega) hbase _ rfl ?_
  · have := icells_one y
    intro u hu
    rw [Array.all_eq_true'] at this
    exact this u (by simpa using hu)
  · intro g cap w' h1 h2 h3 h4
    rw [← icells_snoc] at h1
    exact h g cap w' h1 h2 h3 h4
theorem step_app3 (hgd : o.guard = none) (s x : Operand) (ho : o.op = .call { callee := .builtin .append, args := #[s, x], argTypes := #[68, 68] })
    (B : Nat) (v : Value) (k : Nat) (l : List Int) (hs : a.eval s = v) (hown : w.ownsRow B 3 1 v k (lvals l)) (y : Int) (b : Nat) (hx : a.eval x = .slice (some ⟨b, 0, none⟩) 1 1) (hb : Blk w b #[.int .i64 y] 3)
    (hk : k ≤ 4096) (hbase : B ≤ w.heap.size)
    (h : ∀ g cap w', w'.ownsRow B 3 1 (.slice (some ⟨g, 0, none⟩) (k + 1) cap) (k + 1) (lvals (l ++ [y])) → w.grownBy w' v.ownBlock → (v.ownBlock = some g ∨ g = w.heap.size) → g < w'.heap.size → K (a.put o.dst (.slice (some ⟨g, 0, none⟩) (k + 1) cap)) w') :
    if Region.wanted o (yielded ops a.tmps) = true then Oper.wp Tryd.prog o a w K Q else E := by
  obtain ⟨i0, hi, hz0, hz1, hz2⟩ := info_parts info3b
  refine step_append_lies w hgd s x 68 ho B 3 i0 (.int .i64 0) 1 8 Tryd.underlying68 hi hz0 hz1 hz2 rfl (by decide) v k (lvals l) hs hown ⟨b, 0, none⟩ 1 1 [.int .i64 y] hx rfl (World.news_of_block (cs := #[.int .i64 y]) hb.at_) ?_ (by decide) (by unfold maxLen; omega) (by omega) hbase _ rfl ?_
  · intro u hu; simp at hu; subst hu; rfl
  · intro g cap w' h1 h2 h3 h4
    rw [← lvals_snoc] at h1
    exact h g cap w' h1 h2 h3 h4
theorem step_build58 (hgd : o.guard = none) (t : Nat) (ho : o.op = .buildSlice 67 1 #[(0, .tmp t)]) (y : AItem) (hx : a.eval (.tmp t) = .agg (ICells y))
    (h : K (a.put o.dst (.slice (some ⟨w.heap.size, 0, none⟩) 1 1)) (w.alloc (.cells (ICells y) 58))) :
    if Region.wanted o (yielded ops a.tmps) = true then Oper.wp Tryd.prog o a w K Q else E := by
  have hw : Region.wanted o (yielded ops a.tmps) = true := by simp [Region.wanted, hgd]
  rw [if_pos hw]
  unfold ICells at hx h
  have hx2 : a.tmps[t]?.getD undef = Value.agg #[.int .i64 y.op, .int .i64 y.rd, .int .i64 y.rs1, .int .i64 y.rs2, .int .u32 y.imm, .int .i64 y.csr, SV y.label, .int .u32 y.word, .bool y.raw, .bool y.has] := by
    rw [← hx]; simp [Act.eval]
  unfold Oper.wp
  simp only [execOp, ho]
  go_simp
  exact h
end

theorem yield_ld {S : World → Prop} {ops : Array Oper} {op : Oper} {a : Act} (hw : Region.wanted op (yielded ops a.tmps) = true) (ty : TypeId) (x : Operand) (ho : op.op = .load ty x) (b : Nat) (hx : a.eval x = .pointer (some ⟨b, 0, none⟩))
    (cs : Array Value) (T : TypeId) (hS : ∀ w, S w → Blk w b cs T) {fs} (hu : Tryd.prog.underlying ty = some (.struct fs)) (hi : (Tryd.prog.info? ty).map (·.size) = some cs.size) : YieldsIf Tryd.prog ops S op (.agg cs) a := by
  have h := yieldsIf_load_mid (P := Tryd.prog) (ops := ops) (S := S) hw ty x ho b 0 hx cs.toList _ (fun W hW j v hj => (hS W hW).cell (0 + j) (by rw [Nat.zero_add]; simpa using hj)) hu rfl (by simpa using hi)
  simpa using h
theorem own_ne {w : World} {B e size : Nat} {v : Value} {n : Nat} {xs : List Value} (h : w.ownsRow B e size v n xs) {b : Nat} (hb : b < B ∨ w.heap.size ≤ b) : some b ≠ v.ownBlock := by
  intro e2
  have := h.lt b e2.symm
  omega
theorem below_of_own {w w' : World} {row : Option Nat} {B : Nat} (h : w.grownBy w' row) (hr : ∀ k, row = some k → B ≤ k) (hw : B ≤ w.heap.size) : Below B w w' :=
  ⟨h.os, h.tape, h.output, h.size, fun i hi => h.block i (by omega) (fun e => by have := hr i e.symm; omega)⟩
theorem below_of_none {w w' : World} {B : Nat} (h : w.grownBy w' none) (hw : B ≤ w.heap.size) : Below B w w' := below_of_own h (fun k e => by cases e) hw
/-- Behind the items' append, and one or no block more. -/
structure Mid (w w5 : World) (B rb mb : Nat) (vi vl : Value) (st : RSt) (x : AItem) (gI capI : Nat) : Prop where
  rd : RdSt w B rb mb vi vl st
  size : w.heap.size ≤ w5.heap.size
  items : w5.ownsRow B 58 10 (.slice (some ⟨gI, 0, none⟩) (st.items.length + 1) capI) (st.items.length + 1) (icells (st.items ++ [x]))
  lines : w5.ownsRow B 3 1 vl st.items.length (lvals st.lines)
  blk : Blk w5 rb #[vi, vl, .map (some mb)] 70
  map : w5.ownsMap Tryd.prog 9 (plainElem Tryd.prog 3) mb st.labels.length (labD st.labels)
  far : vl.ownBlock ≠ some gI
  lt : gI < w5.heap.size
  bel : Below B w w5
theorem Mid.mk' {w Wi w5 : World} {B rb mb : Nat} {vi vl : Value} {st : RSt} {x : AItem} {gI capI : Nat} (h : RdSt w B rb mb vi vl st) (g1 : w.grownBy Wi none)
    (hI : w5.ownsRow B 58 10 (.slice (some ⟨gI, 0, none⟩) (st.items.length + 1) capI) (st.items.length + 1) (icells (st.items ++ [x]))) (g2 : Wi.grownBy w5 vi.ownBlock) (hg : vi.ownBlock = some gI ∨ gI = Wi.heap.size) (hl : gI < w5.heap.size) :
    Mid w w5 B rb mb vi vl st x gI capI where
  rd := h
  size := Nat.le_trans g1.size g2.size
  items := hI
  lines := (h.lines.kept g1 (by cases vl.ownBlock <;> simp)).kept g2 h.apart
  blk := (h.blk.grown g1 (by simp)).grown g2 (own_ne h.items (.inl h.rlt))
  map := (h.map.kept g1 (by simp)).kept g2 (own_ne h.items (.inl h.mlt))
  far := by
    intro e
    rcases hg with e2 | e2
    · rcases h.apart with e3 | e3
      · rw [e3] at e; cases e
      · rw [e, e2] at e3; exact e3 rfl
    · have := (h.lines.lt gI e).2
      have := g1.size
      omega
  lt := hl
  bel := (below_of_none g1 h.base).trans (below_of_own g2 (fun k hk => by have := (h.items.lt k hk).1; omega) (Nat.le_trans h.base g1.size))
theorem Mid.kept {w w5 w6 : World} {B rb mb : Nat} {vi vl : Value} {st : RSt} {x : AItem} {gI capI : Nat} (h : Mid w w5 B rb mb vi vl st x gI capI) (g : w5.grownBy w6 none) : Mid w w6 B rb mb vi vl st x gI capI where
  rd := h.rd
  size := Nat.le_trans h.size g.size
  items := h.items.kept g (by simp [Value.ownBlock])
  lines := h.lines.kept g (by cases vl.ownBlock <;> simp)
  blk := h.blk.grown g (by simp)
  map := h.map.kept g (by simp)
  far := h.far
  lt := Nat.lt_of_lt_of_le h.lt g.size
  bel := h.bel.trans (below_of_none g (Nat.le_trans h.rd.base h.size))
/-- Behind the lines' append. -/
structure Mid2 (w w6 : World) (B rb mb : Nat) (vi vl : Value) (st : RSt) (x : AItem) (n : Int) (gI capI gL capL : Nat) : Prop where
  rd : RdSt w B rb mb vi vl st
  size : w.heap.size ≤ w6.heap.size
  items : w6.ownsRow B 58 10 (.slice (some ⟨gI, 0, none⟩) (st.items.length + 1) capI) (st.items.length + 1) (icells (st.items ++ [x]))
  lines : w6.ownsRow B 3 1 (.slice (some ⟨gL, 0, none⟩) (st.items.length + 1) capL) (st.items.length + 1) (lvals (st.lines ++ [n]))
  blk : Blk w6 rb #[vi, vl, .map (some mb)] 70
  map : w6.ownsMap Tryd.prog 9 (plainElem Tryd.prog 3) mb st.labels.length (labD st.labels)
  far : gL ≠ gI
  bel : Below B w w6
theorem Mid.lines2 {w w5 w6 : World} {B rb mb : Nat} {vi vl : Value} {st : RSt} {x : AItem} {n : Int} {gI capI gL capL : Nat} (h : Mid w w5 B rb mb vi vl st x gI capI)
    (hL : w6.ownsRow B 3 1 (.slice (some ⟨gL, 0, none⟩) (st.items.length + 1) capL) (st.items.length + 1) (lvals (st.lines ++ [n]))) (g : w5.grownBy w6 vl.ownBlock) (hg : vl.ownBlock = some gL ∨ gL = w5.heap.size) :
    Mid2 w w6 B rb mb vi vl st x n gI capI gL capL where
  rd := h.rd
  size := Nat.le_trans h.size g.size
  items := h.items.kept g (.inr (fun e => h.far e.symm))
  lines := hL
  blk := h.blk.grown g (own_ne h.lines (.inl h.rd.rlt))
  map := h.map.kept g (own_ne h.lines (.inl h.rd.mlt))
  far := by
    rcases hg with e | e
    · intro e2; rw [e2] at e; exact h.far e
    · have := h.lt; omega
  bel := h.bel.trans (below_of_own g (fun k hk => (h.lines.lt k hk).1) (Nat.le_trans h.rd.base h.size))
theorem Mid2.rdst {w w6 : World} {B rb mb : Nat} {vi vl : Value} {st : RSt} {x : AItem} {n : Int} {gI capI gL capL : Nat} (h : Mid2 w w6 B rb mb vi vl st x n gI capI gL capL) :
    RdSt ((w6.setCell ⟨rb, 0, none⟩ (.slice (some ⟨gI, 0, none⟩) (st.items.length + 1) capI)).setCell ⟨rb, 1, none⟩ (.slice (some ⟨gL, 0, none⟩) (st.items.length + 1) capL)) B rb mb (.slice (some ⟨gI, 0, none⟩) (st.items.length + 1) capI) (.slice (some ⟨gL, 0, none⟩) (st.items.length + 1) capL)
      ⟨st.items ++ [x], st.lines ++ [n], st.labels⟩ := by
  have g1 := grown_set w6 rb 0 (.slice (some ⟨gI, 0, none⟩) (st.items.length + 1) capI)
  have g2 := grown_set (w6.setCell ⟨rb, 0, none⟩ (.slice (some ⟨gI, 0, none⟩) (st.items.length + 1) capI)) rb 1 (.slice (some ⟨gL, 0, none⟩) (st.items.length + 1) capL)
  have g := grown_trans g1 g2
  have hr := h.rd.rlt
  have hi : B ≤ gI := (h.items.lt gI rfl).1
  have hl : B ≤ gL := (h.lines.lt gL rfl).1
  refine ⟨?_, ?_, ?_, ?_, h.rd.keys, h.rd.rlt, h.rd.mlt, h.rd.ne, ?_, ?_⟩
  · have := (h.blk.set 0 (.slice (some ⟨gI, 0, none⟩) (st.items.length + 1) capI)).set 1 (.slice (some ⟨gL, 0, none⟩) (st.items.length + 1) capL)
    simpa using this
  · have := h.items.kept g (by simp [Value.ownBlock]; omega)
    simpa using this
  · have := h.lines.kept g (by simp [Value.ownBlock]; omega)
    simpa using this
  · exact h.map.kept g (by have := h.rd.ne; simp; omega)
  · right; simpa [Value.ownBlock] using h.far
  · have := h.rd.base; have := h.size; have := g.size; omega
theorem Mid2.below {w w6 : World} {B0 B rb mb : Nat} {vi vl : Value} {st : RSt} {x : AItem} {n : Int} {gI capI gL capL : Nat} (h : Mid2 w w6 B rb mb vi vl st x n gI capI gL capL) (h0 : B0 ≤ rb) (h1 : B0 ≤ B) :
    Below B0 w ((w6.setCell ⟨rb, 0, none⟩ (.slice (some ⟨gI, 0, none⟩) (st.items.length + 1) capI)).setCell ⟨rb, 1, none⟩ (.slice (some ⟨gL, 0, none⟩) (st.items.length + 1) capL)) :=
  ((h.bel.mono h1).setCell h0 _).setCell h0 _
end Go.Proofs.YtceelkmedfoefaaDoor
