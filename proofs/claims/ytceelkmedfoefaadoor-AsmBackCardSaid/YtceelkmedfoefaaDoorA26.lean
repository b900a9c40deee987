import Derived.Test.YtceelkmedfoefaaDoorL12
import Derived.Test.YtceelkmedfoefaaDoorA24
import Derived.Test.YtceelkmedfoefaaDoorA19
import Derived.Test.YtceelkmedfoefaaDoorA25
set_option linter.unusedVariables false
set_option linter.unusedSimpArgs false
namespace Go.Proofs.YtceelkmedfoefaaDoor
open Go.RowKit Go.Maps Go.WideMaps

theorem ld_item {ops : Array Oper} {rest : List Oper} {o : Oper} {a : Act} {w : World} {Q : Exit → Act → World → Prop} (hgd : o.guard = none) (x : Operand) (ho : o.op = .load 58 x) (g off : Nat) (hx : a.eval x = .pointer (some ⟨g, off, none⟩)) {y : AItem}
    (hr : w.rangeAt g off (ICells y).toList) (h : wpList Tryd.prog ops Q rest (a.put o.dst (.agg (ICells y))) w) : wpList Tryd.prog ops Q (o :: rest) a w :=
  wpList_load_mid hgd 58 x ho g off hx (ICells y).toList _ hr Tryd.underlying58 rfl (by rw [info58]; rfl) (by simpa using h)
theorem range_alloc {w : World} {g off : Nat} {cs : List Value} (h : w.rangeAt g off cs) (o : Obj) (hg : g < w.heap.size) : (w.alloc o).rangeAt g off cs := fun j u hu => by
  rw [World.cell?_alloc_lt _ _ _ hg]; exact h j u hu
structure WordPost (r : Int × Int) (w w' : World) (e : Ending) : Prop where
  ret : e = .returned (.tuple #[.int .u32 r.1, .int .i64 r.2])
  below : Below w.heap.size w w'

set_option maxRecDepth 100000 in
set_option maxHeartbeats 800000 in
theorem rword_any (k : Nat) (x : AItem) (B rb mb : Nat) (vi vl : Value) (st : RSt) (w : World) (hE : Env w) (hst : RdSt w B rb mb vi vl st) (hk : st.items[k]? = some x) (him : 0 ≤ x.imm ∧ x.imm < 4294967296) (hi : st.items.length ≤ 4096) (hll : x.label.length ≤ maxLen) (hlv : -1000000 ≤ labV st.labels x.label ∧ labV st.labels x.label ≤ 1000000) :
    Calls Tryd.prog 34 #[.pointer (some ⟨rb, 0, none⟩), .int .i64 k] w fun e w' => WordPost (wordX st.labels k x) w w' e := by
  have hkl : k < st.items.length := (List.getElem?_eq_some_iff.1 hk).1
  rcases hst.items.form (by omega) with ⟨g, cap, rfl, hBg, hg⟩
  have hra := item_range hst.items hk
  have r0 := hst.blk.cell 0 (v := .slice (some ⟨g, 0, none⟩) st.items.length cap) rfl
  have hki : (k : Int) < (st.items.length : Int) := by omega
  have hrl := hst.blk.lt
  have hra2 := range_alloc hra (.cells (ICells zeroX) 58) hg
  obtain ⟨raw, hraw⟩ : ∃ raw, x.raw = raw := ⟨_, rfl⟩
  obtain ⟨lb, hlb, hlb2⟩ := sv_ex x.label
  have HRAW := Hd.mk hraw
  have HLB := Hd.mk (And.intro hlb hlb2)
  have hb0 : Below w.heap.size w (w.alloc (.cells (ICells zeroX) 58)) := (Below.refl _ _).alloc (Nat.le_refl _) _
  clear hlb hlb2
  cases raw
  · by_cases hlab : x.label = []
    · have hz : lb.size = 0 := by rw [← bs_length, HLB.out.2, hlab]; rfl
      obtain ⟨t1, t2⟩ := tl_nil hz
      have HX : Hd (wordX st.labels k x = (encV (niOf x), encE (niOf x))) := ⟨by unfold wordX; rw [if_neg (by rw [hraw]; simp), if_neg (by simp [hlab])]⟩
      clear hraw hlab hz
      go_enter Tryd.func34, Tryd.ntmps34
      go_wp2_with (first | (refine ld_item rfl _ rfl g (k * 10) rfl hra ?_) | (refine ld_item rfl _ rfl g (k * 10) rfl hra2 ?_) | (refine ld_ni rfl _ rfl w.heap.size rfl hx3 ?_) | (go_at_call 66; refine (encode_any right_any (niOf x) _ hE3 him.1 him.2).mono ?_; rintro e w5 ⟨rfl, hb5⟩) | (refine st_blk rfl 58 _ _ rfl w.heap.size (ICells x) rfl rfl (blk_new _ _ _) info58 rfl (icells_one _) ?_; intro w3 hx3 hg3; have c8 := hx3.cell 8 (v := .bool x.raw) rfl; rw [HRAW.out] at c8; have c6 := hx3.cell 6 (v := SV x.label) rfl; rw [HLB.out.1] at c6; have hb3 : Below w.heap.size w w3 := hb0.trans (below_of_grown hg3 (Nat.le_refl _) hb0.size); have hE3 := hE.below hb3))
      refine bodyPost_ret (v := .tuple #[.int .u32 (encV (niOf x)), .int .i64 (encE (niOf x))]) ?_ rfl ⟨by rw [HX.out], hb3.trans (hb5.mono hb3.size)⟩
      simp [results, Tryd.results34, go_sem]
    · have hz : 0 < lb.size := by rw [← bs_length, HLB.out.2]; exact List.length_pos_iff.2 hlab
      obtain ⟨t1, t2⟩ := tl_cons hz
      obtain ⟨lh, hlh⟩ : ∃ lh, labHas st.labels x.label = lh := ⟨_, rfl⟩
      have HX : Hd (wordX st.labels k x = if lh = true then (encV (withImm (niOf x) (IntKind.u32.wrap (labV st.labels x.label - 4 * (k : Int)))), encE (withImm (niOf x) (IntKind.u32.wrap (labV st.labels x.label - 4 * (k : Int))))) else (0, 1)) := ⟨by unfold wordX; rw [if_neg (by rw [hraw]; simp), if_pos hlab, hlh]⟩
      clear hraw hlab hz
      go_enter Tryd.func34, Tryd.ntmps34
      go_wp2_with (first | (refine ld_item rfl _ rfl g (k * 10) rfl hra ?_) | (refine ld_item rfl _ rfl g (k * 10) rfl hra2 ?_) | (refine st_blk rfl 58 _ _ rfl w.heap.size (ICells x) rfl rfl (blk_new _ _ _) info58 rfl (icells_one _) ?_; intro w3 hx3 hg3; have c8 := hx3.cell 8 (v := .bool x.raw) rfl; rw [HRAW.out] at c8; have c6 := hx3.cell 6 (v := SV x.label) rfl; rw [HLB.out.1] at c6; have hb3 : Below w.heap.size w w3 := hb0.trans (below_of_grown hg3 (Nat.le_refl _) hb0.size); have hE3 := hE.below hb3; have hst3 := hst.below hb3))
      have hrun := fun k => look_lab (w := w3.drewN k) hst3.map hst3.keys lb (by rw [← bs_length, HLB.out.2]; exact hll)
      rw [HLB.out.2, hlh] at hrun
      have r2 := hst3.blk.cell 2 (v := .map (some mb)) rfl
      go_quiet (fail)
      have hx4 : Blk (w3.drewN nq) w.heap.size (ICells x) 58 := ⟨hx3.at_⟩
      have hb4 : Below w.heap.size w (w3.drewN nq) := pw_below_drewN2 hb3 nq
      have hE4 := hE.below hb4
      clear hrun hst3 hE3 hb3 hx3 c8 c6 r2 hg3
      generalize w3.drewN nq = w4 at hx4 hb4 hE4 ⊢
      cases lh
      · go_wp2_with fail
        refine bodyPost_ret (v := .tuple #[.int .u32 0, .int .i64 1]) ?_ rfl ⟨by rw [HX.out]; rfl, hb4⟩
        simp [results, Tryd.results34, go_sem]
      · have e1 : IntKind.i64.wrap (4 * (k : Int)) = 4 * (k : Int) := IntWalk.i64_in _ (by omega)
        have e2 : IntKind.i64.wrap (labV st.labels x.label - 4 * (k : Int)) = labV st.labels x.label - 4 * (k : Int) := IntWalk.i64_in _ (by omega)
        have d4 := hx4.cell 4 (v := .int .u32 x.imm) rfl
        have f4 := hx4.free 4
        have hx5 : ∀ v, Blk (w4.setCell ⟨w.heap.size, 4, none⟩ (.int .u32 v)) w.heap.size (ICells { x with imm := v }) 58 := fun v => by simpa [ICells] using hx4.set 4 (.int .u32 v)
        go_wp2_with (first | (refine ld_ni rfl _ rfl w.heap.size rfl (hx5 _) ?_))
        have hb5 : Below w.heap.size w (w4.setCell ⟨w.heap.size, 4, none⟩ (.int .u32 (IntKind.u32.wrap (labV st.labels x.label - 4 * (k : Int))))) := hb4.setCell (Nat.le_refl _) _
        have hu : 0 ≤ IntKind.u32.wrap (labV st.labels x.label - 4 * (k : Int)) ∧ IntKind.u32.wrap (labV st.labels x.label - 4 * (k : Int)) < 4294967296 := by rw [IntKind.wrap_u32]; omega
        refine (encode_any right_any (withImm (niOf x) _) _ (hE.below hb5) hu.1 hu.2).mono ?_
        rintro e w5 ⟨rfl, hb6⟩
        go_wp2_with fail
        refine bodyPost_ret (v := .tuple #[.int .u32 (encV (withImm (niOf x) (IntKind.u32.wrap (labV st.labels x.label - 4 * (k : Int))))), .int .i64 (encE (withImm (niOf x) (IntKind.u32.wrap (labV st.labels x.label - 4 * (k : Int)))))]) ?_ rfl ⟨by rw [HX.out]; rfl, hb5.trans (hb6.mono hb5.size)⟩
        simp [results, Tryd.results34, go_sem]
        rw [IntKind.wrap_u32]; exact ⟨rfl, rfl⟩
  · have HX : Hd (wordX st.labels k x = (x.word, 0)) := ⟨by unfold wordX; rw [if_pos hraw]⟩
    clear hraw
    go_enter Tryd.func34, Tryd.ntmps34
    go_wp2_with (first | (refine ld_item rfl _ rfl g (k * 10) rfl hra ?_) | (refine ld_item rfl _ rfl g (k * 10) rfl hra2 ?_) | (refine st_blk rfl 58 _ _ rfl w.heap.size (ICells x) rfl rfl (blk_new _ _ _) info58 rfl (icells_one _) ?_; intro w3 hx3 hg3; have c8 := hx3.cell 8 (v := .bool x.raw) rfl; rw [HRAW.out] at c8; have c7 := hx3.cell 7 (v := .int .u32 x.word) rfl; have hb3 : Below w.heap.size w w3 := hb0.trans (below_of_grown hg3 (Nat.le_refl _) hb0.size)))
    refine bodyPost_ret (v := .tuple #[.int .u32 x.word, .int .i64 0]) ?_ rfl ⟨by rw [HX.out], hb3⟩
    simp [results, Tryd.results34, go_sem]

end Go.Proofs.YtceelkmedfoefaaDoor
