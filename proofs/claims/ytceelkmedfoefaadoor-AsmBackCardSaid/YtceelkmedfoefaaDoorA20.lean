import Derived.Test.YtceelkmedfoefaaDoorL7
import Derived.Test.YtceelkmedfoefaaDoorA16
set_option linter.unusedVariables false
set_option linter.unusedSimpArgs false
namespace Go.Proofs.YtceelkmedfoefaaDoor
open Go.RowKit

/-- inst.Right's contract, as a statement. -/
def RightSaid : Prop := ∀ (x : NI) (w : World), Env w → 0 ≤ x.imm → x.imm < 4294967296 →
  Calls Tryd.prog 30 #[.agg (NC x)] w fun e w' => e = .returned (.bool (rightB x)) ∧ Below w.heap.size w w'

structure LinePost (l : Bytes) (w w' : World) (e : Ending) : Prop where
  ret : e = .returned (.tuple #[.agg (NC (lineR l).1), .int .i64 (lineR l).2])
  below : Below w.heap.size w w'

theorem line_end {l : Bytes} {w w1 w3 : World} {fn : Func} {x : NI} {c : Int} {a : Act} (h : lineR l = (x, c)) (hr : fn.results = #[.cell 2 36, .tmp 3]) (hp : a.tmps.getD 2 undef = .pointer (some ⟨w.heap.size, 0, none⟩)) (hc : a.tmps.getD 3 undef = .int .i64 c)
    (hb3 : Blk w3 w.heap.size (NC x) 36) (hB : Below w.heap.size w w3) (hd : a.defers = []) : bodyPost Tryd.prog fn (fun e w' => LinePost l w w' e) .ret a w3 :=
  bodyPost_ret (v := .tuple #[.agg (NC x), .int .i64 c]) (res_blk hr _ _ w.heap.size _ 36 hp hb3 Tryd.underlying36 info36 hc) hd ⟨by rw [h], hB⟩

set_option maxRecDepth 100000 in
set_option maxHeartbeats 4000000 in
theorem line_any (hR : RightSaid) (s : ByteArray) (w : World) (hE : Env w) (hs : s.size ≤ 1048576) :
    Calls Tryd.prog 13 #[.string s] w fun e w' => LinePost (bs s) w w' e := by
  have HR := Hd.mk hR
  clear hR
  go_enter Tryd.func13, Tryd.ntmps13
  go_wp2_with fail
  refine (pieces_any s _ hs).mono ?_
  rintro e w1 hP
  have hres0 : Blk (w.alloc (.cells #[.int .i64 0, .int .i64 0, .int .i64 0, .int .i64 0, .int .u32 0, .int .i64 0] 36)) w.heap.size (NC zeroN) 36 := blk_new _ _ _
  have hb0 : Below w.heap.size w (w.alloc (.cells #[.int .i64 0, .int .i64 0, .int .i64 0, .int .i64 0, .int .u32 0, .int .i64 0] 36)) := (Below.refl _ _).alloc (Nat.le_refl _) _
  cases hP with
  | bad hp hb =>
    have hres := hres0.below hb (by simp)
    have HB := Hd.mk (hb0.trans (hb.mono (by simp)))
    have hl : lineR (bs s) = (zeroN, 1) := by unfold lineR; rw [hp]
    have HL := Hd.mk hl
    clear hl hp hb hb0 hres0
    go_wp2_with (refine st_blk rfl 36 _ _ rfl w.heap.size (NC zeroN) rfl rfl hres info36 rfl (nc_one _) ?_; intro w3 hb3 hg3)
    exact line_end (w1 := w1) HL.out rfl rfl rfl hb3 (HB.out.trans (below_of_grown hg3 (Nat.le_refl _) HB.out.size)) rfl
  | good out v hp hlen ho hb =>
    have hres := hres0.below hb (by simp)
    have hB := hb0.trans (hb.mono (by simp))
    rcases own_cases ho with ⟨rfl, rfl⟩ | ⟨g, cap, rfl, hbase, hcap, hst⟩
    · have HL : Hd (lineR (bs s) = (zeroN, 1)) := ⟨by unfold lineR; rw [hp]; rfl⟩
      have HB := Hd.mk hB
      clear hp hb hb0 hres0 hB ho hlen
      go_wp2_with (refine st_blk rfl 36 _ _ rfl w.heap.size (NC zeroN) rfl rfl hres info36 rfl (nc_one _) ?_; intro w3 hb3 hg3)
      exact line_end (w1 := w1) HL.out rfl rfl rfl hb3 (HB.out.trans (below_of_grown hg3 (Nat.le_refl _) HB.out.size)) rfl
    by_cases hn : out.length = 0
    · have HL : Hd (lineR (bs s) = (zeroN, 1)) := ⟨by unfold lineR; rw [hp, List.eq_nil_of_length_eq_zero hn]; rfl⟩
      have HB := Hd.mk hB
      have b1 : ((out.length : Int) == 0) = true := beq_iff_eq.2 (by omega)
      clear hp hb hb0 hres0 hB ho hlen hn hst hcap
      go_wp2_with (refine st_blk rfl 36 _ _ rfl w.heap.size (NC zeroN) rfl rfl hres info36 rfl (nc_one _) ?_; intro w3 hb3 hg3)
      exact line_end (w1 := w1) HL.out rfl rfl rfl hb3 (HB.out.trans (below_of_grown hg3 (Nat.le_refl _) HB.out.size)) rfl
    have hE1 := hE.below hB
    have HL : Hd (lineR (bs s) = lineP out) := ⟨by unfold lineR; rw [hp]; simp only []; rw [if_neg (fun e => hn (by rw [e]; rfl))]⟩
    have b1 : ((out.length : Int) == 0) = false := beq_eq_false_iff_ne.2 (by omega)
    have hl1 : out.length ≤ 1048576 := by rw [bs_length] at hlen; omega
    obtain ⟨n, hnn⟩ : ∃ n, out.length = n := ⟨_, rfl⟩
    rw [hnn] at hn b1 hl1 hcap
    have HN := Hd.mk hnn
    rw [hnn]
    clear hp hb hb0 hres0 ho hlen hnn
    go_wp2_with fail
    refine (read_any g 0 n cap out w1 hE1 hst HN.out (by omega) hl1 hcap).mono ?_
    rintro e w2 hRd
    obtain ⟨⟨x, ok, rfl, hok1, hok2⟩, hb2⟩ := hRd
    have hres2 := hres.below hb2 hres.lt
    have hB2 := hB.trans (hb2.mono hB.size)
    cases ok
    · have HL2 : Hd (lineR (bs s) = (zeroN, 1)) := ⟨by rw [HL.out, lineP, hok2 rfl]⟩
      clear hok1 hok2
      go_wp2_with (first | (refine st_blk rfl 58 _ _ rfl w2.heap.size (ICells x) rfl rfl (blk_new _ _ _) info58 rfl (icells_one _) ?_; intro w3 hx3 hg3; have hres3 := (hres2.alloc (.cells (ICells zeroX) 58)).grown hg3 (by have := hres2.lt; simp; omega); have hB3 := (hB2.alloc hB2.size (.cells (ICells zeroX) 58)).trans (below_of_grown hg3 hB2.size (by have := hB2.size; simp; omega))) | (refine st_blk rfl 36 _ _ rfl w.heap.size (NC zeroN) rfl rfl hres3 info36 rfl (nc_one _) ?_; intro w4 hb4 hg4))
      exact line_end (w1 := w1) HL2.out rfl rfl rfl hb4 (hB3.trans (below_of_grown hg4 (Nat.le_refl _) hB3.size)) rfl
    have hro := hok1 rfl
    have hro2 := Hd.mk hro
    have him := readO_imm hro
    obtain ⟨him1, him2⟩ := him
    have HL1 : Hd (lineR (bs s) = if x.raw = true ∨ x.label ≠ [] then (zeroN, 1) else if rightB (niOf x) = true then (niOf x, 0) else (zeroN, 9)) := ⟨by rw [HL.out, lineP, hro]⟩
    clear hok1 hok2 hro
    obtain ⟨raw, hraw⟩ : ∃ raw, x.raw = raw := ⟨_, rfl⟩
    have HRAW := Hd.mk hraw
    obtain ⟨lb, hlb, hlb2⟩ := sv_ex x.label
    have HLB := Hd.mk (And.intro hlb hlb2)
    cases raw
    · by_cases hlab : x.label = []
      · have hz : lb.size = 0 := by rw [← bs_length, hlb2, hlab]; rfl
        obtain ⟨t1, t2⟩ := tl_nil hz
        obtain ⟨rb, hrb⟩ : ∃ rb, rightB (niOf x) = rb := ⟨_, rfl⟩
        have HRB := Hd.mk hrb
        have HL3 : Hd (lineR (bs s) = if rightB (niOf x) = true then (niOf x, 0) else (zeroN, 9)) := ⟨by rw [HL1.out, if_neg (by rw [hraw, hlab]; simp)]⟩
        clear hraw hlb hlb2 hlab hrb hz
        cases rb
        · have HL2 : Hd (lineR (bs s) = (zeroN, 9)) := ⟨by rw [HL3.out, HRB.out]; rfl⟩
          go_wp2_with (first | (refine st_blk rfl 58 _ _ rfl w2.heap.size (ICells x) rfl rfl (blk_new _ _ _) info58 rfl (icells_one _) ?_; intro w3 hx3 hg3; have hres3 := (hres2.alloc (.cells (ICells zeroX) 58)).grown hg3 (by have := hres2.lt; simp; omega); have hB3 := (hB2.alloc hB2.size (.cells (ICells zeroX) 58)).trans (below_of_grown hg3 hB2.size (by have := hB2.size; simp; omega)); have c8 := hx3.cell 8 (v := .bool x.raw) rfl; rw [HRAW.out] at c8; have c6 := hx3.cell 6 (v := SV x.label) rfl; rw [HLB.out.1] at c6; have hE3 := hE.below hB3) | (go_at_call 30; refine (HR.out (niOf x) _ hE3 him1 him2).mono ?_; rw [HRB.out]; rintro e w5 ⟨rfl, hb5⟩; have hres5 := hres3.below hb5 hres3.lt; have hB5 := hB3.trans (hb5.mono hB3.size); have hx5 := hx3.below hb5 hx3.lt) | (refine ld_ni rfl _ rfl w2.heap.size rfl hx3 ?_) | (refine st_blk rfl 36 _ _ rfl w.heap.size (NC zeroN) rfl rfl hres5 info36 rfl (nc_one _) ?_; intro w6 hb6 hg6))
          exact line_end (w1 := w1) HL2.out rfl rfl rfl hb6 (hB5.trans (below_of_grown hg6 (Nat.le_refl _) hB5.size)) rfl
        · have HL2 : Hd (lineR (bs s) = (niOf x, 0)) := ⟨by rw [HL3.out, HRB.out, if_pos rfl]⟩
          go_wp2_with (first | (refine st_blk rfl 58 _ _ rfl w2.heap.size (ICells x) rfl rfl (blk_new _ _ _) info58 rfl (icells_one _) ?_; intro w3 hx3 hg3; have hres3 := (hres2.alloc (.cells (ICells zeroX) 58)).grown hg3 (by have := hres2.lt; simp; omega); have hB3 := (hB2.alloc hB2.size (.cells (ICells zeroX) 58)).trans (below_of_grown hg3 hB2.size (by have := hB2.size; simp; omega)); have c8 := hx3.cell 8 (v := .bool x.raw) rfl; rw [HRAW.out] at c8; have c6 := hx3.cell 6 (v := SV x.label) rfl; rw [HLB.out.1] at c6; have hE3 := hE.below hB3) | (go_at_call 30; refine (HR.out (niOf x) _ hE3 him1 him2).mono ?_; rw [HRB.out]; rintro e w5 ⟨rfl, hb5⟩; have hres5 := hres3.below hb5 hres3.lt; have hB5 := hB3.trans (hb5.mono hB3.size); have hx5 := hx3.below hb5 hx3.lt) | (refine ld_ni rfl _ rfl w2.heap.size rfl hx3 ?_) | (refine ld_ni rfl _ rfl w2.heap.size rfl hx5 ?_) | (refine st_blk rfl 36 _ _ rfl w.heap.size (NC (niOf x)) rfl rfl hres5 info36 rfl (nc_one _) ?_; intro w6 hb6 hg6))
          exact line_end (w1 := w1) HL2.out rfl rfl rfl hb6 (hB5.trans (below_of_grown hg6 (Nat.le_refl _) hB5.size)) rfl
      · have hz : 0 < lb.size := by
          rw [← bs_length, hlb2]; exact List.length_pos_iff.2 hlab
        obtain ⟨t1, t2⟩ := tl_cons hz
        have HL2 : Hd (lineR (bs s) = (zeroN, 1)) := ⟨by rw [HL1.out, if_pos (.inr hlab)]⟩
        clear hraw hlb hlb2 hlab hz
        go_wp2_with (first | (refine st_blk rfl 58 _ _ rfl w2.heap.size (ICells x) rfl rfl (blk_new _ _ _) info58 rfl (icells_one _) ?_; intro w3 hx3 hg3; have hres3 := (hres2.alloc (.cells (ICells zeroX) 58)).grown hg3 (by have := hres2.lt; simp; omega); have hB3 := (hB2.alloc hB2.size (.cells (ICells zeroX) 58)).trans (below_of_grown hg3 hB2.size (by have := hB2.size; simp; omega)); have c8 := hx3.cell 8 (v := .bool x.raw) rfl; rw [HRAW.out] at c8; have c6 := hx3.cell 6 (v := SV x.label) rfl; rw [HLB.out.1] at c6; have hE3 := hE.below hB3) | (refine st_blk rfl 36 _ _ rfl w.heap.size (NC zeroN) rfl rfl hres3 info36 rfl (nc_one _) ?_; intro w4 hb4 hg4))
        exact line_end (w1 := w1) HL2.out rfl rfl rfl hb4 (hB3.trans (below_of_grown hg4 (Nat.le_refl _) hB3.size)) rfl
    · have HL2 : Hd (lineR (bs s) = (zeroN, 1)) := ⟨by rw [HL1.out, if_pos (.inl hraw)]⟩
      clear hraw hlb hlb2
      go_wp2_with (first | (refine st_blk rfl 58 _ _ rfl w2.heap.size (ICells x) rfl rfl (blk_new _ _ _) info58 rfl (icells_one _) ?_; intro w3 hx3 hg3; have hres3 := (hres2.alloc (.cells (ICells zeroX) 58)).grown hg3 (by have := hres2.lt; simp; omega); have hB3 := (hB2.alloc hB2.size (.cells (ICells zeroX) 58)).trans (below_of_grown hg3 hB2.size (by have := hB2.size; simp; omega)); have c8 := hx3.cell 8 (v := .bool x.raw) rfl; rw [HRAW.out] at c8) | (refine st_blk rfl 36 _ _ rfl w.heap.size (NC zeroN) rfl rfl hres3 info36 rfl (nc_one _) ?_; intro w4 hb4 hg4))
      exact line_end (w1 := w1) HL2.out rfl rfl rfl hb4 (hB3.trans (below_of_grown hg4 (Nat.le_refl _) hB3.size)) rfl

end Go.Proofs.YtceelkmedfoefaaDoor
