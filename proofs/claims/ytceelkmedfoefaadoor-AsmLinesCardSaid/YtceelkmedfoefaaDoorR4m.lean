/- AsmLines: for every string the law returns true, and its argument reads as it did; on the conditions of the row's own cells (the three tables read as the program's text lays them, tied by the card). -/
import Derived.Test.YtceelkmedfoefaaDoorT1
import Derived.Test.YtceelkmedfoefaaDoorT2
import Derived.Test.YtceelkmedfoefaaDoorA28
import Derived.Test.YtceelkmedfoefaaDoorA20
import Derived.Test.YtceelkmedfoefaaDoorL9
import Derived.Test.YtceelkmedfoefaaDoorR1
import Derived.Test.YtceelkmedfoefaaDoorTie
import Derived.Test.YtceelkmedfoefaaDoorCards
import Derived.SevenTiedAt
set_option linter.unusedVariables false
set_option linter.unusedSimpArgs false
namespace Go.Proofs.YtceelkmedfoefaaDoor
open Go.RowKit

/-- What a law leaves. -/
def Lawful (w w' : World) (e : Ending) : Prop := e = .returned (.bool true) ∧ Below w.heap.size w w'
theorem awake_from {w w1 : World} (hE : Env w) (h4 : 4 ≤ w.heap.size) (hB : Below w.heap.size w w1) :
    Calls Tryd.prog 8 #[] w1 fun e w' => e = .returned (.bool true) ∧ Below w.heap.size w w' :=
  (awake_any w1 (hE.below hB) (by have := hB.size; omega)).mono fun e w' ⟨h1, h2⟩ => ⟨h1, hB.trans (h2.mono hB.size)⟩

end Go.Proofs.YtceelkmedfoefaaDoor

set_option linter.unusedVariables false
set_option linter.unusedSimpArgs false
/-! The reference's Line. -/
namespace Go.Proofs.YtceelkmedfoefaaDoor
open Go.RowKit

theorem rread_any (g off n cap : Nat) (p : List Bytes) (w : World) (hp : StrAt w g off p) (hn : p.length = n) (h1 : 1 ≤ n) (hbig : n ≤ 1048576) (hc : n ≤ cap) (hlen : ∀ k, (p.getD k []).length ≤ 1048576) :
    Calls Tryd.prog 31 #[.slice (some ⟨g, off, none⟩) n cap] w fun e w' => RReadPost p w w' e := by
  by_cases hw : n = 2 ∧ p.getD 0 [] = wordB
  · exact rread_word g off n cap p w hp hn hc hw hlen
  · exact rread_else g off n cap p w hp hn h1 hbig hc hw hlen
section
variable {ops : Array Oper} {rest : List Oper} {o : Oper} {a : Act} {w : World} {Q : Exit → Act → World → Prop}
theorem rld_ni (hgd : o.guard = none) (x : Operand) (ho : o.op = .load 36 x) (g : Nat) (hx : a.eval x = .pointer (some ⟨g, 0, none⟩)) {y : AItem} {l : Int} {T : TypeId} (hb : Blk w g (RCells y l) T)
    (h : wpList Tryd.prog ops Q rest (a.put o.dst (.agg (NC (niOf y)))) w) : wpList Tryd.prog ops Q (o :: rest) a w :=
  wpList_load_mid hgd 36 x ho g 0 hx (NC (niOf y)).toList _ (by
    intro j v hj
    have hj6 : j < 6 := by
      have := (List.getElem?_eq_some_iff.1 hj).1
      simpa [NC] using this
    have : ∀ j, j < 6 → w.cell? ⟨g, j, none⟩ = (NC (niOf y))[j]? := fun j hj => by
      have e : (RCells y l)[j]? = (NC (niOf y))[j]? := by
        match j, hj with
        | 0, _ => rfl
        | 1, _ => rfl
        | 2, _ => rfl
        | 3, _ => rfl
        | 4, _ => rfl
        | 5, _ => rfl
      rw [cell_of_row w g j (RCells y l) T (0, 0) hb.at_, e]
    rw [Nat.zero_add, this j hj6]; simpa using hj) Tryd.underlying36 rfl (by rw [info36]; rfl) (by simpa using h)
end

set_option maxRecDepth 100000 in
set_option maxHeartbeats 4000000 in
theorem rline2_any (s : ByteArray) (w : World) (hs : s.size ≤ 1048576) :
    Calls Tryd.prog 14 #[.string s] w fun e w' => LinePost (bs s) w w' e := by
  go_enter Tryd.func14, Tryd.ntmps14
  go_wp2_with fail
  refine (rpieces_any s _ hs).mono ?_
  rintro e w1 hP
  have hres0 : Blk (w.alloc (.cells #[.int .i64 0, .int .i64 0, .int .i64 0, .int .i64 0, .int .u32 0, .int .i64 0] 36)) w.heap.size (NC zeroN) 36 := blk_new _ _ _
  have hb0 : Below w.heap.size w (w.alloc (.cells #[.int .i64 0, .int .i64 0, .int .i64 0, .int .i64 0, .int .u32 0, .int .i64 0] 36)) := (Below.refl _ _).alloc (Nat.le_refl _) _
  cases hP with
  | bad hp hb =>
    have hres := hres0.below hb (by simp)
    have HB := Hd.mk (hb0.trans (hb.mono (by simp)))
    have hl : lineR (bs s) = (zeroN, 1) := by unfold lineR; rw [hp]
    have HL := Hd.mk hl
    clear hl hp hb hb0 hres0
    go_wp2_with (refine st_blk rfl 36 _ _ rfl w.heap.size (NC zeroN) rfl rfl hres info36 rfl (nc_one _) ?_; intro w3 hb3 hg3)
    exact line_end (w1 := w1) HL.out rfl rfl rfl hb3 (HB.out.trans (below_of_grown hg3 (Nat.le_refl _) HB.out.size)) rfl
  | good out v hp hlen ho hb =>
    have hres := hres0.below hb (by simp)
    have hB := hb0.trans (hb.mono (by simp))
    have HPL : Hd (∀ k, (out.getD k []).length ≤ 1048576) := ⟨fun k => Nat.le_trans (pieces_len hp k) (by rw [bs_length]; exact hs)⟩
    rcases own_cases ho with ⟨rfl, rfl⟩ | ⟨g, cap, rfl, hbase, hcap, hst⟩
    · have HL : Hd (lineR (bs s) = (zeroN, 1)) := ⟨by unfold lineR; rw [hp]; rfl⟩
      have HB := Hd.mk hB
      clear hp hb hb0 hres0 hB ho hlen
      go_wp2_with (refine st_blk rfl 36 _ _ rfl w.heap.size (NC zeroN) rfl rfl hres info36 rfl (nc_one _) ?_; intro w3 hb3 hg3)
      exact line_end (w1 := w1) HL.out rfl rfl rfl hb3 (HB.out.trans (below_of_grown hg3 (Nat.le_refl _) HB.out.size)) rfl
    by_cases hn : out.length = 0
    · have HL : Hd (lineR (bs s) = (zeroN, 1)) := ⟨by unfold lineR; rw [hp, List.eq_nil_of_length_eq_zero hn]; rfl⟩
      have HB := Hd.mk hB
      have b1 : ((out.length : Int) == 0) = true := beq_iff_eq.2 (by omega)
      clear hp hb hb0 hres0 hB ho hlen hn hst hcap
      go_wp2_with (refine st_blk rfl 36 _ _ rfl w.heap.size (NC zeroN) rfl rfl hres info36 rfl (nc_one _) ?_; intro w3 hb3 hg3)
      exact line_end (w1 := w1) HL.out rfl rfl rfl hb3 (HB.out.trans (below_of_grown hg3 (Nat.le_refl _) HB.out.size)) rfl
    have HL : Hd (lineR (bs s) = lineP out) := ⟨by unfold lineR; rw [hp]; simp only []; rw [if_neg (fun e => hn (by rw [e]; rfl))]⟩
    have b1 : ((out.length : Int) == 0) = false := beq_eq_false_iff_ne.2 (by omega)
    have hl1 : out.length ≤ 1048576 := by rw [bs_length] at hlen; omega
    obtain ⟨n, hnn⟩ : ∃ n, out.length = n := ⟨_, rfl⟩
    rw [hnn] at hn b1 hl1 hcap
    have HN := Hd.mk hnn
    rw [hnn]
    clear hp hb hb0 hres0 ho hlen hnn
    go_wp2_with fail
    refine (rread_any g 0 n cap out w1 hst HN.out (by omega) hl1 hcap HPL.out).mono ?_
    rintro e w2 hRd
    obtain ⟨⟨x, ok, rfl, hok1, hok2⟩, hb2⟩ := hRd
    have hres2 := hres.below hb2 hres.lt
    have hB2 := hB.trans (hb2.mono hB.size)
    cases ok
    · have HL2 : Hd (lineR (bs s) = (zeroN, 1)) := ⟨by rw [HL.out, lineP, hok2 rfl]⟩
      clear hok1 hok2
      go_wp2_with (first | (refine st_blk rfl 62 _ _ rfl w2.heap.size (RCells x 0) rfl rfl (blk_new _ _ _) info62 rfl (rcells_one _ _) ?_; intro w3 hx3 hg3; have hres3 := (hres2.alloc (.cells (RCells zeroX 0) 62)).grown hg3 (by have := hres2.lt; simp; omega); have hB3 := (hB2.alloc hB2.size (.cells (RCells zeroX 0) 62)).trans (below_of_grown hg3 hB2.size (by have := hB2.size; simp; omega))) | (refine st_blk rfl 36 _ _ rfl w.heap.size (NC zeroN) rfl rfl hres3 info36 rfl (nc_one _) ?_; intro w4 hb4 hg4))
      exact line_end (w1 := w1) HL2.out rfl rfl rfl hb4 (hB3.trans (below_of_grown hg4 (Nat.le_refl _) hB3.size)) rfl
    have hro := hok1 rfl
    have hro2 := Hd.mk hro
    have him := readO_imm hro
    obtain ⟨him1, him2⟩ := him
    have HL1 : Hd (lineR (bs s) = if x.raw = true ∨ x.label ≠ [] then (zeroN, 1) else if rightB (niOf x) = true then (niOf x, 0) else (zeroN, 9)) := ⟨by rw [HL.out, lineP, hro]⟩
    clear hok1 hok2 hro
    obtain ⟨raw, hraw⟩ : ∃ raw, x.raw = raw := ⟨_, rfl⟩
    have HRAW := Hd.mk hraw
    obtain ⟨lb, hlb, hlb2⟩ := sv_ex x.label
    have HLB := Hd.mk (And.intro hlb hlb2)
    cases raw
    · by_cases hlab : x.label = []
      · have hz : lb.size = 0 := by rw [← bs_length, hlb2, hlab]; rfl
        obtain ⟨t1, t2⟩ := tl_nil hz
        obtain ⟨rb, hrb⟩ : ∃ rb, rightB (niOf x) = rb := ⟨_, rfl⟩
        have HRB := Hd.mk hrb
        have HL3 : Hd (lineR (bs s) = if rightB (niOf x) = true then (niOf x, 0) else (zeroN, 9)) := ⟨by rw [HL1.out, if_neg (by rw [hraw, hlab]; simp)]⟩
        clear hraw hlb hlb2 hlab hrb hz
        cases rb
        · have HL2 : Hd (lineR (bs s) = (zeroN, 9)) := ⟨by rw [HL3.out, HRB.out]; rfl⟩
          go_wp2_with (first | (refine st_blk rfl 62 _ _ rfl w2.heap.size (RCells x 0) rfl rfl (blk_new _ _ _) info62 rfl (rcells_one _ _) ?_; intro w3 hx3 hg3; have hres3 := (hres2.alloc (.cells (RCells zeroX 0) 62)).grown hg3 (by have := hres2.lt; simp; omega); have hB3 := (hB2.alloc hB2.size (.cells (RCells zeroX 0) 62)).trans (below_of_grown hg3 hB2.size (by have := hB2.size; simp; omega)); have c8 := hx3.cell 8 (v := .bool x.raw) rfl; rw [HRAW.out] at c8; have c6 := hx3.cell 6 (v := SV x.label) rfl; rw [HLB.out.1] at c6) | (go_at_call 17; refine (rright_any (niOf x) _ him1 him2).mono ?_; rw [HRB.out]; rintro e w5 ⟨rfl, hb5⟩; have hres5 := hres3.below hb5 hres3.lt; have hB5 := hB3.trans (hb5.mono hB3.size); have hx5 := hx3.below hb5 hx3.lt) | (refine rld_ni rfl _ rfl w2.heap.size rfl hx3 ?_) | (refine st_blk rfl 36 _ _ rfl w.heap.size (NC zeroN) rfl rfl hres5 info36 rfl (nc_one _) ?_; intro w6 hb6 hg6))
          exact line_end (w1 := w1) HL2.out rfl rfl rfl hb6 (hB5.trans (below_of_grown hg6 (Nat.le_refl _) hB5.size)) rfl
        · have HL2 : Hd (lineR (bs s) = (niOf x, 0)) := ⟨by rw [HL3.out, HRB.out, if_pos rfl]⟩
          go_wp2_with (first | (refine st_blk rfl 62 _ _ rfl w2.heap.size (RCells x 0) rfl rfl (blk_new _ _ _) info62 rfl (rcells_one _ _) ?_; intro w3 hx3 hg3; have hres3 := (hres2.alloc (.cells (RCells zeroX 0) 62)).grown hg3 (by have := hres2.lt; simp; omega); have hB3 := (hB2.alloc hB2.size (.cells (RCells zeroX 0) 62)).trans (below_of_grown hg3 hB2.size (by have := hB2.size; simp; omega)); have c8 := hx3.cell 8 (v := .bool x.raw) rfl; rw [HRAW.out] at c8; have c6 := hx3.cell 6 (v := SV x.label) rfl; rw [HLB.out.1] at c6) | (go_at_call 17; refine (rright_any (niOf x) _ him1 him2).mono ?_; rw [HRB.out]; rintro e w5 ⟨rfl, hb5⟩; have hres5 := hres3.below hb5 hres3.lt; have hB5 := hB3.trans (hb5.mono hB3.size); have hx5 := hx3.below hb5 hx3.lt) | (refine rld_ni rfl _ rfl w2.heap.size rfl hx3 ?_) | (refine rld_ni rfl _ rfl w2.heap.size rfl hx5 ?_) | (refine st_blk rfl 36 _ _ rfl w.heap.size (NC (niOf x)) rfl rfl hres5 info36 rfl (nc_one _) ?_; intro w6 hb6 hg6))
          exact line_end (w1 := w1) HL2.out rfl rfl rfl hb6 (hB5.trans (below_of_grown hg6 (Nat.le_refl _) hB5.size)) rfl
      · have hz : 0 < lb.size := by
          rw [← bs_length, hlb2]; exact List.length_pos_iff.2 hlab
        obtain ⟨t1, t2⟩ := tl_cons hz
        have HL2 : Hd (lineR (bs s) = (zeroN, 1)) := ⟨by rw [HL1.out, if_pos (.inr hlab)]⟩
        clear hraw hlb hlb2 hlab hz
        go_wp2_with (first | (refine st_blk rfl 62 _ _ rfl w2.heap.size (RCells x 0) rfl rfl (blk_new _ _ _) info62 rfl (rcells_one _ _) ?_; intro w3 hx3 hg3; have hres3 := (hres2.alloc (.cells (RCells zeroX 0) 62)).grown hg3 (by have := hres2.lt; simp; omega); have hB3 := (hB2.alloc hB2.size (.cells (RCells zeroX 0) 62)).trans (below_of_grown hg3 hB2.size (by have := hB2.size; simp; omega)); have c8 := hx3.cell 8 (v := .bool x.raw) rfl; rw [HRAW.out] at c8; have c6 := hx3.cell 6 (v := SV x.label) rfl; rw [HLB.out.1] at c6) | (refine st_blk rfl 36 _ _ rfl w.heap.size (NC zeroN) rfl rfl hres3 info36 rfl (nc_one _) ?_; intro w4 hb4 hg4))
        exact line_end (w1 := w1) HL2.out rfl rfl rfl hb4 (hB3.trans (below_of_grown hg4 (Nat.le_refl _) hB3.size)) rfl
    · have HL2 : Hd (lineR (bs s) = (zeroN, 1)) := ⟨by rw [HL1.out, if_pos (.inl hraw)]⟩
      clear hraw hlb hlb2
      go_wp2_with (first | (refine st_blk rfl 62 _ _ rfl w2.heap.size (RCells x 0) rfl rfl (blk_new _ _ _) info62 rfl (rcells_one _ _) ?_; intro w3 hx3 hg3; have hres3 := (hres2.alloc (.cells (RCells zeroX 0) 62)).grown hg3 (by have := hres2.lt; simp; omega); have hB3 := (hB2.alloc hB2.size (.cells (RCells zeroX 0) 62)).trans (below_of_grown hg3 hB2.size (by have := hB2.size; simp; omega)); have c8 := hx3.cell 8 (v := .bool x.raw) rfl; rw [HRAW.out] at c8) | (refine st_blk rfl 36 _ _ rfl w.heap.size (NC zeroN) rfl rfl hres3 info36 rfl (nc_one _) ?_; intro w4 hb4 hg4))
      exact line_end (w1 := w1) HL2.out rfl rfl rfl hb4 (hB3.trans (below_of_grown hg4 (Nat.le_refl _) hB3.size)) rfl

end Go.Proofs.YtceelkmedfoefaaDoor

set_option linter.unusedVariables false
set_option linter.unusedSimpArgs false
namespace Go.Proofs.YtceelkmedfoefaaDoor
open Go.RowKit

set_option maxRecDepth 100000 in
set_option maxHeartbeats 4000000 in
theorem lawLines_any (s : ByteArray) (w : World) (hE : Env w) (h4 : 4 ≤ w.heap.size) :
    Calls Tryd.prog 4 #[.string s] w fun e w' => Lawful w w' e := by
  by_cases hbig : 3000 < s.size
  · have e1 : decide ((s.size : Int) > 3000) = true := decide_eq_true (by omega)
    go_enter Tryd.func4, Tryd.ntmps4
    go_wp2_with fail
    refine (awake_any w hE h4).mono ?_
    rintro e w' ⟨rfl, hb⟩
    go_wp2_with fail
    go_ret
    exact ⟨rfl, hb⟩
  have e1 : decide ((s.size : Int) > 3000) = false := decide_eq_false (by omega)
  have hs : s.size ≤ 1048576 := by omega
  clear hbig
  obtain ⟨y, hy⟩ : ∃ y, (lineR (bs s)).1 = y := ⟨_, rfl⟩
  obtain ⟨c, hc⟩ : ∃ c, (lineR (bs s)).2 = c := ⟨_, rfl⟩
  have HYC := Hd.mk (And.intro hy hc)
  clear hy hc
  go_enter Tryd.func4, Tryd.ntmps4
  go_wp2_with fail
  refine (line_any right_any s w hE hs).mono ?_
  rintro e w1 ⟨hret, hb1⟩
  rw [hret, HYC.out.1, HYC.out.2]
  clear hret
  have hs1 := hb1.size
  go_wp2_with (refine st_blk rfl 36 _ _ rfl w1.heap.size (NC y) rfl rfl (blk_new w1 (NC zeroN) 36) info36 rfl (nc_one _) ?_; intro w3 hb3 hg3)
  have hB3 := (hb1.alloc hs1 (.cells (NC zeroN) 36)).trans (below_of_grown hg3 hs1 (by simp; omega))
  refine (rline2_any s w3 hs).mono ?_
  rintro e w4 ⟨hret, hb4⟩
  rw [hret, HYC.out.1, HYC.out.2]
  clear hret
  have hx4 := hb3.below hb4 hb3.lt
  have hB4 := hB3.trans (hb4.mono hB3.size)
  have hs4 := hB4.size
  have hlt4 := hx4.lt
  go_wp2_with (first | (refine st_blk rfl 36 _ _ rfl w4.heap.size (NC y) rfl rfl (blk_new w4 (NC zeroN) 36) info36 rfl (nc_one _) ?_; intro w5 hb5 hg5; have hx5 : Blk w5 w1.heap.size #[.int .i64 y.op, .int .i64 y.rd, .int .i64 y.rs1, .int .i64 y.rs2, .int .u32 y.imm, .int .i64 y.csr] 36 := (hx4.alloc (.cells (NC zeroN) 36)).grown hg5 (by simp; omega); have hy5 : Blk w5 w4.heap.size #[.int .i64 y.op, .int .i64 y.rd, .int .i64 y.rs1, .int .i64 y.rs2, .int .u32 y.imm, .int .i64 y.csr] 36 := hb5; have hB5 := (hB4.alloc hs4 (.cells (NC zeroN) 36)).trans (below_of_grown hg5 hs4 (by simp; omega))) | (refine ld_blk rfl 36 _ rfl w1.heap.size rfl hx5 Tryd.underlying36 (by rw [info36]; rfl) ?_) | (refine ld_blk rfl 36 _ rfl w4.heap.size rfl hy5 Tryd.underlying36 (by rw [info36]; rfl) ?_) | (go_at_call 8; refine (awake_from hE h4 hB5).mono ?_; rintro e w6 ⟨rfl, hb6⟩))
  go_ret
  exact ⟨rfl, hb6⟩
end Go.Proofs.YtceelkmedfoefaaDoor

set_option linter.unusedVariables false
set_option linter.unusedSimpArgs false
namespace Go.Proofs.YtceelkmedfoefaaDoor
open Go.ChangeShapes Go.WideShapes Go.ChangeAt Go.WideMaps Go.WideElems Go.RowKit
open Go.ChangeMaps (open_string shut_string)

set_option maxRecDepth 100000 in
theorem asmLines_lifted (os : Os) (started : os.Started) (H : Type) (enc : TypeId × Value → H) :
    ReturnsInHanded {} Tryd.checked os 4 .any (fun w args => (Rows.asmLinesSpec.pre enc Tryd.prog Tryd.f4 [] false w args ∧ laidMetH Tryd.prog laid3 w) ∧ sizedMet enc Tryd.prog Tryd.f4 (OpenSpec.ofChange Rows.asmLinesSpec) false w args)
      (Rows.asmLinesSpec.post enc Tryd.prog Tryd.f4 false true false false) := by
  refine returnsInHanded_of_change_and (C := Tryd.checked) (X := fun w _ => laidMetH Tryd.prog laid3 w) (fun _ _ _ hh h => h.of_heap hh) ownK started (by kernel_rfl) Tryd.func4
    (ChangeSpec.witness_shaped (enc := enc) (C := Tryd.checked) (os := os) (X := fun w _ => laidMetH Tryd.prog laid3 w) false (World.doorLaid Tryd.prog 400 os) #[.string ⟨#[]⟩] 8 rfl (World.shaped_of_RefB (by kernel_rfl) (by kernel_rfl)) (by kernel_rfl) (by kernel_rfl) (by kernel_rfl) (door_met os _)) ?_
  intro W base args ds gs before hval0 hW _ _ hL hsh
  have hval : ∀ (j : Nat) t v, Tryd.f4.params[j]? = some t → args[j]? = some v → Value.okWide Tryd.prog W .any base t v := hval0
  have hW' := hW
  obtain ⟨p, q, hA0, hV, rfl, hfz, hnd⟩ := hW
  have hA : DataW.TrodAll enc Tryd.prog W 0 (fun _ => true) true Tryd.f4.params.toList args.toList ds p := hA0
  rw [Tryd.params4] at hA hval
  obtain ⟨v0, d0, rfl, rfl, h0⟩ := trodAll_one hA
  obtain ⟨rfl, rfl⟩ := trodVars_none hV
  obtain ⟨s, rfl, rfl, rfl, hs⟩ := open_string Tryd.underlying9 (hval 0 9 v0 rfl rfl) h0
  have hE := env_of_laid hL
  clear hA0 hval0
  simp only [List.append_nil] at hW'
  refine (lawLines_any s W hE hE.size).mono ?_
  rintro e W' ⟨rfl, hB⟩
  refine ⟨_, rfl, _, _, _, [], [], [], hW', trodAll_mk1 (shut_bool Tryd.underlying4 true), trodAll_mk1 (shut_string Tryd.underlying9 hs), rfl, hB.frame _, fun h => by cases h⟩

theorem asmLines_holds : Rows.AsmLinesSaid :=
  OpenClaim.holds_of_wide 4 Tryd.f4 rfl rfl rfl rfl rfl rfl rfl ⟨rfl, rfl, rfl, rfl, rfl⟩ rfl rfl rfl rfl rfl (by kernel_rfl) Tryd.func4 (by kernel_rfl)
    (of_decide_eq_true (by kernel_rfl)) (by unfold Func.isWrapper; first | (rw [if_pos (by decide +kernel)]; kernel_rfl) | (rw [if_neg (by decide +kernel)]; exact ⟨rfl, rfl⟩))
    (fun os started H enc _ => asmLines_lifted os started H enc)

theorem asmLines_card : Rows.AsmLinesCardSaid :=
  Claim7.holds_tied_plain_at .later [] [.data, .data, .data] true (true, "379bb9740dcee708e54628b5f9eb815e8a3078b48da92db2e74f01d606b64738") false
    asmLines_holds (fun _ h => by cases h) (by kernel_rfl) (fun _ h => by cases h) asmLines_row_tie rfl ⟨rfl, rfl⟩ (by kernel_rfl) rfl
    (fun f fn hf hfn => by
      obtain rfl : f = 4 := Option.some.inj ((show Tryd.prog.funcNamed "mimesis/mimesislaw06.AsmLines" = some 4 by kernel_rfl).symm.trans hf) |>.symm
      obtain rfl : fn = Tryd.f4 := (Option.some.inj (Tryd.func4.symm.trans hfn)).symm
      exact ⟨by kernel_rfl, fun j t ht => by
        rw [Tryd.params4] at ht
        have h3 : t = 9 := by
          rcases j with _ | j
          · simpa using ht.symm
          · simp at ht
        subst h3
        exact (show Tryd.prog.wantsStandIn 9 = false by kernel_rfl)⟩)
    (by kernel_rfl)
#print axioms asmLines_card
end Go.Proofs.YtceelkmedfoefaaDoor

