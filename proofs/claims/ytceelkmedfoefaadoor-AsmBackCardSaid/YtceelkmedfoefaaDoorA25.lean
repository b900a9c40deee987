import Derived.Test.YtceelkmedfoefaaDoorL11
import Derived.Test.YtceelkmedfoefaaDoorA16
import Derived.Deep.QuietTactic
import Derived.BigQuiet
import Derived.StillTailTactics
set_option linter.unusedVariables false
set_option linter.unusedSimpArgs false
namespace Go.Proofs.YtceelkmedfoefaaDoor
open Go.RowKit Go.Maps Go.WideMaps

theorem lit3_inj {a b : Int} (h : lit3 a = lit3 b) : a = b := by
  unfold lit3 at h
  simpa using h
theorem RdSt.store {w w' : World} {B rb mb : Nat} {vi vl : Value} {st : RSt} {k : Bytes} (h : RdSt w B rb mb vi vl st) (hk : k.length ≤ maxLen)
    (hm : w'.ownsMap Tryd.prog 9 (plainElem Tryd.prog 3) mb (st.labels.length + 1) ((labD st.labels).put (.string k) (.lit (.int .i64 (4 * (st.items.length : Int)))))) (hg : w.grownBy w' (some mb)) :
    RdSt w' B rb mb vi vl ⟨st.items, st.lines, st.labels ++ [(k, 4 * (st.items.length : Int))]⟩ where
  blk := h.blk.grown hg (by simpa using h.ne)
  items := h.items.kept hg (by
    rcases ho : vi.ownBlock with _ | g
    · simp
    · have := (h.items.lt g ho).1; have := h.mlt; right; simp; omega)
  lines := h.lines.kept hg (by
    rcases ho : vl.ownBlock with _ | g
    · simp
    · have := (h.lines.lt g ho).1; have := h.mlt; right; simp; omega)
  map := by rw [labD_snoc]; simpa [lit3] using hm
  keys := fun p hp => by
    rcases List.mem_append.1 hp with hp | hp
    · exact h.keys p hp
    · simp at hp; rw [hp]; exact hk
  rlt := h.rlt
  mlt := h.mlt
  ne := h.ne
  apart := h.apart
  base := Nat.le_trans h.base hg.size
theorem pw_below_drewN2 {B : Nat} {w W : World} (h : Below B w W) (n : Nat) : Below B w (W.drewN n) := ⟨h.os, h.tape, h.output, h.size, h.block⟩
theorem look_lab {w : World} {mb n : Nat} {L : Labels} (h : w.ownsMap Tryd.prog 9 (plainElem Tryd.prog 3) mb n (labD L)) (hk : ∀ p ∈ L, p.1.length ≤ maxLen) (s : ByteArray) (hs : s.size ≤ maxLen) :
    (Instr.lookup 66 (.map (some mb)) (.string s) true).run Tryd.prog w = .ok (.tuple #[.int .i64 (labV L (bs s)), .bool (labHas L (bs s))]) w := by
  obtain ⟨v, ps, hrun, hv⟩ := h.look_ok law9 Tryd.underlying66 (zero3 w) (plainElem_int (q := .i64) Tryd.underlying3 (by decide)) (keyOf_string_mk Tryd.underlying9 hs)
  obtain ⟨c, rfl, hc, hwc⟩ := plainElem_int_inv Tryd.underlying3 hv
  have h2 : (labD L).atKey (.string s.data.toList) (lit3 0) = lit3 (labV L (bs s)) := labD_at L (bs s) hk
  have h3 : Maps.has (labD L) (.string s.data.toList) = labHas L (bs s) := labD_has L (bs s) hk
  have h4 : (labD L).atKey (.string s.data.toList) (lit3 0) = lit3 c := congrArg Prod.fst hc
  rw [h2] at h4
  rw [h3, ← lit3_inj h4] at hrun
  exact hrun

/-- A slice of strings, as it is read. -/
inductive SlAt (w : World) (B : Nat) : Value → List Bytes → Prop
  | nil : SlAt w B (.slice none 0 0) []
  | row (g off cap : Nat) (p : List Bytes) (hc : p.length ≤ cap) (hs : StrAt w g off p) (hb : B ≤ g) : SlAt w B (.slice (some ⟨g, off, none⟩) p.length cap) p
theorem SlAt.row' {w : World} {B g off cap n : Nat} {p : List Bytes} (hn : n = p.length) (hc : p.length ≤ cap) (hs : StrAt w g off p) (hb : B ≤ g) : SlAt w B (.slice (some ⟨g, off, none⟩) n cap) p := by
  subst hn; exact .row g off cap p hc hs hb
theorem StrAt.grown {w w' : World} {g off : Nat} {p : List Bytes} {row : Option Nat} (h : StrAt w g off p) (hg : w.grownBy w' row) (hr : some g ≠ row) : StrAt w' g off p := by
  rcases h.lt with e | e
  · subst e; exact ⟨fun j hj => by simp at hj, .inl rfl⟩
  · exact ⟨fun j hj => by have := h.cell j hj; simp only [World.cell?, hg.block g e hr] at this ⊢; exact this, .inr (Nat.lt_of_lt_of_le e hg.size)⟩
def colonB (p : List Bytes) : Bool := decide (2 ≤ p.length ∧ p.getD 1 [] = [58])
/-- Ahead of the rest. -/
structure CutL (w : World) (B0 B rb mb : Nat) (st : RSt) (n : Int) (r : Int × RSt) (v : Value) (w' : World) (p : List Bytes) (vi vl : Value) (st' : RSt) : Prop where
  sl : SlAt w' B v p
  len : p.length ≤ 1048576
  rd : RdSt w' B rb mb vi vl st'
  bel : Below B0 w w'
  env : Env w'
  items : st'.items = st.items
  eq : r = bodyL st' n p

set_option maxRecDepth 100000 in
set_option maxHeartbeats 4000000 in
theorem rline_any (s : ByteArray) (n : Int) (B0 B rb mb : Nat) (vi vl : Value) (st : RSt) (w : World) (hE : Env w) (hs : s.size ≤ 1048576) (hst : RdSt w B rb mb vi vl st) (h0 : 4 ≤ B0 ∧ B0 ≤ rb ∧ B0 ≤ mb ∧ B0 ≤ B)
    (hi : st.items.length ≤ 4096) (hl : st.labels.length ≤ 1048576) :
    Calls Tryd.prog 33 #[.pointer (some ⟨rb, 0, none⟩), .int .i64 n, .string s] w fun e w' => RLinePost B0 B rb mb (stepL st n (bs s)) w w' e := by
  have hB := hst.base
  obtain ⟨ao, capi, rfl⟩ := own_form hst.items
  have hwr : IntKind.i64.wrap (4 * (st.items.length : Int)) = 4 * (st.items.length : Int) := IntWalk.i64_in _ (by omega)
  have HWR := Hd.mk hwr
  clear hwr
  go_enter Tryd.func33, Tryd.ntmps33
  go_wp2_with fail
  refine (pieces_any s _ hs).mono ?_
  rintro e w1 hP
  cases hP with
  | bad hp hb =>
    have hR : stepL st n (bs s) = (1, st) := by unfold stepL; rw [hp]
    have HX := Hd.mk (And.intro hR (hb.mono (Nat.le_trans h0.2.2.2 hB)))
    clear hp hb hR
    go_wp2_with fail
    go_ret
    exact ⟨by rw [HX.out.1]; rfl, HX.out.2, fun h => by rw [HX.out.1] at h; cases h⟩
  | good out v hp hlen ho hb =>
    have HR : Hd (stepL st n (bs s) = piecesL st n out) := ⟨by unfold stepL; rw [hp]⟩
    have hst1 := hst.below hb
    have hE1 := hE.below hb
    have HB1 := Hd.mk (hb.mono (Nat.le_trans h0.2.2.2 hB))
    have hlb : out.length ≤ 1048576 := by rw [bs_length] at hlen; omega
    have hsl : SlAt w1 B v out := by
      rcases own_cases ho with ⟨rfl, rfl⟩ | ⟨g, cap, rfl, hbase, hcap, hst⟩
      · exact .nil
      · exact .row g 0 cap out hcap hst (Nat.le_trans hB hbase)
    have HPL : Hd (∀ k, (out.getD k []).length ≤ 1048576) := ⟨fun k => Nat.le_trans (pieces_len hp k) (by rw [bs_length]; exact hs)⟩
    clear hp hlen ho hb
    go_upto_region 4 with fail
    go_cut [29] (fun u w' => w1 = w' ∧ u = .bool (colonB out))
    case first =>
      have HSL := Hd.mk hsl
      cases hsl with
      | nil =>
        go_wp2_with fail
        go_meet
        exact ⟨rfl, rfl⟩
      | row g off cap p hc hs2 hgB =>
        by_cases h2 : out.length < 2
        · have e1 : decide ((out.length : Int) ≥ 2) = false := decide_eq_false (by omega)
          have HC : Hd (colonB out = false) := ⟨by unfold colonB; exact decide_eq_false (by omega)⟩
          clear hs2
          go_wp2_with fail
          go_meet
          exact ⟨rfl, by rw [HC.out]⟩
        · obtain ⟨s1, hs1, hb1⟩ := sv_ex (out.getD 1 [])
          have hc1 : w1.cell? ⟨g, off + 1, none⟩ = some (.string s1) := by rw [← hs1]; exact hs2.cell 1 (by omega)
          have e1 : decide ((out.length : Int) ≥ 2) = true := decide_eq_true (by omega)
          obtain ⟨cb, hcb⟩ : ∃ cb, (s1.toList == [58]) = cb := ⟨_, rfl⟩
          have HC : Hd (colonB out = cb) := ⟨by
            rw [← hcb, toList_eq_bs, hb1]; unfold colonB
            by_cases e : out.getD 1 [] = [58]
            · rw [e]; simp; omega
            · rw [decide_eq_false (fun h => e h.2)]; exact (beq_eq_false_iff_ne.2 e).symm⟩
          have hlt : 1 < out.length := by omega
          clear hs1 hb1 h2 hs2
          go_wp2_with fail
          go_meet
          exact ⟨rfl, by rw [HC.out]⟩
    case rest =>
      obtain ⟨rfl, rfl⟩ := hcut
      obtain ⟨cb, hcb⟩ : ∃ cb, colonB out = cb := ⟨_, rfl⟩
      rw [hcb]
      go_upto_if 29 with fail
      go_cut [7] (fun u w' => ∃ p vi' vl' st', CutL w B0 B rb mb st n (piecesL st n out) u w' p vi' vl' st')
      case first =>
        cases cb
        · have HB1' := HB1.out
          have HP : Hd (piecesL st n out = bodyL st n out) := ⟨by
            unfold piecesL; rw [if_neg (fun h => by unfold colonB at hcb; exact absurd h (of_decide_eq_false hcb))]⟩
          clear hcb
          go_wp2_with fail
          go_meet
          exact ⟨out, _, vl, st, hsl, hlb, hst1, HB1', hE1, rfl, HP.out⟩
        · have hcb2 := of_decide_eq_true hcb
          cases hsl with
          | nil => simp at hcb2
          | row g off cap p hc hs2 hgB =>
            obtain ⟨s0, hs0, hb0⟩ := sv_ex (out.getD 0 [])
            have hc0 : w1.cell? ⟨g, off, none⟩ = some (.string s0) := by rw [← hs0]; exact hs2.cell 0 (by omega)
            have hlt : 2 ≤ out.length := hcb2.1
            have hz : 0 < out.length := by omega
            have hzi : (0 : Int) < (out.length : Int) := by omega
            have HP : Hd (piecesL st n out = if labHas st.labels (bs s0) = true ∨ nameB (bs s0) = false then (1, st) else bodyL ⟨st.items, st.lines, st.labels ++ [(bs s0, 4 * (st.items.length : Int))]⟩ n (out.drop 2)) := ⟨by
              unfold piecesL; rw [if_pos hcb2, hb0]⟩
            have hs0l : s0.size ≤ maxLen := by
              have := HPL.out 0
              rw [← hb0, bs_length] at this
              unfold maxLen; omega
            clear hcb hcb2 hs0 hb0
            have hrun := fun k => look_lab (w := w1.drewN k) hst1.map hst1.keys s0 hs0l
            have r2 := hst1.blk.cell 2 (v := .map (some mb)) rfl
            go_wp2_with fail
            go_quiet (fail)
            have hB2 : Below B0 w (w1.drewN nq) := pw_below_drewN2 HB1.out nq
            have hb2 : Below w1.heap.size w1 (w1.drewN nq) := pw_below_drewN2 (Below.refl _ _) nq
            have hst2 := hst1.below hb2
            have hE2 := hE1.below hb2
            have hs3 := hs2.below hb2 (by rcases hs2.lt with e | e; rw [e] at hz; simp at hz; exact e)
            have hc0 : (w1.drewN nq).cell? ⟨g, off, none⟩ = some (.string s0) := hc0
            have r2 := hst2.blk.cell 2 (v := .map (some mb)) rfl
            have r0 := hst2.blk.cell 0 (v := .slice ao st.items.length capi) rfl
            clear hrun hs2 hst1 hE1
            generalize w1.drewN nq = w2 at hB2 hst2 hE2 hs3 hc0 r2 r0 ⊢
            clear hb2
            obtain ⟨lh, hlh⟩ : ∃ lh, labHas st.labels (bs s0) = lh := ⟨_, rfl⟩
            obtain ⟨nb, hnb⟩ : ∃ nb, nameB (bs s0) = nb := ⟨_, rfl⟩
            have HQ := Hd.mk (And.intro hlh hnb)
            rw [hlh]
            have HB2 := Hd.mk hB2
            clear hlh hB2 HB1
            cases lh
            · cases nb
              · have HX : Hd (piecesL st n out = (1, st)) := ⟨by rw [HP.out, if_pos (.inr HQ.out.2)]⟩
                go_wp2_with (go_at_call 65; refine (name_any _ _).mono ?_; rw [HQ.out.2]; rintro e w' ⟨rfl, rfl⟩)
                go_ret
                exact ⟨by rw [HR.out, HX.out]; rfl, HB2.out, fun h => by rw [HR.out, HX.out] at h; cases h⟩
              · have HX : Hd (piecesL st n out = bodyL ⟨st.items, st.lines, st.labels ++ [(bs s0, 4 * (st.items.length : Int))]⟩ n (out.drop 2)) := ⟨by
                  rw [HP.out, if_neg (by rw [HQ.out.1, HQ.out.2]; simp)]⟩
                go_wp2_with (go_at_call 65; refine (name_any _ _).mono ?_; rw [HQ.out.2]; rintro e w' ⟨rfl, rfl⟩)
                have hwr := HWR.out
                go_still_tail 13, (by kernel_rfl)
                clear hwr
                change wpList _ _ _ _ _ w2.drew
                have hst3 := hst2.drew
                have hE3 : Env w2.drew := hE2.below (Below.refl _ _).drew
                have hs4 : StrAt w2.drew g off out := ⟨hs3.cell, hs3.lt⟩
                have HB3 := Hd.mk HB2.out.drew
                clear hst2 hE2 hs3 hc0 r2 r0
                generalize w2.drew = w3 at hst3 hE3 hs4 HB3 ⊢
                go_wp2_with (first | (at_mapUpdate; refine wpList_mapUpdate_own _ rfl _ _ _ 66 rfl 9 3 law9 Tryd.underlying66 _ mb st.labels.length _ rfl hst3.map (by unfold maxLen; omega) _ _ _ rfl rfl (keyOf_string_mk Tryd.underlying9 hs0l) _ [] (plainElem_int (q := .i64) Tryd.underlying3 (WalkArith.wf_i64 (by omega))) ?_; intro w4 hown4 hgrow4))
                all_goals
                  go_meet
                  have hgb : some g ≠ some mb := by have := hst3.mlt; simp; omega
                  have hrd := hst3.store (k := bs s0) (by rw [bs_length]; exact hs0l) hown4 hgrow4
                  have hbw : Below B0 w3 w4 := below_of_grown hgrow4 h0.2.2.1 (Nat.le_trans h0.2.2.2 hst3.base)
                  refine ⟨out.drop 2, _, vl, _, ?_, by rw [List.length_drop]; omega, hrd, HB3.out.trans hbw, hE3.below4 h0.1 hbw, rfl, HX.out⟩
                  first
                    | exact SlAt.row' (by rw [List.length_drop]) (by rw [List.length_drop]; omega) ((hs4.drop 2).grown hgrow4 hgb) hgB
                    | exact SlAt.row' (by rw [List.length_drop]) (by rw [List.length_drop]; omega) ⟨fun j hj => by rw [List.length_drop] at hj; omega, .inl (List.eq_nil_of_length_eq_zero (by rw [List.length_drop]; omega))⟩ hgB
            · have HX : Hd (piecesL st n out = (1, st)) := ⟨by rw [HP.out, if_pos (.inl HQ.out.1)]⟩
              go_wp2_with fail
              go_ret
              exact ⟨by rw [HR.out, HX.out]; rfl, HB2.out, fun h => by rw [HR.out, HX.out] at h; cases h⟩
      case rest =>
        obtain ⟨p, vi2, vl2, st2, hC⟩ := hcut
        obtain ⟨hsl2, hpl, hrd, hbel, hen, hit, heq⟩ := hC
        clear hsl hst1 hE1 HB1 hlb HPL hcb HWR
        have HEQ : Hd (stepL st n (bs s) = bodyL st2 n p) := ⟨by rw [HR.out, heq]⟩
        clear heq HR hst hE
        rw [← hit] at hi
        clear hit
        obtain ⟨ai, ci, rfl⟩ := own_form hrd.items
        cases hsl2 with
        | nil =>
          have HX : Hd (stepL st n (bs s) = (0, st2)) := ⟨by rw [HEQ.out]; rfl⟩
          have HD := Hd.mk (And.intro hrd hbel)
          clear hrd hbel
          go_wp2_with fail
          go_ret
          exact ⟨by rw [HX.out]; rfl, HD.out.2, fun _ => by rw [HX.out]; exact ⟨_, _, HD.out.1⟩⟩
        | row g off cap p hc hs2 hgB =>
          by_cases hn : p.length = 0
          · have HX : Hd (stepL st n (bs s) = (0, st2)) := ⟨by rw [HEQ.out, List.eq_nil_of_length_eq_zero hn]; rfl⟩
            have HD := Hd.mk (And.intro hrd hbel)
            have b1 : ((p.length : Int) == 0) = true := beq_iff_eq.2 (by omega)
            clear hrd hbel hs2
            go_wp2_with fail
            go_ret
            exact ⟨by rw [HX.out]; rfl, HD.out.2, fun _ => by rw [HX.out]; exact ⟨_, _, HD.out.1⟩⟩
          · have HX : Hd (stepL st n (bs s) = match readO p with | none => (1, st2) | some x => if 4096 ≤ st2.items.length then (3, st2) else (0, ⟨st2.items ++ [x], st2.lines ++ [n], st2.labels⟩)) := ⟨by
              rw [HEQ.out, bodyL, if_neg (fun e => hn (by rw [e]; rfl))]; rfl⟩
            have b1 : ((p.length : Int) == 0) = false := beq_eq_false_iff_ne.2 (by omega)
            obtain ⟨m, hm⟩ : ∃ m, p.length = m := ⟨_, rfl⟩
            have HM := Hd.mk hm
            rw [hm] at hn b1 hpl hc
            rw [hm]
            clear hm
            go_wp2_with fail
            refine (read_any g off m cap p wc hen hs2 HM.out (by omega) hpl hc).mono ?_
            rintro e w2 hRd
            obtain ⟨⟨x, ok, rfl, hok1, hok2⟩, hb2⟩ := hRd
            have hrd2 := hrd.below hb2
            have hen2 := hen.below hb2
            have hB0 : B0 ≤ wc.heap.size := Nat.le_trans h0.2.2.2 hrd.base
            have hbel2 := hbel.trans (hb2.mono hB0)
            have hB02 : B0 ≤ w2.heap.size := Nat.le_trans h0.2.2.2 hrd2.base
            clear hrd hen hbel hs2 hb2 hB0 b1
            cases ok
            · have HX2 : Hd (stepL st n (bs s) = (1, st2)) := ⟨by rw [HX.out, hok2 rfl]⟩
              clear hok1 hok2
              go_wp2_with (first | (refine st_blk rfl 58 _ _ rfl w2.heap.size (ICells x) rfl rfl (blk_new _ _ _) info58 rfl (icells_one _) ?_; intro w3 hx3 hg3; have hB3 : Below B0 w w3 := (hbel2.alloc hB02 (.cells (ICells zeroX) 58)).trans (below_of_grown hg3 hB02 (by simp; omega))))
              go_ret
              exact ⟨by rw [HX2.out]; rfl, hB3, fun h => by rw [HX2.out] at h; cases h⟩
            · have hro := hok1 rfl
              have HX2 : Hd (stepL st n (bs s) = if 4096 ≤ st2.items.length then (3, st2) else (0, ⟨st2.items ++ [x], st2.lines ++ [n], st2.labels⟩)) := ⟨by rw [HX.out, hro]⟩
              clear hok1 hok2 hro HX
              by_cases h4 : 4096 ≤ st2.items.length
              · have HX3 : Hd (stepL st n (bs s) = (3, st2)) := ⟨by rw [HX2.out, if_pos h4]⟩
                have b4 : decide ((st2.items.length : Int) ≥ 4096) = true := decide_eq_true (by omega)
                go_wp2_with (first | (refine st_blk rfl 58 _ _ rfl w2.heap.size (ICells x) rfl rfl (blk_new _ _ _) info58 rfl (icells_one _) ?_; intro w3 hx3 hg3; have hB3 : Below B0 w w3 := (hbel2.alloc hB02 (.cells (ICells zeroX) 58)).trans (below_of_grown hg3 hB02 (by simp; omega)); have hb3 : Below w2.heap.size w2 w3 := ((Below.refl _ _).alloc (Nat.le_refl _) (.cells (ICells zeroX) 58)).trans (below_of_grown hg3 (Nat.le_refl _) (by simp)); have hrd3 := hrd2.below hb3; have r0 := hrd3.blk.cell 0 (v := .slice ai st2.items.length ci) rfl))
                go_ret
                exact ⟨by rw [HX3.out]; rfl, hB3, fun h => by rw [HX3.out] at h; cases h⟩
              · have HX3 : Hd (stepL st n (bs s) = (0, ⟨st2.items ++ [x], st2.lines ++ [n], st2.labels⟩)) := ⟨by rw [HX2.out, if_neg h4]⟩
                have b4 : decide ((st2.items.length : Int) ≥ 4096) = false := decide_eq_false (by omega)
                go_wp2_with (first | (refine st_blk rfl 58 _ _ rfl w2.heap.size (ICells x) rfl rfl (blk_new _ _ _) info58 rfl (icells_one _) ?_; intro w3 hx3 hg3; have hB3 : Below B0 w w3 := (hbel2.alloc hB02 (.cells (ICells zeroX) 58)).trans (below_of_grown hg3 hB02 (by simp; omega)); have hb3 : Below w2.heap.size w2 w3 := ((Below.refl _ _).alloc (Nat.le_refl _) (.cells (ICells zeroX) 58)).trans (below_of_grown hg3 (Nat.le_refl _) (by simp)); have hrd3 := hrd2.below hb3; have r0 := hrd3.blk.cell 0 (v := .slice ai st2.items.length ci) rfl))
                have hrd4 := hrd3.drew
                have hx4 := hx3.drew
                have hB4 := hB3.drew
                have hxB : B ≤ w2.heap.size := hrd2.base
                have hxi := own_ne hrd2.items (.inr (Nat.le_refl w2.heap.size))
                have hxl := own_ne hrd2.lines (.inr (Nat.le_refl w2.heap.size))
                clear hrd3 hx3 hB3 hb3 hrd2 hbel2 hen2 r0 hg3 b4
                refine Late.region (S := fun W => Blk W rb #[.slice ai st2.items.length ci, vl2, .map (some mb)] 70 ∧ Blk W w2.heap.size (ICells x) 58) (late := fun j => !(j == 5 || j == 6 || j == 7 || j == 8 || j == 12 || j == 14 || j == 15)) (by kernel_rfl) ?_
                generalize w3.drew = w4 at hrd4 hx4 hB4 ⊢
                generalize w2.heap.size = xb at hx4 hxB hxi hxl ⊢
                have hS := And.intro hrd4.blk hx4
                refine Late.take (i := 0) (v := ?_) rfl (by kernel_rfl) rfl (by kernel_rfl) (by kernel_rfl) (fun _ _ _ h => h) (Or.inl ⟨by rfl, ?_⟩) ?_
                case refine_2 => intro W _; go_simp; (try with_reducible rfl)
                try simp only [Act.put, List.setIfInBounds_toArray, List.set_cons_zero, List.set_cons_succ]
                refine Late.take (i := 1) (v := ?_) rfl (by kernel_rfl) rfl (by kernel_rfl) (by kernel_rfl) (fun _ _ _ h => h) (Or.inl ⟨by rfl, ?_⟩) ?_
                case refine_2 => intro W _; go_simp; (try with_reducible rfl)
                try simp only [Act.put, List.setIfInBounds_toArray, List.set_cons_zero, List.set_cons_succ]
                refine Late.take (i := 2) (v := ?_) rfl (by kernel_rfl) rfl (by kernel_rfl) (by kernel_rfl) (fun _ _ _ h => h) (Or.inl ⟨by rfl, ?_⟩) ?_
                case refine_2 => intro W _; go_simp; (try with_reducible rfl)
                try simp only [Act.put, List.setIfInBounds_toArray, List.set_cons_zero, List.set_cons_succ]
                refine Late.take (i := 3) (v := ?_) rfl (by kernel_rfl) rfl (by kernel_rfl) (by kernel_rfl) (fun _ _ _ h => h) (Or.inl ⟨by rfl, ?_⟩) ?_
                case refine_2 => intro W _; go_simp; (try with_reducible rfl)
                try simp only [Act.put, List.setIfInBounds_toArray, List.set_cons_zero, List.set_cons_succ]
                refine Late.take (i := 4) (v := ?_) rfl (by kernel_rfl) rfl (by kernel_rfl) (by kernel_rfl) (fun _ _ _ h => h) (Or.inl ⟨by rfl, ?_⟩) ?_
                case refine_2 => intro W _; go_simp; (try with_reducible rfl)
                try simp only [Act.put, List.setIfInBounds_toArray, List.set_cons_zero, List.set_cons_succ]
                refine Late.take (i := 9) (v := ?_) rfl (by kernel_rfl) rfl (by kernel_rfl) (by kernel_rfl) (fun _ _ _ h => h) (Or.inl ⟨by rfl, ?_⟩) ?_
                case refine_2 => intro W _; go_simp; (try with_reducible rfl)
                try simp only [Act.put, List.setIfInBounds_toArray, List.set_cons_zero, List.set_cons_succ]
                refine Late.take (i := 10) (v := ?_) rfl (by kernel_rfl) rfl (by kernel_rfl) (by kernel_rfl) (fun _ _ _ h => h) (Or.inl ⟨by rfl, ?_⟩) ?_
                case refine_2 => intro W _; go_simp; (try with_reducible rfl)
                try simp only [Act.put, List.setIfInBounds_toArray, List.set_cons_zero, List.set_cons_succ]
                refine Late.take (i := 11) (v := ?_) rfl (by kernel_rfl) rfl (by kernel_rfl) (by kernel_rfl) (fun _ _ _ h => h) (Or.inl ⟨by rfl, ?_⟩) ?_
                case refine_2 => intro W _; go_simp; (try with_reducible rfl)
                try simp only [Act.put, List.setIfInBounds_toArray, List.set_cons_zero, List.set_cons_succ]
                refine Late.take (i := 13) (v := ?_) rfl (by kernel_rfl) rfl (by kernel_rfl) (by kernel_rfl) (fun _ _ _ h => h) (Or.inl ⟨by rfl, ?_⟩) ?_
                case refine_2 => intro W _; go_simp; (try with_reducible rfl)
                try simp only [Act.put, List.setIfInBounds_toArray, List.set_cons_zero, List.set_cons_succ]
                refine Late.load (i := 5) (v := ?_) rfl (by kernel_rfl) (by kernel_rfl) (by kernel_rfl) (by kernel_rfl) (fun _ _ _ h => h) (Or.inl ⟨by rfl, ?_⟩) hS ?_
                case refine_2 => intro W hW; have c0 := hW.1.cell 0 (v := .slice ai st2.items.length ci) rfl; clear hW; go_simp; (try with_reducible rfl)
                try simp only [Act.put, List.setIfInBounds_toArray, List.set_cons_zero, List.set_cons_succ]
                refine Late.load (i := 12) (v := ?_) rfl (by kernel_rfl) (by kernel_rfl) (by kernel_rfl) (by kernel_rfl) (fun _ _ _ h => h) (Or.inl ⟨by rfl, ?_⟩) hS ?_
                case refine_2 => intro W hW; have c0 := hW.1.cell 1 (v := vl2) rfl; clear hW; go_simp; (try with_reducible rfl)
                try simp only [Act.put, List.setIfInBounds_toArray, List.set_cons_zero, List.set_cons_succ]
                refine Late.load (i := 6) (v := .agg (ICells x)) rfl (by kernel_rfl) (by kernel_rfl) (by kernel_rfl) (by kernel_rfl) (fun _ _ _ h => h) (yield_ld (by kernel_rfl) 58 (.tmp 11) (by kernel_rfl) xb (by simp only [Act.eval]; kernel_rfl) (ICells x) 58 (fun W hW => hW.2) Tryd.underlying58 info58) hS ?_
                try simp only [Act.put, List.setIfInBounds_toArray, List.set_cons_zero, List.set_cons_succ]
                refine Late.ready2 (i := 7) (k := 14) (by kernel_rfl) (by rfl) (by rfl) (fun K hK => ?_) (fun K hK => ?_)
                · have hS7 := And.intro (hrd4.blk.alloc (.cells (ICells x) 58)) (hx4.alloc (.cells (ICells x) 58))
                  refine step_build58 rfl 88 rfl x (by simp [Act.eval]) ?_
                  refine hK.out _ _ (fun _ => hS7) ?_
                  clear hK K
                  try simp only [Act.put, List.setIfInBounds_toArray, List.set_cons_zero, List.set_cons_succ]
                  refine Late.ready2 (i := 8) (k := 14) (by kernel_rfl) (by rfl) (by rfl) (fun K hK => ?_) (fun K hK => ?_)
                  · skip
                    refine step_app58 rfl (.tmp 87) (.tmp 89) rfl B (.slice ai st2.items.length ci) st2.items.length st2.items (by simp [Act.eval]) (hrd4.items.alloc (.cells (ICells x) 58)) x w4.heap.size (by simp [Act.eval]) (blk_new w4 (ICells x) 58) hi (Nat.le_trans hrd4.base (World.grownBy_alloc w4 (.cells (ICells x) 58) none).size) ?_
                    intro gI capI w5 h1 h2 h3 h5
                    have M := Mid.mk' hrd4 (World.grownBy_alloc w4 (.cells (ICells x) 58) none) h1 h2 h3 h5
                    have hx5 := (hx4.alloc (.cells (ICells x) 58)).grown h2 hxi
                    refine hK.out _ _ (fun _ => ⟨M.blk, hx5⟩) ?_
                    clear hK K
                    try simp only [Act.put, List.setIfInBounds_toArray, List.set_cons_zero, List.set_cons_succ]
                    refine Late.ready1 (i := 14) (by kernel_rfl) rfl (fun K hK => ?_)
                    have MK := M.kept (World.grownBy_alloc w5 (.cells #[.int .i64 n] 3) none)
                    have XB := hx5.alloc (.cells #[.int .i64 n] 3)
                    go_simp
                    refine hK.out _ _ (fun _ => ⟨MK.blk, XB⟩) ?_
                    clear hK K
                    try simp only [Act.put, List.setIfInBounds_toArray, List.set_cons_zero, List.set_cons_succ]
                    refine Late.ready1 (i := 15) (by kernel_rfl) rfl (fun K hK => ?_)
                    refine step_app3 rfl (.tmp 94) (.tmp 96) rfl B vl2 st2.items.length st2.lines (by simp [Act.eval]) (MK).lines n w5.heap.size (by simp [Act.eval]) (blk_new w5 #[.int .i64 n] 3) hi (Nat.le_trans hrd4.base (MK).size) ?_
                    intro gL capL w6 l1 l2 l3 l5
                    have M2 := (MK).lines2 l1 l2 l3
                    refine hK.out _ _ (fun _ => ⟨M2.blk, (XB).grown l2 hxl⟩) ?_
                    clear hK K
                    try simp only [Act.put, List.setIfInBounds_toArray, List.set_cons_zero, List.set_cons_succ]
                    refine Late.take (i := 16) (v := ?_) rfl (by kernel_rfl) rfl (by kernel_rfl) (by kernel_rfl) (fun _ _ _ h => h) (Or.inl ⟨by rfl, ?_⟩) ?_
                    case refine_2 => intro W _; go_simp; (try with_reducible rfl)
                    try simp only [Act.put, List.setIfInBounds_toArray, List.set_cons_zero, List.set_cons_succ]
                    refine Late.take (i := 17) (v := ?_) rfl (by kernel_rfl) rfl (by kernel_rfl) (by kernel_rfl) (fun _ _ _ h => h) (Or.inl ⟨by rfl, ?_⟩) ?_
                    case refine_2 => intro W _; go_simp; (try with_reducible rfl)
                    try simp only [Act.put, List.setIfInBounds_toArray, List.set_cons_zero, List.set_cons_succ]
                    have k0 := M2.blk.cell 0 (v := .slice ai st2.items.length ci) rfl
                    have f0 := M2.blk.free 0
                    refine Late.ready1 (i := 18) (by kernel_rfl) rfl (fun K hK => ?_)
                    go_simp
                    refine hK.out _ _ (fun h => absurd h (by decide)) ?_
                    try simp only [Act.put, List.setIfInBounds_toArray, List.set_cons_zero, List.set_cons_succ]
                    refine Late.take (i := 19) (v := ?_) rfl (by kernel_rfl) rfl (by kernel_rfl) (by kernel_rfl) (fun _ _ _ h => h) (Or.inl ⟨by rfl, ?_⟩) ?_
                    case refine_2 => intro W _; go_simp; (try with_reducible rfl)
                    try simp only [Act.put, List.setIfInBounds_toArray, List.set_cons_zero, List.set_cons_succ]
                    refine Late.take (i := 20) (v := ?_) rfl (by kernel_rfl) rfl (by kernel_rfl) (by kernel_rfl) (fun _ _ _ h => h) (Or.inl ⟨by rfl, ?_⟩) ?_
                    case refine_2 => intro W _; go_simp; (try with_reducible rfl)
                    try simp only [Act.put, List.setIfInBounds_toArray, List.set_cons_zero, List.set_cons_succ]
                    have B1 := M2.blk.set 0 (.slice (some ⟨gI, 0, none⟩) (st2.items.length + 1) capI)
                    have k1 := B1.cell 1 (v := vl2) rfl
                    have f1 := B1.free 1
                    refine Late.ready1 (i := 21) (by kernel_rfl) rfl (fun K hK => ?_)
                    go_simp
                    refine hK.out _ _ (fun h => absurd h (by decide)) ?_
                    try simp only [Act.put, List.setIfInBounds_toArray, List.set_cons_zero, List.set_cons_succ]
                    refine Late.done (by kernel_rfl) ?_ _
                    clear hS k0 f0 k1 f1 B1
                    go_wp2_with fail
                    go_ret
                    exact ⟨by rw [HX3.out]; rfl, hB4.trans (M2.below h0.2.1 h0.2.2.2), fun _ => by rw [HX3.out]; exact ⟨_, _, M2.rdst⟩⟩
                  · have hS14 := And.intro (hS7.1.alloc (.cells #[.int .i64 n] 3)) (hS7.2.alloc (.cells #[.int .i64 n] 3))
                    go_simp
                    refine hK.out _ _ (fun _ => hS14) ?_
                    clear hK K
                    try simp only [Act.put, List.setIfInBounds_toArray, List.set_cons_zero, List.set_cons_succ]
                    refine Late.ready1 (i := 8) (by kernel_rfl) rfl (fun K hK => ?_)
                    refine step_app58 rfl (.tmp 87) (.tmp 89) rfl B (.slice ai st2.items.length ci) st2.items.length st2.items (by simp [Act.eval]) ((hrd4.items.alloc (.cells (ICells x) 58)).alloc (.cells #[.int .i64 n] 3)) x w4.heap.size (by simp [Act.eval]) ((blk_new w4 (ICells x) 58).alloc (.cells #[.int .i64 n] 3)) hi (Nat.le_trans hrd4.base (grown_trans (World.grownBy_alloc w4 (.cells (ICells x) 58) none) (World.grownBy_alloc (w4.alloc (.cells (ICells x) 58)) (.cells #[.int .i64 n] 3) none)).size) ?_
                    intro gI capI w5 h1 h2 h3 h5
                    have M := Mid.mk' hrd4 (grown_trans (World.grownBy_alloc w4 (.cells (ICells x) 58) none) (World.grownBy_alloc (w4.alloc (.cells (ICells x) 58)) (.cells #[.int .i64 n] 3) none)) h1 h2 h3 h5
                    have hx5 := (hS14.2).grown h2 hxi
                    have hl5 := (blk_new2 w4 (.cells (ICells x) 58) #[.int .i64 n] 3).grown h2 (own_ne hrd4.items (.inr (Nat.le_succ _)))
                    refine hK.out _ _ (fun _ => ⟨M.blk, hx5⟩) ?_
                    clear hK K
                    try simp only [Act.put, List.setIfInBounds_toArray, List.set_cons_zero, List.set_cons_succ]
                    have XB := hx5
                    refine Late.ready1 (i := 15) (by kernel_rfl) rfl (fun K hK => ?_)
                    refine step_app3 rfl (.tmp 94) (.tmp 96) rfl B vl2 st2.items.length st2.lines (by simp [Act.eval]) (M).lines n (w4.heap.size + 1) (by simp [Act.eval]) (hl5) hi (Nat.le_trans hrd4.base (M).size) ?_
                    intro gL capL w6 l1 l2 l3 l5
                    have M2 := (M).lines2 l1 l2 l3
                    refine hK.out _ _ (fun _ => ⟨M2.blk, (XB).grown l2 hxl⟩) ?_
                    clear hK K
                    try simp only [Act.put, List.setIfInBounds_toArray, List.set_cons_zero, List.set_cons_succ]
                    refine Late.take (i := 16) (v := ?_) rfl (by kernel_rfl) rfl (by kernel_rfl) (by kernel_rfl) (fun _ _ _ h => h) (Or.inl ⟨by rfl, ?_⟩) ?_
                    case refine_2 => intro W _; go_simp; (try with_reducible rfl)
                    try simp only [Act.put, List.setIfInBounds_toArray, List.set_cons_zero, List.set_cons_succ]
                    refine Late.take (i := 17) (v := ?_) rfl (by kernel_rfl) rfl (by kernel_rfl) (by kernel_rfl) (fun _ _ _ h => h) (Or.inl ⟨by rfl, ?_⟩) ?_
                    case refine_2 => intro W _; go_simp; (try with_reducible rfl)
                    try simp only [Act.put, List.setIfInBounds_toArray, List.set_cons_zero, List.set_cons_succ]
                    have k0 := M2.blk.cell 0 (v := .slice ai st2.items.length ci) rfl
                    have f0 := M2.blk.free 0
                    refine Late.ready1 (i := 18) (by kernel_rfl) rfl (fun K hK => ?_)
                    go_simp
                    refine hK.out _ _ (fun h => absurd h (by decide)) ?_
                    try simp only [Act.put, List.setIfInBounds_toArray, List.set_cons_zero, List.set_cons_succ]
                    refine Late.take (i := 19) (v := ?_) rfl (by kernel_rfl) rfl (by kernel_rfl) (by kernel_rfl) (fun _ _ _ h => h) (Or.inl ⟨by rfl, ?_⟩) ?_
                    case refine_2 => intro W _; go_simp; (try with_reducible rfl)
                    try simp only [Act.put, List.setIfInBounds_toArray, List.set_cons_zero, List.set_cons_succ]
                    refine Late.take (i := 20) (v := ?_) rfl (by kernel_rfl) rfl (by kernel_rfl) (by kernel_rfl) (fun _ _ _ h => h) (Or.inl ⟨by rfl, ?_⟩) ?_
                    case refine_2 => intro W _; go_simp; (try with_reducible rfl)
                    try simp only [Act.put, List.setIfInBounds_toArray, List.set_cons_zero, List.set_cons_succ]
                    have B1 := M2.blk.set 0 (.slice (some ⟨gI, 0, none⟩) (st2.items.length + 1) capI)
                    have k1 := B1.cell 1 (v := vl2) rfl
                    have f1 := B1.free 1
                    refine Late.ready1 (i := 21) (by kernel_rfl) rfl (fun K hK => ?_)
                    go_simp
                    refine hK.out _ _ (fun h => absurd h (by decide)) ?_
                    try simp only [Act.put, List.setIfInBounds_toArray, List.set_cons_zero, List.set_cons_succ]
                    refine Late.done (by kernel_rfl) ?_ _
                    clear hS k0 f0 k1 f1 B1
                    go_wp2_with fail
                    go_ret
                    exact ⟨by rw [HX3.out]; rfl, hB4.trans (M2.below h0.2.1 h0.2.2.2), fun _ => by rw [HX3.out]; exact ⟨_, _, M2.rdst⟩⟩
                · have hS14 := And.intro (hrd4.blk.alloc (.cells #[.int .i64 n] 3)) (hx4.alloc (.cells #[.int .i64 n] 3))
                  go_simp
                  refine hK.out _ _ (fun _ => hS14) ?_
                  clear hK K
                  try simp only [Act.put, List.setIfInBounds_toArray, List.set_cons_zero, List.set_cons_succ]
                  refine Late.ready1 (i := 7) (by kernel_rfl) rfl (fun K hK => ?_)
                  have hS7 := And.intro (hS14.1.alloc (.cells (ICells x) 58)) (hS14.2.alloc (.cells (ICells x) 58))
                  refine step_build58 rfl 88 rfl x (by simp [Act.eval]) ?_
                  refine hK.out _ _ (fun _ => hS7) ?_
                  clear hK K
                  try simp only [Act.put, List.setIfInBounds_toArray, List.set_cons_zero, List.set_cons_succ]
                  refine Late.ready1 (i := 8) (by kernel_rfl) rfl (fun K hK => ?_)
                  refine step_app58 rfl (.tmp 87) (.tmp 89) rfl B (.slice ai st2.items.length ci) st2.items.length st2.items (by simp [Act.eval]) ((hrd4.items.alloc (.cells #[.int .i64 n] 3)).alloc (.cells (ICells x) 58)) x (w4.heap.size + 1) (by simp [Act.eval]) (blk_new2 w4 (.cells #[.int .i64 n] 3) (ICells x) 58) hi (Nat.le_trans hrd4.base (grown_trans (World.grownBy_alloc w4 (.cells #[.int .i64 n] 3) none) (World.grownBy_alloc (w4.alloc (.cells #[.int .i64 n] 3)) (.cells (ICells x) 58) none)).size) ?_
                  intro gI capI w5 h1 h2 h3 h5
                  have M := Mid.mk' hrd4 (grown_trans (World.grownBy_alloc w4 (.cells #[.int .i64 n] 3) none) (World.grownBy_alloc (w4.alloc (.cells #[.int .i64 n] 3)) (.cells (ICells x) 58) none)) h1 h2 h3 h5
                  have hx5 := (hS7.2).grown h2 hxi
                  have hl5 := ((blk_new w4 #[.int .i64 n] 3).alloc (.cells (ICells x) 58)).grown h2 (own_ne hrd4.items (.inr (Nat.le_refl _)))
                  refine hK.out _ _ (fun _ => ⟨M.blk, hx5⟩) ?_
                  clear hK K
                  try simp only [Act.put, List.setIfInBounds_toArray, List.set_cons_zero, List.set_cons_succ]
                  have XB := hx5
                  refine Late.ready1 (i := 15) (by kernel_rfl) rfl (fun K hK => ?_)
                  refine step_app3 rfl (.tmp 94) (.tmp 96) rfl B vl2 st2.items.length st2.lines (by simp [Act.eval]) (M).lines n w4.heap.size (by simp [Act.eval]) (hl5) hi (Nat.le_trans hrd4.base (M).size) ?_
                  intro gL capL w6 l1 l2 l3 l5
                  have M2 := (M).lines2 l1 l2 l3
                  refine hK.out _ _ (fun _ => ⟨M2.blk, (XB).grown l2 hxl⟩) ?_
                  clear hK K
                  try simp only [Act.put, List.setIfInBounds_toArray, List.set_cons_zero, List.set_cons_succ]
                  refine Late.take (i := 16) (v := ?_) rfl (by kernel_rfl) rfl (by kernel_rfl) (by kernel_rfl) (fun _ _ _ h => h) (Or.inl ⟨by rfl, ?_⟩) ?_
                  case refine_2 => intro W _; go_simp; (try with_reducible rfl)
                  try simp only [Act.put, List.setIfInBounds_toArray, List.set_cons_zero, List.set_cons_succ]
                  refine Late.take (i := 17) (v := ?_) rfl (by kernel_rfl) rfl (by kernel_rfl) (by kernel_rfl) (fun _ _ _ h => h) (Or.inl ⟨by rfl, ?_⟩) ?_
                  case refine_2 => intro W _; go_simp; (try with_reducible rfl)
                  try simp only [Act.put, List.setIfInBounds_toArray, List.set_cons_zero, List.set_cons_succ]
                  have k0 := M2.blk.cell 0 (v := .slice ai st2.items.length ci) rfl
                  have f0 := M2.blk.free 0
                  refine Late.ready1 (i := 18) (by kernel_rfl) rfl (fun K hK => ?_)
                  go_simp
                  refine hK.out _ _ (fun h => absurd h (by decide)) ?_
                  try simp only [Act.put, List.setIfInBounds_toArray, List.set_cons_zero, List.set_cons_succ]
                  refine Late.take (i := 19) (v := ?_) rfl (by kernel_rfl) rfl (by kernel_rfl) (by kernel_rfl) (fun _ _ _ h => h) (Or.inl ⟨by rfl, ?_⟩) ?_
                  case refine_2 => intro W _; go_simp; (try with_reducible rfl)
                  try simp only [Act.put, List.setIfInBounds_toArray, List.set_cons_zero, List.set_cons_succ]
                  refine Late.take (i := 20) (v := ?_) rfl (by kernel_rfl) rfl (by kernel_rfl) (by kernel_rfl) (fun _ _ _ h => h) (Or.inl ⟨by rfl, ?_⟩) ?_
                  case refine_2 => intro W _; go_simp; (try with_reducible rfl)
                  try simp only [Act.put, List.setIfInBounds_toArray, List.set_cons_zero, List.set_cons_succ]
                  have B1 := M2.blk.set 0 (.slice (some ⟨gI, 0, none⟩) (st2.items.length + 1) capI)
                  have k1 := B1.cell 1 (v := vl2) rfl
                  have f1 := B1.free 1
                  refine Late.ready1 (i := 21) (by kernel_rfl) rfl (fun K hK => ?_)
                  go_simp
                  refine hK.out _ _ (fun h => absurd h (by decide)) ?_
                  try simp only [Act.put, List.setIfInBounds_toArray, List.set_cons_zero, List.set_cons_succ]
                  refine Late.done (by kernel_rfl) ?_ _
                  clear hS k0 f0 k1 f1 B1
                  go_wp2_with fail
                  go_ret
                  exact ⟨by rw [HX3.out]; rfl, hB4.trans (M2.below h0.2.1 h0.2.2.2), fun _ => by rw [HX3.out]; exact ⟨_, _, M2.rdst⟩⟩

end Go.Proofs.YtceelkmedfoefaaDoor
