import Derived.Test.YtceelkmedfoefaaDoorL13
import Derived.Test.YtceelkmedfoefaaDoorA21
import Derived.Test.YtceelkmedfoefaaDoorA26
import Derived.Carry
set_option linter.unusedVariables false
set_option linter.unusedSimpArgs false
namespace Go.Proofs.YtceelkmedfoefaaDoor
open Go.RowKit Go.Maps Go.WideMaps

theorem info29 : (Tryd.prog.info? 29).map (fun i => (i.zero, i.size, i.bytes)) = some (some (.int .u32 0), 1, 4) := by kernel_rfl
theorem info70 : (Tryd.prog.info? 70).map (fun i => (i.zero, i.size, i.bytes)) = some (some (.agg #[.slice none 0 0, .slice none 0 0, .map none]), 3, 56) := by kernel_rfl
/-- append(out, a word), onto a row of the call's own. -/
theorem app29 {ops : Array Oper} {rest : List Oper} {o : Oper} {a : Act} {Q : Exit → Act → World → Prop} {w : World} (hgd : o.guard = none) (s x : Operand)
    (ho : o.op = .call { callee := .builtin .append, args := #[s, x], argTypes := #[39, 39] })
    (base : Nat) (v : Value) (n : Nat) (out : List Int) (hs : a.eval s = v) (hown : w.ownsRow base 29 1 v n (wvals out)) (b : Int) (ad : Addr) (hx : a.eval x = .slice (some ad) 1 1)
    (hc : w.cell? ad = some (.int .u32 b)) (hn : n ≤ 2000000) (hbase : base ≤ w.heap.size)
    (h : ∀ v' w', w'.ownsRow base 29 1 v' (n + 1) (wvals (out ++ [b])) → w.grownBy w' v.ownBlock → wpList Tryd.prog ops Q rest (a.put o.dst v') w') : wpList Tryd.prog ops Q (o :: rest) a w := by
  obtain ⟨i0, hi, hz0, hz1, hz2⟩ := info_parts info29
  refine wpList_append_own w hgd s x 39 ho base 29 i0 (.int .u32 0) 1 4 Tryd.underlying39 hi hz0 hz1 hz2 rfl (by decide) v n (wvals out) hs hown ad 1 1 [.int .u32 b] hx rfl ?_ ?_ ?_ ?_ hbase ?_
  · intro j u hu
    cases j with
    | zero =>
      have e : ad.add 0 = ad := by unfold Addr.add; split <;> simp_all
      rw [e, hc]; exact hu
    | succ j => simp at hu
  · intro u hu; simp at hu; subst hu; rfl
  · unfold maxLen; omega
  · omega
  · intro v' w' h1 h2 _
    rw [wvals_snoc] at h
    exact h v' w' h1 h2
theorem own_mono {w : World} {base base' : Nat} {e : TypeId} {size : Nat} {v : Value} {n : Nat} {xs : List Value} (h : w.ownsRow base e size v n xs) (hb : base' ≤ base) : w.ownsRow base' e size v n xs := by
  refine ⟨h.1, ?_⟩
  rcases h.2 with h2 | ⟨g, cap, cur, h2, h3, h4⟩
  · exact .inl h2
  · exact .inr ⟨g, cap, cur, h2, Nat.le_trans hb h3, h4⟩
def strSize : Value → Nat
  | .string b => b.size
  | _ => 0
structure PLInv (s : ByteArray) (w wr : World) (t : ByteArray) (k : Nat) (vi vl : Value) (st : RSt) : Prop where
  rd : RdSt wr (w.heap.size + 2) (w.heap.size + 1) w.heap.size vi vl st
  inv : SInv st k
  len : k + t.size ≤ s.size
  bel : Below w.heap.size w wr
  eq : runL st ((k : Int) + 1) (linesL (bs t)) = runL st0 1 (linesL (bs s))
structure PWInv (st : RSt) (w wr : World) (r : List Int × Int × Int) (j : Nat) (out : List Int) (v : Value) : Prop where
  own : wr.ownsRow w.heap.size 29 1 v out.length (wvals out)
  len : out.length = j
  bel : Below w.heap.size w wr
  eq : wordsL st.labels j (st.items.drop j) (st.lines.drop j) out = r

set_option maxRecDepth 100000 in
set_option maxHeartbeats 4000000 in
theorem program_any (s : ByteArray) (w : World) (hE : Env w) (h4 : 4 ≤ w.heap.size) (hs : s.size ≤ 1048576) :
    Calls Tryd.prog 15 #[.string s] w fun e w' => ProgPost w.heap.size (programR (bs s)) w w' e := by
  have hmm := @run_makeMap Tryd.prog
  by_cases hbig : 65536 < s.size
  · have e1 : decide ((s.size : Int) > 65536) = true := decide_eq_true (by omega)
    have HX : Hd (programR (bs s) = ([], 0, 3)) := ⟨by unfold programR; rw [if_pos (by rw [bs_length]; exact hbig)]⟩
    go_enter Tryd.func15, Tryd.ntmps15
    go_wp2_with fail
    refine bodyPost_ret (v := .tuple #[.slice none 0 0, .int .i64 0, .int .i64 3]) ?_ rfl ⟨⟨.slice none 0 0, by rw [HX.out], by rw [HX.out]; exact World.ownsRow_nil _ _ _ _⟩, Below.refl _ _⟩
    simp [results, Tryd.results15, go_sem]
  have e1 : decide ((s.size : Int) > 65536) = false := decide_eq_false (by omega)
  have hs2 : s.size ≤ 65536 := by omega
  have HX : Hd (programR (bs s) = endL (runL st0 1 (linesL (bs s)))) := ⟨by unfold programR; rw [if_neg (by rw [bs_length]; exact hbig)]⟩
  clear hbig
  go_enter Tryd.func15, Tryd.ntmps15
  go_wp2_with fail
  go_loopw [0, 6] (fun u v wr => ∃ (t : ByteArray) (k : Nat) (vi vl : Value) (st : RSt), u = .string t ∧ v = .int .i64 ((k : Int) + 1) ∧ PLInv s w wr t k vi vl st) (fun u _ _ => strSize u)
  case atStart =>
    refine ⟨s, 0, .slice none 0 0, .slice none 0 0, st0, rfl, rfl, ?_, SInv.zero 0, by omega, ?_, rfl⟩
    · exact {
        blk := by have := blk_new (w.alloc (.map #[] 0)) #[.slice none 0 0, .slice none 0 0, .map (some w.heap.size)] 70; simpa using this
        items := World.ownsRow_nil _ _ _ _
        lines := World.ownsRow_nil _ _ _ _
        map := (World.ownsMap_made w Tryd.prog 9 _).alloc _
        keys := by simp [st0]
        rlt := by omega
        mlt := by omega
        ne := by omega
        apart := .inl rfl
        base := by simp }
    · exact ((Below.refl _ _).alloc (Nat.le_refl _) _).alloc (by simp) _
  case round =>
    obtain ⟨t, k, vi, vl, st, rfl, rfl, hI⟩ := hrel
    obtain ⟨eb, heb⟩ : ∃ eb, t.toList.isEmpty = eb := ⟨_, rfl⟩
    have hlen := hI.len
    have hinv := hI.inv
    have hEr := hE.below hI.bel
    have hBr := hI.bel.size
    cases eb
    · have hne : bs t ≠ [] := by rw [← toList_eq_bs]; intro e; rw [e] at heb; simp at heb
      have htz : 0 < t.size := by rw [← bs_length]; exact List.length_pos_iff.2 hne
      go_wp2_with fail
      refine (cut_any t wr (by omega)).mono ?_
      rintro e w1 hc
      obtain ⟨⟨a, b, fl, ha, hb, rfl⟩, hsame, hsame2⟩ := hc
      have hcl := cutNl_len (bs t)
      have hal : a.size ≤ t.size := by have := hcl.1; rw [← ha, bs_length, bs_length] at this; omega
      have hbl : b.size < t.size := by have := hcl.2 hne; rw [← hb, bs_length, bs_length] at this; omega
      have hrd1 := hI.rd.below hsame
      have hB1 := hI.bel.trans (hsame.mono hBr)
      have hE1 := hEr.below hsame
      have HC := Hd.mk (And.intro ha hb)
      have HNE := Hd.mk hne
      clear hcl ha hb hne hsame2
      go_wp2_with fail
      refine (rline_any a ((k : Int) + 1) w.heap.size (w.heap.size + 2) (w.heap.size + 1) w.heap.size vi vl st w1 hE1 (by omega) hrd1 ⟨h4, by omega, Nat.le_refl _, by omega⟩ hinv.items (by have := hinv.labels; omega)).mono ?_
      rintro e w2 hL
      obtain ⟨hret, hbel, hst⟩ := hL
      rw [hret, HC.out.1]
      have hB2 := hB1.trans hbel
      by_cases hz : (stepL st ((k : Int) + 1) (cutNl (bs t)).1).1 = 0
      · have HZ := Hd.mk hz
        obtain ⟨vi', vl', hst'⟩ := hst (by rw [HC.out.1]; exact hz)
        have b1 : ((stepL st ((k : Int) + 1) (cutNl (bs t)).1).1 == 0) = true := beq_iff_eq.2 hz
        clear hz hst hret
        go_wp2_with fail
        refine ⟨⟨b, k + 1, vi', vl', _, rfl, by simp, hst', ?_, by omega, hB2, ?_⟩, hbl⟩
        · exact hinv.step (by rw [bs_length]; omega)
        · have h1 := HC.out.1
          have h2 := HC.out.2
          have h3 := runL_cons HNE.out HZ.out
          rw [← hI.eq, h3, h1, h2]
          simp
      · have b1 : ((stepL st ((k : Int) + 1) (cutNl (bs t)).1).1 == 0) = false := beq_eq_false_iff_ne.2 hz
        have HR : Hd (programR (bs s) = ([], (k : Int) + 1, (stepL st ((k : Int) + 1) (cutNl (bs t)).1).1)) := ⟨by
          rw [HX.out, ← hI.eq, runL_bad HNE.out hz]; unfold endL; rw [if_neg hz]⟩
        clear hz hst hret
        go_wp2_with fail
        refine bodyPost_ret (v := .tuple #[.slice none 0 0, .int .i64 ((k : Int) + 1), .int .i64 (stepL st ((k : Int) + 1) (cutNl (bs t)).1).1]) ?_ rfl ⟨⟨.slice none 0 0, by rw [HR.out], by rw [HR.out]; exact World.ownsRow_nil _ _ _ _⟩, hB2⟩
        simp [results, Tryd.results15, go_sem]
    · have hnil : bs t = [] := by rw [← toList_eq_bs]; simpa using heb
      have HR : Hd (programR (bs s) = wordsL st.labels 0 st.items st.lines []) := ⟨by
        rw [HX.out, ← hI.eq, hnil, linesL_nil]; rfl⟩
      obtain ⟨ao, capi, rfl⟩ := own_form hI.rd.items
      have r0 := hI.rd.blk.cell 0 (v := .slice ao st.items.length capi) rfl
      have r1 := hI.rd.blk.cell 1 (v := vl) rfl
      have hrd := hI.rd
      have hB0 := hI.bel
      clear hI hnil
      go_wp2_with fail
      obtain ⟨w1, hw1⟩ : ∃ w1, w1 = wr := ⟨_, rfl⟩
      subst hw1
      go_loopw [11, 45] (fun o i wx => ∃ (j : Nat) (out : List Int), j ≤ st.items.length ∧ i = .int .i64 j ∧ PWInv st w1 wx (programR (bs s)) j out o) (fun _ i _ => st.items.length - (intOf i).toNat)
      case atStart => exact ⟨0, [], Nat.zero_le _, rfl, World.ownsRow_nil _ _ _ _, rfl, Below.refl _ _, by rw [HR.out]; rfl⟩
      case round =>
        obtain ⟨j, out, hj, rfl, hW⟩ := hrel
        have hBw := hW.bel.size
        have hB3 := hB0.trans (hW.bel.mono hBr)
        by_cases hlt : j < st.items.length
        · obtain ⟨x, hx⟩ : ∃ x, st.items[j]? = some x := ⟨_, List.getElem?_eq_getElem hlt⟩
          have hxm := hinv.imm x (List.mem_of_getElem? hx)
          have hlv := labV_range hinv.at_ x.label
          have hrdx := hrd.below hW.bel
          have hEx := hEr.below hW.bel
          have HD : Hd (st.items.drop j = x :: st.items.drop (j + 1)) := ⟨by
            rw [List.drop_eq_getElem_cons hlt]; congr 1; rw [List.getElem?_eq_getElem hlt] at hx; simpa using hx⟩
          have b0 : decide ((j : Int) < (st.items.length : Int)) = true := decide_eq_true (by omega)
          have HI := Hd.mk hinv
          have hi4 := hinv.items
          clear hinv
          go_wp2_with fail
          refine (rword_any j x _ _ _ _ _ st wr hEx hrdx hx hxm.1 HI.out.items (by have := hxm.2; unfold maxLen; omega) (by omega)).mono ?_
          rintro e w4 hP
          obtain ⟨hret, hbel⟩ := hP
          rw [hret]
          have hB4 := hB3.trans (hbel.mono hB3.size)
          have hW4 := hW.bel.trans (hbel.mono hBw)
          clear hret
          by_cases hz : (wordX st.labels j x).2 = 0
          · have b1 : ((wordX st.labels j x).2 == 0) = true := beq_iff_eq.2 hz
            have HZ := Hd.mk hz
            have hown4 := hW.own.kept (grown_of_below hbel) (by cases u11.ownBlock <;> simp)
            have hol := hW.len
            clear hz
            go_wp2_with (first | (at_builtin; refine app29 rfl _ _ rfl w1.heap.size _ _ out rfl (hown4.alloc _) (wordX st.labels j x).1 _ rfl ?_ ?_ ?_ ?_; (exact World.cell?_alloc_at _ _ _ _ rfl); (omega); (have := hW4.size; simp; omega); intro v1 w5 ho hg))
            refine ⟨⟨j + 1, out ++ [(wordX st.labels j x).1], by omega, by simp, by simpa using ho, by simp; omega, own_step hW4 hown4 _ hg, ?_⟩, by simp [intOf]; omega⟩
            rw [← hW.eq, HD.out, wordsL_good HZ.out, List.drop_drop]
          · have b1 : ((wordX st.labels j x).2 == 0) = false := beq_eq_false_iff_ne.2 hz
            have HR2 : Hd (programR (bs s) = ([], st.lines.getD j 0, (wordX st.labels j x).2)) := ⟨by
              rw [← hW.eq, HD.out, wordsL_bad hz]; simp [List.getD_eq_getElem?_getD]⟩
            have hrd4 := hrdx.below hbel
            obtain ⟨g, capl, rfl, hBg, hg⟩ := hrd4.lines.form (by omega)
            have r1 := hrd4.blk.cell 1 (v := .slice (some ⟨g, 0, none⟩) st.items.length capl) rfl
            have c1 := hrd4.lines.cells (g := g) rfl j (.int .i64 (st.lines.getD j 0)) (by
              have h3 := HI.out.lines
              unfold lvals
              rw [List.getElem?_map, List.getElem?_eq_getElem (by omega), List.getD_eq_getElem?_getD, List.getElem?_eq_getElem (by omega)]; rfl)
            rw [Addr.add_mid, Nat.zero_add] at c1
            have hji : (j : Int) < (st.items.length : Int) := by omega
            clear hz r0
            go_wp2_with fail
            go_quiet (fail)
            go_wp2_with fail
            refine bodyPost_ret (v := .tuple #[.slice none 0 0, .int .i64 (st.lines.getD j 0), .int .i64 (wordX st.labels j x).2]) ?_ rfl ⟨⟨.slice none 0 0, by rw [HR2.out], by rw [HR2.out]; exact World.ownsRow_nil _ _ _ _⟩, pw_below_drewN2 hB4 _⟩
            simp [results, Tryd.results15, go_sem]
        · have hje : j = st.items.length := by omega
          have b0 : decide ((j : Int) < (st.items.length : Int)) = false := decide_eq_false (by omega)
          have HR2 : Hd (programR (bs s) = (out, 0, 0)) := ⟨by
            rw [← hW.eq, hje, List.drop_length, wordsL]⟩
          have hown := own_mono hW.own hBr
          clear hje
          go_wp2_with fail
          refine bodyPost_ret (v := .tuple #[u11, .int .i64 0, .int .i64 0]) ?_ rfl ⟨⟨u11, by rw [HR2.out], by rw [HR2.out]; exact hown⟩, hB3⟩
          simp [results, Tryd.results15, go_sem]
end Go.Proofs.YtceelkmedfoefaaDoor
