import Derived.Test.YtceelkmedfoefaaDoorL2
import Derived.Deep.AppendLies
import Derived.Maps.AppendAt
import Derived.Laws.OwnMore
import Derived.Deep.DeepCutAuto
import Derived.Deep.CutBlock
import Derived.WalkMore
set_option linter.unusedVariables false
set_option linter.unusedSimpArgs false
namespace Go.Proofs.YtceelkmedfoefaaDoor
open Go.RowKit

theorem info9 : (Tryd.prog.info? 9).map (fun i => (i.zero, i.size, i.bytes)) = some (some (.string ⟨#[]⟩), 1, 16) := by kernel_rfl
/-- append(out, a string), onto a row of the call's own. -/
theorem app9 {ops : Array Oper} {rest : List Oper} {o : Oper} {a : Act} {Q : Exit → Act → World → Prop} {w : World} (hgd : o.guard = none) (s x : Operand)
    (ho : o.op = .call { callee := .builtin .append, args := #[s, x], argTypes := #[23, 23] })
    (base : Nat) (v : Value) (n : Nat) (out : List Bytes) (hs : a.eval s = v) (hown : w.ownsRow base 9 1 v n (strs out)) (b : ByteArray) (ad : Addr) (hx : a.eval x = .slice (some ad) 1 1)
    (hc : w.cell? ad = some (.string b)) (hn : n ≤ 2000000) (hbase : base ≤ w.heap.size)
    (h : ∀ v' w', w'.ownsRow base 9 1 v' (n + 1) (strs (out ++ [bs b])) → w.grownBy w' v.ownBlock → wpList Tryd.prog ops Q rest (a.put o.dst v') w') : wpList Tryd.prog ops Q (o :: rest) a w := by
  obtain ⟨i0, hi, hz0, hz1, hz2⟩ := info_parts info9
  refine wpList_append_own w hgd s x 23 ho base 9 i0 (.string ⟨#[]⟩) 1 16 Tryd.underlying23 hi hz0 hz1 hz2 rfl (by decide) v n (strs out) hs hown ad 1 1 [.string b] hx rfl ?_ ?_ ?_ ?_ hbase ?_
  · intro j u hu
    cases j with
    | zero =>
      have e : ad.add 0 = ad := by unfold Addr.add; split <;> simp_all
      rw [e, hc]; exact hu
    | succ j => simp at hu
  · intro u hu; simp at hu; subst hu; rfl
  · unfold maxLen; omega
  · omega
  · intro v' w' h1 h2 _
    rw [strs_snoc, ← sv_of] at h
    exact h v' w' h1 h2
/-- Behind such an append. -/
theorem own_step {w0 w w' : World} {v : Value} {n e size : Nat} {xs : List Value} (hb : Below w0.heap.size w0 w) (ho : w.ownsRow w0.heap.size e size v n xs) (o : Obj) (hg : (w.alloc o).grownBy w' v.ownBlock) : Below w0.heap.size w0 w' :=
  (hb.alloc hb.size o).grown hg (by have := hb.size; simp; omega) (fun k hk => (ho.lt k hk).1)

structure PInv (s : ByteArray) (w wr : World) (k : Nat) (out : List Bytes) (v : Value) : Prop where
  own : wr.ownsRow w.heap.size 9 1 v out.length (strs out)
  len : out.length ≤ k
  bel : Below w.heap.size w wr
  eq : pcs ((bs s).drop k) [] out = pieces (bs s)
theorem PInv.bel2 {s : ByteArray} {w wr : World} {k : Nat} {out : List Bytes} {v : Value} (h : PInv s w wr k out v) : w.heap.size ≤ wr.heap.size := h.bel.size

set_option maxHeartbeats 4000000 in
theorem pieces_any (s : ByteArray) (w : World) (hs : s.size ≤ 1048576) :
    Calls Tryd.prog 9 #[.string s] w fun e w' => PiecesPost (bs s) w w' e := by
  go_enter Tryd.func9, Tryd.ntmps9
  go_wp2_with fail
  go_step3
  go_wp2_with fail
  go_step3
  go_wp2_with fail
  go_loopw [4, 5] (fun v i wr => ∃ (k : Nat) (out : List Bytes), k ≤ s.size ∧ i = .int .i64 k ∧ PInv s w wr k out v) (fun _ i _ => s.size - (intOf i).toNat)
  case atStart => exact ⟨0, [], Nat.zero_le _, rfl, World.ownsRow_nil _ _ _ _, Nat.le_refl _, Below.refl _ _, rfl⟩
  case round =>
    obtain ⟨k, out, hk, rfl, hI⟩ := hrel
    by_cases hlt : k < s.size
    · have hr := s[k].toNat_lt
      by_cases h35 : (s[k].toNat : Int) = 35
      · have b1 : ((s[k].toNat : Int) == 35) = true := beq_iff_eq.2 h35
        have HX := Hd.mk (pcs_rem hlt out h35)
        clear h35
        go_wp2_with fail
        rw [Exit.noGoto_ret]
        go_ret2
        exact PiecesPost.good out _ (by rw [← hI.eq]; exact HX.out) (by rw [bs_length]; have := hI.len; omega) hI.own hI.bel
      have b1 : ((s[k].toNat : Int) == 35) = false := beq_eq_false_iff_ne.2 h35
      by_cases hbl : (s[k].toNat : Int) = 32 ∨ (s[k].toNat : Int) = 9
      · have HX := Hd.mk (pcs_blank hlt out hbl)
        have b2 : ((s[k].toNat : Int) == 32 || (s[k].toNat : Int) == 9) = true := by simpa using hbl
        clear h35
        rcases hbl with h | h
        · have b3 : ((s[k].toNat : Int) == 32) = true := beq_iff_eq.2 h
          clear h b2
          go_wp2_with fail
          go_roundw
          case rel => exact ⟨k + 1, out, by omega, by go_num, hI.own, by have := hI.len; omega, hI.bel, by rw [← HX.out]; exact hI.eq⟩
          case measure => simp [intOf]; omega
        · have b3 : ((s[k].toNat : Int) == 32) = false := beq_eq_false_iff_ne.2 (by omega)
          have b4 : ((s[k].toNat : Int) == 9) = true := beq_iff_eq.2 h
          clear h b2
          go_wp2_with fail
          go_roundw
          case rel => exact ⟨k + 1, out, by omega, by go_num, hI.own, by have := hI.len; omega, hI.bel, by rw [← HX.out]; exact hI.eq⟩
          case measure => simp [intOf]; omega
      have b3 : ((s[k].toNat : Int) == 32) = false := beq_eq_false_iff_ne.2 (by omega)
      have b4 : ((s[k].toNat : Int) == 9) = false := beq_eq_false_iff_ne.2 (by omega)
      cases hm : markB (s[k].toNat : Int)
      · cases hl : letterB (s[k].toNat : Int)
        · have HX := Hd.mk (pcs_bad hlt out hl hm h35 (by omega) (by omega))
          clear h35 hbl
          go_wp2_with (first | (go_at_call 20; refine (mark_any _ _).mono ?_; rintro e w' ⟨rfl, rfl⟩) | (go_at_call 21; refine (letter_any _ _).mono ?_; rintro e w' ⟨rfl, rfl⟩))
          rw [Exit.noGoto_ret]
          go_ret2
          exact PiecesPost.bad (by rw [← hI.eq]; exact HX.out) hI.bel
        · have HR : Hd (Run s k k out (pieces (bs s))) := ⟨Run.start out hk hI.eq⟩
          clear h35 hbl
          go_wp2_with (first | (go_at_call 20; refine (mark_any _ _).mono ?_; rintro e w' ⟨rfl, rfl⟩) | (go_at_call 21; refine (letter_any _ _).mono ?_; rintro e w' ⟨rfl, rfl⟩))
          have HLt : Hd (letterB (s[k].toNat : Int) = true) := ⟨hl⟩
          have hln := hI.len
          have hB := hI.bel.size
          clear b1 b3 b4 hm hl
          go_loop [5] (fun i => ∃ j : Nat, k ≤ j ∧ j ≤ s.size ∧ i = .int .i64 j ∧ Hd (Run s k j out (pieces (bs s)))) (fun i => s.size - (intOf i).toNat)
          case atStart => exact ⟨k, Nat.le_refl _, hk, rfl, HR⟩
          case round =>
            obtain ⟨j, hkj, hj, rfl, hJ⟩ := hrel
            by_cases hjl : j < s.size
            · have hr2 := s[j].toNat_lt
              cases hl2 : letterB (s[j].toNat : Int)
              · have hkj2 : k < j := by
                  have : ¬ j = k := by
                    intro e; subst e; have := HLt.out; rw [hl2] at this; cases this
                  omega
                have HS := Hd.mk (hJ.out.stop hkj2 (fun _ => hl2))
                go_wp2_with (first | (go_at_call 21; refine (letter_any _ _).mono ?_; rintro e w' ⟨rfl, rfl⟩) | (at_builtin; refine app9 rfl _ _ rfl w.heap.size _ _ out rfl (hI.own.alloc _) (s.extract k j) _ rfl ?_ ?_ ?_ ?_; (exact World.cell?_alloc_at _ _ _ _ rfl); (omega); (simp; omega); intro v1 w1 ho hg))
                go_roundw
                case rel => exact ⟨j, out ++ [bs (s.extract k j)], by omega, rfl, by simpa using ho, by simp; omega, own_step hI.bel hI.own _ hg, HS.out⟩
                case measure => simp [intOf]; omega
              · have HM : Hd (Run s k (j + 1) out (pieces (bs s))) := ⟨hJ.out.more hjl out hl2⟩
                go_wp2_with (first | (go_at_call 21; refine (letter_any _ _).mono ?_; rintro e w' ⟨rfl, rfl⟩))
                go_round
                case rel => exact ⟨j + 1, by omega, by omega, by go_num, HM⟩
                case measure => simp [intOf]; omega
            · have hkj2 : k < j := by omega
              have HS := Hd.mk (hJ.out.stop hkj2 (fun h => absurd h hjl))
              go_wp2_with (first | (at_builtin; refine app9 rfl _ _ rfl w.heap.size _ _ out rfl (hI.own.alloc _) (s.extract k j) _ rfl ?_ ?_ ?_ ?_; (exact World.cell?_alloc_at _ _ _ _ rfl); (omega); (simp; omega); intro v1 w1 ho hg))
              go_roundw
              case rel => exact ⟨j, out ++ [bs (s.extract k j)], by omega, rfl, by simpa using ho, by simp; omega, own_step hI.bel hI.own _ hg, HS.out⟩
              case measure => simp [intOf]; omega
      · have HX := Hd.mk (pcs_mark hlt out hm)
        have hex : Hd (bs (s.extract k (k + 1)) = [s[k]]) := ⟨by
          rw [bs_extract, slice_snoc s k k (Nat.le_refl _) hlt, List.drop_eq_nil_of_le (by rw [List.length_take]; omega)]; rfl⟩
        have hln := hI.len
        have hB := hI.bel.size
        clear h35 hbl
        go_wp2_with (first | (go_at_call 20; refine (mark_any _ _).mono ?_; rintro e w' ⟨rfl, rfl⟩) | (at_builtin; refine app9 rfl _ _ rfl w.heap.size _ _ out rfl (hI.own.alloc _) (s.extract k (k + 1)) _ rfl ?_ ?_ ?_ ?_; (exact World.cell?_alloc_at _ _ _ _ rfl); (omega); (simp; omega); intro v1 w1 ho hg))
        go_roundw
        case rel => exact ⟨k + 1, out ++ [bs (s.extract k (k + 1))], by omega, by go_num, by simpa using ho, by simp; omega, own_step hI.bel hI.own _ hg, by rw [← hI.eq, HX.out, hex.out]⟩
        case measure => simp [intOf]; omega
    · have hk2 : k = s.size := by omega
      subst hk2
      go_wp2_with fail
      rw [Exit.noGoto_ret]
      go_ret2
      exact PiecesPost.good out _ (by rw [← hI.eq, drop_end s _ (Nat.le_refl _)]; rfl) (by rw [bs_length]; exact hI.len) hI.own hI.bel

end Go.Proofs.YtceelkmedfoefaaDoor
