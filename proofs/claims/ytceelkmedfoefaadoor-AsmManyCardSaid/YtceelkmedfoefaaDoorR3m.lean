/- AsmMany: for every uint8 the law returns true, and its argument reads as it did; on the conditions of the row's own cells (the three tables read as the program's text lays them, tied by the card). -/
import Derived.Test.YtceelkmedfoefaaDoorA28
import Derived.Test.YtceelkmedfoefaaDoorL14
import Derived.OwnWalk
import Derived.Test.YtceelkmedfoefaaDoorL11
import Derived.Room.AppendFits
import Derived.Laws.IdiomStrings
import Derived.Test.YtceelkmedfoefaaDoorR1
import Derived.Test.YtceelkmedfoefaaDoorTie
import Derived.Test.YtceelkmedfoefaaDoorCards
import Derived.SevenTiedAt
set_option linter.unusedVariables false
set_option linter.unusedSimpArgs false
namespace Go.Proofs.YtceelkmedfoefaaDoor
open Go.RowKit

/-- What a law leaves. -/
def Lawful (w w' : World) (e : Ending) : Prop := e = .returned (.bool true) ∧ Below w.heap.size w w'
theorem awake_from {w w1 : World} (hE : Env w) (h4 : 4 ≤ w.heap.size) (hB : Below w.heap.size w w1) :
    Calls Tryd.prog 8 #[] w1 fun e w' => e = .returned (.bool true) ∧ Below w.heap.size w w' :=
  (awake_any w1 (hE.below hB) (by have := hB.size; omega)).mono fun e w' ⟨h1, h2⟩ => ⟨h1, hB.trans (h2.mono hB.size)⟩

end Go.Proofs.YtceelkmedfoefaaDoor

/-! A text of many lines 'mret'. -/
set_option linter.unusedVariables false
set_option linter.unusedSimpArgs false
namespace Go.Proofs.YtceelkmedfoefaaDoor
open Go.RowKit

def mretB : Bytes := [109, 114, 101, 116]
def mretL : Bytes := [109, 114, 101, 116, 10]
def manyT : Nat → Bytes
  | 0 => []
  | n + 1 => manyT n ++ mretL
theorem manyT_cons (n : Nat) : manyT (n + 1) = mretL ++ manyT n := by
  induction n with
  | zero => rfl
  | succ n ih =>
    have e : manyT (n + 1) ++ mretL = mretL ++ manyT (n + 1) := by
      conv => lhs; rw [ih]
      rw [List.append_assoc]; rfl
    exact e
theorem manyT_len (n : Nat) : (manyT n).length = 5 * n := by
  induction n with
  | zero => rfl
  | succ n ih => rw [manyT, List.length_append, ih]; simp [mretL]; omega
theorem many_lines (n : Nat) : linesL (manyT n) = List.replicate n mretB := by
  induction n with
  | zero => exact linesL_nil
  | succ n ih =>
    rw [manyT_cons, linesL_cons (by simp [mretL])]
    have h : cutNl (mretL ++ manyT n) = (mretB, manyT n) := by simp [mretL, mretB, cutNl]
    rw [h, ih]; rfl
def xM : AItem := { zeroX with op := 48, has := true }
theorem mret_pieces : pieces mretB = some [mretB] := by kernel_rfl
theorem mret_read : readO [mretB] = some xM := by kernel_rfl
theorem mret_word (k : Nat) : wordX [] k xM = (807403635, 0) := by
  have h : ((encV (niOf xM), encE (niOf xM)) : Int × Int) = (807403635, 0) := by kernel_rfl
  exact Eq.trans (rfl : wordX [] k xM = (encV (niOf xM), encE (niOf xM))) h
theorem mret_step (st : RSt) (n : Int) : stepL st n mretB = if 4096 ≤ st.items.length then (3, st) else (0, ⟨st.items ++ [xM], st.lines ++ [n], st.labels⟩) := by
  unfold stepL
  rw [mret_pieces]
  simp only [piecesL, bodyL]
  rw [if_neg (by simp), if_neg (by simp), mret_read]
theorem many_run : ∀ (m j : Nat) (st : RSt), st.items = List.replicate j xM → st.labels = [] → j + m ≤ 4096 →
    ∃ st', runL st ((j : Int) + 1) (List.replicate m mretB) = (0, 0, st') ∧ st'.items = List.replicate (j + m) xM ∧ st'.labels = []
  | 0, j, st, h1, h2, h3 => ⟨st, rfl, h1, h2⟩
  | m + 1, j, st, h1, h2, h3 => by
    have hl : ¬ 4096 ≤ st.items.length := by rw [h1, List.length_replicate]; omega
    rw [List.replicate_succ, runL, mret_step, if_neg hl, if_pos rfl]
    obtain ⟨st', e1, e2, e3⟩ := many_run m (j + 1) ⟨st.items ++ [xM], st.lines ++ [(j : Int) + 1], st.labels⟩ (by simp only [h1]; rw [List.replicate_succ']) h2 (by omega)
    refine ⟨st', ?_, by rw [e2, show j + 1 + m = j + (m + 1) by omega], e3⟩
    rw [← e1]; simp
theorem many_over : ∀ (m j : Nat) (st : RSt), st.items = List.replicate j xM → j ≤ 4096 → 4096 < j + m →
    ∃ st', runL st ((j : Int) + 1) (List.replicate m mretB) = (3, 4097, st')
  | 0, j, st, h1, h2, h3 => by omega
  | m + 1, j, st, h1, h2, h3 => by
    rw [List.replicate_succ, runL, mret_step]
    by_cases hl : 4096 ≤ st.items.length
    · have : j = 4096 := by rw [h1, List.length_replicate] at hl; omega
      rw [if_pos hl, if_neg (by simp)]
      exact ⟨st, by rw [this]; rfl⟩
    · rw [if_neg hl, if_pos rfl]
      rw [h1, List.length_replicate] at hl
      obtain ⟨st', e1⟩ := many_over m (j + 1) ⟨st.items ++ [xM], st.lines ++ [(j : Int) + 1], st.labels⟩ (by simp only [h1]; rw [List.replicate_succ']) (by omega) (by omega)
      exact ⟨st', by rw [← e1]; simp⟩
theorem many_words : ∀ (m k : Nat) (ns out : List Int), wordsL [] k (List.replicate m xM) ns out = (out ++ List.replicate m 807403635, 0, 0)
  | 0, k, ns, out => by simp [wordsL]
  | m + 1, k, ns, out => by
    rw [List.replicate_succ, wordsL_good (by rw [mret_word]), mret_word, many_words m (k + 1), List.replicate_succ]
    simp
theorem many_good {n : Nat} (h : n ≤ 4096) : programR (manyT n) = (List.replicate n 807403635, 0, 0) := by
  obtain ⟨st', e1, e2, e3⟩ := many_run n 0 st0 rfl rfl (by omega)
  unfold programR
  rw [if_neg (by rw [manyT_len]; omega), many_lines]
  have e : runL st0 1 (List.replicate n mretB) = (0, 0, st') := by simpa using e1
  rw [e]
  unfold endL
  rw [if_pos rfl]
  simp only [e2, e3]
  rw [many_words]
  simp
theorem many_bad {n : Nat} (h : 4096 < n) (h2 : n ≤ 13000) : programR (manyT n) = ([], 4097, 3) := by
  obtain ⟨st', e1⟩ := many_over n 0 st0 rfl (by omega) (by omega)
  unfold programR
  rw [if_neg (by rw [manyT_len]; omega), many_lines]
  have e : runL st0 1 (List.replicate n mretB) = (3, 4097, st') := by simpa using e1
  rw [e]
  rfl
end Go.Proofs.YtceelkmedfoefaaDoor

set_option linter.unusedVariables false
set_option linter.unusedSimpArgs false
namespace Go.Proofs.YtceelkmedfoefaaDoor
open Go.RowKit

theorem info5 : (Tryd.prog.info? 5).map (fun i => (i.zero, i.size, i.bytes)) = some (some (.int .u8 0), 1, 1) := by kernel_rfl
def bcells (l : Bytes) : List Value := l.map fun b => .int .u8 b.toNat
theorem bcells_more (n : Nat) : bcells (manyT n) ++ Lib.strCells ⟨#[109, 114, 101, 116, 10]⟩ = bcells (manyT (n + 1)) := by
  rw [manyT]; unfold bcells Lib.strCells mretL; simp

set_option maxRecDepth 100000 in
set_option maxHeartbeats 4000000 in
theorem lawMany_any (more : Int) (w : World) (hE : Env w) (h4 : 4 ≤ w.heap.size) (hm0 : 0 ≤ more) (hm1 : more ≤ 255) :
    Calls Tryd.prog 6 #[.int .u8 more] w fun e w' => Lawful w w' e := by
  obtain ⟨i0, hi, hz0, hz1, hz2⟩ := info_parts info5
  obtain ⟨k, hk⟩ : ∃ k : Nat, more % 5 = (k : Int) := ⟨(more % 5).toNat, by omega⟩
  have hk4 : k ≤ 4 := by omega
  have hcap : 8 * (4094 + (k : Int)) = ((8 * (4094 + k) : Nat) : Int) := by omega
  have HCap := Hd.mk hcap
  clear hcap
  go_enter Tryd.func6, Tryd.ntmps6
  go_wp2_with (at_make; refine wpList_make_own _ rfl _ _ 42 rfl w.heap.size 5 i0 (.int .u8 0) 1 Tryd.underlying42 hi hz0 hz1 .i64 .i64 _ (8 * (4094 + k)) rfl rfl HCap.out (by rw [hz2]; omega) (by unfold maxLen; omega) (Nat.le_refl _) ?_; intro w1 hown hg)
  have hb1 : Below w.heap.size w w1 := below_of_own hg (fun _ h => by cases h) (Nat.le_refl _)
  have hs1 := hb1.size
  clear hm0 hm1 hk hg
  go_loopw [4, 5] (fun v i wr => ∃ j : Nat, j ≤ 4094 + k ∧ i = .int .i64 j ∧ v = .slice (some ⟨w.heap.size, 0, none⟩) (5 * j) (8 * (4094 + k)) ∧ wr.ownsRow w.heap.size 5 1 v (5 * j) (bcells (manyT j)) ∧ Below w.heap.size w wr) (fun _ i _ => 4094 + k - (intOf i).toNat)
  case atStart => exact ⟨0, Nat.zero_le _, rfl, rfl, hown, hb1⟩
  case round =>
    obtain ⟨j, hj, rfl, rfl, hown2, hb2⟩ := hrel
    have hs2 := hb2.size
    by_cases hlt : j < 4094 + k
    · have hji : (j : Int) < 4094 + (k : Int) := by omega
      go_wp2_with (at_builtin; refine Lib.wpList_append_fits_string _ rfl _ _ 42 9 rfl w.heap.size 5 i0 Tryd.underlying42 Tryd.underlying9 hi hz1 _ (5 * j) (8 * (4094 + k)) _ rfl hown2 ⟨#[109, 114, 101, 116, 10]⟩ rfl (by omega) (by simp [ByteArray.size]; omega) ?_; intro w3 hown3 hg3)
      exact ⟨⟨j + 1, by omega, by simp, by rw [Nat.mul_succ], by rw [Nat.mul_succ, ← bcells_more]; exact hown3, hb2.trans (below_of_own hg3 (fun _ h => by cases h; exact Nat.le_refl _) hs2)⟩, by simp [intOf]; omega⟩
    · have hje : j = 4094 + k := by omega
      subst hje
      have hcv : (convert 42 9 (.slice (some ⟨w.heap.size, 0, none⟩) (5 * (4094 + k)) (8 * (4094 + k)))).run Tryd.prog wr = .ok (.string ⟨(manyT (4094 + k)).toArray⟩) wr := by
        have h := run_convert_bytes_back (P := Tryd.prog) wr 42 9 5 ⟨w.heap.size, 0, none⟩ (8 * (4094 + k)) (manyT (4094 + k)) Tryd.underlying42 Tryd.underlying5 Tryd.underlying9 (by
          intro i hi
          have hc := hown2.cells (g := w.heap.size) rfl i (.int .u8 ((manyT (4094 + k))[i].toNat : Int)) (by unfold bcells; rw [List.getElem?_map, List.getElem?_eq_getElem hi]; rfl)
          exact hc)
        rwa [manyT_len] at h
      have hbs : bs ⟨(manyT (4094 + k)).toArray⟩ = manyT (4094 + k) := by unfold bs; simp
      have hsz : ByteArray.size ⟨(manyT (4094 + k)).toArray⟩ ≤ 1048576 := by rw [← bs_length, hbs, manyT_len]; omega
      obtain ⟨sv, hsv⟩ : ∃ sv : ByteArray, ⟨(manyT (4094 + k)).toArray⟩ = sv := ⟨_, rfl⟩
      rw [hsv] at hcv hbs hsz
      have HBS := Hd.mk hbs
      clear hsv hbs hown2
      go_wp2_with fail
      refine (program_any sv wr (hE.below hb2) (by omega) hsz).mono ?_
      rintro e w3 ⟨⟨v, rfl, hv⟩, hb3⟩
      have hB3 := hb2.trans (hb3.mono hs2)
      rw [HBS.out] at hv ⊢
      by_cases hk3 : 3 ≤ k
      · rw [many_bad (by omega) (by omega)] at hv ⊢
        obtain ⟨a1, cp1, rfl⟩ := own_form hv
        have hgt : (4096 : Int) < 4094 + (k : Int) := by omega
        clear hv hcv
        go_wp2_with (go_at_call 8; refine (awake_from hE h4 hB3).mono ?_; rintro e w4 ⟨rfl, hb4⟩)
        go_ret
        exact ⟨rfl, hb4⟩
      · obtain ⟨l, hl⟩ : ∃ l, List.replicate (4094 + k) (807403635 : Int) = l := ⟨_, rfl⟩
        have hll : l.length = 4094 + k := by rw [← hl, List.length_replicate]
        have hlk : l[4093 + k]? = some 807403635 := by rw [← hl, List.getElem?_replicate]; simp
        rw [many_good (by omega), hl] at hv ⊢
        rw [hll] at hv
        obtain ⟨g, cp1, rfl, hg1, hg2⟩ := hv.form (by omega)
        have c1 := hv.cells (g := g) rfl (4093 + k) (.int .u32 807403635) (by unfold wvals; rw [List.getElem?_map, hlk]; rfl)
        rw [Addr.add_mid, Nat.zero_add] at c1
        have hgt : ¬ (4096 : Int) < 4094 + (k : Int) := by omega
        have t1 : (4094 + (k : Int) - 1).toNat = 4093 + k := by omega
        have t2 : (0 : Int) ≤ 4094 + (k : Int) - 1 := by omega
        have t3 : 4094 + (k : Int) - 1 < 4094 + (k : Int) := by omega
        have t4 : IntKind.i64.wrap (4094 + (k : Int) - 1) = 4094 + (k : Int) - 1 := IntWalk.i64_in _ (by omega)
        clear hv hcv hl hll hlk
        go_wp2_with (go_at_call 8; refine (awake_from hE h4 hB3).mono ?_; rintro e w4 ⟨rfl, hb4⟩)
        go_ret
        exact ⟨rfl, hb4⟩
end Go.Proofs.YtceelkmedfoefaaDoor

set_option linter.unusedVariables false
set_option linter.unusedSimpArgs false
namespace Go.Proofs.YtceelkmedfoefaaDoor
open Go.ChangeShapes Go.WideShapes Go.ChangeAt Go.WideMaps Go.WideElems Go.RowKit
open Go.ChangeMaps (open_string shut_string)

set_option maxRecDepth 100000 in
theorem asmMany_lifted (os : Os) (started : os.Started) (H : Type) (enc : TypeId × Value → H) :
    ReturnsInHanded {} Tryd.checked os 6 .any (fun w args => (Rows.asmManySpec.pre enc Tryd.prog Tryd.f6 [] false w args ∧ laidMetH Tryd.prog laid3 w) ∧ sizedMet enc Tryd.prog Tryd.f6 (OpenSpec.ofChange Rows.asmManySpec) false w args)
      (Rows.asmManySpec.post enc Tryd.prog Tryd.f6 false true false false) := by
  refine returnsInHanded_of_change_and (C := Tryd.checked) (X := fun w _ => laidMetH Tryd.prog laid3 w) (fun _ _ _ hh h => h.of_heap hh) ownK started (by kernel_rfl) Tryd.func6
    (ChangeSpec.witness_shaped (enc := enc) (C := Tryd.checked) (os := os) (X := fun w _ => laidMetH Tryd.prog laid3 w) false (World.doorLaid Tryd.prog 400 os) #[.int .u8 0] 8 rfl (World.shaped_of_RefB (by kernel_rfl) (by kernel_rfl)) (by kernel_rfl) (by kernel_rfl) (by kernel_rfl) (door_met os _)) ?_
  intro W base args ds gs before hval0 hW _ _ hL hsh
  have hval : ∀ (j : Nat) t v, Tryd.f6.params[j]? = some t → args[j]? = some v → Value.okWide Tryd.prog W .any base t v := hval0
  have hW' := hW
  obtain ⟨p, q, hA0, hV, rfl, hfz, hnd⟩ := hW
  have hA : DataW.TrodAll enc Tryd.prog W 0 (fun _ => true) true Tryd.f6.params.toList args.toList ds p := hA0
  rw [Tryd.params6] at hA hval
  obtain ⟨v0, d0, rfl, rfl, h0⟩ := trodAll_one hA
  obtain ⟨rfl, rfl⟩ := trodVars_none hV
  obtain ⟨n, rfl, rfl, rfl, wn⟩ := open_int Tryd.underlying5 (hval 0 5 v0 rfl rfl) h0
  have hbn := bounds_u8 wn
  have hE := env_of_laid hL
  clear hA0 hval0
  simp only [List.append_nil] at hW'
  refine (lawMany_any n W hE hE.size hbn.1 hbn.2).mono ?_
  rintro e W' ⟨rfl, hB⟩
  refine ⟨_, rfl, _, _, _, [], [], [], hW', trodAll_mk1 (shut_bool Tryd.underlying4 true), trodAll_mk1 (shut_int Tryd.underlying5 wn), rfl, hB.frame _, fun h => by cases h⟩

theorem asmMany_holds : Rows.AsmManySaid :=
  OpenClaim.holds_of_wide 6 Tryd.f6 rfl rfl rfl rfl rfl rfl rfl ⟨rfl, rfl, rfl, rfl, rfl⟩ rfl rfl rfl rfl rfl (by kernel_rfl) Tryd.func6 (by kernel_rfl)
    (of_decide_eq_true (by kernel_rfl)) (by unfold Func.isWrapper; first | (rw [if_pos (by decide +kernel)]; kernel_rfl) | (rw [if_neg (by decide +kernel)]; exact ⟨rfl, rfl⟩))
    (fun os started H enc _ => asmMany_lifted os started H enc)

theorem asmMany_card : Rows.AsmManyCardSaid :=
  Claim7.holds_tied_plain_at .later [] [.data, .data, .data] true (true, "379bb9740dcee708e54628b5f9eb815e8a3078b48da92db2e74f01d606b64738") false
    asmMany_holds (fun _ h => by cases h) (by kernel_rfl) (fun _ h => by cases h) asmMany_row_tie rfl ⟨rfl, rfl⟩ (by kernel_rfl) rfl
    (fun f fn hf hfn => by
      obtain rfl : f = 6 := Option.some.inj ((show Tryd.prog.funcNamed "mimesis/mimesislaw06.AsmMany" = some 6 by kernel_rfl).symm.trans hf) |>.symm
      obtain rfl : fn = Tryd.f6 := (Option.some.inj (Tryd.func6.symm.trans hfn)).symm
      exact ⟨by kernel_rfl, fun j t ht => by
        rw [Tryd.params6] at ht
        have h3 : t = 5 := by
          rcases j with _ | j
          · simpa using ht.symm
          · simp at ht
        subst h3
        exact (show Tryd.prog.wantsStandIn 5 = false by kernel_rfl)⟩)
    (by kernel_rfl)
#print axioms asmMany_card
end Go.Proofs.YtceelkmedfoefaaDoor

