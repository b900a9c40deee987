/- A number's decimal text, whatever the number; an instruction's text, for each right instruction. -/
import Derived.Test.YtceelkmedfoefaaDoorL1
import Derived.Test.YtceelkmedfoefaaDoorL14
import Derived.RegionTactic
import Derived.ChangeAlike
import Derived.Test.YtceelkmedfoefaaDoorA17
import Derived.Test.YtceelkmedfoefaaDoorA18
import Derived.Test.YtceelkmedfoefaaDoorL6
import Derived.Deep.RegionHeld3
import Derived.Test.YtceelkmedfoefaaDoorL10
import Derived.Test.YtceelkmedfoefaaDoorL5
import Derived.Test.YtceelkmedfoefaaDoorA19
import Derived.Test.YtceelkmedfoefaaDoorA23
/-! A number's decimal text, and that it is read as the number. -/
set_option linter.unusedVariables false
set_option linter.unusedSimpArgs false
namespace Go.Proofs.YtceelkmedfoefaaDoor

/-- A number's digits, the last one first. -/
def revDig : Nat → Nat → Bytes
  | 0, _ => []
  | f + 1, u => UInt8.ofNat (48 + u % 10) :: (if u < 10 then [] else revDig f (u / 10))
def decT (u : Nat) : Bytes := (revDig 20 u).reverse
/-- A number's text. -/
def numT (n : Int) : Bytes := if n < 0 then 45 :: decT (-n).toNat else decT n.toNat
theorem dig_nat (u : Nat) : (UInt8.ofNat (48 + u % 10)).toNat = 48 + u % 10 := by
  have : u % 10 < 10 := Nat.mod_lt _ (by omega)
  simp; omega
theorem dig_is (u : Nat) : isDig (UInt8.ofNat (48 + u % 10)) = true := by
  have : u % 10 < 10 := Nat.mod_lt _ (by omega)
  unfold isDig; rw [dig_nat]; exact decide_eq_true (by omega)
theorem revDig_dig : ∀ (f u : Nat), (revDig f u).all isDig = true
  | 0, u => rfl
  | f + 1, u => by
    rw [revDig, List.all_cons, dig_is]
    split
    · rfl
    · simpa using revDig_dig f (u / 10)
theorem decT_dig (u : Nat) : allDig (decT u) = true := by
  unfold allDig decT; rw [List.all_reverse]; exact revDig_dig 20 u
theorem revDig_val : ∀ (f u : Nat), u < 10 ^ f → dval (revDig f u).reverse = u
  | 0, u, h => by simp at h; subst h; rfl
  | f + 1, u, h => by
    rw [revDig, List.reverse_cons, dval_snoc, dig_nat]
    split
    · rename_i h2
      have : dval ([] : Bytes).reverse = 0 := rfl
      rw [this]; omega
    · rw [revDig_val f (u / 10) (by rw [Nat.pow_succ] at h; omega)]; omega
theorem decT_val {u : Nat} (h : u < 100000000000000000000) : dval (decT u) = u := revDig_val 20 u (by simpa using h)
theorem revDig_len : ∀ (f u k : Nat), 1 ≤ k → u < 10 ^ k → (revDig f u).length ≤ k
  | 0, u, k, hk, h => by simp [revDig]
  | f + 1, u, k, hk, h => by
    rw [revDig, List.length_cons]
    split
    · simp; omega
    · rename_i h2
      have hk2 : 2 ≤ k := by
        rcases Nat.lt_or_ge k 2 with e | e
        · have : k = 1 := by omega
          subst this; simp at h; omega
        · exact e
      have := revDig_len f (u / 10) (k - 1) (by omega) (by
        have e : 10 ^ k = 10 ^ (k - 1) * 10 := by rw [← Nat.pow_succ]; congr 1; omega
        omega)
      omega
theorem decT_len {u : Nat} (h : u < 10000000000) : 1 ≤ (decT u).length ∧ (decT u).length ≤ 10 := by
  unfold decT
  rw [List.length_reverse]
  refine ⟨?_, revDig_len 20 u 10 (by omega) (by simpa using h)⟩
  rw [revDig]; simp
theorem allDig_head {l : Bytes} (h : allDig l = true) (p : Bytes) (hp : ∃ c ∈ p, isDig c = false) : Lib.hasPrefix l p = false := by
  unfold Lib.hasPrefix
  rw [Bool.eq_false_iff]
  intro hpre
  have h2 : p <+: l := by simpa using hpre
  obtain ⟨c, hc, hd⟩ := hp
  have h3 := h2.subset hc
  unfold allDig at h
  rw [List.all_eq_true] at h
  rw [h c h3] at hd
  cases hd
theorem decT_num {u : Nat} (h : u ≤ 4294967295) : numOf (decT u) = some (u : Int) := by
  have hd := decT_dig u
  have h1 := decT_len (u := u) (by omega)
  have h2 : Lib.hasPrefix (decT u) [45] = false := allDig_head hd _ ⟨45, by simp, by decide⟩
  have h3 : Lib.hasPrefix (decT u) [48, 120] = false := allDig_head hd _ ⟨120, by simp, by decide⟩
  have h4 : Lib.trimPrefix (decT u) [45] = decT u := by unfold Lib.trimPrefix; rw [h2]; rfl
  have h5 : magn (decT u) = some (u : Int) := by
    unfold magn
    rw [h3, if_neg (by simp), if_pos ⟨hd, h1.1, h1.2⟩, decT_val (by omega)]
  unfold numOf
  rw [h4, if_neg (by omega), h5, h2]
  simp; omega
theorem decT_neg {u : Nat} (h : 1 ≤ u) (h1 : u ≤ 2147483648) : numOf (45 :: decT u) = some (4294967296 - (u : Int)) := by
  have hd := decT_dig u
  have h1 := decT_len (u := u) (by omega)
  have h2 : Lib.hasPrefix (45 :: decT u) [45] = true := by simp [Lib.hasPrefix]
  have h3 : Lib.hasPrefix (decT u) [48, 120] = false := allDig_head hd _ ⟨120, by simp, by decide⟩
  have h4 : Lib.trimPrefix (45 :: decT u) [45] = decT u := by unfold Lib.trimPrefix; rw [h2]; rfl
  have h5 : magn (decT u) = some (u : Int) := by
    unfold magn
    rw [h3, if_neg (by simp), if_pos ⟨hd, h1.1, h1.2⟩, decT_val (by omega)]
  unfold numOf
  rw [h4, if_neg (by omega), h5, h2]
  simp; omega
/-- A word's text as a signed number is read as the word. -/
theorem numT_signed {n : Int} (h : -2147483648 ≤ n ∧ n < 2147483648) : numOf (numT n) = some (n % 4294967296) := by
  unfold numT
  split
  · rw [decT_neg (by omega) (by omega)]; congr 1; omega
  · rw [decT_num (by omega)]; congr 1; omega
theorem numT_word {n : Int} (h : 0 ≤ n ∧ n < 4294967296) : numOf (numT n) = some n := by
  unfold numT
  rw [if_neg (by omega), decT_num (by omega)]; congr 1; omega
end Go.Proofs.YtceelkmedfoefaaDoor

/-! A text of many lines 'mret'. -/
set_option linter.unusedVariables false
set_option linter.unusedSimpArgs false
namespace Go.Proofs.YtceelkmedfoefaaDoor
open Go.RowKit

def mretB : Bytes := [109, 114, 101, 116]
def mretL : Bytes := [109, 114, 101, 116, 10]
def manyT : Nat → Bytes
  | 0 => []
  | n + 1 => manyT n ++ mretL
theorem manyT_cons (n : Nat) : manyT (n + 1) = mretL ++ manyT n := by
  induction n with
  | zero => rfl
  | succ n ih =>
    have e : manyT (n + 1) ++ mretL = mretL ++ manyT (n + 1) := by
      conv => lhs; rw [ih]
      rw [List.append_assoc]; rfl
    exact e
theorem manyT_len (n : Nat) : (manyT n).length = 5 * n := by
  induction n with
  | zero => rfl
  | succ n ih => rw [manyT, List.length_append, ih]; simp [mretL]; omega
theorem many_lines (n : Nat) : linesL (manyT n) = List.replicate n mretB := by
  induction n with
  | zero => exact linesL_nil
  | succ n ih =>
    rw [manyT_cons, linesL_cons (by simp [mretL])]
    have h : cutNl (mretL ++ manyT n) = (mretB, manyT n) := by simp [mretL, mretB, cutNl]
    rw [h, ih]; rfl
def xM : AItem := { zeroX with op := 48, has := true }
theorem mret_pieces : pieces mretB = some [mretB] := by kernel_rfl
theorem mret_read : readO [mretB] = some xM := by kernel_rfl
theorem mret_word (k : Nat) : wordX [] k xM = (807403635, 0) := by
  have h : ((encV (niOf xM), encE (niOf xM)) : Int × Int) = (807403635, 0) := by kernel_rfl
  exact Eq.trans (rfl : wordX [] k xM = (encV (niOf xM), encE (niOf xM))) h
theorem mret_step (st : RSt) (n : Int) : stepL st n mretB = if 4096 ≤ st.items.length then (3, st) else (0, ⟨st.items ++ [xM], st.lines ++ [n], st.labels⟩) := by
  unfold stepL
  rw [mret_pieces]
  simp only [piecesL, bodyL]
  rw [if_neg (by simp), if_neg (by simp), mret_read]
theorem many_run : ∀ (m j : Nat) (st : RSt), st.items = List.replicate j xM → st.labels = [] → j + m ≤ 4096 →
    ∃ st', runL st ((j : Int) + 1) (List.replicate m mretB) = (0, 0, st') ∧ st'.items = List.replicate (j + m) xM ∧ st'.labels = []
  | 0, j, st, h1, h2, h3 => ⟨st, rfl, h1, h2⟩
  | m + 1, j, st, h1, h2, h3 => by
    have hl : ¬ 4096 ≤ st.items.length := by rw [h1, List.length_replicate]; omega
    rw [List.replicate_succ, runL, mret_step, if_neg hl, if_pos rfl]
    obtain ⟨st', e1, e2, e3⟩ := many_run m (j + 1) ⟨st.items ++ [xM], st.lines ++ [(j : Int) + 1], st.labels⟩ (by simp only [h1]; rw [List.replicate_succ']) h2 (by omega)
    refine ⟨st', ?_, by rw [e2, show j + 1 + m = j + (m + 1) by omega], e3⟩
    rw [← e1]; simp
theorem many_over : ∀ (m j : Nat) (st : RSt), st.items = List.replicate j xM → j ≤ 4096 → 4096 < j + m →
    ∃ st', runL st ((j : Int) + 1) (List.replicate m mretB) = (3, 4097, st')
  | 0, j, st, h1, h2, h3 => by omega
  | m + 1, j, st, h1, h2, h3 => by
    rw [List.replicate_succ, runL, mret_step]
    by_cases hl : 4096 ≤ st.items.length
    · have : j = 4096 := by rw [h1, List.length_replicate] at hl; omega
      rw [if_pos hl, if_neg (by simp)]
      exact ⟨st, by rw [this]; rfl⟩
    · rw [if_neg hl, if_pos rfl]
      rw [h1, List.length_replicate] at hl
      obtain ⟨st', e1⟩ := many_over m (j + 1) ⟨st.items ++ [xM], st.lines ++ [(j : Int) + 1], st.labels⟩ (by simp only [h1]; rw [List.replicate_succ']) (by omega) (by omega)
      exact ⟨st', by rw [← e1]; simp⟩
theorem many_words : ∀ (m k : Nat) (ns out : List Int), wordsL [] k (List.replicate m xM) ns out = (out ++ List.replicate m 807403635, 0, 0)
  | 0, k, ns, out => by simp [wordsL]
  | m + 1, k, ns, out => by
    rw [List.replicate_succ, wordsL_good (by rw [mret_word]), mret_word, many_words m (k + 1), List.replicate_succ]
    simp
theorem many_good {n : Nat} (h : n ≤ 4096) : programR (manyT n) = (List.replicate n 807403635, 0, 0) := by
  obtain ⟨st', e1, e2, e3⟩ := many_run n 0 st0 rfl rfl (by omega)
  unfold programR
  rw [if_neg (by rw [manyT_len]; omega), many_lines]
  have e : runL st0 1 (List.replicate n mretB) = (0, 0, st') := by simpa using e1
  rw [e]
  unfold endL
  rw [if_pos rfl]
  simp only [e2, e3]
  rw [many_words]
  simp
theorem many_bad {n : Nat} (h : 4096 < n) (h2 : n ≤ 13000) : programR (manyT n) = ([], 4097, 3) := by
  obtain ⟨st', e1⟩ := many_over n 0 st0 rfl (by omega) (by omega)
  unfold programR
  rw [if_neg (by rw [manyT_len]; omega), many_lines]
  have e : runL st0 1 (List.replicate n mretB) = (3, 4097, st') := by simpa using e1
  rw [e]
  rfl
end Go.Proofs.YtceelkmedfoefaaDoor

set_option linter.unusedVariables false
set_option linter.unusedSimpArgs false
/-! Bytes turned round; a number's text. -/
namespace Go.Proofs.YtceelkmedfoefaaDoor
open Go.RowKit

def bv (c : UInt8) : Value := .int .u8 (c.toNat : Int)
/-- The bytes, the first k and the last k turned round. -/
def turn (l : Bytes) (n k p : Nat) : UInt8 := if p < k ∨ n ≤ p + k then l.getD (n - 1 - p) 0 else l.getD p 0
theorem below_drew_grown (w : World) (row : Option Nat) : w.grownBy w.drew row := ⟨rfl, rfl, rfl, Nat.le_refl _, fun _ _ _ => rfl⟩
structure TInv (l : Bytes) (n cap g : Nat) (w wr : World) (k j : Nat) (cur : Array Value) : Prop where
  blk : Blk wr g cur 5
  size : cur.size = cap
  cells : ∀ p, p < n → cur[p]? = some (bv (turn l n k p))
  sum : k + j + 1 = n
  grown : w.grownBy wr (some g)
theorem TInv.step {l : Bytes} {n cap g : Nat} {w wr w' : World} {k j : Nat} {cur cur' : Array Value} (h : TInv l n cap g w wr k j cur) (hkj : k < j) (hb : Blk w' g cur' 5) (hs : cur'.size = cap) (hg : wr.grownBy w' (some g))
    (hc : ∀ p, cur'[p]? = if p = k then (cur[p]?).map (fun _ => bv (turn l n k j)) else if p = j then (cur[p]?).map (fun _ => bv (turn l n k k)) else cur[p]?) : TInv l n cap g w w' (k + 1) (j - 1) cur' := by
  refine ⟨hb, hs, fun p hp => ?_, by have := h.sum; omega, grown_trans h.grown hg⟩
  have hsum := h.sum
  rw [hc p]
  have h0 := h.cells p hp
  by_cases e1 : p = k
  · rw [if_pos e1, h0]
    simp only [Option.map_some, Option.some.injEq]
    congr 1
    unfold turn
    rw [if_neg (by omega), if_pos (by omega)]
    congr 1; omega
  · rw [if_neg e1]
    by_cases e2 : p = j
    · rw [if_pos e2, h0]
      simp only [Option.map_some, Option.some.injEq]
      congr 1
      unfold turn
      rw [if_neg (by omega), if_pos (by omega)]
      congr 1; omega
    · rw [if_neg e2, h0]
      congr 1
      unfold turn
      by_cases e3 : p < k ∨ n ≤ p + k
      · rw [if_pos e3, if_pos (by omega)]
      · rw [if_neg e3, if_neg (by omega)]
theorem TInv.done {l : Bytes} {n cap g : Nat} {w wr : World} {k j : Nat} {cur : Array Value} (h : TInv l n cap g w wr k j cur) (hl : l.length = n) (hkj : ¬ k < j) : ∀ p, p < n → cur[p]? = some (bv (l.reverse.getD p 0)) := by
  intro p hp
  rw [h.cells p hp]
  have hsum := h.sum
  have hr : l.reverse.getD p 0 = l.getD (n - 1 - p) 0 := by
    rw [List.getD_eq_getElem?_getD, List.getD_eq_getElem?_getD, List.getElem?_reverse (by omega), hl]
  rw [hr]
  congr 2
  unfold turn
  split
  · rfl
  · congr 1; omega

set_option maxRecDepth 100000 in
set_option maxHeartbeats 2000000 in
theorem reverse_any (g cap n : Nat) (l : Bytes) (w : World) (cur : Array Value) (hb : Blk w g cur 5) (hl : l.length = n) (hn1 : 1 ≤ n) (hn : n ≤ 1000) (hnc : n ≤ cap) (hcs : cur.size = cap) (hx : ∀ p, p < n → cur[p]? = some (bv (l.getD p 0))) :
    Calls Tryd.prog 71 #[.slice (some ⟨g, 0, none⟩) n cap] w fun e w' => e = .returned (.tuple #[]) ∧ ∃ cur', Blk w' g cur' 5 ∧ cur'.size = cap ∧ (∀ p, p < n → cur'[p]? = some (bv (l.reverse.getD p 0))) ∧ w.grownBy w' (some g) := by
  have HL := Hd.mk hl
  clear hl
  go_enter Tryd.func71, Tryd.ntmps71
  go_wp2_with fail
  go_loopw [2, 3] (fun a b wr => ∃ (k j : Nat) (cu : Array Value), a = .int .i64 k ∧ b = .int .i64 j ∧ TInv l n cap g w wr k j cu) (fun a b _ => (intOf b).toNat)
  case atStart => exact ⟨0, n - 1, cur, rfl, by simp; omega, hb, hcs, fun p hp => by rw [hx p hp]; unfold turn; rw [if_neg (by omega)], by omega, grown_refl _ _⟩
  case round =>
    obtain ⟨k, j, cu, rfl, rfl, hI⟩ := hrel
    have hsum := hI.sum
    by_cases hkj : k < j
    · have ck := hI.blk.cell k (hI.cells k (by omega))
      have cj := hI.blk.cell j (hI.cells j (by omega))
      have fk := hI.blk.free k
      have fj := hI.blk.free j
      have i1 : (k : Int) < (n : Int) := by omega
      have i2 : (j : Int) < (n : Int) := by omega
      have i3 : (k : Int) < (j : Int) := by omega
      unfold bv at ck cj
      go_wp2_with fail
      go_region
      go_wp2_with fail
      have hb1 := ((hI.blk.drew).set k (bv (turn l n k j))).set j (bv (turn l n k k))
      have hg1 : wr.grownBy ((wr.drew.setCell ⟨g, k, none⟩ (bv (turn l n k j))).setCell ⟨g, j, none⟩ (bv (turn l n k k))) (some g) := grown_trans (grown_trans (below_drew_grown wr (some g)) (grown_set _ _ _ _)) (grown_set _ _ _ _)
      refine ⟨⟨k + 1, j - 1, (cu.setIfInBounds k (bv (turn l n k j))).setIfInBounds j (bv (turn l n k k)), by simp, by simp; omega, hI.step hkj hb1 (by simp [hI.size]) hg1 ?_⟩, by simp [intOf]; omega⟩
      intro p
      have hck := hI.cells k (by omega)
      have hcj := hI.cells j (by omega)
      have hsz := hI.size
      rw [Array.getElem?_setIfInBounds, Array.getElem?_setIfInBounds]
      by_cases e1 : p = k
      · subst e1
        rw [if_neg (by omega), if_pos rfl, if_pos (by omega), if_pos rfl, hck]; rfl
      · rw [if_neg e1]
        by_cases e2 : p = j
        · subst e2
          rw [if_pos rfl, if_pos (by simp; omega), if_pos rfl, hcj]; rfl
        · rw [if_neg (fun e => e2 e.symm), if_neg (fun e => e1 e.symm), if_neg e2]
    · have HD := Hd.mk (hI.done HL.out hkj)
      have hbk := hI.blk
      have hgk := hI.grown
      have hsk := hI.size
      clear hI
      go_wp2_with fail
      go_end0
      exact ⟨rfl, cu, hbk, hsk, HD.out, hgk⟩

theorem revDig_more (f u : Nat) (h : 10 ≤ u) : revDig (f + 1) u = UInt8.ofNat (48 + u % 10) :: revDig f (u / 10) := by
  rw [revDig, if_neg (by omega)]
theorem info5b : (Tryd.prog.info? 5).map (fun i => (i.zero, i.size, i.bytes)) = some (some (.int .u8 0), 1, 1) := by kernel_rfl
def bvals (l : Bytes) : List Value := l.map bv
theorem bvals_snoc (l : Bytes) (c : UInt8) : bvals (l ++ [c]) = bvals l ++ [bv c] := by simp [bvals]
theorem bv_of {c : Int} {d : UInt8} (h : c = (d.toNat : Int)) : Value.int .u8 c = bv d := by rw [h]; rfl
/-- append(out, a byte), onto a row of the call's own. -/
theorem app5 {ops : Array Oper} {rest : List Oper} {o : Oper} {a : Act} {Q : Exit → Act → World → Prop} {w : World} (hgd : o.guard = none) (s x : Operand)
    (ho : o.op = .call { callee := .builtin .append, args := #[s, x], argTypes := #[42, 42] })
    (base : Nat) (v : Value) (n : Nat) (out : Bytes) (hs : a.eval s = v) (hown : w.ownsRow base 5 1 v n (bvals out)) (b : UInt8) (ad : Addr) (hx : a.eval x = .slice (some ad) 1 1)
    (hc : w.cell? ad = some (bv b)) (hn : n ≤ 2000000) (hbase : base ≤ w.heap.size)
    (h : ∀ v' w', w'.ownsRow base 5 1 v' (n + 1) (bvals (out ++ [b])) → w.grownBy w' v.ownBlock → wpList Tryd.prog ops Q rest (a.put o.dst v') w') : wpList Tryd.prog ops Q (o :: rest) a w := by
  obtain ⟨i0, hi, hz0, hz1, hz2⟩ := info_parts info5b
  refine wpList_append_own w hgd s x 42 ho base 5 i0 (.int .u8 0) 1 1 Tryd.underlying42 hi hz0 hz1 hz2 rfl (by decide) v n (bvals out) hs hown ad 1 1 [bv b] hx rfl ?_ ?_ ?_ ?_ hbase ?_
  · intro j u hu
    cases j with
    | zero =>
      have e : ad.add 0 = ad := by unfold Addr.add; split <;> simp_all
      rw [e, hc]; exact hu
    | succ j => simp at hu
  · intro u hu; simp at hu; subst hu; rfl
  · unfold maxLen; omega
  · omega
  · intro v' w' h1 h2 _
    rw [bvals_snoc] at h
    exact h v' w' h1 h2
theorem dig_val (v : Nat) : (48 + ((v % 10 : Nat) : Int)) = ((UInt8.ofNat (48 + v % 10)).toNat : Int) := by rw [dig_nat]; simp
structure NuInv (u : Nat) (w wr : World) (v : Nat) (out : Bytes) (vs : Value) : Prop where
  own : wr.ownsRow w.heap.size 5 1 vs out.length (bvals out)
  bel : Below w.heap.size w wr
  eq : revDig 20 u = out ++ (if v < 10 then [] else revDig (20 - out.length) (v / 10))
  len : out.length ≤ 10 ∧ 1 ≤ out.length
  v_le : v ≤ 4294967295
theorem NuInv.step {u : Nat} {w wr w' : World} {v : Nat} {out : Bytes} {vs vs' : Value} (h : NuInv u w wr v out vs) (hu : u ≤ 4294967295) (h10 : 10 ≤ v) (ho : w'.ownsRow w.heap.size 5 1 vs' (out.length + 1) (bvals (out ++ [UInt8.ofNat (48 + (v / 10) % 10)]))) (hb : Below w.heap.size w w') :
    NuInv u w w' (v / 10) (out ++ [UInt8.ofNat (48 + (v / 10) % 10)]) vs' := by
  have hl := h.len
  have he := h.eq
  have hv := h.v_le
  rw [if_neg (by omega)] at he
  have e : 20 - out.length = (20 - (out.length + 1)) + 1 := by omega
  have e3 : revDig ((20 - (out.length + 1)) + 1) (v / 10) = UInt8.ofNat (48 + (v / 10) % 10) :: (if v / 10 < 10 then [] else revDig (20 - (out.length + 1)) (v / 10 / 10)) := rfl
  rw [e, e3] at he
  have he2 : revDig 20 u = (out ++ [UInt8.ofNat (48 + (v / 10) % 10)]) ++ (if v / 10 < 10 then [] else revDig (20 - (out ++ [UInt8.ofNat (48 + (v / 10) % 10)]).length) (v / 10 / 10)) := by
    rw [he]; simp
  refine ⟨by simpa using ho, hb, he2, ?_, by omega⟩
  have h1 := (decT_len (u := u) (by omega)).2
  unfold decT at h1
  rw [List.length_reverse, he2, List.length_append] at h1
  simp at h1 ⊢
  omega

theorem own_block {w : World} {base : Nat} {vs : Value} {l : Bytes} (h : w.ownsRow base 5 1 vs l.length (bvals l)) (h1 : 1 ≤ l.length) :
    ∃ g cap cur, vs = .slice (some ⟨g, 0, none⟩) l.length cap ∧ base ≤ g ∧ l.length ≤ cap ∧ Blk w g cur 5 ∧ cur.size = cap ∧ ∀ p, p < l.length → cur[p]? = some (bv (l.getD p 0)) := by
  rcases h.2 with ⟨_, h0⟩ | ⟨g, cap, cur, hv, hbg, hg, hnc, hcm, hcs, htake⟩
  · omega
  · refine ⟨g, cap, cur, hv, hbg, hnc, ⟨hg⟩, by simpa using hcs, fun p hp => ?_⟩
    have e1 : (cur.toList.take (l.length * 1))[p]? = (bvals l)[p]? := by rw [htake]
    rw [List.getElem?_take, if_pos (by omega)] at e1
    unfold bvals at e1
    rw [List.getElem?_map, List.getElem?_eq_getElem hp] at e1
    rw [List.getD_eq_getElem?_getD, List.getElem?_eq_getElem hp]
    simpa using e1
theorem conv_row {w : World} {g cap n : Nat} {cur : Array Value} {l : Bytes} (hb : Blk w g cur 5) (hn : l.length = n) (hc : ∀ p, p < n → cur[p]? = some (bv (l.reverse.getD p 0))) :
    (convert 42 9 (.slice (some ⟨g, 0, none⟩) n cap)).run Tryd.prog w = .ok (.string ⟨l.reverse.toArray⟩) w := by
  have h := run_convert_bytes_back (P := Tryd.prog) w 42 9 5 ⟨g, 0, none⟩ cap l.reverse Tryd.underlying42 Tryd.underlying5 Tryd.underlying9 (by
    intro j hj
    have hj2 : j < n := by rw [List.length_reverse] at hj; omega
    have e := hb.cell j (hc j hj2)
    rw [Addr.add_mid, Nat.zero_add, e, List.getD_eq_getElem?_getD, List.getElem?_eq_getElem hj]; rfl)
  rwa [List.length_reverse, hn] at h

set_option maxRecDepth 100000 in
set_option maxHeartbeats 4000000 in
theorem dnumber_any (n : Int) (w : World) (h : -2147483648 ≤ n ∧ n < 4294967296) :
    Calls Tryd.prog 46 #[.int .i64 n] w fun e w' => (∃ s : ByteArray, bs s = numT n ∧ e = .returned (.string s)) ∧ Below w.heap.size w w' := by
  obtain ⟨u, hu1, hu2⟩ : ∃ u : Nat, u ≤ 4294967295 ∧ ((n < 0 ∧ n = -(u : Int)) ∨ (0 ≤ n ∧ n = (u : Int))) := by
    rcases Int.lt_or_le n 0 with e | e
    · exact ⟨(-n).toNat, by omega, .inl ⟨e, by omega⟩⟩
    · exact ⟨n.toNat, by omega, .inr ⟨e, by omega⟩⟩
  have HT : Hd (numT n = (if n < 0 then revDig 20 u ++ [45] else revDig 20 u).reverse) := ⟨by
    unfold numT decT
    rcases hu2 with ⟨e, e2⟩ | ⟨e, e2⟩
    · rw [if_pos e, if_pos e, List.reverse_append, show (-n).toNat = u by omega]; rfl
    · rw [if_neg (by omega), if_neg (by omega), show n.toNat = u by omega]⟩
  obtain ⟨d0, hd0⟩ : ∃ d, u % 10 = d := ⟨_, rfl⟩
  have hd9 : d0 ≤ 9 := by omega
  have ht : ((u : Int)).tmod 10 = (d0 : Int) := by rw [Int.tmod_eq_emod_of_nonneg (by omega)]; omega
  have hw1 : IntKind.u64.wrap (48 + (d0 : Int)) = 48 + (d0 : Int) := by rw [IntKind.wrap_u64]; omega
  have hw2 : (48 + (d0 : Int)) % 256 = 48 + (d0 : Int) := by omega
  have HDG : Hd (Value.int .u8 (48 + (d0 : Int)) = bv (UInt8.ofNat (48 + u % 10))) := ⟨by rw [← hd0]; exact bv_of (dig_val u)⟩
  clear hd0
  go_enter Tryd.func46, Tryd.ntmps46
  go_upto_if 8 with fail
  go_cut [3] (fun a w' => w = w' ∧ a = .int .u64 (u : Int))
  case first =>
    rcases hu2 with ⟨e, e2⟩ | ⟨e, e2⟩
    · have hww : IntKind.u64.wrap (-IntKind.u64.wrap n) = (u : Int) := by rw [IntKind.wrap_u64, IntKind.wrap_u64]; omega
      clear e2 ht hw1 hw2
      go_wp2_with fail
      go_meet
      exact ⟨rfl, rfl⟩
    · have hww : IntKind.u64.wrap n = (u : Int) := by rw [IntKind.wrap_u64]; omega
      have e3 : ¬ n < 0 := by omega
      clear e2 ht hw1 hw2
      go_wp2_with fail
      go_meet
      exact ⟨rfl, rfl⟩
  case rest =>
    obtain ⟨rfl, rfl⟩ := hcut
    go_wp2_with fail
    go_loopw [3, 4] (fun a b wr => ∃ (v : Nat) (out : Bytes), a = .int .u64 (v : Int) ∧ NuInv u w wr v out b) (fun a _ _ => (intOf a).toNat)
    case atStart =>
      refine ⟨u, [UInt8.ofNat (48 + u % 10)], rfl, ?_, (Below.refl _ _).alloc (Nat.le_refl _) _, rfl, by simp, hu1⟩
      exact ⟨by simp [bvals], .inr ⟨w.heap.size, 1, _, rfl, Nat.le_refl _, heap_alloc_new w _, by simp, by unfold maxLen; omega, by simp, by simp [bvals, HDG.out]⟩⟩
    case round =>
      clear ht hw1 hw2
      obtain ⟨v, out, rfl, hI⟩ := hrel
      have hB := hI.bel.size
      have hlen := hI.len
      have hv := hI.v_le
      by_cases h10 : 10 ≤ v
      · obtain ⟨d, hd⟩ : ∃ d, v / 10 = d := ⟨_, rfl⟩
        obtain ⟨c, hc⟩ : ∃ c, d % 10 = c := ⟨_, rfl⟩
        have hi10 : (10 : Int) ≤ (v : Int) := by omega
        have r1 : (v : Int).tdiv 10 = (d : Int) := by rw [Int.tdiv_eq_ediv_of_nonneg (by omega)]; omega
        have r2 : (v : Int) / 10 = (d : Int) := by omega
        have r3 : (d : Int).tmod 10 = (c : Int) := by rw [Int.tmod_eq_emod_of_nonneg (by omega)]; omega
        have hc9 : c ≤ 9 := by omega
        have r4 : IntKind.u64.wrap (48 + (c : Int)) = 48 + (c : Int) := by rw [IntKind.wrap_u64]; omega
        have r5 : (48 + (c : Int)) % 256 = 48 + (c : Int) := by omega
        have r6 : IntKind.u64.wrap (d : Int) = (d : Int) := by rw [IntKind.wrap_u64]; omega
        have HC : Hd (Value.int .u8 (48 + (c : Int)) = bv (UInt8.ofNat (48 + v / 10 % 10))) := ⟨by rw [hd, ← hc]; exact bv_of (dig_val d)⟩
        have HDV : Hd (v / 10 = d) := ⟨hd⟩
        have hdv : d < v := by omega
        clear hd hc
        go_wp2_with (at_builtin; refine app5 rfl _ _ rfl w.heap.size _ _ out rfl (hI.own.alloc _) (UInt8.ofNat (48 + v / 10 % 10)) _ rfl ?_ ?_ ?_ ?_; (rw [← HC.out]; exact World.cell?_alloc_at _ _ _ _ rfl); (omega); (simp; omega); intro v1 w1 ho hg)
        refine ⟨⟨d, _, rfl, by rw [← HDV.out]; exact hI.step hu1 h10 ho (own_step hI.bel hI.own _ hg)⟩, by simp [intOf]; omega⟩
      · have hi10 : ¬ (10 : Int) ≤ (v : Int) := by omega
        have HE : Hd (revDig 20 u = out) := ⟨by have := hI.eq; rw [if_pos (by omega), List.append_nil] at this; exact this⟩
        clear h10
        by_cases hneg : n < 0
        · have HT2 : Hd (numT n = (out ++ [45]).reverse) := ⟨by rw [HT.out, if_pos hneg, HE.out]⟩
          go_wp2_with (at_builtin; refine app5 rfl _ _ rfl w.heap.size _ _ out rfl (hI.own.alloc _) 45 _ rfl ?_ ?_ ?_ ?_; (exact World.cell?_alloc_at _ _ _ _ rfl); (omega); (simp; omega); intro v1 w1 ho hg)
          have hb1 := own_step hI.bel hI.own _ hg
          have ho2 : w1.ownsRow w.heap.size 5 1 v1 (out ++ [45]).length (bvals (out ++ [45])) := by simpa using ho
          obtain ⟨g, cap, cur, rfl, h1, h2, h3, h4, h5⟩ := own_block ho2 (by simp)
          obtain ⟨m, hm⟩ : ∃ m, (out ++ [(45 : UInt8)]).length = m := ⟨_, rfl⟩
          rw [hm] at h2 h5 ⊢
          have hm11 : 1 ≤ m ∧ m ≤ 11 := by rw [← hm]; simp; omega
          refine (reverse_any g cap m (out ++ [45]) w1 cur h3 hm hm11.1 (by omega) h2 h4 h5).mono ?_
          rintro e w2 ⟨rfl, cur2, k1, k2, k3, k4⟩
          have hcv := conv_row (cap := cap) k1 hm k3
          have hb2 := hb1.trans (below_of_grown k4 h1 hb1.size)
          clear hg ho ho2 hm
          go_wp2_with fail
          go_ret
          exact ⟨⟨_, by rw [HT2.out]; unfold bs; simp, rfl⟩, hb2⟩
        · have HT2 : Hd (numT n = out.reverse) := ⟨by rw [HT.out, if_neg hneg, HE.out]⟩
          have hb1 := hI.bel
          obtain ⟨g, cap, cur, rfl, h1, h2, h3, h4, h5⟩ := own_block hI.own (by omega)
          obtain ⟨m, hm⟩ : ∃ m, out.length = m := ⟨_, rfl⟩
          rw [hm] at h2 h5 hlen ⊢
          clear hI
          go_wp2_with fail
          refine (reverse_any g cap m out wr cur h3 hm (by omega) (by omega) h2 h4 h5).mono ?_
          rintro e w2 ⟨rfl, cur2, k1, k2, k3, k4⟩
          have hcv := conv_row (cap := cap) k1 hm k3
          have hb2 := hb1.trans (below_of_grown k4 h1 hb1.size)
          clear hm
          go_wp2_with fail
          go_ret
          exact ⟨⟨_, by rw [HT2.out]; unfold bs; simp, rfl⟩, hb2⟩
end Go.Proofs.YtceelkmedfoefaaDoor

set_option linter.unusedVariables false
set_option linter.unusedSimpArgs false
/-! Parts of an instruction's text. -/
namespace Go.Proofs.YtceelkmedfoefaaDoor
open Go.RowKit

/-- A text is handed back. -/
structure TextPost (t : Bytes) (w w' : World) (e : Ending) : Prop where
  ret : ∃ s : ByteArray, bs s = t ∧ e = .returned (.string s)
  below : Below w.heap.size w w'
def regT (n : Int) : Bytes := 120 :: numT n
theorem numT_len {n : Int} (h : -2147483648 ≤ n ∧ n < 4294967296) : (numT n).length ≤ 11 := by
  unfold numT
  split
  · have := decT_len (u := (-n).toNat) (by omega); simp; omega
  · have := decT_len (u := n.toNat) (by omega); omega
theorem bs_app (a b : ByteArray) : bs (a ++ b) = bs a ++ bs b := by unfold bs; rw [ByteArray.data_append]; simp
set_option maxHeartbeats 1000000 in
theorem dregister_any (n : Int) (w : World) (h : -2147483648 ≤ n ∧ n < 4294967296) :
    Calls Tryd.prog 44 #[.int .i64 n] w fun e w' => TextPost (regT n) w w' e := by
  go_enter Tryd.func44, Tryd.ntmps44
  go_wp2_with fail
  refine (dnumber_any n w h).mono ?_
  rintro e w1 ⟨⟨s, hs, rfl⟩, hb⟩
  have hsl : s.size ≤ 11 := by rw [← bs_length, hs]; exact numT_len (by omega)
  have HS := Hd.mk hs
  clear hs
  go_wp2_with fail
  go_ret
  exact ⟨⟨_, by rw [bs_app, HS.out]; rfl, rfl⟩, hb⟩
set_option maxHeartbeats 1000000 in
theorem wsigned_any (n : Int) (w : World) (h0 : 0 ≤ n) (h1 : n < 4294967296) :
    Calls Tryd.prog 72 #[.int .u32 n] w fun e w' => e = .returned (.int .i64 (sgnW n)) ∧ w = w' := by
  have h2 : wrap32 n = sgnW n := by rw [wrap32_eq]; unfold sgnW; split <;> omega
  have hr : -2147483648 ≤ sgnW n ∧ sgnW n < 2147483648 := by unfold sgnW; split <;> omega
  obtain ⟨m, hm⟩ : ∃ m, sgnW n = m := ⟨_, rfl⟩
  rw [hm] at h2 hr ⊢
  obtain ⟨r1, r2⟩ := hr
  clear hm
  go_enter Tryd.func72, Tryd.ntmps72
  go_wp2_with fail
  go_ret
  exact ⟨by first | rfl | (rw [h2]; rfl), rfl⟩
set_option maxHeartbeats 1000000 in
theorem dsigned_any (n : Int) (w : World) (h0 : 0 ≤ n) (h1 : n < 4294967296) :
    Calls Tryd.prog 47 #[.int .u32 n] w fun e w' => TextPost (numT (sgnW n)) w w' e := by
  have hr : -2147483648 ≤ sgnW n ∧ sgnW n < 4294967296 := by unfold sgnW; split <;> omega
  obtain ⟨m, hm⟩ : ∃ m, sgnW n = m := ⟨_, rfl⟩
  rw [hm] at hr ⊢
  have HM := Hd.mk hm
  clear hm
  go_enter Tryd.func47, Tryd.ntmps47
  go_wp2_with (go_at_call 72; refine (wsigned_any n _ h0 h1).mono ?_; rw [HM.out]; rintro e w' ⟨rfl, rfl⟩)
  refine (dnumber_any m w hr).mono ?_
  rintro e w1 ⟨⟨s, hs, rfl⟩, hb⟩
  have hsl : s.size ≤ 11 := by rw [← bs_length, hs]; exact numT_len (by omega)
  have HS := Hd.mk hs
  clear hs
  go_wp2_with fail
  go_ret
  exact ⟨⟨s, HS.out, rfl⟩, hb⟩
set_option maxHeartbeats 1000000 in
theorem iname_any (k : Nat) (w : World) (hE : Env w) (hk : 1 ≤ k ∧ k < 58) :
    Calls Tryd.prog 42 #[.int .i64 k] w fun e w' => (∃ s : ByteArray, bs s = nameL k ∧ e = .returned (.tuple #[.string s, .int .i64 0])) ∧ w = w' := by
  obtain ⟨s, hs, hs2⟩ := sv_ex (nameL k)
  have hc := hE.names k hk.2
  rw [hs] at hc
  have hh : hasB (k : Int) = true := by unfold hasB; simp; omega
  have HH := Hd.mk hh
  have HS := Hd.mk hs2
  have hk2 : (k : Int) < 58 := by omega
  clear hs hs2 hh
  go_enter Tryd.func42, Tryd.ntmps42
  go_wp2_with (go_at_call 70; refine (has_any _ _).mono ?_; rw [HH.out]; rintro e w' ⟨rfl, rfl⟩)
  go_ret2
  exact ⟨⟨s, HS.out, rfl⟩, rfl⟩
def besideT (x : NI) : Bytes := numT (sgnW x.imm) ++ [40] ++ regT x.rs1 ++ [41]
end Go.Proofs.YtceelkmedfoefaaDoor

set_option linter.unusedVariables false
set_option linter.unusedSimpArgs false
/-! A number beside a register. -/
namespace Go.Proofs.YtceelkmedfoefaaDoor
open Go.RowKit

/-- The block of an instruction, made first, is left as it is. -/
structure XQ (w w' : World) (x : NI) : Prop where
  bel : Below w.heap.size w w'
  blk : Blk w' w.heap.size (NC x) 36
theorem XQ.next {w w' w'' : World} {x : NI} (h : XQ w w' x) (hb : Below w'.heap.size w' w'') : XQ w w'' x :=
  ⟨h.bel.trans (hb.mono h.bel.size), h.blk.below hb h.blk.lt⟩
theorem XQ.drew {w w' : World} {x : NI} (h : XQ w w' x) : XQ w w'.drew x := h.next (Below.refl _ _).drew
theorem XQ.cells {w w' : World} {x : NI} (h : XQ w w' x) : w'.cell? ⟨w.heap.size, 0, none⟩ = some (.int .i64 x.op) ∧ w'.cell? ⟨w.heap.size, 1, none⟩ = some (.int .i64 x.rd) ∧ w'.cell? ⟨w.heap.size, 2, none⟩ = some (.int .i64 x.rs1) ∧ w'.cell? ⟨w.heap.size, 3, none⟩ = some (.int .i64 x.rs2) ∧ w'.cell? ⟨w.heap.size, 4, none⟩ = some (.int .u32 x.imm) ∧ w'.cell? ⟨w.heap.size, 5, none⟩ = some (.int .i64 x.csr) :=
  ⟨h.blk.cell 0 rfl, h.blk.cell 1 rfl, h.blk.cell 2 rfl, h.blk.cell 3 rfl, h.blk.cell 4 rfl, h.blk.cell 5 rfl⟩
theorem xq_new (w : World) (x : NI) : XQ w (w.alloc (.cells (NC x) 36)) x := ⟨(Below.refl _ _).alloc (Nat.le_refl _) _, blk_new _ _ _⟩
set_option maxRecDepth 100000 in
set_option maxHeartbeats 2000000 in
theorem dbeside_any (x : NI) (w : World) (h0 : 0 ≤ x.imm) (h1 : x.imm < 4294967296) (hr : 0 ≤ x.rs1 ∧ x.rs1 ≤ 31) :
    Calls Tryd.prog 49 #[.agg (NC x)] w fun e w' => TextPost (besideT x) w w' e := by
  have hX := xq_new w x
  obtain ⟨hr0, hr1⟩ := hr
  have hsg : -2147483648 ≤ sgnW x.imm ∧ sgnW x.imm < 4294967296 := by unfold sgnW; split <;> omega
  have HL := Hd.mk (numT_len hsg)
  have HR := Hd.mk (numT_len (n := x.rs1) (by omega))
  clear hsg
  go_enter Tryd.func49, Tryd.ntmps49
  go_upto_region 1 with fail
  generalize w.alloc _ = w1 at hX ⊢
  refine Late.region (S := fun w' => XQ w w' x) (late := fun _ => false) (by kernel_rfl) ?_
  have hX8 := hX.drew
  generalize w1.drew = w3 at hX8 ⊢
  clear hX
  refine Late.load (i := 0) (v := ?_) rfl (by kernel_rfl) (by kernel_rfl) (by kernel_rfl) (by kernel_rfl) (fun _ _ _ h => h) (Or.inl ⟨by rfl, ?_⟩) hX8 ?_
  case' refine_2 => (intro W hW; obtain ⟨c0, c1, c2, c3, c4, c5⟩ := XQ.cells hW; clear hW; go_simp; (try with_reducible rfl); (try (rw [if_neg (by omega)]; (try with_reducible rfl))))
  try simp only [Act.put, List.setIfInBounds_toArray, List.set_cons_zero, List.set_cons_succ]
  refine Late.load (i := 1) (v := ?_) rfl (by kernel_rfl) (by kernel_rfl) (by kernel_rfl) (by kernel_rfl) (fun _ _ _ h => h) (Or.inl ⟨by rfl, ?_⟩) hX8 ?_
  case' refine_2 => (intro W hW; obtain ⟨c0, c1, c2, c3, c4, c5⟩ := XQ.cells hW; clear hW; go_simp; (try with_reducible rfl); (try (rw [if_neg (by omega)]; (try with_reducible rfl))))
  try simp only [Act.put, List.setIfInBounds_toArray, List.set_cons_zero, List.set_cons_succ]
  refine Late.load (i := 4) (v := ?_) rfl (by kernel_rfl) (by kernel_rfl) (by kernel_rfl) (by kernel_rfl) (fun _ _ _ h => h) (Or.inl ⟨by rfl, ?_⟩) hX8 ?_
  case' refine_2 => (intro W hW; obtain ⟨c0, c1, c2, c3, c4, c5⟩ := XQ.cells hW; clear hW; go_simp; (try with_reducible rfl); (try (rw [if_neg (by omega)]; (try with_reducible rfl))))
  try simp only [Act.put, List.setIfInBounds_toArray, List.set_cons_zero, List.set_cons_succ]
  refine Late.load (i := 5) (v := ?_) rfl (by kernel_rfl) (by kernel_rfl) (by kernel_rfl) (by kernel_rfl) (fun _ _ _ h => h) (Or.inl ⟨by rfl, ?_⟩) hX8 ?_
  case' refine_2 => (intro W hW; obtain ⟨c0, c1, c2, c3, c4, c5⟩ := XQ.cells hW; clear hW; go_simp; (try with_reducible rfl); (try (rw [if_neg (by omega)]; (try with_reducible rfl))))
  try simp only [Act.put, List.setIfInBounds_toArray, List.set_cons_zero, List.set_cons_succ]
  refine Late.ready1 (i := 2) (by kernel_rfl) rfl (fun K hK => ?_)
  go_simp
  refine (dsigned_any x.imm _ h0 h1).mono ?_
  rintro e w4 ⟨⟨s1, hs1, rfl⟩, hb'⟩
  have hX9 := hX8.next hb'
  have hl1 : s1.size ≤ 11 := by rw [← bs_length, hs1]; exact HL.out
  have HS1 := Hd.mk hs1
  clear hs1 hb' hX8
  go_wp2_with fail
  refine hK.out _ _ (fun _ => hX9) ?_
  clear hK K
  try simp only [Act.put, List.setIfInBounds_toArray, List.set_cons_zero, List.set_cons_succ]
  refine Late.load (i := 3) (v := ?_) rfl (by kernel_rfl) (by kernel_rfl) (by kernel_rfl) (by kernel_rfl) (fun _ _ _ h => h) (Or.inl ⟨by rfl, ?_⟩) hX9 ?_
  case' refine_2 => (intro W hW; obtain ⟨c0, c1, c2, c3, c4, c5⟩ := XQ.cells hW; clear hW; go_simp; (try with_reducible rfl); (try (rw [if_neg (by omega)]; (try with_reducible rfl))))
  try simp only [Act.put, List.setIfInBounds_toArray, List.set_cons_zero, List.set_cons_succ]
  refine Late.ready1 (i := 6) (by kernel_rfl) rfl (fun K hK => ?_)
  go_simp
  refine (dregister_any x.rs1 _ (by omega)).mono ?_
  rintro e w5 ⟨⟨s2, hs2, rfl⟩, hb'⟩
  have hX8 := hX9.next hb'
  have hl2 : s2.size ≤ 12 := by rw [← bs_length, hs2]; exact Nat.succ_le_succ HR.out
  have HS2 := Hd.mk hs2
  clear hs2 hb' hX9
  go_wp2_with fail
  refine hK.out _ _ (fun _ => hX8) ?_
  clear hK K
  try simp only [Act.put, List.setIfInBounds_toArray, List.set_cons_zero, List.set_cons_succ]
  refine Late.ready1 (i := 7) (by kernel_rfl) rfl (fun K hK => ?_)
  go_simp
  try (rw [if_neg (by omega)]; go_simp)
  refine hK.out _ _ (fun _ => hX8) ?_
  clear hK K
  try simp only [Act.put, List.setIfInBounds_toArray, List.set_cons_zero, List.set_cons_succ]
  refine Late.ready1 (i := 8) (by kernel_rfl) rfl (fun K hK => ?_)
  go_simp
  try (rw [if_neg (by omega)]; go_simp)
  refine hK.out _ _ (fun _ => hX8) ?_
  clear hK K
  try simp only [Act.put, List.setIfInBounds_toArray, List.set_cons_zero, List.set_cons_succ]
  refine Late.ready1 (i := 9) (by kernel_rfl) rfl (fun K hK => ?_)
  go_simp
  try (rw [if_neg (by omega)]; go_simp)
  refine hK.out _ _ (fun _ => hX8) ?_
  clear hK K
  try simp only [Act.put, List.setIfInBounds_toArray, List.set_cons_zero, List.set_cons_succ]
  refine Late.done (by kernel_rfl) ?_ _
  go_wp2_with fail
  go_ret
  exact ⟨⟨_, by rw [bs_app, bs_app, bs_app, HS1.out, HS2.out]; rfl, rfl⟩, hX8.bel⟩
end Go.Proofs.YtceelkmedfoefaaDoor

set_option linter.unusedVariables false
set_option linter.unusedSimpArgs false
/-! A name, and parts behind it. -/
namespace Go.Proofs.YtceelkmedfoefaaDoor
open Go.RowKit

/-- The parts that are left, from number k on. -/
def tailT : Nat → List Bytes → Bytes
  | _, [] => []
  | 0, p :: ps => 32 :: p ++ tailT 1 ps
  | k + 1, p :: ps => 44 :: 32 :: p ++ tailT (k + 2) ps
def withT (name : Bytes) (ps : List Bytes) : Bytes := name ++ tailT 0 ps
theorem tailT_zero {ps : List Bytes} (h : 0 < ps.length) : tailT 0 ps = 32 :: ps.getD 0 [] ++ tailT 1 (ps.drop 1) := by
  cases ps with
  | nil => simp at h
  | cons p ps => simp [tailT]
theorem tailT_succ {ps : List Bytes} (k : Nat) (h : 0 < ps.length) : tailT (k + 1) ps = 44 :: 32 :: ps.getD 0 [] ++ tailT (k + 2) (ps.drop 1) := by
  cases ps with
  | nil => simp at h
  | cons p ps => simp [tailT]
theorem drop_getD0 (ps : List Bytes) (k : Nat) : (ps.drop k).getD 0 [] = ps.getD k [] := by
  simp [List.getD_eq_getElem?_getD]
theorem bs_mk (l : Bytes) : bs ⟨l.toArray⟩ = l := by simp [bs]
set_option maxHeartbeats 2000000 in
theorem with_any (name : ByteArray) (ps : List Bytes) (g n : Nat) (w : World) (hn : ps.length = n) (hS : StrAt w g 0 ps) (hlen : (withT (bs name) ps).length ≤ 1000) (hn2 : n ≤ 100) :
    Calls Tryd.prog 45 #[.string name, .slice (some ⟨g, 0, none⟩) n n] w fun e w' => (∃ s : ByteArray, bs s = withT (bs name) ps ∧ e = .returned (.string s)) ∧ w = w' := by
  have HN := Hd.mk hn
  have HL := Hd.mk hlen
  clear hn hlen
  go_enter Tryd.func45, Tryd.ntmps45
  go_wp2_with fail
  go_loop [0, 9] (fun a i => ∃ (s : ByteArray) (k : Nat), k ≤ n ∧ a = .string s ∧ i = .int .i64 k ∧ Hd (bs s ++ tailT k (ps.drop k) = withT (bs name) ps)) (fun a i => n - (intOf i).toNat)
  case atStart => exact ⟨name, 0, Nat.zero_le _, rfl, rfl, ⟨by simp [withT]⟩⟩
  case round =>
    obtain ⟨s, k, hk, rfl, rfl, hI⟩ := hrel
    by_cases hlt : k < n
    · have hc := hS.cell k (by rw [HN.out]; exact hlt)
      rw [Nat.zero_add] at hc
      unfold SV at hc
      obtain ⟨p, hp⟩ : ∃ p, p = ps.getD k [] := ⟨_, rfl⟩
      rw [← hp] at hc
      have hl1 : s.size + p.length + 1 ≤ 1000 := by
        have := congrArg List.length hI.out
        have h2 := HL.out
        have h3 : 0 < (ps.drop k).length := by rw [List.length_drop, HN.out]; omega
        cases k with
        | zero => rw [tailT_zero h3, drop_getD0, ← hp] at this; simp [bs_length] at this; omega
        | succ k => rw [tailT_succ k h3, drop_getD0, ← hp] at this; simp [bs_length] at this; omega
      have HP := Hd.mk hp
      clear hp
      by_cases hk0 : k = 0
      · subst hk0
        go_wp2_with fail
        refine ⟨⟨_, 1, by omega, rfl, rfl, ⟨?_⟩⟩, by simp [intOf]; omega⟩
        rw [← hI.out, tailT_zero (by rw [List.length_drop, HN.out]; omega), drop_getD0, ← HP.out, bs_app, bs_app, bs_mk, bs_mk, List.drop_drop]
        simp [bs_mk]
      · go_wp2_with fail
        refine ⟨⟨_, k + 1, by omega, rfl, rfl, ⟨?_⟩⟩, by simp [intOf]; omega⟩
        obtain ⟨k, rfl⟩ := Nat.exists_eq_succ_of_ne_zero hk0
        rw [← hI.out, tailT_succ k (by rw [List.length_drop, HN.out]; omega), drop_getD0, ← HP.out, bs_app, bs_app, bs_app, bs_mk, bs_mk, bs_mk, List.drop_drop]
        simp [bs_mk]
    · have hk2 : k = n := by omega
      subst hk2
      go_wp2_with fail
      go_ret
      refine ⟨⟨s, ?_, rfl⟩, rfl⟩
      rw [← hI.out, ← HN.out, List.drop_length]
      simp [tailT]
end Go.Proofs.YtceelkmedfoefaaDoor

set_option linter.unusedVariables false
set_option linter.unusedSimpArgs false
/-! An instruction's text. -/
namespace Go.Proofs.YtceelkmedfoefaaDoor
open Go.RowKit

def textR (x : NI) : Bytes :=
  let name := nameL x.op.toNat
  let f := formP x.op
  if f = 1 then withT name [regT x.rd, numT (x.imm / 4096)]
  else if f = 2 then withT name [regT x.rd, numT (sgnW x.imm)]
  else if f = 3 then (if x.op = 4 ∨ 0 < loadsI x.op then withT name [regT x.rd, besideT x] else withT name [regT x.rd, regT x.rs1, numT (sgnW x.imm)])
  else if f = 4 then withT name [regT x.rs1, regT x.rs2, numT (sgnW x.imm)]
  else if f = 5 then withT name [regT x.rs2, besideT x]
  else if f = 6 then withT name [regT x.rd, regT x.rs1, regT x.rs2]
  else if f = 7 then withT name [regT x.rd, regT x.rs1, numT x.imm]
  else if f = 8 then withT name [regT x.rd, numT x.csr, regT x.rs1]
  else if f = 9 then withT name [regT x.rd, numT x.csr, numT x.imm]
  else name
structure Text2Post (t : Bytes) (c : Int) (w w' : World) (e : Ending) : Prop where
  ret : ∃ s : ByteArray, bs s = t ∧ e = .returned (.tuple #[.string s, .int .i64 c])
  below : Below w.heap.size w w'
theorem iname_int (n : Int) (w : World) (hE : Env w) (h : 1 ≤ n ∧ n < 58) :
    Calls Tryd.prog 42 #[.int .i64 n] w fun e w' => (∃ s : ByteArray, bs s = nameL n.toNat ∧ e = .returned (.tuple #[.string s, .int .i64 0])) ∧ w = w' := by
  obtain ⟨k, rfl⟩ := Int.eq_ofNat_of_zero_le (show 0 ≤ n by omega)
  exact iname_any k w hE (by omega)
theorem name_len : ∀ k, k < 58 → (nameL k).length ≤ 7 := by decide +kernel
theorem with2 (nm a b : ByteArray) (w : World) (h : nm.size + a.size + b.size ≤ 500) :
    Calls Tryd.prog 45 #[.string nm, .slice (some ⟨w.heap.size, 0, none⟩) 2 2] (w.alloc (.cells #[.string a, .string b] 9)) fun e w' =>
      (∃ s : ByteArray, bs s = withT (bs nm) [bs a, bs b] ∧ e = .returned (.string s)) ∧ w.alloc (.cells #[.string a, .string b] 9) = w' := by
  refine with_any nm [bs a, bs b] _ 2 _ rfl ⟨fun j hj => ?_, .inr (by simp)⟩ (by simp [withT, tailT, bs_length]; omega) (by decide)
  have hb := blk_new w #[.string a, .string b] 9
  match j, hj with
  | 0, _ => rw [show ([bs a, bs b] : List Bytes).getD 0 [] = bs a from rfl, sv_bs]; exact hb.cell 0 rfl
  | 1, _ => rw [show ([bs a, bs b] : List Bytes).getD 1 [] = bs b from rfl, sv_bs]; exact hb.cell 1 rfl
theorem with3 (nm a b c : ByteArray) (w : World) (h : nm.size + a.size + b.size + c.size ≤ 500) :
    Calls Tryd.prog 45 #[.string nm, .slice (some ⟨w.heap.size, 0, none⟩) 3 3] (w.alloc (.cells #[.string a, .string b, .string c] 9)) fun e w' =>
      (∃ s : ByteArray, bs s = withT (bs nm) [bs a, bs b, bs c] ∧ e = .returned (.string s)) ∧ w.alloc (.cells #[.string a, .string b, .string c] 9) = w' := by
  refine with_any nm [bs a, bs b, bs c] _ 3 _ rfl ⟨fun j hj => ?_, .inr (by simp)⟩ (by simp [withT, tailT, bs_length]; omega) (by decide)
  have hb := blk_new w #[.string a, .string b, .string c] 9
  match j, hj with
  | 0, _ => rw [show ([bs a, bs b, bs c] : List Bytes).getD 0 [] = bs a from rfl, sv_bs]; exact hb.cell 0 rfl
  | 1, _ => rw [show ([bs a, bs b, bs c] : List Bytes).getD 1 [] = bs b from rfl, sv_bs]; exact hb.cell 1 rfl
  | 2, _ => rw [show ([bs a, bs b, bs c] : List Bytes).getD 2 [] = bs c from rfl, sv_bs]; exact hb.cell 2 rfl
theorem besideT_len {x : NI} (hr : 0 ≤ x.rs1 ∧ x.rs1 ≤ 31) (h0 : 0 ≤ x.imm) (h1 : x.imm < 4294967296) : (besideT x).length ≤ 25 := by
  have hsg : -2147483648 ≤ sgnW x.imm ∧ sgnW x.imm < 4294967296 := by unfold sgnW; split <;> omega
  have a := numT_len hsg
  have b := numT_len (n := x.rs1) (by omega)
  simp [besideT, regT]; omega
theorem sgn_len {m : Int} (h0 : 0 ≤ m) (h1 : m < 4294967296) : (numT (sgnW m)).length ≤ 25 := by
  have hsg : -2147483648 ≤ sgnW m ∧ sgnW m < 4294967296 := by unfold sgnW; split <;> omega
  have := numT_len hsg
  omega
set_option maxRecDepth 100000 in
set_option maxHeartbeats 4000000 in
theorem text_ill (x : NI) (w : World) (h0 : x.op = 0) :
    Calls Tryd.prog 18 #[.agg (NC x)] w fun e w' => Text2Post [] 9 w w' e := by
  have hX := xq_new w x
  have hop2 : (x.op == 0) = true := by rw [h0]; rfl
  clear h0
  go_enter Tryd.func18, Tryd.ntmps18
  go_upto_region 1 with fail
  generalize w.alloc _ = w1 at hX ⊢
  obtain ⟨c0, c1, c2, c3, c4, c5⟩ := hX.cells
  go_wp2_with fail
  go_ret2
  exact ⟨⟨_, by first | rfl | simp [bs], rfl⟩, hX.bel⟩
set_option maxRecDepth 100000 in
set_option maxHeartbeats 4000000 in
theorem text_any (x : NI) (w : World) (hE : Env w) (h0 : 0 ≤ x.imm) (h1 : x.imm < 4294967296) (hop : x.op ≠ 0) (hR : rightB x = true) :
    Calls Tryd.prog 18 #[.agg (NC x)] w fun e w' => Text2Post (textR x) 0 w w' e := by
  have HRt := Hd.mk hR
  obtain ⟨⟨ho0, ho1⟩, ⟨hd0, hd1⟩, ⟨hs0, hs1⟩, ⟨ht0, ht1⟩, ⟨hc0, hc1⟩, himm, honly⟩ := rightB_parts hR
  have hX := xq_new w x
  have hE1 : ∀ {w'}, XQ w w' x → Env w' := fun h => hE.below h.bel
  have hop2 : (x.op == 0) = false := beq_eq_false_iff_ne.2 hop
  have ho2 : 1 ≤ x.op := by omega
  have HF : Hd (formV x.op = formP x.op ∧ formE x.op = 0) := ⟨by rw [formV_eq, formE, if_pos ⟨ho0, ho1⟩]; simp⟩
  have HNL := Hd.mk (name_len x.op.toNat (by omega))
  have HD := Hd.mk (numT_len (n := x.rd) (by omega))
  have HS := Hd.mk (numT_len (n := x.rs1) (by omega))
  have HT := Hd.mk (numT_len (n := x.rs2) (by omega))
  have hfr := formP_range x.op
  obtain ⟨f, hf⟩ : ∃ f, formP x.op = f := ⟨_, rfl⟩
  have HFF := Hd.mk hf
  rw [hf] at HF hfr
  clear hR himm honly hop hf
  go_enter Tryd.func18, Tryd.ntmps18
  go_upto_region 1 with fail
  generalize w.alloc _ = w1 at hX ⊢
  obtain ⟨c0, c1, c2, c3, c4, c5⟩ := hX.cells
  go_wp2_with (first
    | (refine ld_blk rfl 36 _ rfl w.heap.size rfl hX.blk Tryd.underlying36 (by rw [info36]; rfl) ?_)
    | (go_at_call 30; refine (right_any x _ (hE1 hX) h0 h1).mono ?_; rw [HRt.out]; rintro e w2 ⟨rfl, hb'⟩; replace hX := hX.next hb'; clear c0 c1 c2 c3 c4 c5; obtain ⟨c0, c1, c2, c3, c4, c5⟩ := hX.cells)
    | (go_at_call 42; refine (iname_int x.op _ (hE1 hX) (by omega)).mono ?_; rintro e w' ⟨⟨nm, hnm, rfl⟩, rfl⟩; have hnl : nm.size ≤ 7 := by { rw [← bs_length, hnm]; exact HNL.out }; have HNM := Hd.mk hnm; clear hnm)
    | (go_at_call 43; refine (form_any _ _ (hE1 hX)).mono ?_; rw [HF.out.1, HF.out.2]; rintro e w' ⟨rfl, rfl⟩))
  refine Late.region (S := fun w' => XQ w w' x) (late := fun _ => false) (by kernel_rfl) ?_
  have hX8 := hX.drew
  generalize w2.drew = w3 at hX8 ⊢
  clear hX c0 c1 c2 c3 c4 c5
  refine Late.load (i := 0) (v := ?_) rfl (by kernel_rfl) (by kernel_rfl) (by kernel_rfl) (by kernel_rfl) (fun _ _ _ h => h) (Or.inl ⟨by rfl, ?_⟩) hX8 ?_
  case' refine_2 => (intro W hW; obtain ⟨c0, c1, c2, c3, c4, c5⟩ := XQ.cells hW; clear hW; go_simp; (try with_reducible rfl); (try (rw [if_neg (by omega)]; (try with_reducible rfl))))
  try simp only [Act.put, List.setIfInBounds_toArray, List.set_cons_zero, List.set_cons_succ]
  refine Late.load (i := 1) (v := ?_) rfl (by kernel_rfl) (by kernel_rfl) (by kernel_rfl) (by kernel_rfl) (fun _ _ _ h => h) (Or.inl ⟨by rfl, ?_⟩) hX8 ?_
  case' refine_2 => (intro W hW; obtain ⟨c0, c1, c2, c3, c4, c5⟩ := XQ.cells hW; clear hW; go_simp; (try with_reducible rfl); (try (rw [if_neg (by omega)]; (try with_reducible rfl))))
  try simp only [Act.put, List.setIfInBounds_toArray, List.set_cons_zero, List.set_cons_succ]
  refine Late.load (i := 3) (v := ?_) rfl (by kernel_rfl) (by kernel_rfl) (by kernel_rfl) (by kernel_rfl) (fun _ _ _ h => h) (Or.inl ⟨by rfl, ?_⟩) hX8 ?_
  case' refine_2 => (intro W hW; obtain ⟨c0, c1, c2, c3, c4, c5⟩ := XQ.cells hW; clear hW; go_simp; (try with_reducible rfl); (try (rw [if_neg (by omega)]; (try with_reducible rfl))))
  try simp only [Act.put, List.setIfInBounds_toArray, List.set_cons_zero, List.set_cons_succ]
  refine Late.load (i := 4) (v := ?_) rfl (by kernel_rfl) (by kernel_rfl) (by kernel_rfl) (by kernel_rfl) (fun _ _ _ h => h) (Or.inl ⟨by rfl, ?_⟩) hX8 ?_
  case' refine_2 => (intro W hW; obtain ⟨c0, c1, c2, c3, c4, c5⟩ := XQ.cells hW; clear hW; go_simp; (try with_reducible rfl); (try (rw [if_neg (by omega)]; (try with_reducible rfl))))
  try simp only [Act.put, List.setIfInBounds_toArray, List.set_cons_zero, List.set_cons_succ]
  refine Late.load (i := 6) (v := ?_) rfl (by kernel_rfl) (by kernel_rfl) (by kernel_rfl) (by kernel_rfl) (fun _ _ _ h => h) (Or.inl ⟨by rfl, ?_⟩) hX8 ?_
  case' refine_2 => (intro W hW; obtain ⟨c0, c1, c2, c3, c4, c5⟩ := XQ.cells hW; clear hW; go_simp; (try with_reducible rfl); (try (rw [if_neg (by omega)]; (try with_reducible rfl))))
  try simp only [Act.put, List.setIfInBounds_toArray, List.set_cons_zero, List.set_cons_succ]
  refine Late.load (i := 7) (v := ?_) rfl (by kernel_rfl) (by kernel_rfl) (by kernel_rfl) (by kernel_rfl) (fun _ _ _ h => h) (Or.inl ⟨by rfl, ?_⟩) hX8 ?_
  case' refine_2 => (intro W hW; obtain ⟨c0, c1, c2, c3, c4, c5⟩ := XQ.cells hW; clear hW; go_simp; (try with_reducible rfl); (try (rw [if_neg (by omega)]; (try with_reducible rfl))))
  try simp only [Act.put, List.setIfInBounds_toArray, List.set_cons_zero, List.set_cons_succ]
  refine Late.ready1 (i := 2) (by kernel_rfl) rfl (fun K hK => ?_)
  go_simp
  refine (dregister_any x.rd _ (by omega)).mono ?_
  rintro e w4 ⟨⟨s1, hs, rfl⟩, hb'⟩
  have hX9 := hX8.next hb'
  have hl1 : s1.size ≤ 12 := by rw [← bs_length, hs]; exact Nat.succ_le_succ HD.out
  have HS1 := Hd.mk hs
  clear hs hb' hX8
  go_wp2_with fail
  refine hK.out _ _ (fun _ => hX9) ?_
  clear hK K
  try simp only [Act.put, List.setIfInBounds_toArray, List.set_cons_zero, List.set_cons_succ]
  refine Late.ready1 (i := 5) (by kernel_rfl) rfl (fun K hK => ?_)
  go_simp
  refine (dregister_any x.rs1 _ (by omega)).mono ?_
  rintro e w5 ⟨⟨s2, hs, rfl⟩, hb'⟩
  have hX8 := hX9.next hb'
  have hl2 : s2.size ≤ 12 := by rw [← bs_length, hs]; exact Nat.succ_le_succ HS.out
  have HS2 := Hd.mk hs
  clear hs hb' hX9
  go_wp2_with fail
  refine hK.out _ _ (fun _ => hX8) ?_
  clear hK K
  try simp only [Act.put, List.setIfInBounds_toArray, List.set_cons_zero, List.set_cons_succ]
  refine Late.ready1 (i := 8) (by kernel_rfl) rfl (fun K hK => ?_)
  go_simp
  refine (dregister_any x.rs2 _ (by omega)).mono ?_
  rintro e w6 ⟨⟨s3, hs, rfl⟩, hb'⟩
  have hX9 := hX8.next hb'
  have hl3 : s3.size ≤ 12 := by rw [← bs_length, hs]; exact Nat.succ_le_succ HT.out
  have HS3 := Hd.mk hs
  clear hs hb' hX8
  go_wp2_with fail
  refine hK.out _ _ (fun _ => hX9) ?_
  clear hK K
  try simp only [Act.put, List.setIfInBounds_toArray, List.set_cons_zero, List.set_cons_succ]
  refine Late.ready1 (i := 9) (by kernel_rfl) rfl (fun K hK => ?_)
  go_simp
  try (rw [if_neg (by omega)]; go_simp)
  refine hK.out _ _ (fun _ => hX9) ?_
  clear hK K
  try simp only [Act.put, List.setIfInBounds_toArray, List.set_cons_zero, List.set_cons_succ]
  refine Late.ready1 (i := 10) (by kernel_rfl) rfl (fun K hK => ?_)
  go_simp
  try (rw [if_neg (by omega)]; go_simp)
  refine hK.out _ _ (fun _ => hX9) ?_
  clear hK K
  try simp only [Act.put, List.setIfInBounds_toArray, List.set_cons_zero, List.set_cons_succ]
  refine Late.ready1 (i := 11) (by kernel_rfl) rfl (fun K hK => ?_)
  go_simp
  try (rw [if_neg (by omega)]; go_simp)
  refine hK.out _ _ (fun _ => hX9) ?_
  clear hK K
  try simp only [Act.put, List.setIfInBounds_toArray, List.set_cons_zero, List.set_cons_succ]
  refine Late.done (by kernel_rfl) ?_ _
  obtain ⟨c0, c1, c2, c3, c4, c5⟩ := hX9.cells
  obtain rfl | rfl | rfl | rfl | rfl | rfl | rfl | rfl | rfl | rfl : f = 0 ∨ f = 1 ∨ f = 2 ∨ f = 3 ∨ f = 4 ∨ f = 5 ∨ f = 6 ∨ f = 7 ∨ f = 8 ∨ f = 9 := by omega
  · go_wp2_with fail
    go_ret2
    exact ⟨⟨nm, by rw [HNM.out]; unfold textR; rw [HFF.out]; rfl, rfl⟩, hX9.bel⟩
  · go_wp2_with (first | (go_at_call 46; refine (dnumber_any _ _ (by omega)).mono ?_; rintro e w7 ⟨⟨s4, hs, rfl⟩, hb'⟩; have hXA := hX9.next hb'; have hl4 : s4.size ≤ 25 := by { rw [← bs_length, hs]; exact Nat.le_trans (numT_len (by omega)) (by decide) }; have HS4 := Hd.mk hs; clear hs hb') | (go_at_call 45; refine (with2 nm s1 s4 _ (by omega)).mono ?_; rintro e w8 ⟨⟨s, hs, rfl⟩, rfl⟩; have HSS := Hd.mk hs; clear hs))
    go_ret2
    exact ⟨⟨s, by rw [HSS.out, HNM.out, HS1.out, HS4.out]; unfold textR; rw [HFF.out]; rfl, rfl⟩, hXA.bel.alloc (hXA.bel.size) _⟩
  · go_wp2_with (first | (go_at_call 47; refine (dsigned_any x.imm _ h0 h1).mono ?_; rintro e w7 ⟨⟨s4, hs, rfl⟩, hb'⟩; have hXA := hX9.next hb'; have hl4 : s4.size ≤ 25 := by { rw [← bs_length, hs]; exact sgn_len h0 h1 }; have HS4 := Hd.mk hs; clear hs hb') | (go_at_call 45; refine (with2 nm s1 s4 _ (by omega)).mono ?_; rintro e w8 ⟨⟨s, hs, rfl⟩, rfl⟩; have HSS := Hd.mk hs; clear hs))
    go_ret2
    exact ⟨⟨s, by rw [HSS.out, HNM.out, HS1.out, HS4.out]; unfold textR; rw [HFF.out]; rfl, rfl⟩, hXA.bel.alloc (hXA.bel.size) _⟩
  · obtain ⟨m, hm⟩ : ∃ m, loadsI x.op = m := ⟨_, rfl⟩
    have HM := Hd.mk hm
    clear hm
    by_cases h4 : x.op = 4
    · have h4b : (x.op == 4) = true := beq_iff_eq.2 h4
      have H4 := Hd.mk h4
      clear h4
      go_wp2_with (first | (refine ld_blk rfl 36 _ rfl w.heap.size rfl hX9.blk Tryd.underlying36 (by rw [info36]; rfl) ?_) | (go_at_call 49; refine (dbeside_any x _ h0 h1 ⟨hs0, hs1⟩).mono ?_; rintro e w7 ⟨⟨s4, hs, rfl⟩, hb'⟩; have hXA := hX9.next hb'; have hl4 : s4.size ≤ 25 := by { rw [← bs_length, hs]; exact besideT_len ⟨hs0, hs1⟩ h0 h1 }; have HS4 := Hd.mk hs; clear hs hb') | (go_at_call 45; refine (with2 nm s1 s4 _ (by omega)).mono ?_; rintro e w8 ⟨⟨s, hs, rfl⟩, rfl⟩; have HSS := Hd.mk hs; clear hs))
      go_ret2
      exact ⟨⟨s, by rw [HSS.out, HNM.out, HS1.out, HS4.out]; unfold textR; rw [HFF.out]; simp [H4.out], rfl⟩, hXA.bel.alloc (hXA.bel.size) _⟩
    · have h4b : (x.op == 4) = false := beq_eq_false_iff_ne.2 h4
      have H4 := Hd.mk h4
      clear h4
      by_cases hm0 : 0 < m
      · go_wp2_with (first | (go_at_call 48; refine (loads_any _ _).mono ?_; rw [HM.out]; rintro e w' ⟨rfl, rfl⟩) | (refine ld_blk rfl 36 _ rfl w.heap.size rfl hX9.blk Tryd.underlying36 (by rw [info36]; rfl) ?_) | (go_at_call 49; refine (dbeside_any x _ h0 h1 ⟨hs0, hs1⟩).mono ?_; rintro e w7 ⟨⟨s4, hs, rfl⟩, hb'⟩; have hXA := hX9.next hb'; have hl4 : s4.size ≤ 25 := by { rw [← bs_length, hs]; exact besideT_len ⟨hs0, hs1⟩ h0 h1 }; have HS4 := Hd.mk hs; clear hs hb') | (go_at_call 45; refine (with2 nm s1 s4 _ (by omega)).mono ?_; rintro e w8 ⟨⟨s, hs, rfl⟩, rfl⟩; have HSS := Hd.mk hs; clear hs))
        go_ret2
        exact ⟨⟨s, by rw [HSS.out, HNM.out, HS1.out, HS4.out]; unfold textR; rw [HFF.out]; simp [H4.out, HM.out, hm0], rfl⟩, hXA.bel.alloc (hXA.bel.size) _⟩
      · go_wp2_with (first | (go_at_call 48; refine (loads_any _ _).mono ?_; rw [HM.out]; rintro e w' ⟨rfl, rfl⟩) | (go_at_call 47; refine (dsigned_any x.imm _ h0 h1).mono ?_; rintro e w7 ⟨⟨s4, hs, rfl⟩, hb'⟩; have hXA := hX9.next hb'; have hl4 : s4.size ≤ 25 := by { rw [← bs_length, hs]; exact sgn_len h0 h1 }; have HS4 := Hd.mk hs; clear hs hb') | (go_at_call 45; refine (with3 nm s1 s2 s4 _ (by omega)).mono ?_; rintro e w8 ⟨⟨s, hs, rfl⟩, rfl⟩; have HSS := Hd.mk hs; clear hs))
        go_ret2
        exact ⟨⟨s, by rw [HSS.out, HNM.out, HS1.out, HS2.out, HS4.out]; unfold textR; rw [HFF.out]; exact (if_neg (by rw [HM.out]; intro h; exact h.elim H4.out (fun h => by omega))).symm, rfl⟩, hXA.bel.alloc (hXA.bel.size) _⟩
  · go_wp2_with (first | (go_at_call 47; refine (dsigned_any x.imm _ h0 h1).mono ?_; rintro e w7 ⟨⟨s4, hs, rfl⟩, hb'⟩; have hXA := hX9.next hb'; have hl4 : s4.size ≤ 25 := by { rw [← bs_length, hs]; exact sgn_len h0 h1 }; have HS4 := Hd.mk hs; clear hs hb') | (go_at_call 45; refine (with3 nm s2 s3 s4 _ (by omega)).mono ?_; rintro e w8 ⟨⟨s, hs, rfl⟩, rfl⟩; have HSS := Hd.mk hs; clear hs))
    go_ret2
    exact ⟨⟨s, by rw [HSS.out, HNM.out, HS2.out, HS3.out, HS4.out]; unfold textR; rw [HFF.out]; rfl, rfl⟩, hXA.bel.alloc (hXA.bel.size) _⟩
  · go_wp2_with (first | (refine ld_blk rfl 36 _ rfl w.heap.size rfl hX9.blk Tryd.underlying36 (by rw [info36]; rfl) ?_) | (go_at_call 49; refine (dbeside_any x _ h0 h1 ⟨hs0, hs1⟩).mono ?_; rintro e w7 ⟨⟨s4, hs, rfl⟩, hb'⟩; have hXA := hX9.next hb'; have hl4 : s4.size ≤ 25 := by { rw [← bs_length, hs]; exact besideT_len ⟨hs0, hs1⟩ h0 h1 }; have HS4 := Hd.mk hs; clear hs hb') | (go_at_call 45; refine (with2 nm s3 s4 _ (by omega)).mono ?_; rintro e w8 ⟨⟨s, hs, rfl⟩, rfl⟩; have HSS := Hd.mk hs; clear hs))
    go_ret2
    exact ⟨⟨s, by rw [HSS.out, HNM.out, HS3.out, HS4.out]; unfold textR; rw [HFF.out]; rfl, rfl⟩, hXA.bel.alloc (hXA.bel.size) _⟩
  · go_wp2_with (first | (go_at_call 45; refine (with3 nm s1 s2 s3 _ (by omega)).mono ?_; rintro e w8 ⟨⟨s, hs, rfl⟩, rfl⟩; have HSS := Hd.mk hs; clear hs))
    go_ret2
    exact ⟨⟨s, by rw [HSS.out, HNM.out, HS1.out, HS2.out, HS3.out]; unfold textR; rw [HFF.out]; rfl, rfl⟩, hX9.bel.alloc (hX9.bel.size) _⟩
  · go_wp2_with (first | (go_at_call 46; refine (dnumber_any _ _ (by omega)).mono ?_; rintro e w7 ⟨⟨s4, hs, rfl⟩, hb'⟩; have hXA := hX9.next hb'; have hl4 : s4.size ≤ 25 := by { rw [← bs_length, hs]; exact Nat.le_trans (numT_len (by omega)) (by decide) }; have HS4 := Hd.mk hs; clear hs hb') | (go_at_call 45; refine (with3 nm s1 s2 s4 _ (by omega)).mono ?_; rintro e w8 ⟨⟨s, hs, rfl⟩, rfl⟩; have HSS := Hd.mk hs; clear hs))
    go_ret2
    exact ⟨⟨s, by rw [HSS.out, HNM.out, HS1.out, HS2.out, HS4.out]; unfold textR; rw [HFF.out]; rfl, rfl⟩, hXA.bel.alloc (hXA.bel.size) _⟩
  · go_wp2_with (first | (go_at_call 46; refine (dnumber_any _ _ (by omega)).mono ?_; rintro e w7 ⟨⟨s4, hs, rfl⟩, hb'⟩; have hXA := hX9.next hb'; have hl4 : s4.size ≤ 25 := by { rw [← bs_length, hs]; exact Nat.le_trans (numT_len (by omega)) (by decide) }; have HS4 := Hd.mk hs; clear hs hb') | (go_at_call 45; refine (with3 nm s1 s4 s2 _ (by omega)).mono ?_; rintro e w8 ⟨⟨s, hs, rfl⟩, rfl⟩; have HSS := Hd.mk hs; clear hs))
    go_ret2
    exact ⟨⟨s, by rw [HSS.out, HNM.out, HS1.out, HS4.out, HS2.out]; unfold textR; rw [HFF.out]; rfl, rfl⟩, hXA.bel.alloc (hXA.bel.size) _⟩
  · go_upto_region 26 with fail
    refine Late.region (S := fun w' => XQ w w' x) (late := fun _ => false) (by kernel_rfl) ?_
    have hXC := hX9.drew
    generalize w6.drew = w7 at hXC ⊢
    clear hX9 c0 c1 c2 c3 c4 c5
    refine Late.load (i := 0) (v := ?_) rfl (by kernel_rfl) (by kernel_rfl) (by kernel_rfl) (by kernel_rfl) (fun _ _ _ h => h) (Or.inl ⟨by rfl, ?_⟩) hXC ?_
    case' refine_2 => (intro W hW; obtain ⟨c0, c1, c2, c3, c4, c5⟩ := XQ.cells hW; clear hW; go_simp; (try with_reducible rfl); (try (rw [if_neg (by omega)]; (try with_reducible rfl))))
    try simp only [Act.put, List.setIfInBounds_toArray, List.set_cons_zero, List.set_cons_succ]
    refine Late.load (i := 1) (v := ?_) rfl (by kernel_rfl) (by kernel_rfl) (by kernel_rfl) (by kernel_rfl) (fun _ _ _ h => h) (Or.inl ⟨by rfl, ?_⟩) hXC ?_
    case' refine_2 => (intro W hW; obtain ⟨c0, c1, c2, c3, c4, c5⟩ := XQ.cells hW; clear hW; go_simp; (try with_reducible rfl); (try (rw [if_neg (by omega)]; (try with_reducible rfl))))
    try simp only [Act.put, List.setIfInBounds_toArray, List.set_cons_zero, List.set_cons_succ]
    refine Late.load (i := 2) (v := ?_) rfl (by kernel_rfl) (by kernel_rfl) (by kernel_rfl) (by kernel_rfl) (fun _ _ _ h => h) (Or.inl ⟨by rfl, ?_⟩) hXC ?_
    case' refine_2 => (intro W hW; obtain ⟨c0, c1, c2, c3, c4, c5⟩ := XQ.cells hW; clear hW; go_simp; (try with_reducible rfl); (try (rw [if_neg (by omega)]; (try with_reducible rfl))))
    try simp only [Act.put, List.setIfInBounds_toArray, List.set_cons_zero, List.set_cons_succ]
    refine Late.load (i := 3) (v := ?_) rfl (by kernel_rfl) (by kernel_rfl) (by kernel_rfl) (by kernel_rfl) (fun _ _ _ h => h) (Or.inl ⟨by rfl, ?_⟩) hXC ?_
    case' refine_2 => (intro W hW; obtain ⟨c0, c1, c2, c3, c4, c5⟩ := XQ.cells hW; clear hW; go_simp; (try with_reducible rfl); (try (rw [if_neg (by omega)]; (try with_reducible rfl))))
    try simp only [Act.put, List.setIfInBounds_toArray, List.set_cons_zero, List.set_cons_succ]
    refine Late.load (i := 5) (v := ?_) rfl (by kernel_rfl) (by kernel_rfl) (by kernel_rfl) (by kernel_rfl) (fun _ _ _ h => h) (Or.inl ⟨by rfl, ?_⟩) hXC ?_
    case' refine_2 => (intro W hW; obtain ⟨c0, c1, c2, c3, c4, c5⟩ := XQ.cells hW; clear hW; go_simp; (try with_reducible rfl); (try (rw [if_neg (by omega)]; (try with_reducible rfl))))
    try simp only [Act.put, List.setIfInBounds_toArray, List.set_cons_zero, List.set_cons_succ]
    refine Late.load (i := 6) (v := ?_) rfl (by kernel_rfl) (by kernel_rfl) (by kernel_rfl) (by kernel_rfl) (fun _ _ _ h => h) (Or.inl ⟨by rfl, ?_⟩) hXC ?_
    case' refine_2 => (intro W hW; obtain ⟨c0, c1, c2, c3, c4, c5⟩ := XQ.cells hW; clear hW; go_simp; (try with_reducible rfl); (try (rw [if_neg (by omega)]; (try with_reducible rfl))))
    try simp only [Act.put, List.setIfInBounds_toArray, List.set_cons_zero, List.set_cons_succ]
    refine Late.load (i := 7) (v := ?_) rfl (by kernel_rfl) (by kernel_rfl) (by kernel_rfl) (by kernel_rfl) (fun _ _ _ h => h) (Or.inl ⟨by rfl, ?_⟩) hXC ?_
    case' refine_2 => (intro W hW; obtain ⟨c0, c1, c2, c3, c4, c5⟩ := XQ.cells hW; clear hW; go_simp; (try with_reducible rfl); (try (rw [if_neg (by omega)]; (try with_reducible rfl))))
    try simp only [Act.put, List.setIfInBounds_toArray, List.set_cons_zero, List.set_cons_succ]
    refine Late.ready1 (i := 4) (by kernel_rfl) rfl (fun K hK => ?_)
    go_simp
    refine (dnumber_any x.csr _ (by omega)).mono ?_
    rintro e w8 ⟨⟨s4, hs, rfl⟩, hb'⟩
    have hXA := hXC.next hb'
    have hl4 : s4.size ≤ 11 := by rw [← bs_length, hs]; exact numT_len (by omega)
    have HS4 := Hd.mk hs
    clear hs hb' hXC
    go_wp2_with fail
    refine hK.out _ _ (fun _ => hXA) ?_
    clear hK K
    try simp only [Act.put, List.setIfInBounds_toArray, List.set_cons_zero, List.set_cons_succ]
    refine Late.ready1 (i := 8) (by kernel_rfl) rfl (fun K hK => ?_)
    go_simp
    rw [IntWalk.i64_in _ (by omega)]
    refine (dnumber_any x.imm _ (by omega)).mono ?_
    rintro e w9 ⟨⟨s5, hs, rfl⟩, hb'⟩
    have hXC := hXA.next hb'
    have hl5 : s5.size ≤ 11 := by rw [← bs_length, hs]; exact numT_len (by omega)
    have HS5 := Hd.mk hs
    clear hs hb' hXA
    go_wp2_with fail
    refine hK.out _ _ (fun _ => hXC) ?_
    clear hK K
    try simp only [Act.put, List.setIfInBounds_toArray, List.set_cons_zero, List.set_cons_succ]
    refine Late.ready1 (i := 9) (by kernel_rfl) rfl (fun K hK => ?_)
    go_wp2_with fail
    have hXA := hXC.next ((Below.refl _ _).alloc (Nat.le_refl _) (.cells #[.string s1, .string s4, .string s5] 9))
    refine hK.out _ _ (fun _ => hXA) ?_
    clear hK K
    try simp only [Act.put, List.setIfInBounds_toArray, List.set_cons_zero, List.set_cons_succ]
    refine Late.ready1 (i := 10) (by kernel_rfl) rfl (fun K hK => ?_)
    go_simp
    refine (with3 nm s1 s4 s5 w9 (by omega)).mono ?_
    rintro e w' ⟨⟨s, hs, rfl⟩, rfl⟩
    have HSS := Hd.mk hs
    clear hs
    go_wp2_with fail
    refine hK.out _ _ (fun _ => hXA) ?_
    clear hK K
    try simp only [Act.put, List.setIfInBounds_toArray, List.set_cons_zero, List.set_cons_succ]
    refine Late.ready1 (i := 11) (by kernel_rfl) rfl (fun K hK => ?_)
    go_simp
    try (rw [if_neg (by omega)]; go_simp)
    refine hK.out _ _ (fun _ => hXA) ?_
    clear hK K
    try simp only [Act.put, List.setIfInBounds_toArray, List.set_cons_zero, List.set_cons_succ]
    refine Late.ready1 (i := 12) (by kernel_rfl) rfl (fun K hK => ?_)
    go_simp
    try (rw [if_neg (by omega)]; go_simp)
    refine hK.out _ _ (fun _ => hXA) ?_
    clear hK K
    try simp only [Act.put, List.setIfInBounds_toArray, List.set_cons_zero, List.set_cons_succ]
    refine Late.done (by kernel_rfl) ?_ _
    go_wp2_with fail
    go_ret2
    exact ⟨⟨s, by rw [HSS.out, HNM.out, HS1.out, HS4.out, HS5.out]; unfold textR; rw [HFF.out]; rfl, rfl⟩, hXA.bel⟩
end Go.Proofs.YtceelkmedfoefaaDoor

