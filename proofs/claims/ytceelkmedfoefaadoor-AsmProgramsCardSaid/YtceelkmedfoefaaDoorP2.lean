/- AsmPrograms: for every string the law returns true, and its argument reads as it did; on the conditions of the row's own cells (the three tables read as the program's text lays them, tied by the card). -/
import Derived.Test.YtceelkmedfoefaaDoorP1
import Derived.Test.YtceelkmedfoefaaDoorL8
import Derived.Test.YtceelkmedfoefaaDoorA9
import Derived.Test.YtceelkmedfoefaaDoorL7
import Derived.Test.YtceelkmedfoefaaDoorL9
import Derived.Test.YtceelkmedfoefaaDoorT1
import Derived.Test.YtceelkmedfoefaaDoorL13
import Derived.Test.YtceelkmedfoefaaDoorA27
import Derived.Test.YtceelkmedfoefaaDoorL11
import Derived.Deep.AppendLies
import Derived.Test.YtceelkmedfoefaaDoorA28
import Derived.Deep.QuietTactic
import Derived.BigQuiet
import Derived.Test.YtceelkmedfoefaaDoorR1
import Derived.Test.YtceelkmedfoefaaDoorTie
import Derived.Test.YtceelkmedfoefaaDoorCards
import Derived.SevenTiedAt
set_option linter.unusedVariables false
set_option linter.unusedSimpArgs false
/-! The reference's lines and find. -/
namespace Go.Proofs.YtceelkmedfoefaaDoor
open Go.RowKit

theorem cutNl_at : ∀ (a b : Bytes), (∀ x ∈ a, x ≠ 10) → cutNl (a ++ 10 :: b) = (a, b)
  | [], b, h => by simp [cutNl]
  | c :: a, b, h => by
    have hc : ¬ c = 10 := h c (by simp)
    have := cutNl_at a b (fun x hx => h x (by simp [hx]))
    simp [cutNl, hc, this]
theorem cutNl_none : ∀ (a : Bytes), (∀ x ∈ a, x ≠ 10) → cutNl a = (a, [])
  | [], h => rfl
  | c :: a, h => by
    have hc : ¬ c = 10 := h c (by simp)
    have := cutNl_none a (fun x hx => h x (by simp [hx]))
    simp [cutNl, hc, this]
structure LnInv (s : ByteArray) (w wr : World) (j k : Nat) (out : List Bytes) (v : Value) : Prop where
  own : wr.ownsRow w.heap.size 9 1 v out.length (strs out)
  jk : j ≤ k
  ks : k ≤ s.size
  len : out.length ≤ j
  nonl : ∀ x ∈ ((bs s).take k).drop j, x ≠ 10
  bel : Below w.heap.size w wr
  eq : linesL (bs s) = out ++ linesL ((bs s).drop j)
theorem LnInv.split {s : ByteArray} {w wr : World} {j k : Nat} {out : List Bytes} {v : Value} (h : LnInv s w wr j k out v) (hk : k < s.size) (h10 : s[k] = 10) :
    linesL (bs s) = (out ++ [bs (s.extract j k)]) ++ linesL ((bs s).drop (k + 1)) := by
  have e1 : (bs s).drop j = ((bs s).take k).drop j ++ 10 :: (bs s).drop (k + 1) := by
    have h1 : bs s = (bs s).take k ++ (bs s).drop k := (List.take_append_drop k _).symm
    have h2 := drop_at s k hk
    rw [h10] at h2
    conv => lhs; rw [h1]
    rw [List.drop_append_of_le_length (by rw [List.length_take, bs_length]; have := h.jk; omega), h2]
  rw [h.eq, e1, linesL_cons (by simp), cutNl_at _ _ h.nonl, bs_extract]
  simp
theorem LnInv.last {s : ByteArray} {w wr : World} {j k : Nat} {out : List Bytes} {v : Value} (h : LnInv s w wr j k out v) (hk : k = s.size) : linesL (bs s) = if j < s.size then out ++ [bs (s.extract j s.size)] else out := by
  have ht : (bs s).take k = bs s := List.take_of_length_le (by rw [bs_length]; omega)
  have hn := h.nonl
  rw [ht] at hn
  rw [h.eq]
  split
  · rename_i hj
    have hne : (bs s).drop j ≠ [] := by
      intro e
      have := congrArg List.length e
      rw [List.length_drop, bs_length] at this
      simp at this; omega
    rw [linesL_cons hne, cutNl_none _ hn, linesL_nil, bs_extract]
    rw [show (bs s).take s.size = bs s from by rw [← hk]; exact ht]
  · rename_i hj
    rw [List.drop_eq_nil_of_le (by rw [bs_length]; omega), linesL_nil]; simp

set_option maxRecDepth 100000 in
set_option maxHeartbeats 4000000 in
theorem rlines_any (s : ByteArray) (w : World) (hs : s.size ≤ 1048576) :
    Calls Tryd.prog 35 #[.string s] w fun e w' => ∃ v, e = .returned v ∧ w'.ownsRow w.heap.size 9 1 v (linesL (bs s)).length (strs (linesL (bs s))) ∧ Below w.heap.size w w' := by
  go_enter Tryd.func35, Tryd.ntmps35
  go_wp2_with fail
  go_loopw [3, 4, 5] (fun v f i wr => ∃ (j k : Nat) (out : List Bytes), f = .int .i64 j ∧ i = .int .i64 k ∧ LnInv s w wr j k out v) (fun _ _ i _ => s.size - (intOf i).toNat)
  case atStart => exact ⟨0, 0, [], rfl, rfl, World.ownsRow_made w #[] 0 (Nat.le_refl _) (by unfold maxLen; omega) rfl, Nat.le_refl _, Nat.zero_le _, Nat.le_refl _, by simp, (Below.refl _ _).alloc (Nat.le_refl _) _, by simp⟩
  case round =>
    obtain ⟨j, k, out, rfl, rfl, hI⟩ := hrel
    have hB := hI.bel.size
    have hjk := hI.jk
    have hks := hI.ks
    have hol := hI.len
    by_cases hlt : k < s.size
    · have hr := s[k].toNat_lt
      by_cases h10 : (s[k].toNat : Int) = 10
      · have h10b : s[k] = 10 := UInt8.toNat_inj.1 (by show s[k].toNat = 10; omega)
        have HS := Hd.mk (hI.split hlt h10b)
        have b1 : ((s[k].toNat : Int) == 10) = true := beq_iff_eq.2 h10
        have i1 : (j : Int) ≤ (k : Int) := by omega
        have i2 : (k : Int) ≤ (s.size : Int) := by omega
        clear h10 h10b
        go_wp2_with (first | (at_builtin; refine app9 rfl _ _ rfl w.heap.size _ _ out rfl (hI.own.alloc _) (s.extract j k) _ rfl ?_ ?_ ?_ ?_; (exact World.cell?_alloc_at _ _ _ _ rfl); (omega); (simp; omega); intro v1 w1 ho hg))
        go_roundw
        case rel => exact ⟨k + 1, k + 1, out ++ [bs (s.extract j k)], by go_num, by go_num, by simpa using ho, Nat.le_refl _, by omega, by simp; omega, by rw [List.drop_eq_nil_of_le (by rw [List.length_take]; omega)]; simp, own_step hI.bel hI.own _ hg, HS.out⟩
        case measure => simp [intOf]; omega
      · have b1 : ((s[k].toNat : Int) == 10) = false := beq_eq_false_iff_ne.2 h10
        have HN : Hd (∀ x ∈ ((bs s).take (k + 1)).drop j, x ≠ 10) := ⟨by
          rw [slice_snoc s j k hjk hlt]
          intro x hx
          rcases List.mem_append.1 hx with hx | hx
          · exact hI.nonl x hx
          · simp at hx; rw [hx]; intro e; rw [e] at h10; exact h10 rfl⟩
        clear h10
        go_wp2_with fail
        go_roundw
        case rel => exact ⟨j, k + 1, out, rfl, by go_num, hI.own, by omega, by omega, hol, HN.out, hI.bel, hI.eq⟩
        case measure => simp [intOf]; omega
    · have hk2 : k = s.size := by omega
      have HL := Hd.mk (hI.last hk2)
      subst hk2
      by_cases hj : j < s.size
      · have HL2 : Hd (linesL (bs s) = out ++ [bs (s.extract j s.size)]) := ⟨by rw [HL.out, if_pos hj]⟩
        have i1 : (j : Int) ≤ (s.size : Int) := by omega
        have i2 : (j : Int) < (s.size : Int) := by omega
        go_wp2_with (first | (at_builtin; refine app9 rfl _ _ rfl w.heap.size _ _ out rfl (hI.own.alloc _) (s.extract j s.size) _ rfl ?_ ?_ ?_ ?_; (exact World.cell?_alloc_at _ _ _ _ rfl); (omega); (simp; omega); intro v1 w1 ho hg))
        go_ret
        refine ⟨_, rfl, ?_, own_step hI.bel hI.own _ hg⟩
        rw [HL2.out]
        simpa using ho
      · have HL2 : Hd (linesL (bs s) = out) := ⟨by rw [HL.out, if_neg hj]⟩
        go_wp2_with fail
        go_ret
        exact ⟨_, rfl, by rw [HL2.out]; exact hI.own, hI.bel⟩
end Go.Proofs.YtceelkmedfoefaaDoor

set_option linter.unusedVariables false
set_option linter.unusedSimpArgs false
/-! The reference's find. -/
namespace Go.Proofs.YtceelkmedfoefaaDoor
open Go.RowKit

def findF (s : Bytes) : List Bytes → Int → Int
  | [], _ => -1
  | x :: xs, k => if x = s then k else findF s xs (k + 1)
theorem findF_step {l : List Bytes} {s : Bytes} {k : Nat} (hk : k < l.length) : findF s (l.drop k) k = if l.getD k [] = s then (k : Int) else findF s (l.drop (k + 1)) ((k + 1 : Nat) : Int) := by
  rw [drop_getD l k hk, findF]; simp

set_option maxHeartbeats 1000000 in
theorem rfind_any (B : Nat) (l : List Bytes) (v : Value) (s : ByteArray) (w : World) (h : w.ownsRow B 9 1 v l.length (strs l)) (hl : l.length ≤ 1048576) :
    Calls Tryd.prog 37 #[v, .string s] w fun e w' => e = .returned (.int .i64 (findF (bs s) l 0)) ∧ w = w' := by
  obtain ⟨a, cap, rfl⟩ := own_form h
  have H := Hd.mk h
  clear h
  go_enter Tryd.func37, Tryd.ntmps37
  go_wp2_with fail
  go_loop [5] (fun i => ∃ k : Nat, k ≤ l.length ∧ i = .int .i64 k ∧ Hd (findF (bs s) (l.drop k) k = findF (bs s) l 0)) (fun i => l.length - (intOf i).toNat)
  case atStart => exact ⟨0, Nat.zero_le _, rfl, ⟨rfl⟩⟩
  case round =>
    obtain ⟨k, hk, rfl, hF⟩ := hrel
    by_cases hlt : k < l.length
    · obtain ⟨b, hb, hb2⟩ := sv_ex (l.getD k [])
      have hx : (strs l)[k]? = some (.string b) := by
        unfold strs
        rw [List.getElem?_map, List.getElem?_eq_getElem hlt, ← hb, List.getD_eq_getElem?_getD, List.getElem?_eq_getElem hlt]; rfl
      obtain ⟨g1, c1, hf1, hg1, hg2⟩ := H.out.form (by omega)
      have d1 := H.out.cells (g := g1) (by rw [hf1]; rfl) k _ hx
      rw [Addr.add_mid, Nat.zero_add] at d1
      cases hf1
      have hki : (k : Int) < (l.length : Int) := by omega
      have hE := findF_step (s := bs s) hlt
      rw [← hb2] at hE
      by_cases he : bs b = bs s
      · have hq : (b.toList == s.toList) = true := by rw [toList_eq_bs, toList_eq_bs]; exact beq_iff_eq.2 he
        have HX : Hd (findF (bs s) l 0 = (k : Int)) := ⟨by rw [← hF.out, hE, if_pos he]⟩
        clear hx hb hb2 hE he
        go_wp2_with fail
        go_ret
        exact ⟨by rw [HX.out]; rfl, rfl⟩
      · have hq : (b.toList == s.toList) = false := by rw [toList_eq_bs, toList_eq_bs]; exact beq_eq_false_iff_ne.2 he
        have HX : Hd (findF (bs s) (l.drop (k + 1)) ((k + 1 : Nat) : Int) = findF (bs s) l 0) := ⟨by rw [← hF.out, hE, if_neg he]⟩
        clear hx hb hb2 hE he
        go_wp2_with fail
        go_round
        case rel => exact ⟨k + 1, by omega, by go_num, HX⟩
        case measure => simp [intOf]; omega
    · have hk2 : k = l.length := by omega
      have HX : Hd (findF (bs s) l 0 = -1) := ⟨by rw [← hF.out, hk2, List.drop_length, findF]⟩
      clear hk2
      go_wp2_with fail
      go_ret
      exact ⟨by rw [HX.out]; rfl, rfl⟩
end Go.Proofs.YtceelkmedfoefaaDoor

/-! The reference's items in a row; a label's place among names. -/
set_option linter.unusedVariables false
set_option linter.unusedSimpArgs false
namespace Go.Proofs.YtceelkmedfoefaaDoor
open Go.RowKit

def rcl (q : List (AItem × Int)) : List Value := q.flatMap (fun p => (RCells p.1 p.2).toList)
theorem rcl_snoc (q : List (AItem × Int)) (p : AItem × Int) : rcl (q ++ [p]) = rcl q ++ (RCells p.1 p.2).toList := by simp [rcl]
theorem rcl_at : ∀ (l : List (AItem × Int)) (k : Nat) (x : AItem × Int), l[k]? = some x → ∀ (j : Nat) (u : Value), (RCells x.1 x.2).toList[j]? = some u → (rcl l)[k * 10 + j]? = some u
  | [], k, x, h, j, u, hu => by simp at h
  | y :: l, 0, x, h, j, u, hu => by
    simp at h; subst h
    have hj := (List.getElem?_eq_some_iff.1 hu).1
    simp only [rcl, List.flatMap_cons, Nat.zero_mul, Nat.zero_add]
    rw [List.getElem?_append_left hj]; exact hu
  | y :: l, k + 1, x, h, j, u, hu => by
    have ih := rcl_at l k x (by simpa using h) j u hu
    have hl : (RCells y.1 y.2).toList.length = 10 := rfl
    simp only [rcl, List.flatMap_cons] at ih ⊢
    rw [List.getElem?_append_right (by omega), hl, show (k + 1) * 10 + j - 10 = k * 10 + j by omega]
    exact ih
theorem ritem_range {w : World} {B g cap : Nat} {l : List (AItem × Int)} (h : w.ownsRow B 62 10 (.slice (some ⟨g, 0, none⟩) l.length cap) l.length (rcl l)) {k : Nat} {x : AItem × Int} (hk : l[k]? = some x) :
    w.rangeAt g (k * 10) (RCells x.1 x.2).toList := by
  intro j u hu
  have hc := h.cells (g := g) rfl (k * 10 + j) u (rcl_at l k x hk j u hu)
  rw [Addr.add_mid] at hc
  simpa using hc
theorem findF_snoc (s : Bytes) (a : Bytes) : ∀ (l : List Bytes) (i : Int), 0 ≤ i → findF s (l ++ [a]) i = if findF s l i = -1 then (if a = s then i + l.length else -1) else findF s l i
  | [], i, hi => by simp [findF]
  | x :: l, i, hi => by
    have ih := findF_snoc s a l (i + 1) (by omega)
    by_cases e : x = s
    · have h1 : findF s (x :: (l ++ [a])) i = i := by rw [findF, if_pos e]
      have h2 : findF s (x :: l) i = i := by rw [findF, if_pos e]
      rw [List.cons_append, h1, if_neg (by rw [h2]; omega), h2]
    · have h1 : findF s (x :: (l ++ [a])) i = findF s (l ++ [a]) (i + 1) := by rw [findF, if_neg e]
      have h2 : findF s (x :: l) i = findF s l (i + 1) := by rw [findF, if_neg e]
      rw [List.cons_append, h1, ih]
      by_cases h3 : findF s l (i + 1) = -1
      · have h4 : findF s (x :: l) i = -1 := by rw [h2]; exact h3
        rw [if_pos h3, if_pos h4]
        simp only [List.length_cons]
        split
        · omega
        · rfl
      · have h4 : ¬ findF s (x :: l) i = -1 := by rw [h2]; exact h3
        rw [if_neg h3, if_neg h4, h2]
theorem findF_range (s : Bytes) : ∀ (l : List Bytes) (i : Int), 0 ≤ i → (findF s l i = -1 ∧ s ∉ l) ∨ (i ≤ findF s l i ∧ findF s l i < i + l.length ∧ s ∈ l)
  | [], i, hi => by simp [findF]
  | x :: l, i, hi => by
    have ih := findF_range s l (i + 1) (by omega)
    simp only [findF, List.length_cons]
    by_cases e : x = s
    · rw [if_pos e]; right; subst e; simp; omega
    · rw [if_neg e]
      rcases ih with ⟨h1, h2⟩ | ⟨h1, h2, h3⟩
      · left; exact ⟨h1, by simp [h2]; exact fun h => e h.symm⟩
      · right; exact ⟨by omega, by omega, by simp [h3]⟩
theorem find_lab (k : Bytes) (L : Labels) : (L.map (·.1)).Nodup → (findF k (L.map (·.1)) 0 = -1 ∧ labHas L k = false) ∨ ∃ n : Nat, n < L.length ∧ findF k (L.map (·.1)) 0 = n ∧ labHas L k = true ∧ (L.map (·.2))[n]? = some (labV L k) := by
  refine labD_rec (P := fun L => (L.map (·.1)).Nodup → (findF k (L.map (·.1)) 0 = -1 ∧ labHas L k = false) ∨ ∃ n : Nat, n < L.length ∧ findF k (L.map (·.1)) 0 = n ∧ labHas L k = true ∧ (L.map (·.2))[n]? = some (labV L k)) ?_ ?_ L
  · intro _; left; exact ⟨rfl, rfl⟩
  · intro L p ih hU
    rw [List.map_append, List.map_cons, List.map_nil] at hU ⊢
    have hU1 := (List.nodup_append.1 hU).1
    have hU2 := (List.nodup_append.1 hU).2.2
    have hr := findF_range k (L.map (·.1)) 0 (by omega)
    rw [findF_snoc k p.1 _ 0 (by omega), labHas_snoc, labV_snoc]
    by_cases e : p.1 = k
    · have hn : k ∉ L.map (·.1) := fun hk => hU2 k hk p.1 (by simp) e.symm
      have h1 : findF k (L.map (·.1)) 0 = -1 := by
        rcases hr with ⟨h1, _⟩ | ⟨_, _, h3⟩
        · exact h1
        · exact absurd h3 hn
      right
      refine ⟨L.length, by simp, ?_, by simp [e], by simp [e]⟩
      rw [if_pos h1, if_pos e]; simp
    · rcases ih hU1 with ⟨h1, h2⟩ | ⟨n, h1, h2, h3, h4⟩
      · left; rw [if_pos h1, if_neg e]; exact ⟨rfl, by simp [h2, e]⟩
      · right
        refine ⟨n, by simp; omega, ?_, by simp [h3], ?_⟩
        · rw [h2, if_neg (by omega)]
        · rw [if_neg e, List.map_append, List.getElem?_append_left (by simp; exact h1)]; exact h4
end Go.Proofs.YtceelkmedfoefaaDoor

set_option linter.unusedVariables false
set_option linter.unusedSimpArgs false
/-! The reference's laid. -/
namespace Go.Proofs.YtceelkmedfoefaaDoor
open Go.RowKit Go.Maps Go.WideMaps

theorem rld_item {ops : Array Oper} {rest : List Oper} {o : Oper} {a : Act} {w : World} {Q : Exit → Act → World → Prop} (hgd : o.guard = none) (x : Operand) (ho : o.op = .load 62 x) (g off : Nat) (hx : a.eval x = .pointer (some ⟨g, off, none⟩)) {y : AItem} {l : Int}
    (hr : w.rangeAt g off (RCells y l).toList) (h : wpList Tryd.prog ops Q rest (a.put o.dst (.agg (RCells y l))) w) : wpList Tryd.prog ops Q (o :: rest) a w :=
  wpList_load_mid hgd 62 x ho g off hx (RCells y l).toList _ hr Tryd.underlying62 rfl (by rw [info62]; rfl) (by simpa using h)
theorem rld_ni {ops : Array Oper} {rest : List Oper} {o : Oper} {a : Act} {w : World} {Q : Exit → Act → World → Prop} (hgd : o.guard = none) (x : Operand) (ho : o.op = .load 36 x) (g : Nat) (hx : a.eval x = .pointer (some ⟨g, 0, none⟩)) {y : AItem} {l : Int} {T : TypeId} (hb : Blk w g (RCells y l) T)
    (h : wpList Tryd.prog ops Q rest (a.put o.dst (.agg (NC (niOf y)))) w) : wpList Tryd.prog ops Q (o :: rest) a w :=
  wpList_load_mid hgd 36 x ho g 0 hx (NC (niOf y)).toList _ (by
    intro j v hj
    have hj6 : j < 6 := by
      have := (List.getElem?_eq_some_iff.1 hj).1
      simpa [NC] using this
    have : ∀ j, j < 6 → w.cell? ⟨g, j, none⟩ = (NC (niOf y))[j]? := fun j hj => by
      have e : (RCells y l)[j]? = (NC (niOf y))[j]? := by
        match j, hj with
        | 0, _ => rfl
        | 1, _ => rfl
        | 2, _ => rfl
        | 3, _ => rfl
        | 4, _ => rfl
        | 5, _ => rfl
      rw [cell_of_row w g j (RCells y l) T (0, 0) hb.at_, e]
    rw [Nat.zero_add, this j hj6]; simpa using hj) Tryd.underlying36 rfl (by rw [info36]; rfl) (by simpa using h)

set_option maxRecDepth 100000 in
set_option maxHeartbeats 8000000 in
theorem rlaid_any (q : List (AItem × Int)) (L : Labels) (B : Nat) (vi vn va : Value) (w : World) (hi : w.ownsRow B 62 10 vi q.length (rcl q)) (hn : w.ownsRow B 9 1 vn L.length (strs (L.map (·.1)))) (ha : w.ownsRow B 3 1 va L.length (lvals (L.map (·.2))))
    (hU : (L.map (·.1)).Nodup) (hq : q.length ≤ 4096) (hL : L.length ≤ 1048576) (hx : ∀ p ∈ q, (0 ≤ p.1.imm ∧ p.1.imm < 4294967296) ∧ p.1.label.length ≤ 65536) (hv : ∀ p ∈ L, 0 ≤ p.2 ∧ p.2 ≤ 16384) :
    Calls Tryd.prog 38 #[vi, vn, va] w fun e w' => ProgPost w.heap.size (wordsL L 0 (q.map (·.1)) (q.map (·.2)) []) w w' e := by
  obtain ⟨ai, ci, rfl⟩ := own_form hi
  obtain ⟨an, cn, rfl⟩ := own_form hn
  obtain ⟨aa, ca, rfl⟩ := own_form ha
  have HU := Hd.mk hU
  have HX := Hd.mk hx
  have HV := Hd.mk hv
  clear hU hx hv
  go_enter Tryd.func38, Tryd.ntmps38
  go_wp2_with fail
  go_loopw [9, 10] (fun o i wr => ∃ (j : Nat) (out : List Int), j ≤ q.length ∧ i = .int .i64 j ∧ PWInv ⟨q.map (·.1), q.map (·.2), L⟩ w wr (wordsL L 0 (q.map (·.1)) (q.map (·.2)) []) j out o) (fun _ i _ => q.length - (intOf i).toNat)
  case atStart => exact ⟨0, [], Nat.zero_le _, rfl, World.ownsRow_made w #[] 0 (Nat.le_refl _) (by unfold maxLen; omega) rfl, rfl, (Below.refl _ _).alloc (Nat.le_refl _) _, rfl⟩
  case round =>
    obtain ⟨j, out, hj, rfl, hW⟩ := hrel
    have hBw := hW.bel.size
    have hol := hW.len
    by_cases hlt : j < q.length
    · obtain ⟨⟨xi, ln⟩, hxj⟩ : ∃ x, q[j]? = some x := ⟨_, List.getElem?_eq_getElem hlt⟩
      have hxm := HX.out (xi, ln) (List.mem_of_getElem? hxj)
      have hlv := labV_range HV.out xi.label
      have hiw := hi.kept (grown_of_below hW.bel) (by cases (Value.slice ai q.length ci).ownBlock <;> simp)
      have HD : Hd ((q.map (·.1)).drop j = xi :: (q.map (·.1)).drop (j + 1) ∧ (q.map (·.2)).drop j = ln :: (q.map (·.2)).drop (j + 1)) := ⟨by
        have e : q.drop j = (xi, ln) :: q.drop (j + 1) := by
          rw [List.drop_eq_getElem_cons hlt]; congr 1; rw [List.getElem?_eq_getElem hlt] at hxj; simpa using hxj
        constructor
        · rw [← List.map_drop, e, List.map_cons, List.map_drop]
        · rw [← List.map_drop, e, List.map_cons, List.map_drop]⟩
      obtain ⟨g, c1, hf1, hg1, hg2⟩ := hiw.form (by omega)
      cases hf1
      have hra := ritem_range hiw hxj
      obtain ⟨raw, hraw⟩ : ∃ raw, xi.raw = raw := ⟨_, rfl⟩
      obtain ⟨lb, hlb, hlb2⟩ := sv_ex xi.label
      have HRAW := Hd.mk hraw
      have HLB := Hd.mk (And.intro hlb hlb2)
      have hki : (j : Int) < (q.length : Int) := by omega
      have hmm := hxm.1
      clear hlb hlb2 hiw hxj
      cases raw
      · by_cases hlab : xi.label = []
        · have hz : lb.size = 0 := by rw [← bs_length, HLB.out.2, hlab]; rfl
          obtain ⟨t1, t2⟩ := tl_nil hz
          have HWXe : Hd (wordX L j xi = (encV (niOf xi), encE (niOf xi))) := ⟨by unfold wordX; rw [if_neg (by rw [hraw]; simp), if_neg (by simp [hlab])]⟩
          clear hraw hlab hz
          go_upto_region 13 with (first | (refine rld_item rfl _ rfl g (j * 10) rfl hra ?_) | (refine st_blk rfl 62 _ _ rfl wr.heap.size (RCells xi ln) rfl rfl (blk_new _ _ _) info62 rfl (rcells_one _ _) ?_; intro w3 hx3 hg3; have hb3 : Below wr.heap.size wr w3 := ((Below.refl _ _).alloc (Nat.le_refl _) (.cells (RCells zeroX 0) 62)).trans (below_of_grown hg3 (Nat.le_refl _) (by simp)); have hB3 := hW.bel.trans (hb3.mono hBw); have hs3 := hB3.size; have c8 := hx3.cell 8 (v := .bool xi.raw) rfl; rw [HRAW.out] at c8; have c6 := hx3.cell 6 (v := SV xi.label) rfl; rw [HLB.out.1] at c6; have c9 := hx3.cell 9 (v := .int .i64 ln) rfl; have hown3 := hW.own.kept (grown_of_below hb3) (by cases u9.ownBlock <;> simp)))
          obtain ⟨eo, heo⟩ : ∃ eo, encOk (niOf xi) = eo := ⟨_, rfl⟩
          have HEO := Hd.mk heo
          have HWX0 : Hd (wordX L j xi = (encV (niOf xi), encE (niOf xi))) := ⟨HWXe.out⟩
          clear heo
          cases eo
          · have HWX : Hd (wordX L j xi = (encV (niOf xi), 9)) := ⟨by rw [HWX0.out]; unfold encE; rw [HEO.out]; rfl⟩
            have HRr : Hd (wordsL L 0 (q.map (·.1)) (q.map (·.2)) [] = ([], ln, 9)) := ⟨by
              rw [← hW.eq, HD.out.1, HD.out.2, wordsL_bad (by rw [HWX.out]; simp), HWX.out]; rfl⟩
            go_wp2_with (first | (refine rld_ni rfl _ rfl wr.heap.size rfl hx3 ?_) | (go_at_call 67; refine (rencode_any (niOf xi) _ hmm.1 hmm.2).mono ?_; rintro e w7 ⟨hret, hb7⟩; rw [hret, HEO.out]; clear hret; have c9b := (hx3.below hb7 hx3.lt).cell 9 (v := .int .i64 ln) rfl))
            go_quiet (fail)
            go_wp2_with fail
            refine bodyPost_ret (v := .tuple #[.slice none 0 0, .int .i64 ln, .int .i64 9]) ?_ rfl ⟨⟨.slice none 0 0, by rw [HRr.out], by rw [HRr.out]; exact World.ownsRow_nil _ _ _ _⟩, pw_below_drewN2 (hB3.trans (hb7.mono hB3.size)) _⟩
            simp [results, Tryd.results38, go_sem]
          · have HWX : Hd (wordX L j xi = (encV (niOf xi), 0)) := ⟨by rw [HWX0.out]; unfold encE; rw [HEO.out]; rfl⟩
            go_wp2_with (first | (refine rld_ni rfl _ rfl wr.heap.size rfl hx3 ?_) | (go_at_call 67; refine (rencode_any (niOf xi) _ hmm.1 hmm.2).mono ?_; rintro e w7 ⟨hret, hb7⟩; rw [hret, HEO.out]; clear hret; have hB7 := hB3.trans (hb7.mono hB3.size); have hown7 := hown3.kept (grown_of_below hb7) (by cases u9.ownBlock <;> simp)) | (at_builtin; refine app29 rfl _ _ rfl w.heap.size _ _ out rfl (hown7.alloc _) (encV (niOf xi)) _ rfl ?_ ?_ ?_ ?_; (exact World.cell?_alloc_at _ _ _ _ rfl); (omega); (have := hB7.size; simp; omega); intro v1 w9 ho9 hg9))
            refine ⟨⟨j + 1, out ++ [encV (niOf xi)], by omega, by simp, by simpa using ho9, by simp; omega, own_step hB7 hown7 _ hg9, by rw [← hW.eq, HD.out.1, wordsL_good (by rw [HWX.out]), HWX.out, List.drop_drop]⟩, by simp [intOf]; omega⟩
        · have hz : 0 < lb.size := by rw [← bs_length, HLB.out.2]; exact List.length_pos_iff.2 hlab
          obtain ⟨t1, t2⟩ := tl_cons hz
          have hnw := hn.kept (grown_of_below hW.bel) (by cases (Value.slice an L.length cn).ownBlock <;> simp)
          have haw := ha.kept (grown_of_below hW.bel) (by cases (Value.slice aa L.length ca).ownBlock <;> simp)
          rcases find_lab xi.label L HU.out with ⟨f1, f2⟩ | ⟨n, f0, f1, f2, f3⟩
          · have HWX : Hd (wordX L j xi = (0, 1)) := ⟨by unfold wordX; rw [if_neg (by rw [hraw]; simp), if_pos hlab, if_neg (by rw [f2]; simp)]⟩
            have HRr : Hd (wordsL L 0 (q.map (·.1)) (q.map (·.2)) [] = ([], ln, 1)) := ⟨by
              rw [← hW.eq, HD.out.1, HD.out.2, wordsL_bad (by rw [HWX.out]; simp), HWX.out]; rfl⟩
            have HF := Hd.mk f1
            clear hraw hlab hz f1 f2
            go_wp2_with (first | (refine rld_item rfl _ rfl g (j * 10) rfl hra ?_) | (refine st_blk rfl 62 _ _ rfl wr.heap.size (RCells xi ln) rfl rfl (blk_new _ _ _) info62 rfl (rcells_one _ _) ?_; intro w3 hx3 hg3; have hb3 : Below wr.heap.size wr w3 := ((Below.refl _ _).alloc (Nat.le_refl _) (.cells (RCells zeroX 0) 62)).trans (below_of_grown hg3 (Nat.le_refl _) (by simp)); have hB3 := hW.bel.trans (hb3.mono hBw); have hs3 := hB3.size; have c8 := hx3.cell 8 (v := .bool xi.raw) rfl; rw [HRAW.out] at c8; have c6 := hx3.cell 6 (v := SV xi.label) rfl; rw [HLB.out.1] at c6; have c9 := hx3.cell 9 (v := .int .i64 ln) rfl; have hown3 := hW.own.kept (grown_of_below hb3) (by cases u9.ownBlock <;> simp)) | (go_at_call 37; refine (rfind_any B (L.map (·.1)) _ lb _ (by simpa using hnw.kept (grown_of_below hb3) (by cases (Value.slice an L.length cn).ownBlock <;> simp)) (by simpa using hL)).mono ?_; rw [HLB.out.2, HF.out]; rintro e w' ⟨rfl, rfl⟩))
            go_quiet (fail)
            go_wp2_with fail
            refine bodyPost_ret (v := .tuple #[.slice none 0 0, .int .i64 ln, .int .i64 1]) ?_ rfl ⟨⟨.slice none 0 0, by rw [HRr.out], by rw [HRr.out]; exact World.ownsRow_nil _ _ _ _⟩, pw_below_drewN2 hB3 _⟩
            simp [results, Tryd.results38, go_sem]
          · obtain ⟨vl, hvl⟩ : ∃ vl, labV L xi.label = vl := ⟨_, rfl⟩
            rw [hvl] at hlv f3
            have HWXe : Hd (wordX L j xi = (encV (withImm (niOf xi) (IntKind.u32.wrap (vl - 4 * (j : Int)))), encE (withImm (niOf xi) (IntKind.u32.wrap (vl - 4 * (j : Int)))))) := ⟨by
              unfold wordX; rw [if_neg (by rw [hraw]; simp), if_pos hlab, if_pos f2, hvl]⟩
            have HF := Hd.mk f1
            have hnL : (n : Int) < (L.length : Int) := by omega
            obtain ⟨ga, ca1, hfa, hga1, hga2⟩ := haw.form (by omega)
            have d1 := haw.cells (g := ga) (by rw [hfa]; rfl) n (.int .i64 vl) (by unfold lvals; rw [List.getElem?_map, f3]; rfl)
            rw [Addr.add_mid, Nat.zero_add] at d1
            cases hfa
            have e1 : IntKind.i64.wrap (4 * (j : Int)) = 4 * (j : Int) := IntWalk.i64_in _ (by omega)
            have e2 : IntKind.i64.wrap (vl - 4 * (j : Int)) = vl - 4 * (j : Int) := IntWalk.i64_in _ (by omega)
            have e5 : IntKind.u32.wrap (vl - 4 * (j : Int)) = (vl - 4 * (j : Int)) % 4294967296 := by rw [IntKind.wrap_u32]
            obtain ⟨im, him⟩ : ∃ im, (vl - 4 * (j : Int)) % 4294967296 = im := ⟨_, rfl⟩
            have hmm2 : 0 ≤ im ∧ im < 4294967296 := by omega
            rw [e5, him] at HWXe
            have HIM := Hd.mk him
            clear hraw hlab hz f0 f1 f2 f3 hvl e5 him
            go_upto_region 12 with (first | (refine rld_item rfl _ rfl g (j * 10) rfl hra ?_) | (refine st_blk rfl 62 _ _ rfl wr.heap.size (RCells xi ln) rfl rfl (blk_new _ _ _) info62 rfl (rcells_one _ _) ?_; intro w3 hx3 hg3; have hb3 : Below wr.heap.size wr w3 := ((Below.refl _ _).alloc (Nat.le_refl _) (.cells (RCells zeroX 0) 62)).trans (below_of_grown hg3 (Nat.le_refl _) (by simp)); have hB3 := hW.bel.trans (hb3.mono hBw); have hs3 := hB3.size; have c8 := hx3.cell 8 (v := .bool xi.raw) rfl; rw [HRAW.out] at c8; have c6 := hx3.cell 6 (v := SV xi.label) rfl; rw [HLB.out.1] at c6; have c9 := hx3.cell 9 (v := .int .i64 ln) rfl; have hown3 := hW.own.kept (grown_of_below hb3) (by cases u9.ownBlock <;> simp)) | (go_at_call 37; refine (rfind_any B (L.map (·.1)) _ lb _ (by simpa using hnw.kept (grown_of_below hb3) (by cases (Value.slice an L.length cn).ownBlock <;> simp)) (by simpa using hL)).mono ?_; rw [HLB.out.2, HF.out]; rintro e w' ⟨rfl, rfl⟩))
            have d3 := (hb3.cell (p := ⟨ga, n, none⟩) hga2).trans d1
            have k4 := hx3.cell 4 (v := .int .u32 xi.imm) rfl
            have f4 := hx3.free 4
            have hx5 : Blk (w3.setCell ⟨wr.heap.size, 4, none⟩ (.int .u32 im)) wr.heap.size (RCells { xi with imm := im } ln) 62 := by simpa [RCells] using hx3.set 4 (.int .u32 im)
            have hB5 : Below w.heap.size w (w3.setCell ⟨wr.heap.size, 4, none⟩ (.int .u32 im)) := hB3.setCell hBw _
            have hown5 := hW.own.kept (grown_of_below (hb3.setCell (p := ⟨wr.heap.size, 4, none⟩) (Nat.le_refl _) (.int .u32 im))) (by cases u9.ownBlock <;> simp)
            go_upto_region 13 with (first | (go_at_call 28; refine (word_any _ _ (by omega) (by omega)).mono ?_; rw [HIM.out]; rintro e w' ⟨rfl, rfl⟩))
            clear k4 f4 d1 d3 c6 c8 c9 hmm
            have hmm := hmm2
            generalize w3.setCell _ _ = w5 at hx5 hB5 hown5 ⊢
            obtain ⟨eo, heo⟩ : ∃ eo, encOk (withImm (niOf xi) im) = eo := ⟨_, rfl⟩
            have HEO := Hd.mk heo
            have HWX0 : Hd (wordX L j xi = (encV (withImm (niOf xi) im), encE (withImm (niOf xi) im))) := ⟨HWXe.out⟩
            clear heo
            cases eo
            · have HWX : Hd (wordX L j xi = (encV (withImm (niOf xi) im), 9)) := ⟨by rw [HWX0.out]; unfold encE; rw [HEO.out]; rfl⟩
              have HRr : Hd (wordsL L 0 (q.map (·.1)) (q.map (·.2)) [] = ([], ln, 9)) := ⟨by
                rw [← hW.eq, HD.out.1, HD.out.2, wordsL_bad (by rw [HWX.out]; simp), HWX.out]; rfl⟩
              go_wp2_with (first | (refine rld_ni rfl _ rfl wr.heap.size rfl hx5 ?_) | (go_at_call 67; refine (rencode_any (withImm (niOf xi) im) _ hmm.1 hmm.2).mono ?_; rintro e w7 ⟨hret, hb7⟩; rw [hret, HEO.out]; clear hret; have c9b := (hx5.below hb7 hx5.lt).cell 9 (v := .int .i64 ln) rfl))
              go_quiet (fail)
              go_wp2_with fail
              refine bodyPost_ret (v := .tuple #[.slice none 0 0, .int .i64 ln, .int .i64 9]) ?_ rfl ⟨⟨.slice none 0 0, by rw [HRr.out], by rw [HRr.out]; exact World.ownsRow_nil _ _ _ _⟩, pw_below_drewN2 (hB5.trans (hb7.mono hB5.size)) _⟩
              simp [results, Tryd.results38, go_sem]
            · have HWX : Hd (wordX L j xi = (encV (withImm (niOf xi) im), 0)) := ⟨by rw [HWX0.out]; unfold encE; rw [HEO.out]; rfl⟩
              go_wp2_with (first | (refine rld_ni rfl _ rfl wr.heap.size rfl hx5 ?_) | (go_at_call 67; refine (rencode_any (withImm (niOf xi) im) _ hmm.1 hmm.2).mono ?_; rintro e w7 ⟨hret, hb7⟩; rw [hret, HEO.out]; clear hret; have hB7 := hB5.trans (hb7.mono hB5.size); have hown7 := hown5.kept (grown_of_below hb7) (by cases u9.ownBlock <;> simp)) | (at_builtin; refine app29 rfl _ _ rfl w.heap.size _ _ out rfl (hown7.alloc _) (encV (withImm (niOf xi) im)) _ rfl ?_ ?_ ?_ ?_; (exact World.cell?_alloc_at _ _ _ _ rfl); (omega); (have := hB7.size; simp; omega); intro v1 w9 ho9 hg9))
              refine ⟨⟨j + 1, out ++ [encV (withImm (niOf xi) im)], by omega, by simp, by simpa using ho9, by simp; omega, own_step hB7 hown7 _ hg9, by rw [← hW.eq, HD.out.1, wordsL_good (by rw [HWX.out]), HWX.out, List.drop_drop]⟩, by simp [intOf]; omega⟩
      · have HWX : Hd (wordX L j xi = (xi.word, 0)) := ⟨by unfold wordX; rw [if_pos hraw]⟩
        clear hraw
        go_wp2_with (first | (refine rld_item rfl _ rfl g (j * 10) rfl hra ?_) | (refine st_blk rfl 62 _ _ rfl wr.heap.size (RCells xi ln) rfl rfl (blk_new _ _ _) info62 rfl (rcells_one _ _) ?_; intro w3 hx3 hg3; have hb3 : Below wr.heap.size wr w3 := ((Below.refl _ _).alloc (Nat.le_refl _) (.cells (RCells zeroX 0) 62)).trans (below_of_grown hg3 (Nat.le_refl _) (by simp)); have hB3 := hW.bel.trans (hb3.mono hBw); have hs3 := hB3.size; have c8 := hx3.cell 8 (v := .bool xi.raw) rfl; rw [HRAW.out] at c8; have c6 := hx3.cell 6 (v := SV xi.label) rfl; rw [HLB.out.1] at c6; have c9 := hx3.cell 9 (v := .int .i64 ln) rfl; have c7 := hx3.cell 7 (v := .int .u32 xi.word) rfl; have hown3 := hW.own.kept (grown_of_below hb3) (by cases u9.ownBlock <;> simp)) | (at_builtin; refine app29 rfl _ _ rfl w.heap.size _ _ out rfl (hown3.alloc _) xi.word _ rfl ?_ ?_ ?_ ?_; (exact World.cell?_alloc_at _ _ _ _ rfl); (omega); (have := hB3.size; simp; omega); intro v1 w9 ho9 hg9))
        refine ⟨⟨j + 1, out ++ [xi.word], by omega, by simp, by simpa using ho9, by simp; omega, own_step hB3 hown3 _ hg9, by rw [← hW.eq, HD.out.1, wordsL_good (by rw [HWX.out]), HWX.out, List.drop_drop]⟩, by simp [intOf]; omega⟩
    · have hje : j = q.length := by omega
      have HRr : Hd (wordsL L 0 (q.map (·.1)) (q.map (·.2)) [] = (out, 0, 0)) := ⟨by
        rw [← hW.eq, hje]
        rw [List.drop_eq_nil_of_le (by simp), wordsL]⟩
      have hown := hW.own
      have hBe := hW.bel
      clear hje
      go_wp2_with fail
      refine bodyPost_ret (v := .tuple #[u9, .int .i64 0, .int .i64 0]) ?_ rfl ⟨⟨u9, by rw [HRr.out], by rw [HRr.out]; exact hown⟩, hBe⟩
      simp [results, Tryd.results38, go_sem]
end Go.Proofs.YtceelkmedfoefaaDoor

/-! The reference's program: three rows that grow beside one another. -/
set_option linter.unusedVariables false
set_option linter.unusedSimpArgs false
namespace Go.Proofs.YtceelkmedfoefaaDoor
open Go.RowKit Go.Maps Go.WideMaps

def Apart (u v : Value) : Prop := ∀ b, u.ownBlock = some b → v.ownBlock ≠ some b
theorem Apart.symm {u v : Value} (h : Apart u v) : Apart v u := fun b hb hu => h b hu hb
theorem Apart.keep {u v : Value} (h : Apart u v) : u.ownBlock = none ∨ u.ownBlock ≠ v.ownBlock := by
  cases e : u.ownBlock with
  | none => exact .inl rfl
  | some b => exact .inr (fun e2 => h b e e2.symm)
theorem Apart.new {w : World} {B e size : Nat} {u v : Value} {n : Nat} {xs : List Value} (h : Apart u v) (hu : w.ownsRow B e size u n xs) {g m cap : Nat} (hg : v.ownBlock = some g ∨ g = w.heap.size) : Apart u (.slice (some ⟨g, 0, none⟩) m cap) := by
  intro b hb e2
  have e3 : g = b := by simpa [Value.ownBlock] using e2
  subst e3
  rcases hg with hg | hg
  · exact h g hb hg
  · have := (hu.lt g hb).2; omega
theorem info62b : (Tryd.prog.info? 62).map (fun i => (i.zero, i.size, i.bytes)) = some (some (.agg (RCells zeroX 0)), 10, 80) := by kernel_rfl
section
variable {ops : Array Oper} {rest : List Oper} {o : Oper} {a : Act} {w : World} {Q : Exit → Act → World → Prop}
theorem app62 (hgd : o.guard = none) (s x : Operand) (ho : o.op = .call { callee := .builtin .append, args := #[s, x], argTypes := #[76, 76] })
    (B : Nat) (v : Value) (k : Nat) (q : List (AItem × Int)) (hs : a.eval s = v) (hown : w.ownsRow B 62 10 v k (rcl q)) (y : AItem) (l : Int) (b : Nat) (hx : a.eval x = .slice (some ⟨b, 0, none⟩) 1 1) (hb : Blk w b (RCells y l) 62)
    (hk : k ≤ 4096) (hbase : B ≤ w.heap.size)
    (h : ∀ g cap w', w'.ownsRow B 62 10 (.slice (some ⟨g, 0, none⟩) (k + 1) cap) (k + 1) (rcl (q ++ [(y, l)])) → w.grownBy w' v.ownBlock → (v.ownBlock = some g ∨ g = w.heap.size) → wpList Tryd.prog ops Q rest (a.put o.dst (.slice (some ⟨g, 0, none⟩) (k + 1) cap)) w') :
    wpList Tryd.prog ops Q (o :: rest) a w := by
  obtain ⟨i0, hi, hz0, hz1, hz2⟩ := info_parts info62b
  refine wpList_append_lies w hgd s x 76 ho B 62 i0 (.agg (RCells zeroX 0)) 10 80 Tryd.underlying76 hi hz0 hz1 hz2 rfl (by decide) v k (rcl q) hs hown ⟨b, 0, none⟩ 1 1 (RCells y l).toList hx rfl (World.news_of_block hb.at_) ?_ (by decide) (by unfold maxLen; omega) (by omega) hbase _ rfl ?_
  · have := rcells_one y l
    intro u hu
    rw [Array.all_eq_true'] at this
    exact this u (by simpa using hu)
  · intro g cap w' h1 h2 h3 h4
    rw [show rcl q ++ (RCells y l).toList = rcl (q ++ [(y, l)]) from (rcl_snoc q (y, l)).symm] at h1
    exact h g cap w' h1 h2 h3
theorem app9l (hgd : o.guard = none) (s x : Operand) (ho : o.op = .call { callee := .builtin .append, args := #[s, x], argTypes := #[23, 23] })
    (B : Nat) (v : Value) (k : Nat) (l : List Bytes) (hs : a.eval s = v) (hown : w.ownsRow B 9 1 v k (strs l)) (y : ByteArray) (b : Nat) (hx : a.eval x = .slice (some ⟨b, 0, none⟩) 1 1) (hb : Blk w b #[.string y] 9)
    (hk : k ≤ 1048576) (hbase : B ≤ w.heap.size)
    (h : ∀ g cap w', w'.ownsRow B 9 1 (.slice (some ⟨g, 0, none⟩) (k + 1) cap) (k + 1) (strs (l ++ [bs y])) → w.grownBy w' v.ownBlock → (v.ownBlock = some g ∨ g = w.heap.size) → wpList Tryd.prog ops Q rest (a.put o.dst (.slice (some ⟨g, 0, none⟩) (k + 1) cap)) w') :
    wpList Tryd.prog ops Q (o :: rest) a w := by
  obtain ⟨i0, hi, hz0, hz1, hz2⟩ := info_parts info9
  refine wpList_append_lies w hgd s x 23 ho B 9 i0 (.string ⟨#[]⟩) 1 16 Tryd.underlying23 hi hz0 hz1 hz2 rfl (by decide) v k (strs l) hs hown ⟨b, 0, none⟩ 1 1 [.string y] hx rfl (World.news_of_block (cs := #[.string y]) hb.at_) ?_ (by decide) (by unfold maxLen; omega) (by omega) hbase _ rfl ?_
  · intro u hu; simp at hu; subst hu; rfl
  · intro g cap w' h1 h2 h3 h4
    rw [sv_of, ← strs_snoc] at h1
    exact h g cap w' h1 h2 h3
theorem app3l (hgd : o.guard = none) (s x : Operand) (ho : o.op = .call { callee := .builtin .append, args := #[s, x], argTypes := #[68, 68] })
    (B : Nat) (v : Value) (k : Nat) (l : List Int) (hs : a.eval s = v) (hown : w.ownsRow B 3 1 v k (lvals l)) (y : Int) (b : Nat) (hx : a.eval x = .slice (some ⟨b, 0, none⟩) 1 1) (hb : Blk w b #[.int .i64 y] 3)
    (hk : k ≤ 1048576) (hbase : B ≤ w.heap.size)
    (h : ∀ g cap w', w'.ownsRow B 3 1 (.slice (some ⟨g, 0, none⟩) (k + 1) cap) (k + 1) (lvals (l ++ [y])) → w.grownBy w' v.ownBlock → (v.ownBlock = some g ∨ g = w.heap.size) → wpList Tryd.prog ops Q rest (a.put o.dst (.slice (some ⟨g, 0, none⟩) (k + 1) cap)) w') :
    wpList Tryd.prog ops Q (o :: rest) a w := by
  obtain ⟨i0, hi, hz0, hz1, hz2⟩ := info_parts info3b
  refine wpList_append_lies w hgd s x 68 ho B 3 i0 (.int .i64 0) 1 8 Tryd.underlying68 hi hz0 hz1 hz2 rfl (by decide) v k (lvals l) hs hown ⟨b, 0, none⟩ 1 1 [.int .i64 y] hx rfl (World.news_of_block (cs := #[.int .i64 y]) hb.at_) ?_ (by decide) (by unfold maxLen; omega) (by omega) hbase _ rfl ?_
  · intro u hu; simp at hu; subst hu; rfl
  · intro g cap w' h1 h2 h3 h4
    rw [← lvals_snoc] at h1
    exact h g cap w' h1 h2 h3
theorem build62 (hgd : o.guard = none) (t : Nat) (ho : o.op = .buildSlice 76 1 #[(0, .tmp t)]) (y : AItem) (l : Int) (hx : a.eval (.tmp t) = .agg (RCells y l))
    (h : wpList Tryd.prog ops Q rest (a.put o.dst (.slice (some ⟨w.heap.size, 0, none⟩) 1 1)) (w.alloc (.cells (RCells y l) 62))) : wpList Tryd.prog ops Q (o :: rest) a w :=
  wpList_plain hgd fun K hK => by
    have h2 := hK _ _ h
    clear hK h
    unfold RCells at hx h2
    have hx2 : a.tmps[t]?.getD undef = Value.agg #[.int .i64 y.op, .int .i64 y.rd, .int .i64 y.rs1, .int .i64 y.rs2, .int .u32 y.imm, .int .i64 y.csr, SV y.label, .int .u32 y.word, .bool y.raw, .int .i64 l] := by
      rw [← hx]; simp [Act.eval]
    clear hx
    unfold Oper.wp
    simp only [execOp, ho]
    go_simp
    exact h2
end
structure PR (B : Nat) (w : World) (q : List (AItem × Int)) (L : Labels) (vi vn va : Value) : Prop where
  oi : w.ownsRow B 62 10 vi q.length (rcl q)
  on : w.ownsRow B 9 1 vn L.length (strs (L.map (·.1)))
  oa : w.ownsRow B 3 1 va L.length (lvals (L.map (·.2)))
  i_n : Apart vi vn
  i_a : Apart vi va
  n_a : Apart vn va
  base : B ≤ w.heap.size
theorem PR.below {B : Nat} {w w' : World} {q : List (AItem × Int)} {L : Labels} {vi vn va : Value} (h : PR B w q L vi vn va) (hb : Below w.heap.size w w') : PR B w' q L vi vn va where
  oi := h.oi.kept (grown_of_below hb) (by cases vi.ownBlock <;> simp)
  on := h.on.kept (grown_of_below hb) (by cases vn.ownBlock <;> simp)
  oa := h.oa.kept (grown_of_below hb) (by cases va.ownBlock <;> simp)
  i_n := h.i_n
  i_a := h.i_a
  n_a := h.n_a
  base := Nat.le_trans h.base hb.size
theorem PR.item {B : Nat} {w w' : World} {q : List (AItem × Int)} {L : Labels} {vi vn va : Value} (h : PR B w q L vi vn va) {p : AItem × Int} {g cap k : Nat} (hk : k = q.length) (h1 : w'.ownsRow B 62 10 (.slice (some ⟨g, 0, none⟩) (k + 1) cap) (k + 1) (rcl (q ++ [p]))) (h2 : w.grownBy w' vi.ownBlock) (h3 : vi.ownBlock = some g ∨ g = w.heap.size) :
    PR B w' (q ++ [p]) L (.slice (some ⟨g, 0, none⟩) (k + 1) cap) vn va where
  oi := by subst hk; simpa using h1
  on := h.on.kept h2 h.i_n.symm.keep
  oa := h.oa.kept h2 h.i_a.symm.keep
  i_n := (Apart.new h.i_n.symm h.on h3).symm
  i_a := (Apart.new h.i_a.symm h.oa h3).symm
  n_a := h.n_a
  base := Nat.le_trans h.base h2.size
/-- Behind the first of the two appends of a label. -/
structure PRn (B : Nat) (w : World) (q : List (AItem × Int)) (L : Labels) (k : Bytes) (vi vn va : Value) : Prop where
  oi : w.ownsRow B 62 10 vi q.length (rcl q)
  on : w.ownsRow B 9 1 vn (L.length + 1) (strs (L.map (·.1) ++ [k]))
  oa : w.ownsRow B 3 1 va L.length (lvals (L.map (·.2)))
  i_n : Apart vi vn
  i_a : Apart vi va
  n_a : Apart vn va
  base : B ≤ w.heap.size
theorem PR.name {B : Nat} {w w' : World} {q : List (AItem × Int)} {L : Labels} {vi vn va : Value} (h : PR B w q L vi vn va) {y : Bytes} {g cap : Nat} (h1 : w'.ownsRow B 9 1 (.slice (some ⟨g, 0, none⟩) (L.length + 1) cap) (L.length + 1) (strs (L.map (·.1) ++ [y]))) (h2 : w.grownBy w' vn.ownBlock) (h3 : vn.ownBlock = some g ∨ g = w.heap.size) :
    PRn B w' q L y vi (.slice (some ⟨g, 0, none⟩) (L.length + 1) cap) va where
  oi := h.oi.kept h2 h.i_n.keep
  on := h1
  oa := h.oa.kept h2 h.n_a.symm.keep
  i_n := Apart.new h.i_n h.oi h3
  i_a := h.i_a
  n_a := (Apart.new h.n_a.symm h.oa h3).symm
  base := Nat.le_trans h.base h2.size
theorem PRn.alloc {B : Nat} {w : World} {q : List (AItem × Int)} {L : Labels} {y : Bytes} {vi vn va : Value} (h : PRn B w q L y vi vn va) (o : Obj) : PRn B (w.alloc o) q L y vi vn va :=
  ⟨h.oi.alloc o, h.on.alloc o, h.oa.alloc o, h.i_n, h.i_a, h.n_a, Nat.le_trans h.base (World.grownBy_alloc w o none).size⟩
theorem PRn.at_ {B : Nat} {w w' : World} {q : List (AItem × Int)} {L : Labels} {y : Bytes} {vi vn va : Value} (h : PRn B w q L y vi vn va) {n : Int} {g cap : Nat} (h1 : w'.ownsRow B 3 1 (.slice (some ⟨g, 0, none⟩) (L.length + 1) cap) (L.length + 1) (lvals (L.map (·.2) ++ [n]))) (h2 : w.grownBy w' va.ownBlock) (h3 : va.ownBlock = some g ∨ g = w.heap.size) :
    PR B w' q (L ++ [(y, n)]) vi vn (.slice (some ⟨g, 0, none⟩) (L.length + 1) cap) where
  oi := h.oi.kept h2 h.i_a.keep
  on := by simpa using h.on.kept h2 h.n_a.keep
  oa := by simpa using h1
  i_n := h.i_n
  i_a := Apart.new h.i_a h.oi h3
  n_a := Apart.new h.n_a h.on h3
  base := Nat.le_trans h.base h2.size
theorem below_of_row {w w' : World} {v : Value} {B e size n : Nat} {xs : List Value} (ho : w.ownsRow B e size v n xs) (hg : w.grownBy w' v.ownBlock) (hB : B ≤ w.heap.size) : Below B w w' :=
  below_of_own hg (fun k hk => (ho.lt k hk).1) hB
theorem labHas_not {L : Labels} {k : Bytes} (h : labHas L k = false) : k ∉ L.map (·.1) := by
  intro hk
  obtain ⟨p, hp, rfl⟩ := List.mem_map.1 hk
  unfold labHas at h
  rw [List.any_eq_false] at h
  exact absurd (by simp) (h p hp)
end Go.Proofs.YtceelkmedfoefaaDoor

set_option linter.unusedVariables false
set_option linter.unusedSimpArgs false
/-! The reference's Program. -/
namespace Go.Proofs.YtceelkmedfoefaaDoor
open Go.RowKit Go.Maps Go.WideMaps

theorem rread_any2 (g off n cap : Nat) (p : List Bytes) (w : World) (hp : StrAt w g off p) (hn : p.length = n) (h1 : 1 ≤ n) (hbig : n ≤ 1048576) (hc : n ≤ cap) (hlen : ∀ k, (p.getD k []).length ≤ 1048576) :
    Calls Tryd.prog 31 #[.slice (some ⟨g, off, none⟩) n cap] w fun e w' => RReadPost p w w' e := by
  by_cases hw : n = 2 ∧ p.getD 0 [] = wordB
  · exact rread_word g off n cap p w hp hn hc hw hlen
  · exact rread_else g off n cap p w hp hn h1 hbig hc hw hlen
def stOf (q : List (AItem × Int)) (L : Labels) : RSt := ⟨q.map (·.1), q.map (·.2), L⟩
theorem run_bad {st st' : RSt} {n c : Int} {l : Bytes} {ls : List Bytes} (h : stepL st n l = (c, st')) (hc : c ≠ 0) : endL (runL st n (l :: ls)) = ([], n, c) := by
  rw [runL, h, if_neg hc]; unfold endL; rw [if_neg hc]
theorem run_ok {st st' : RSt} {n : Int} {l : Bytes} {ls : List Bytes} (h : stepL st n l = (0, st')) : runL st n (l :: ls) = runL st' (n + 1) ls := by
  rw [runL, h, if_pos rfl]
structure PgInv (s : ByteArray) (w1 wr : World) (k : Nat) (q : List (AItem × Int)) (L : Labels) (vi vn va : Value) : Prop where
  pr : PR w1.heap.size wr q L vi vn va
  bel : Below w1.heap.size w1 wr
  inv : SInv (stOf q L) k
  nod : (L.map (·.1)).Nodup
  eq : runL (stOf q L) ((k : Int) + 1) ((linesL (bs s)).drop k) = runL st0 1 (linesL (bs s))
structure PCut (w1 w' : World) (q : List (AItem × Int)) (L : Labels) (vi vn va vp : Value) (n : Int) (r : Int × RSt) (p : List Bytes) : Prop where
  sl : SlAt w' 0 vp p
  len : p.length ≤ 1048576
  plen : ∀ k, (p.getD k []).length ≤ 1048576
  pr : PR w1.heap.size w' q L vi vn va
  bel : Below w1.heap.size w1 w'
  nod : (L.map (·.1)).Nodup
  eq : r = bodyL (stOf q L) n p
theorem lines_mem (l : Bytes) : ∀ n : Nat, l.length ≤ n → ∀ x ∈ linesL l, x.length ≤ l.length := by
  intro n
  induction n generalizing l with
  | zero => intro h; rw [List.eq_nil_of_length_eq_zero (l := l) (by omega), linesL_nil]; simp
  | succ n ih =>
    intro h x hx
    by_cases e : l = []
    · subst e; rw [linesL_nil] at hx; simp at hx
    · rw [linesL_cons e] at hx
      have h1 := (cutNl_len l).1
      have h2 := (cutNl_len l).2 e
      rcases List.mem_cons.1 hx with hx | hx
      · rw [hx]; omega
      · have := ih (cutNl l).2 (by omega) x hx; omega

set_option maxRecDepth 100000 in
set_option maxHeartbeats 8000000 in
theorem rprogram_any (s : ByteArray) (w : World) (hs : s.size ≤ 65536) :
    Calls Tryd.prog 16 #[.string s] w fun e w' => ProgPost w.heap.size (programR (bs s)) w w' e := by
  have HX : Hd (programR (bs s) = endL (runL st0 1 (linesL (bs s)))) := ⟨by unfold programR; rw [if_neg (by rw [bs_length]; omega)]⟩
  obtain ⟨ls, hls⟩ : ∃ ls, linesL (bs s) = ls := ⟨_, rfl⟩
  have hll : ls.length ≤ 65536 := by rw [← hls]; have := linesL_len (bs s) 65536 (by rw [bs_length]; exact hs); exact this
  have HM : Hd (∀ x ∈ ls, x.length ≤ 65536) := ⟨by
    rw [← hls]; intro x hx
    have := lines_mem (bs s) _ (Nat.le_refl _) x hx
    rw [bs_length] at this; omega⟩
  have HLS := Hd.mk hls
  clear hls
  go_enter Tryd.func16, Tryd.ntmps16
  go_wp2_with fail
  refine (rlines_any s w (by omega)).mono ?_
  rintro e w1 ⟨v, rfl, hrow, hb1⟩
  rw [HLS.out] at hrow
  obtain ⟨al, cl, rfl⟩ := own_form hrow
  have hs1 := hb1.size
  go_wp2_with fail
  go_loopw [6, 7, 8, 9] (fun a b c d wr => ∃ (k : Nat) (q : List (AItem × Int)) (L : Labels), k ≤ ls.length ∧ d = .int .i64 k ∧ PgInv s w1 wr k q L a b c) (fun _ _ _ d _ => ls.length - (intOf d).toNat)
  case atStart =>
    refine ⟨0, [], [], Nat.zero_le _, rfl, ?_, ?_, SInv.zero 0, List.nodup_nil, rfl⟩
    · exact {
        oi := ((World.ownsRow_made w1 #[] 0 (Nat.le_refl _) (by unfold maxLen; omega) rfl).alloc _).alloc _
        on := by
          have h := (World.ownsRow_made (base := w1.heap.size) (e := 9) (size := 1) (w1.alloc (.cells #[] 62)) #[] 0 (by simp) (by unfold maxLen; omega) rfl).alloc (.cells #[] 3)
          simpa [strs] using h
        oa := by
          have h := World.ownsRow_made (base := w1.heap.size) (e := 3) (size := 1) ((w1.alloc (.cells #[] 62)).alloc (.cells #[] 9)) #[] 0 (by simp; omega) (by unfold maxLen; omega) rfl
          simpa [lvals] using h
        i_n := by intro b h1 h2; simp [Value.ownBlock] at h1 h2; omega
        i_a := by intro b h1 h2; simp [Value.ownBlock] at h1 h2; omega
        n_a := by intro b h1 h2; simp [Value.ownBlock] at h1 h2; omega
        base := by simp; omega }
    · exact (((Below.refl _ _).alloc (Nat.le_refl _) _).alloc (by simp) _).alloc (by simp; omega) _
  case round =>
    obtain ⟨k, q, L, hk, rfl, hI⟩ := hrel
    have hB := hb1.trans (hI.bel.mono hs1)
    have hinv := hI.inv
    have hbs := hI.bel.size
    have hq4 : q.length ≤ 4096 := by have := hinv.items; simpa [stOf] using this
    have hLk : L.length ≤ k := by have := hinv.labels; simpa [stOf] using this
    by_cases hlt : k < ls.length
    · obtain ⟨sb, hsb, hsb2⟩ := sv_ex (ls.getD k [])
      have hrowr := hrow.kept (grown_of_below hI.bel) (by cases (Value.slice al ls.length cl).ownBlock <;> simp)
      obtain ⟨gl, cl2, hfl, hgl1, hgl2⟩ := hrowr.form (by omega)
      have d1 := hrowr.cells (g := gl) (by rw [hfl]; rfl) k (.string sb) (by
        unfold strs
        rw [List.getElem?_map, List.getElem?_eq_getElem hlt, ← hsb, List.getD_eq_getElem?_getD, List.getElem?_eq_getElem hlt]; rfl)
      rw [Addr.add_mid, Nat.zero_add] at d1
      have hsl : sb.size ≤ 65536 := by
        rw [← bs_length, hsb2]
        have : ls.getD k [] ∈ ls := by rw [List.getD_eq_getElem?_getD, List.getElem?_eq_getElem hlt]; exact List.getElem_mem hlt
        exact HM.out _ this
      have HD : Hd (ls.drop k = bs sb :: ls.drop (k + 1)) := ⟨by rw [drop_getD ls k hlt, hsb2]⟩
      have HRun : Hd (∀ (c : Int) (st' : RSt), stepL (stOf q L) ((k : Int) + 1) (bs sb) = (c, st') → c ≠ 0 → programR (bs s) = ([], (k : Int) + 1, c)) := ⟨fun c st' h hc => by
        rw [HX.out, HLS.out]
        have := hI.eq
        rw [HLS.out, HD.out] at this
        rw [← this]; exact run_bad h hc⟩
      have HStep := Hd.mk (hinv.step (n := (k : Int) + 1) (l := bs sb) (by rw [bs_length]; omega))
      have HEq : Hd (∀ st', stepL (stOf q L) ((k : Int) + 1) (bs sb) = (0, st') → runL st' (((k + 1 : Nat) : Int) + 1) (ls.drop (k + 1)) = runL st0 1 ls) := ⟨fun st' h => by
        have := hI.eq
        rw [HLS.out, HD.out, run_ok h] at this
        simpa using this⟩
      have hki : (k : Int) < (ls.length : Int) := by omega
      cases hfl
      clear hsb hsb2 hrowr
      go_wp2_with fail
      refine (rpieces_any sb wr (by omega)).mono ?_
      rintro e w2 hP
      cases hP with
      | bad hp hb2 =>
        have HR := Hd.mk (HRun.out 1 (stOf q L) (by unfold stepL; rw [hp]) (by decide))
        have hB2 := hB.trans (hb2.mono hB.size)
        clear hp hb2
        go_wp2_with fail
        refine bodyPost_ret (v := .tuple #[.slice none 0 0, .int .i64 ((k : Int) + 1), .int .i64 1]) ?_ rfl ⟨⟨.slice none 0 0, by rw [HR.out], by rw [HR.out]; exact World.ownsRow_nil _ _ _ _⟩, hB2⟩
        simp [results, Tryd.results16, go_sem]
      | good out v hp hlen ho hb2 =>
        have hPR2 := hI.pr.below hb2
        have hbel2 := hI.bel.trans (hb2.mono hbs)
        have HStep2 : Hd (stepL (stOf q L) ((k : Int) + 1) (bs sb) = piecesL (stOf q L) ((k : Int) + 1) out) := ⟨by unfold stepL; rw [hp]⟩
        have hsl2 : SlAt w2 0 v out := by
          rcases own_cases ho with ⟨rfl, rfl⟩ | ⟨g, cap, rfl, hbase, hcap, hst⟩
          · exact .nil
          · exact .row g 0 cap out hcap hst (Nat.zero_le _)
        have HBlk : Hd (∀ g cap, v = .slice (some ⟨g, 0, none⟩) out.length cap → wr.heap.size ≤ g) := ⟨fun g cap e => by
          subst e; exact (ho.lt g rfl).1⟩
        have HBlk2 : Hd (∀ g off cap, v = .slice (some ⟨g, off, none⟩) out.length cap → wr.heap.size ≤ g) := ⟨fun g off cap e => by
          subst e; exact (ho.lt g rfl).1⟩
        have hlb : out.length ≤ 1048576 := by rw [bs_length] at hlen; omega
        have HPL : Hd (∀ k, (out.getD k []).length ≤ 1048576) := ⟨fun k => Nat.le_trans (pieces_len hp k) (by rw [bs_length]; omega)⟩
        have hnod := hI.nod
        have HEQ := Hd.mk hI.eq
        have hiw := hI.pr.on.lt
        have hib := hI.pr.oa.lt
        obtain ⟨ai, ci, rfl⟩ := own_form hI.pr.oi
        obtain ⟨an, cn, rfl⟩ := own_form hI.pr.on
        obtain ⟨aa, ca, rfl⟩ := own_form hI.pr.oa
        clear hp hlen ho hI d1
        go_upto_region 11 with fail
        go_cut [45] (fun u w' => w2 = w' ∧ u = .bool (colonB out))
        case first =>
          cases hsl2 with
          | nil =>
            go_wp2_with fail
            go_meet
            exact ⟨rfl, rfl⟩
          | row g off cap p hc hs2 hgB =>
            by_cases h2 : out.length < 2
            · have e1 : decide ((out.length : Int) ≥ 2) = false := decide_eq_false (by omega)
              have HC : Hd (colonB out = false) := ⟨by unfold colonB; exact decide_eq_false (by omega)⟩
              clear hs2
              go_wp2_with fail
              go_meet
              exact ⟨rfl, by rw [HC.out]⟩
            · obtain ⟨s1, hs1', hb1'⟩ := sv_ex (out.getD 1 [])
              have hc1 : w2.cell? ⟨g, off + 1, none⟩ = some (.string s1) := by rw [← hs1']; exact hs2.cell 1 (by omega)
              have e1 : decide ((out.length : Int) ≥ 2) = true := decide_eq_true (by omega)
              obtain ⟨cb, hcb⟩ : ∃ cb, (s1.toList == [58]) = cb := ⟨_, rfl⟩
              have HC : Hd (colonB out = cb) := ⟨by
                rw [← hcb, toList_eq_bs, hb1']; unfold colonB
                by_cases e : out.getD 1 [] = [58]
                · rw [e]; simp; omega
                · rw [decide_eq_false (fun h => e h.2)]; exact (beq_eq_false_iff_ne.2 e).symm⟩
              have hlt1 : 1 < out.length := by omega
              clear hs1' hb1' h2 hs2
              go_wp2_with fail
              go_meet
              exact ⟨rfl, by rw [HC.out]⟩
        case rest =>
          obtain ⟨rfl, rfl⟩ := hcut
          obtain ⟨cb, hcb⟩ : ∃ cb, colonB out = cb := ⟨_, rfl⟩
          rw [hcb]
          go_upto_if 45 with fail
          go_cut [7, 8, 10] (fun un ua up w' => ∃ p L', PCut w1 w' q L' (.slice ai q.length ci) un ua up ((k : Int) + 1) (stepL (stOf q L) ((k : Int) + 1) (bs sb)) p)
          case first =>
            cases cb
            · have HP : Hd (stepL (stOf q L) ((k : Int) + 1) (bs sb) = bodyL (stOf q L) ((k : Int) + 1) out) := ⟨by
                rw [HStep2.out]; unfold piecesL; rw [if_neg (fun h => by unfold colonB at hcb; exact absurd h (of_decide_eq_false hcb))]⟩
              clear hcb
              go_wp2_with fail
              go_meet
              exact ⟨out, L, hsl2, hlb, HPL.out, hPR2, hbel2, hnod, HP.out⟩
            · have hcb2 := of_decide_eq_true hcb
              have hB2 := hB.trans (hb2.mono hB.size)
              cases hsl2 with
              | nil => simp at hcb2
              | row g off cap p hc hs2 hgB =>
                obtain ⟨s0, hs0, hb0⟩ := sv_ex (out.getD 0 [])
                have hc0 : w2.cell? ⟨g, off, none⟩ = some (.string s0) := by rw [← hs0]; exact hs2.cell 0 (by omega)
                have hlt2 : 2 ≤ out.length := hcb2.1
                have hz : 0 < out.length := by omega
                have hzi : (0 : Int) < (out.length : Int) := by omega
                have h2i : (2 : Int) ≤ (out.length : Int) := by omega
                have HP : Hd (stepL (stOf q L) ((k : Int) + 1) (bs sb) = if labHas L (bs s0) = true ∨ nameB (bs s0) = false then (1, stOf q L) else bodyL (stOf q (L ++ [(bs s0, 4 * (q.length : Int))])) ((k : Int) + 1) (out.drop 2)) := ⟨by
                  rw [HStep2.out]; unfold piecesL; rw [if_pos hcb2, ← hb0]; simp [stOf]⟩
                obtain ⟨nb, hnb⟩ : ∃ nb, nameB (bs s0) = nb := ⟨_, rfl⟩
                have HN := Hd.mk hnb
                cases nb
                · have HR := Hd.mk (HRun.out 1 (stOf q L) (by rw [HP.out, if_pos (.inr hnb)]) (by decide))
                  clear hnb hcb hcb2 hs0
                  go_wp2_with (first | (go_at_call 36; refine (rname_any s0 _).mono ?_; rw [HN.out]; rintro e w' ⟨rfl, rfl⟩))
                  refine bodyPost_ret (v := .tuple #[.slice none 0 0, .int .i64 ((k : Int) + 1), .int .i64 1]) ?_ rfl ⟨⟨.slice none 0 0, by rw [HR.out], by rw [HR.out]; exact World.ownsRow_nil _ _ _ _⟩, hB2⟩
                  simp [results, Tryd.results16, go_sem]
                rcases find_lab (bs s0) L hnod with ⟨f1, f2⟩ | ⟨n, f0, f1, f2, f3⟩
                case inr =>
                  have HR := Hd.mk (HRun.out 1 (stOf q L) (by rw [HP.out, if_pos (.inl f2)]) (by decide))
                  have HF := Hd.mk f1
                  have hn0 : (0 : Int) ≤ (n : Int) := by omega
                  clear hnb hcb hcb2 hs0 f1 f2 f3
                  go_wp2_with (first | (go_at_call 36; refine (rname_any s0 _).mono ?_; rw [HN.out]; rintro e w' ⟨rfl, rfl⟩) | (go_at_call 37; refine (rfind_any w1.heap.size (L.map (·.1)) _ s0 _ (by simpa using hPR2.on) (by simp; omega)).mono ?_; rw [HF.out]; rintro e w' ⟨rfl, rfl⟩))
                  refine bodyPost_ret (v := .tuple #[.slice none 0 0, .int .i64 ((k : Int) + 1), .int .i64 1]) ?_ rfl ⟨⟨.slice none 0 0, by rw [HR.out], by rw [HR.out]; exact World.ownsRow_nil _ _ _ _⟩, hB2⟩
                  simp [results, Tryd.results16, go_sem]
                have HF := Hd.mk f1
                have HNod : Hd (((L ++ [(bs s0, 4 * (q.length : Int))]).map (·.1)).Nodup) := ⟨by
                  rw [List.map_append]
                  refine List.nodup_append.2 ⟨hnod, by simp, ?_⟩
                  intro a ha b hb e
                  simp at hb
                  rw [e, hb] at ha
                  exact labHas_not f2 ha⟩
                have HP2 : Hd (stepL (stOf q L) ((k : Int) + 1) (bs sb) = bodyL (stOf q (L ++ [(bs s0, 4 * (q.length : Int))])) ((k : Int) + 1) (out.drop 2)) := ⟨by
                  rw [HP.out, if_neg (by rw [f2, hnb]; simp)]⟩
                have hgw : wr.heap.size ≤ g := by
                  have := hs2.lt
                  exact HBlk2.out g off cap rfl
                have hglt : g < w2.heap.size := heap_cell hc0
                have hPa := hPR2.below ((Below.refl w2.heap.size w2).alloc (Nat.le_refl _) (.cells #[.string s0] 9))
                have hsa : StrAt (w2.alloc (.cells #[.string s0] 9)) g off out := hs2.below ((Below.refl w2.heap.size w2).alloc (Nat.le_refl _) _) hglt
                have hba : Below w1.heap.size w1 (w2.alloc (.cells #[.string s0] 9)) := hbel2.alloc hPR2.base _
                have hgn : some g ≠ (Value.slice an L.length cn).ownBlock := fun e => by have := (hiw g e.symm).2; omega
                have hga : some g ≠ (Value.slice aa L.length ca).ownBlock := fun e => by have := (hib g e.symm).2; omega
                have hwr4 : IntKind.i64.wrap (4 * (q.length : Int)) = 4 * (q.length : Int) := IntWalk.i64_in _ (by omega)
                have hLl : L.length ≤ 1048576 := by omega
                have HNI := Hd.mk (Nat.le_refl L.length)
                clear hnb hcb hcb2 hs0 f1 f2 hs2
                go_wp2_with (first | (go_at_call 36; refine (rname_any s0 _).mono ?_; rw [HN.out]; rintro e w' ⟨rfl, rfl⟩) | (go_at_call 37; refine (rfind_any w1.heap.size (L.map (·.1)) _ s0 _ (by simpa using hPR2.on) (by simp; omega)).mono ?_; rw [HF.out]; rintro e w' ⟨rfl, rfl⟩) | (at_builtin; refine app9l rfl _ _ rfl w1.heap.size (.slice an L.length cn) L.length (List.map (fun p : Bytes × Int => p.1) L) rfl hPa.on s0 w2.heap.size rfl (blk_new w2 #[.string s0] 9) hLl hPa.base ?_; intro g1 cp1 w3 h1 h2 h3; have hM := (hPa.name h1 h2 h3).alloc (.cells #[.int .i64 (4 * (q.length : Int))] 3); have hs3 := hsa.grown h2 hgn; have hb3 := hba.trans (below_of_row hPa.on h2 hPa.base); have hb3a := hb3.alloc (Nat.le_trans hPa.base h2.size) (.cells #[.int .i64 (4 * (q.length : Int))] 3); have hs3a : StrAt (w3.alloc (.cells #[.int .i64 (4 * (q.length : Int))] 3)) g off out := hs3.below ((Below.refl w3.heap.size w3).alloc (Nat.le_refl _) _) (Nat.lt_of_lt_of_le hglt (Nat.le_trans (World.grownBy_alloc w2 _ none).size h2.size))) | (at_builtin; refine app3l rfl _ _ rfl w1.heap.size (.slice aa L.length ca) L.length (List.map (fun p : Bytes × Int => p.2) L) rfl hM.oa (4 * (q.length : Int)) w3.heap.size rfl (blk_new w3 #[.int .i64 (4 * (q.length : Int))] 3) hLl hM.base ?_; intro g2 cp2 w4 h4 h5 h6))
                all_goals
                  go_meet
                  have hP4 := hM.at_ h4 h5 h6
                  have hb4 := hb3a.trans (below_of_row hM.oa h5 hM.base)
                  refine ⟨out.drop 2, _, ?_, by rw [List.length_drop]; omega, fun j => by rw [show (out.drop 2).getD j [] = out.getD (2 + j) [] by simp [List.getD_eq_getElem?_getD]]; exact HPL.out _, hP4, hb4, HNod.out, HP2.out⟩
                  first
                    | exact SlAt.row' (by rw [List.length_drop]) (by rw [List.length_drop]; omega) ((hs3a.drop 2).grown h5 hga) (Nat.zero_le _)
                    | exact SlAt.row' (by rw [List.length_drop]) (by rw [List.length_drop]; omega) ⟨fun j hj => by rw [List.length_drop] at hj; omega, .inl (List.eq_nil_of_length_eq_zero (by rw [List.length_drop]; omega))⟩ (Nat.zero_le _)
          case rest =>
            obtain ⟨p, L', hC⟩ := hcut
            obtain ⟨hslc, hplen, hpl, hpr, hbelc, hnodc, heqc⟩ := hC
            have HEQC := Hd.mk heqc
            have HPLC := Hd.mk hpl
            have HNC := Hd.mk hnodc
            have hBc := hb1.trans (hbelc.mono hs1)
            obtain ⟨an2, cn2, rfl⟩ := own_form hpr.on
            obtain ⟨aa2, ca2, rfl⟩ := own_form hpr.oa
            have HEmpty : Hd (p = [] → stepL (stOf q L) ((k : Int) + 1) (bs sb) = (0, stOf q L')) := ⟨fun e => by
              rw [HEQC.out, e]; unfold bodyL; rw [if_pos rfl]⟩
            clear heqc hpl hnodc hsl2 hPR2 hbel2 hnod hiw hib HBlk HBlk2 hcb
            cases hslc with
            | nil =>
              have HS0 := Hd.mk (HEmpty.out rfl)
              go_wp2_with fail
              refine ⟨⟨k + 1, q, L', by omega, by simp, hpr, hbelc, by have := HStep.out; rw [HS0.out] at this; exact this, HNC.out, by rw [HLS.out]; exact HEq.out _ HS0.out⟩, by simp [intOf]; omega⟩
            | row g off cap p hc hs2 hgB =>
              by_cases hp0 : p.length = 0
              · have HS0 := Hd.mk (HEmpty.out (List.eq_nil_of_length_eq_zero hp0))
                have b1 : ((p.length : Int) == 0) = true := beq_iff_eq.2 (by omega)
                clear hp0 hs2
                go_wp2_with fail
                refine ⟨⟨k + 1, q, L', by omega, by simp, hpr, hbelc, by have := HStep.out; rw [HS0.out] at this; exact this, HNC.out, by rw [HLS.out]; exact HEq.out _ HS0.out⟩, by simp [intOf]; omega⟩
              have b1 : ((p.length : Int) == 0) = false := beq_eq_false_iff_ne.2 (by omega)
              have HBody : Hd (bodyL (stOf q L') ((k : Int) + 1) p = match readO p with
                  | none => (1, stOf q L')
                  | some x => if 4096 ≤ q.length then (3, stOf q L') else (0, stOf (q ++ [(x, (k : Int) + 1)]) L')) := ⟨by
                unfold bodyL; rw [if_neg (fun e => hp0 (by rw [e]; rfl))]
                cases readO p with
                | none => rfl
                | some x => simp [stOf]⟩
              obtain ⟨pn, hpn⟩ : ∃ pn, p.length = pn := ⟨_, rfl⟩
              rw [hpn] at hc hplen hp0 b1
              have HPN := Hd.mk hpn
              rw [hpn]
              clear hpn
              go_wp2_with fail
              refine (rread_any2 g off pn cap p wc hs2 HPN.out (by omega) hplen hc HPLC.out).mono ?_
              rintro e w5 ⟨⟨x, ok, rfl, hok1, hok2⟩, hb5⟩
              have HOK := Hd.mk (And.intro hok1 hok2)
              have hpr5 := hpr.below hb5
              have hbel5 := hbelc.trans (hb5.mono hpr.base)
              have hB5 := hBc.trans (hb5.mono hBc.size)
              have hs5 := hB5.size
              clear hok1 hok2 hs2 hpr hb5 hbelc
              cases ok
              · have HR := Hd.mk (HRun.out 1 (stOf q L') (by rw [HEQC.out, HBody.out, HOK.out.2 rfl]) (by decide))
                go_wp2_with (refine st_blk rfl 62 _ _ rfl w5.heap.size (RCells x 0) rfl rfl (blk_new w5 (RCells zeroX 0) 62) info62 rfl (rcells_one _ _) ?_; intro w6 hx6 hg6)
                refine bodyPost_ret (v := .tuple #[.slice none 0 0, .int .i64 ((k : Int) + 1), .int .i64 1]) ?_ rfl ⟨⟨.slice none 0 0, by rw [HR.out], by rw [HR.out]; exact World.ownsRow_nil _ _ _ _⟩, (hB5.alloc hs5 _).trans (below_of_grown hg6 hs5 (by simp; omega))⟩
                simp [results, Tryd.results16, go_sem]
              have hro := HOK.out.1 rfl
              have HB2 : Hd (bodyL (stOf q L') ((k : Int) + 1) p = if 4096 ≤ q.length then (3, stOf q L') else (0, stOf (q ++ [(x, (k : Int) + 1)]) L')) := ⟨by rw [HBody.out, hro]⟩
              clear hro
              by_cases hfull : q.length = 4096
              · have HR := Hd.mk (HRun.out 3 (stOf q L') (by rw [HEQC.out, HB2.out, if_pos (by omega)]) (by decide))
                have b2 : ((q.length : Int) == 4096) = true := beq_iff_eq.2 (by omega)
                clear hfull
                go_wp2_with (refine st_blk rfl 62 _ _ rfl w5.heap.size (RCells x 0) rfl rfl (blk_new w5 (RCells zeroX 0) 62) info62 rfl (rcells_one _ _) ?_; intro w6 hx6 hg6)
                refine bodyPost_ret (v := .tuple #[.slice none 0 0, .int .i64 ((k : Int) + 1), .int .i64 3]) ?_ rfl ⟨⟨.slice none 0 0, by rw [HR.out], by rw [HR.out]; exact World.ownsRow_nil _ _ _ _⟩, (hB5.alloc hs5 _).trans (below_of_grown hg6 hs5 (by simp; omega))⟩
                simp [results, Tryd.results16, go_sem]
              have b2 : ((q.length : Int) == 4096) = false := beq_eq_false_iff_ne.2 (by omega)
              have HS0 : Hd (stepL (stOf q L) ((k : Int) + 1) (bs sb) = (0, stOf (q ++ [(x, (k : Int) + 1)]) L')) := ⟨by rw [HEQC.out, HB2.out, if_neg (by omega)]⟩
              clear hfull
              go_upto_region 23 with (refine st_blk rfl 62 _ _ rfl w5.heap.size (RCells x 0) rfl rfl (blk_new w5 (RCells zeroX 0) 62) info62 rfl (rcells_one _ _) ?_; intro w6 hx6 hg6)
              have hb56 : Below w5.heap.size w5 w6 := ((Below.refl _ _).alloc (Nat.le_refl _) (.cells (RCells zeroX 0) 62)).trans (below_of_grown hg6 (Nat.le_refl _) (by simp))
              have k9 := hx6.cell 9 (v := .int .i64 0) rfl
              have f9 := hx6.free 9
              have hx7 : Blk (w6.setCell ⟨w5.heap.size, 9, none⟩ (.int .i64 ((k : Int) + 1))) w5.heap.size (RCells x ((k : Int) + 1)) 62 := by simpa [RCells] using hx6.set 9 (.int .i64 ((k : Int) + 1))
              have hb57 : Below w5.heap.size w5 (w6.setCell ⟨w5.heap.size, 9, none⟩ (.int .i64 ((k : Int) + 1))) := hb56.setCell (Nat.le_refl _) _
              have hpr7 := hpr5.below hb57
              have hbel7 := hbel5.trans (hb57.mono hpr5.base)
              have hpr7a := hpr7.below ((Below.refl _ _).alloc (Nat.le_refl _) (.cells (RCells x ((k : Int) + 1)) 62))
              have hbel7a := hbel7.alloc hpr7.base (.cells (RCells x ((k : Int) + 1)) 62)
              have hq5 : q.length ≤ 4096 := hq4
              go_upto_region 24 with fail
              clear k9 f9
              generalize w6.setCell _ _ = w7 at hx7 hpr7a hbel7a ⊢
              clear hpr7 hbel7 hb57
              go_wp2_with (first | (refine ld_blk rfl 62 _ rfl w5.heap.size rfl hx7 Tryd.underlying62 info62 ?_) | (refine build62 rfl _ rfl x ((k : Int) + 1) rfl ?_) | (at_builtin; refine app62 rfl _ _ rfl w1.heap.size (.slice ai q.length ci) q.length q rfl hpr7a.oi x ((k : Int) + 1) w7.heap.size rfl (blk_new w7 (RCells x ((k : Int) + 1)) 62) hq5 hpr7a.base ?_; intro g8 cp8 w8 h1 h2 h3))
              refine ⟨⟨k + 1, q ++ [(x, (k : Int) + 1)], L', by omega, by simp, ?_, hbel7a.trans (below_of_row hpr7a.oi h2 hpr7a.base), by have := HStep.out; rw [HS0.out] at this; exact this, HNC.out, by rw [HLS.out]; exact HEq.out _ HS0.out⟩, by simp [intOf]; omega⟩
              exact hpr7a.item rfl h1 h2 h3
    · have hke : k = ls.length := by omega
      have HR : Hd (programR (bs s) = wordsL L 0 (q.map (·.1)) (q.map (·.2)) []) := ⟨by
        rw [HX.out, ← hI.eq, HLS.out, hke, List.drop_length]; rfl⟩
      have hnod := hI.nod
      have hpr := hI.pr
      have himm : ∀ p ∈ q, (0 ≤ p.1.imm ∧ p.1.imm < 4294967296) ∧ p.1.label.length ≤ 65536 := fun p hp => hinv.imm p.1 (by simp only [stOf]; exact List.mem_map.2 ⟨p, hp, rfl⟩)
      have hat : ∀ p ∈ L, 0 ≤ p.2 ∧ p.2 ≤ 16384 := hinv.at_
      have HP := Hd.mk (And.intro himm hat)
      clear hke hI himm hat
      go_wp2_with fail
      refine (rlaid_any q L w1.heap.size _ _ _ wr hpr.oi hpr.on hpr.oa hnod hq4 (by omega) HP.out.1 HP.out.2).mono ?_
      rintro e w2 ⟨⟨v, rfl, hv⟩, hb2⟩
      have hB2 := hB.trans (hb2.mono hB.size)
      have hv2 := own_mono hv hB.size
      obtain ⟨r, hr⟩ : ∃ r, wordsL L 0 (q.map (·.1)) (q.map (·.2)) [] = r := ⟨_, rfl⟩
      rw [hr] at hv2 HR ⊢
      clear hr hv hb2
      go_wp2_with fail
      refine bodyPost_ret (v := .tuple #[v, .int .i64 r.2.1, .int .i64 r.2.2]) ?_ rfl ⟨⟨v, by rw [HR.out], by rw [HR.out]; exact hv2⟩, hB2⟩
      simp [results, Tryd.results16, go_sem]
end Go.Proofs.YtceelkmedfoefaaDoor

set_option linter.unusedVariables false
set_option linter.unusedSimpArgs false
namespace Go.Proofs.YtceelkmedfoefaaDoor
open Go.RowKit

/-- What a law leaves. -/
def Lawful (w w' : World) (e : Ending) : Prop := e = .returned (.bool true) ∧ Below w.heap.size w w'
theorem awake_from {w w1 : World} (hE : Env w) (h4 : 4 ≤ w.heap.size) (hB : Below w.heap.size w w1) :
    Calls Tryd.prog 8 #[] w1 fun e w' => e = .returned (.bool true) ∧ Below w.heap.size w w' :=
  (awake_any w1 (hE.below hB) (by have := hB.size; omega)).mono fun e w' ⟨h1, h2⟩ => ⟨h1, hB.trans (h2.mono hB.size)⟩

end Go.Proofs.YtceelkmedfoefaaDoor

set_option linter.unusedVariables false
set_option linter.unusedSimpArgs false
namespace Go.Proofs.YtceelkmedfoefaaDoor
open Go.RowKit

set_option maxHeartbeats 1000000 in
theorem program_big (s : ByteArray) (w : World) (hbig : 65536 < s.size) :
    Calls Tryd.prog 15 #[.string s] w fun e w' => e = .returned (.tuple #[.slice none 0 0, .int .i64 0, .int .i64 3]) ∧ w = w' := by
  have e1 : decide ((s.size : Int) > 65536) = true := decide_eq_true (by omega)
  go_enter Tryd.func15, Tryd.ntmps15
  go_wp2_with fail
  refine bodyPost_ret (v := .tuple #[.slice none 0 0, .int .i64 0, .int .i64 3]) ?_ rfl ⟨rfl, rfl⟩
  simp [results, Tryd.results15, go_sem]

set_option maxRecDepth 100000 in
set_option maxHeartbeats 4000000 in
theorem lawPrograms_big (s : ByteArray) (w : World) (hE : Env w) (h4 : 4 ≤ w.heap.size) (hbig : 65536 < s.size) :
    Calls Tryd.prog 5 #[.string s] w fun e w' => Lawful w w' e := by
  have e1 : decide ((s.size : Int) > 65536) = true := decide_eq_true (by omega)
  have e2 : decide ((s.size : Int) > 5000) = true := decide_eq_true (by omega)
  have e3 : decide ((s.size : Int) ≤ 65536) = false := decide_eq_false (by omega)
  have HB := Hd.mk hbig
  clear hbig
  go_enter Tryd.func5, Tryd.ntmps5
  go_wp2_with (first | (go_at_call 15; refine (program_big s _ HB.out).mono ?_; rintro e w' ⟨rfl, rfl⟩) | (go_at_call 8; refine (awake_any w hE h4).mono ?_; rintro e w' ⟨rfl, hb⟩))
  go_ret
  exact ⟨rfl, hb⟩
set_option maxRecDepth 100000 in
set_option maxHeartbeats 4000000 in
theorem lawPrograms_mid (s : ByteArray) (w : World) (hE : Env w) (h4 : 4 ≤ w.heap.size) (hbig : s.size ≤ 65536) (hmid : 5000 < s.size) :
    Calls Tryd.prog 5 #[.string s] w fun e w' => Lawful w w' e := by
  have e2 : decide ((s.size : Int) > 5000) = true := decide_eq_true (by omega)
  have e3 : decide ((s.size : Int) ≤ 65536) = true := decide_eq_true (by omega)
  clear hbig hmid
  go_enter Tryd.func5, Tryd.ntmps5
  go_wp2_with (go_at_call 8; refine (awake_any w hE h4).mono ?_; rintro e w' ⟨rfl, hb⟩)
  go_ret
  exact ⟨rfl, hb⟩
set_option maxRecDepth 100000 in
set_option maxHeartbeats 4000000 in
theorem lawPrograms_small (s : ByteArray) (w : World) (hE : Env w) (h4 : 4 ≤ w.heap.size) (hsm : s.size ≤ 5000) :
    Calls Tryd.prog 5 #[.string s] w fun e w' => Lawful w w' e := by
  have e1 : decide ((s.size : Int) > 65536) = false := decide_eq_false (by omega)
  have e2 : decide ((s.size : Int) > 5000) = false := decide_eq_false (by omega)
  have hs : s.size ≤ 65536 := by omega
  clear hsm
  obtain ⟨r, hr⟩ : ∃ r, programR (bs s) = r := ⟨_, rfl⟩
  have HR := Hd.mk hr
  clear hr
  go_enter Tryd.func5, Tryd.ntmps5
  go_wp2_with fail
  refine (program_any s w hE h4 (by omega)).mono ?_
  rintro e w1 ⟨⟨v1, rfl, ho1⟩, hb1⟩
  rw [HR.out] at ho1 ⊢
  obtain ⟨a1, c1, rfl⟩ := own_form ho1
  go_wp2_with fail
  refine (rprogram_any s w1 hs).mono ?_
  rintro e w2 ⟨⟨v2, rfl, ho2⟩, hb2⟩
  rw [HR.out] at ho2 ⊢
  obtain ⟨a2, c2, rfl⟩ := own_form ho2
  have hB := hb1.trans (hb2.mono hb1.size)
  have ho3 := ho1.kept (grown_of_below hb2) (by cases (Value.slice a1 r.1.length c1).ownBlock <;> simp)
  obtain ⟨l, hl⟩ : ∃ l, r.1 = l := ⟨_, rfl⟩
  obtain ⟨ln, hln⟩ : ∃ l, r.2.1 = l := ⟨_, rfl⟩
  obtain ⟨er, her⟩ : ∃ l, r.2.2 = l := ⟨_, rfl⟩
  rw [hl] at ho2 ho3 ⊢
  rw [hln, her]
  have hll : l.length ≤ maxLen := by
    rcases ho2.2 with ⟨_, h0⟩ | ⟨g, cap, cur, hv, hbg, hg, hnc, hcm, _⟩
    · omega
    · omega
  have HLL := Hd.mk hll
  clear hl hln her ho1 HR hb1 hb2 hll
  go_wp2_with fail
  go_loopw [9] (fun i wr => ∃ k : Nat, k ≤ l.length ∧ i = .int .i64 k ∧ Below w2.heap.size w2 wr) (fun i _ => l.length - (intOf i).toNat)
  case atStart => exact ⟨0, Nat.zero_le _, rfl, Below.refl _ _⟩
  case round =>
    obtain ⟨k, hk, rfl, hb3⟩ := hrel
    have hB3 := hB.trans (hb3.mono hB.size)
    by_cases hlt : k < l.length
    · obtain ⟨b, hb⟩ : ∃ b, l[k]? = some b := ⟨_, List.getElem?_eq_getElem hlt⟩
      have hki : (k : Int) < (l.length : Int) := by omega
      have hwr : IntKind.i64.wrap ((k : Int) + 1) = (k : Int) + 1 := IntWalk.i64_in _ (by have := HLL.out; unfold maxLen at this; omega)
      have hwr2 : wrap64 ((k : Int) + 1) = (k : Int) + 1 := by have := HLL.out; unfold maxLen at this; unfold wrap64; omega
      have hx : (wvals l)[k]? = some (.int .u32 b) := by unfold wvals; rw [List.getElem?_map, hb]; rfl
      obtain ⟨g1, d1, hf1, hg1, hg2⟩ := ho3.form (by omega)
      obtain ⟨g2, d2, hf2, hg3, hg4⟩ := ho2.form (by omega)
      have x1 := (ho3.kept (grown_of_below hb3) (by cases (Value.slice a1 l.length c1).ownBlock <;> simp)).cells (g := g1) (by rw [hf1]; rfl) k _ hx
      have x2 := (ho2.kept (grown_of_below hb3) (by cases (Value.slice a2 l.length c2).ownBlock <;> simp)).cells (g := g2) (by rw [hf2]; rfl) k _ hx
      rw [Addr.add_mid, Nat.zero_add] at x1 x2
      cases hf1
      cases hf2
      clear hx hb ho2 ho3
      go_wp2_with fail
      go_quiet (fail)
      go_wp2_with fail
      exact ⟨⟨k + 1, by omega, by simp, pw_below_drewN2 hb3 nq⟩, by simp [intOf]; omega⟩
    · go_wp2_with fail
      refine (awake_from hE h4 hB3).mono ?_
      rintro e w4 ⟨rfl, hb⟩
      go_wp2_with fail
      go_ret
      exact ⟨rfl, hb⟩
theorem lawPrograms_any (s : ByteArray) (w : World) (hE : Env w) (h4 : 4 ≤ w.heap.size) :
    Calls Tryd.prog 5 #[.string s] w fun e w' => Lawful w w' e := by
  rcases Nat.lt_or_ge 65536 s.size with h | h
  · exact lawPrograms_big s w hE h4 h
  rcases Nat.lt_or_ge 5000 s.size with h2 | h2
  · exact lawPrograms_mid s w hE h4 h h2
  · exact lawPrograms_small s w hE h4 h2
end Go.Proofs.YtceelkmedfoefaaDoor

set_option linter.unusedVariables false
set_option linter.unusedSimpArgs false
namespace Go.Proofs.YtceelkmedfoefaaDoor
open Go.ChangeShapes Go.WideShapes Go.ChangeAt Go.WideMaps Go.WideElems Go.RowKit
open Go.ChangeMaps (open_string shut_string)

set_option maxRecDepth 100000 in
theorem asmPrograms_lifted (os : Os) (started : os.Started) (H : Type) (enc : TypeId × Value → H) :
    ReturnsInHanded {} Tryd.checked os 5 .any (fun w args => (Rows.asmProgramsSpec.pre enc Tryd.prog Tryd.f5 [] false w args ∧ laidMetH Tryd.prog laid3 w) ∧ sizedMet enc Tryd.prog Tryd.f5 (OpenSpec.ofChange Rows.asmProgramsSpec) false w args)
      (Rows.asmProgramsSpec.post enc Tryd.prog Tryd.f5 false true false false) := by
  refine returnsInHanded_of_change_and (C := Tryd.checked) (X := fun w _ => laidMetH Tryd.prog laid3 w) (fun _ _ _ hh h => h.of_heap hh) ownK started (by kernel_rfl) Tryd.func5
    (ChangeSpec.witness_shaped (enc := enc) (C := Tryd.checked) (os := os) (X := fun w _ => laidMetH Tryd.prog laid3 w) false (World.doorLaid Tryd.prog 400 os) #[.string ⟨#[]⟩] 8 rfl (World.shaped_of_RefB (by kernel_rfl) (by kernel_rfl)) (by kernel_rfl) (by kernel_rfl) (by kernel_rfl) (door_met os _)) ?_
  intro W base args ds gs before hval0 hW _ _ hL hsh
  have hval : ∀ (j : Nat) t v, Tryd.f5.params[j]? = some t → args[j]? = some v → Value.okWide Tryd.prog W .any base t v := hval0
  have hW' := hW
  obtain ⟨p, q, hA0, hV, rfl, hfz, hnd⟩ := hW
  have hA : DataW.TrodAll enc Tryd.prog W 0 (fun _ => true) true Tryd.f5.params.toList args.toList ds p := hA0
  rw [Tryd.params5] at hA hval
  obtain ⟨v0, d0, rfl, rfl, h0⟩ := trodAll_one hA
  obtain ⟨rfl, rfl⟩ := trodVars_none hV
  obtain ⟨s, rfl, rfl, rfl, hs⟩ := open_string Tryd.underlying9 (hval 0 9 v0 rfl rfl) h0
  have hE := env_of_laid hL
  clear hA0 hval0
  simp only [List.append_nil] at hW'
  refine (lawPrograms_any s W hE hE.size).mono ?_
  rintro e W' ⟨rfl, hB⟩
  refine ⟨_, rfl, _, _, _, [], [], [], hW', trodAll_mk1 (shut_bool Tryd.underlying4 true), trodAll_mk1 (shut_string Tryd.underlying9 hs), rfl, hB.frame _, fun h => by cases h⟩

theorem asmPrograms_holds : Rows.AsmProgramsSaid :=
  OpenClaim.holds_of_wide 5 Tryd.f5 rfl rfl rfl rfl rfl rfl rfl ⟨rfl, rfl, rfl, rfl, rfl⟩ rfl rfl rfl rfl rfl (by kernel_rfl) Tryd.func5 (by kernel_rfl)
    (of_decide_eq_true (by kernel_rfl)) (by unfold Func.isWrapper; first | (rw [if_pos (by decide +kernel)]; kernel_rfl) | (rw [if_neg (by decide +kernel)]; exact ⟨rfl, rfl⟩))
    (fun os started H enc _ => asmPrograms_lifted os started H enc)

theorem asmPrograms_card : Rows.AsmProgramsCardSaid :=
  Claim7.holds_tied_plain_at .later [] [.data, .data, .data] true (true, "379bb9740dcee708e54628b5f9eb815e8a3078b48da92db2e74f01d606b64738") false
    asmPrograms_holds (fun _ h => by cases h) (by kernel_rfl) (fun _ h => by cases h) asmPrograms_row_tie rfl ⟨rfl, rfl⟩ (by kernel_rfl) rfl
    (fun f fn hf hfn => by
      obtain rfl : f = 5 := Option.some.inj ((show Tryd.prog.funcNamed "mimesis/mimesislaw06.AsmPrograms" = some 5 by kernel_rfl).symm.trans hf) |>.symm
      obtain rfl : fn = Tryd.f5 := (Option.some.inj (Tryd.func5.symm.trans hfn)).symm
      exact ⟨by kernel_rfl, fun j t ht => by
        rw [Tryd.params5] at ht
        have h3 : t = 9 := by
          rcases j with _ | j
          · simpa using ht.symm
          · simp at ht
        subst h3
        exact (show Tryd.prog.wantsStandIn 9 = false by kernel_rfl)⟩)
    (by kernel_rfl)
#print axioms asmPrograms_card
end Go.Proofs.YtceelkmedfoefaaDoor

