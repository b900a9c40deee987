import Derived.Test.YtceelkmedfoefaaDoorA3
import Derived.Test.YtceelkmedfoefaaDoorShelf
import Derived.Laws.Bits64
set_option linter.unusedVariables false
set_option linter.unusedSimpArgs false
namespace Go.Proofs.YtceelkmedfoefaaDoor
open Go.RowKit

/-- What strings.CutPrefix hands back. -/
structure CutP (l p : Bytes) (t : ByteArray) (b : Bool) : Prop where
  rest : bs t = Lib.trimPrefix l p
  has : b = Lib.hasPrefix l p
theorem cutPrefix_any (s p : ByteArray) (w : World) (q : Bytes) (hp : p.data.toList = q) :
    Calls Tryd.prog 23 #[.string s, .string p] w fun e w' => ∃ t b, CutP (bs s) q t b ∧ e = .returned (.tuple #[.string t, .bool b]) ∧ w = w' :=
  (Tryd.strings_CutPrefix s p w).mono fun e w' h => ⟨_, _, ⟨by simp [bs, hp], by rw [hp]; rfl⟩, h.1, h.2.symm⟩
theorem bs_size_le {t : ByteArray} {n : Nat} (h : t.size ≤ n) : (bs t).length ≤ n := by rw [bs_length]; exact h

theorem decOk_range (l : Bytes) (h : decOk l = true) : allDig l = true ∧ 1 ≤ l.length ∧ l.length ≤ 10 := by
  simpa [decOk, and_assoc] using h
theorem magn_false {t h : ByteArray} (hc : CutP (bs t) [48, 120] h false) : magn (bs t) = if decOk (bs t) = true then some (decV (bs t)) else none := by
  unfold magn
  rw [← hc.has, if_neg (by simp)]
  by_cases e : decOk (bs t) = true
  · rw [if_pos e, if_pos (decOk_range _ e)]; simp [decV, (decOk_range _ e).1]
  · rw [if_neg e, if_neg (fun h => e (by simp [decOk, h.1, h.2.1, h.2.2]))]
theorem magn_true {t h : ByteArray} (hc : CutP (bs t) [48, 120] h true) : magn (bs t) = if hexOk (bs h) = true then some (hexV (bs h)) else none := by
  have e : bs h = (bs t).drop 2 := by rw [hc.rest, Lib.trimPrefix, ← hc.has, if_pos rfl]; rfl
  unfold magn
  rw [← hc.has, if_pos rfl, ← e]
  by_cases e : hexOk (bs h) = true
  · rw [if_pos e, if_pos e]; simp [hexV, e]
  · rw [if_neg e, if_neg e]
section
variable {s t : ByteArray} {less : Bool} (hc : CutP (bs s) [45] t less) (hl : t.size ≤ 10)
include hc hl
theorem num_none (hm : magn (bs t) = none) : numOf (bs s) = none := by
  unfold numOf; rw [← hc.rest, if_neg (by rw [bs_length]; omega), hm]
theorem num_big {n : Int} (hm : magn (bs t) = some n) (h : 4294967295 < n) : numOf (bs s) = none := by
  unfold numOf; rw [← hc.rest, if_neg (by rw [bs_length]; omega), hm]; simp only []; rw [if_pos (.inl h)]
theorem num_neg_big {n : Int} (hm : magn (bs t) = some n) (hb : less = true) (h : 2147483648 < n) : numOf (bs s) = none := by
  unfold numOf; rw [← hc.rest, if_neg (by rw [bs_length]; omega), hm]; simp only []; rw [if_pos (.inr ⟨by rw [← hc.has, hb], h⟩)]
theorem num_neg {n : Int} (hm : magn (bs t) = some n) (hb : less = true) (h : n ≤ 2147483648) : numOf (bs s) = some ((4294967296 - n) % 4294967296) := by
  unfold numOf; rw [← hc.rest, if_neg (by rw [bs_length]; omega), hm]; simp only []
  rw [← hc.has, hb, if_neg (by simp; omega), if_pos rfl]
theorem num_pos {n : Int} (hm : magn (bs t) = some n) (hb : less = false) (h : n ≤ 4294967295) : numOf (bs s) = some n := by
  unfold numOf; rw [← hc.rest, if_neg (by rw [bs_length]; omega), hm]; simp only []
  rw [← hc.has, hb, if_neg (by simp; omega), if_neg (by simp)]
end
theorem decV_range (l : Bytes) (hl : l.length ≤ 10) : 0 ≤ decV l ∧ decV l < 10000000000 := by
  unfold decV; split
  · exact dval_lt l ‹_› hl
  · omega
theorem hexV_range (l : Bytes) : 0 ≤ hexV l ∧ hexV l < 4294967296 := by
  unfold hexV; split
  · rename_i h
    have h2 : (1 ≤ l.length ∧ l.length ≤ 8) ∧ allHex l = true := by simpa [hexOk] using h
    exact hval_lt8 l h2.2 h2.1.2
  · omega
theorem wrap_neg (n : Int) : IntKind.u64.wrap (-n) % 4294967296 = (4294967296 - n) % 4294967296 := by
  rw [IntKind.wrap_u64]; omega
theorem hexE_zero (l : Bytes) : (hexE l == 0) = hexOk l := by unfold hexE; cases hexOk l <;> rfl

set_option maxHeartbeats 1000000 in
theorem number_any (s : ByteArray) (w : World) :
    Calls Tryd.prog 11 #[.string s] w fun e w' => e = .returned (.tuple #[.int .u32 (numV (bs s)), .int .i64 (numE (bs s))]) ∧ w = w' := by
  go_enter Tryd.func11, Tryd.ntmps11
  go_wp2_with fail
  refine (cutPrefix_any _ _ _ [45] (by rfl)).mono ?_
  rintro e w' ⟨t, less, hcut, rfl, rfl⟩
  by_cases hlong : 10 < t.size
  · have hl2 : decide (10 < (t.size : Int)) = true := by simp; omega
    go_wp2_with fail
    have HX : numOf (bs s) = none := by unfold numOf; rw [if_pos (by rw [← hcut.rest, bs_length]; exact hlong)]
    go_ret2
    exact ⟨ret_pair (by simp [numV, HX]) (by simp [numE, HX]), rfl⟩
  have hl2 : decide (10 < (t.size : Int)) = false := by simp; omega
  have hl3 : Hd (t.size ≤ 10) := ⟨by omega⟩
  have hd := decV_range (bs t) (by rw [bs_length]; omega)
  obtain ⟨hd1, hd2⟩ := hd
  go_wp2_with fail
  refine (decimal_any _ _ (by omega)).mono ?_
  rintro e w' ⟨rfl, rfl⟩
  go_wp2_with fail
  refine (cutPrefix_any _ _ _ [48, 120] (by rfl)).mono ?_
  rintro e w' ⟨h, is, hcut2, rfl, rfl⟩
  cases is
  · have HM := Hd.mk (magn_false hcut2)
    cases less
    · go_wp2_with fail
      · have h1 : decOk (bs t) = true := by assumption
        have hm : magn (bs t) = some (decV (bs t)) := by rw [HM.out, if_pos h1]
        have HX := num_pos hcut hl3.out hm rfl (by omega)
        go_ret2
        exact ⟨ret_pair (by simp [numV, HX]) (by simp [numE, HX]), rfl⟩
      · have h1 : decOk (bs t) = true := by assumption
        have hm : magn (bs t) = some (decV (bs t)) := by rw [HM.out, if_pos h1]
        have HX := num_big hcut hl3.out hm (by omega)
        go_ret2
        exact ⟨ret_pair (by simp [numV, HX]) (by simp [numE, HX]), rfl⟩
      · have h1 : ¬ decOk (bs t) = true := by assumption
        have HX := num_none hcut hl3.out (by rw [HM.out, if_neg h1])
        go_ret2
        exact ⟨ret_pair (by simp [numV, HX]) (by simp [numE, HX]), rfl⟩
    · go_wp2_with fail
      · have h1 : decOk (bs t) = true := by assumption
        have hm : magn (bs t) = some (decV (bs t)) := by rw [HM.out, if_pos h1]
        have HX := num_neg_big hcut hl3.out hm rfl (by omega)
        go_ret2
        exact ⟨ret_pair (by simp [numV, HX]) (by simp [numE, HX]), rfl⟩
      · have h1 : decOk (bs t) = true := by assumption
        have hm : magn (bs t) = some (decV (bs t)) := by rw [HM.out, if_pos h1]
        have HX := num_neg hcut hl3.out hm rfl (by omega)
        go_ret2
        exact ⟨ret_pair (by simp only [numV, HX, Option.getD_some]; exact congrArg (Value.int .u32) (wrap_neg _)) (by simp [numE, HX]), rfl⟩
      · have h1 : decOk (bs t) = true := by assumption
        have hm : magn (bs t) = some (decV (bs t)) := by rw [HM.out, if_pos h1]
        have HX := num_big hcut hl3.out hm (by omega)
        go_ret2
        exact ⟨ret_pair (by simp [numV, HX]) (by simp [numE, HX]), rfl⟩
      · have h1 : ¬ decOk (bs t) = true := by assumption
        have HX := num_none hcut hl3.out (by rw [HM.out, if_neg h1])
        go_ret2
        exact ⟨ret_pair (by simp [numV, HX]) (by simp [numE, HX]), rfl⟩
  · have HM := Hd.mk (magn_true hcut2)
    have hv := hexV_range (bs h)
    obtain ⟨hv1, hv2⟩ := hv
    have hsz : h.size ≤ 9223372036854775807 := by
      have e : bs h = (bs t).drop 2 := by rw [hcut2.rest, Lib.trimPrefix, ← hcut2.has, if_pos rfl]; rfl
      have e2 := congrArg List.length e
      rw [bs_length, List.length_drop, bs_length] at e2
      omega
    cases less
    · go_wp2_with fail
      refine (unhex_any _ _ hsz).mono ?_
      rintro e w' ⟨rfl, rfl⟩
      cases hk : hexOk (bs h)
      · have hk2 : (hexE (bs h) == 0) = false := (hexE_zero (bs h)).trans hk
        have HK := Hd.mk hk
        clear hk
        go_wp2_with fail
        have HX := num_none hcut hl3.out (by rw [HM.out, HK.out, if_neg (by simp)])
        go_ret2
        exact ⟨ret_pair (by simp [numV, HX]) (by simp [numE, HX]), rfl⟩
      · have hk2 : (hexE (bs h) == 0) = true := (hexE_zero (bs h)).trans hk
        have HK := Hd.mk hk
        clear hk
        go_wp2_with fail
        have HX := num_pos hcut hl3.out (by rw [HM.out, HK.out, if_pos rfl]) rfl (by omega)
        go_ret2
        exact ⟨ret_pair (by simp [numV, HX]) (by simp [numE, HX]), rfl⟩
    · go_wp2_with fail
      refine (unhex_any _ _ hsz).mono ?_
      rintro e w' ⟨rfl, rfl⟩
      cases hk : hexOk (bs h)
      · have hk2 : (hexE (bs h) == 0) = false := (hexE_zero (bs h)).trans hk
        have HK := Hd.mk hk
        clear hk
        go_wp2_with fail
        have HX := num_none hcut hl3.out (by rw [HM.out, HK.out, if_neg (by simp)])
        go_ret2
        exact ⟨ret_pair (by simp [numV, HX]) (by simp [numE, HX]), rfl⟩
      · have hk2 : (hexE (bs h) == 0) = true := (hexE_zero (bs h)).trans hk
        have HK := Hd.mk hk
        clear hk
        go_wp2_with fail
        · have HX := num_neg_big hcut hl3.out (by rw [HM.out, HK.out, if_pos rfl]) rfl (by omega)
          go_ret2
          exact ⟨ret_pair (by simp [numV, HX]) (by simp [numE, HX]), rfl⟩
        · have HX := num_neg hcut hl3.out (by rw [HM.out, HK.out, if_pos rfl]) rfl (by omega)
          go_ret2
          exact ⟨ret_pair (by simp only [numV, HX, Option.getD_some]; exact congrArg (Value.int .u32) (wrap_neg _)) (by simp [numE, HX]), rfl⟩

theorem magn_range (t : Bytes) (n : Int) (h : magn t = some n) : 0 ≤ n := by
  unfold magn at h
  split at h
  · split at h
    · rename_i h1 h2
      cases h
      have h3 := hexV_range (t.drop 2)
      simp only [hexV, h2, if_true] at h3
      exact h3.1
    · cases h
  · split at h
    · rename_i h2
      cases h
      exact (dval_lt t h2.1 h2.2.2).1
    · cases h
theorem numV_range (l : Bytes) : 0 ≤ numV l ∧ numV l < 4294967296 := by
  unfold numV numOf
  split
  · simp
  · cases hm : magn (Lib.trimPrefix l [45]) with
    | none => simp
    | some n =>
      have h0 := magn_range _ _ hm
      simp only []
      split
      · simp
      · rename_i hc
        simp only [Option.getD_some]
        split <;> omega

end Go.Proofs.YtceelkmedfoefaaDoor
