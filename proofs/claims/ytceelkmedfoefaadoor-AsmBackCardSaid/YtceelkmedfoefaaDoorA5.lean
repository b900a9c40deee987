import Derived.Test.YtceelkmedfoefaaDoorA4
import Derived.Lib.Strings
set_option linter.unusedVariables false
set_option linter.unusedSimpArgs false
namespace Go.Proofs.YtceelkmedfoefaaDoor
open Go.RowKit

theorem bs_cons (s : ByteArray) (h : 0 < s.size) : bs s = s[0] :: (bs s).drop 1 := by
  unfold bs
  conv => lhs; rw [← List.drop_zero (l := s.data.toList), List.drop_eq_getElem_cons (by simpa using h)]
  rfl
theorem bs_cons2 (s : ByteArray) (h : 1 < s.size) : bs s = s[0] :: s[1] :: (bs s).drop 2 := by
  rw [bs_cons s (by omega)]
  congr 1
  unfold bs
  rw [List.drop_eq_getElem_cons (by simpa using h)]
  rfl
theorem bs_extract (s : ByteArray) (a b : Nat) : bs (s.extract a b) = ((bs s).take b).drop a := by
  unfold bs
  rw [ByteArray.data_extract]; simp [List.drop_take]
theorem bs_from (s : ByteArray) (a : Nat) : bs (s.extract a s.size) = (bs s).drop a := by
  rw [bs_extract, List.take_of_length_le (by rw [bs_length]; omega)]
theorem byte_eq {c : UInt8} {n : Nat} (hn : n < 256) : ((c.toNat : Int) = (n : Int)) ↔ c = UInt8.ofNat n := by
  constructor
  · intro h
    have : c.toNat = n := by omega
    rw [← this]; simp
  · rintro rfl
    simp [Nat.mod_eq_of_lt hn]
theorem pre45_yes (s : ByteArray) (h : 0 < s.size) (hc : (s[0].toNat : Int) = 45) : Lib.hasPrefix (bs s) [45] = true := by
  rw [bs_cons s h, (byte_eq (n := 45) (by omega)).1 hc]; rfl
theorem pre45_no (s : ByteArray) (h : 0 < s.size) (hc : ¬ (s[0].toNat : Int) = 45) : Lib.hasPrefix (bs s) [45] = false := by
  rw [bs_cons s h]
  have : ¬ s[0] = 45 := fun e => hc ((byte_eq (n := 45) (by omega)).2 e)
  simp [Lib.hasPrefix, List.isPrefixOf]; exact fun e => this e.symm
theorem pre45_nil (s : ByteArray) (h : s.size = 0) : Lib.hasPrefix (bs s) [45] = false := by
  have : bs s = [] := List.eq_nil_of_length_eq_zero (by rw [bs_length]; exact h)
  rw [this]; rfl
theorem cutp_yes (s : ByteArray) (h : 0 < s.size) (hc : (s[0].toNat : Int) = 45) : CutP (bs s) [45] (s.extract 1 s.size) true :=
  ⟨by rw [Lib.trimPrefix, pre45_yes s h hc, if_pos rfl, bs_from]; rfl, (pre45_yes s h hc).symm⟩
theorem cutp_no (s : ByteArray) (h : Lib.hasPrefix (bs s) [45] = false) : CutP (bs s) [45] s false :=
  ⟨by rw [Lib.trimPrefix, h, if_neg (by simp)], h.symm⟩

/-- The magnitude of the reference: -1 for none. -/
def rmag (hexa : Bool) (l : Bytes) : Int := if hexa = true then (if hexOk (l.drop 2) = true then hexV (l.drop 2) else -1) else digitsV l
def hexPre (l : Bytes) : Bool := decide (2 < l.length) && Lib.hasPrefix l [48, 120]
theorem hexPre_yes (s : ByteArray) (h : 2 < s.size) (hc : (s[0].toNat : Int) = 48) (hd : (s[1].toNat : Int) = 120) : hexPre (bs s) = true := by
  unfold hexPre
  rw [bs_length]
  rw [bs_cons2 s (by omega), (byte_eq (n := 48) (by omega)).1 hc, (byte_eq (n := 120) (by omega)).1 hd]
  simp [Lib.hasPrefix, List.isPrefixOf, h]
theorem hexPre_short (s : ByteArray) (h : ¬ 2 < s.size) : hexPre (bs s) = false := by
  unfold hexPre; rw [bs_length]; simp [h]
theorem hexPre_no0 (s : ByteArray) (h : 2 < s.size) (hc : ¬ (s[0].toNat : Int) = 48) : hexPre (bs s) = false := by
  unfold hexPre
  rw [bs_cons2 s (by omega)]
  have : ¬ s[0] = 48 := fun e => hc ((byte_eq (n := 48) (by omega)).2 e)
  simp [Lib.hasPrefix, List.isPrefixOf]; exact fun _ e => absurd e.symm this
theorem hexPre_no1 (s : ByteArray) (h : 2 < s.size) (hc : ¬ (s[1].toNat : Int) = 120) : hexPre (bs s) = false := by
  unfold hexPre
  rw [bs_cons2 s (by omega)]
  have : ¬ s[1] = 120 := fun e => hc ((byte_eq (n := 120) (by omega)).2 e)
  simp [Lib.hasPrefix, List.isPrefixOf]; exact fun _ _ e => absurd e.symm this
theorem rmag_magn (l : Bytes) : (l.length ≤ 10 ∧ 0 ≤ rmag (hexPre l) l ∧ magn l = some (rmag (hexPre l) l)) ∨ (rmag (hexPre l) l = -1 ∧ (10 < l.length ∨ magn l = none)) := by
  unfold rmag hexPre magn
  by_cases hp : Lib.hasPrefix l [48, 120] = true
  · rw [hp]
    by_cases h2 : 2 < l.length
    · simp only [h2, decide_true, Bool.and_self, if_true]
      by_cases hh : hexOk (l.drop 2) = true
      · have h3 : 1 ≤ (l.drop 2).length ∧ (l.drop 2).length ≤ 8 := by
          have : (1 ≤ (l.drop 2).length ∧ (l.drop 2).length ≤ 8) ∧ allHex (l.drop 2) = true := by simpa only [hexOk, Bool.and_eq_true, decide_eq_true_eq] using hh
          exact this.1
        rw [List.length_drop] at h3
        have := hexV_range (l.drop 2)
        exact .inl ⟨by omega, by rw [if_pos hh]; exact this.1, by rw [if_pos hh, if_pos hh]; simp [hexV, hh]⟩
      · exact .inr ⟨by rw [if_neg hh], .inr (by rw [if_neg hh])⟩
    · have h3 : hexOk (l.drop 2) = false := by
        have : l.drop 2 = [] := List.drop_eq_nil_of_le (by omega)
        rw [this]; rfl
      refine .inr ⟨?_, .inr (by rw [if_pos rfl, h3]; rfl)⟩
      simp only [h2, decide_false, Bool.false_and]
      rw [if_neg (by simp)]
      unfold digitsV
      rw [if_neg]
      rintro ⟨ha, _⟩
      have e : ∃ r, l = 48 :: 120 :: r := by
        have : [48, 120] <+: l := List.isPrefixOf_iff_prefix.1 hp
        obtain ⟨r, rfl⟩ := this
        exact ⟨r, rfl⟩
      obtain ⟨r, rfl⟩ := e
      simp [allDig, isDig] at ha
  · have hp2 : Lib.hasPrefix l [48, 120] = false := by simpa using hp
    rw [hp2]
    simp only [Bool.and_false]
    rw [if_neg (by simp), if_neg (by simp)]
    unfold digitsV
    by_cases hd : allDig l = true ∧ 1 ≤ l.length ∧ l.length ≤ 10
    · rw [if_pos hd, if_pos hd]
      exact .inl ⟨hd.2.2, (dval_lt l hd.1 hd.2.2).1, rfl⟩
    · rw [if_neg hd, if_neg hd]
      exact .inr ⟨rfl, .inr rfl⟩
section
variable {s t : ByteArray} {less : Bool} (hc : CutP (bs s) [45] t less)
include hc
theorem rnum_neg (h : rmag (hexPre (bs t)) (bs t) < 0) : numOf (bs s) = none := by
  rcases rmag_magn (bs t) with h1 | ⟨_, h2 | h2⟩
  · omega
  · unfold numOf; rw [← hc.rest, if_pos h2]
  · by_cases hl : t.size ≤ 10
    · exact num_none hc hl h2
    · unfold numOf; rw [← hc.rest, if_pos (by rw [bs_length]; omega)]
end
theorem rnum_get {t : ByteArray} (h : 0 ≤ rmag (hexPre (bs t)) (bs t)) : t.size ≤ 10 ∧ magn (bs t) = some (rmag (hexPre (bs t)) (bs t)) := by
  rcases rmag_magn (bs t) with h1 | ⟨h1, _⟩
  · exact ⟨by have := h1.1; rwa [bs_length] at this, h1.2.2⟩
  · omega
theorem rmag_range (l : Bytes) (b : Bool) : -1 ≤ rmag b l ∧ rmag b l < 10000000000 := by
  unfold rmag
  split
  · split
    · have := hexV_range (l.drop 2); omega
    · omega
  · unfold digitsV
    split
    · rename_i h
      have := dval_lt l h.1 h.2.2; omega
    · omega

set_option maxHeartbeats 400000 in
theorem word_any (n : Int) (w : World) (h0 : -9223372036854775808 ≤ n) (h1 : n ≤ 9223372036854775807) :
    Calls Tryd.prog 28 #[.int .i64 n] w fun e w' => e = .returned (.int .u32 (n % 4294967296)) ∧ w = w' := by
  go_enter Tryd.func28, Tryd.ntmps28
  go_wp2
  go_ret
  exact ⟨ret_int (by simp only [IntKind.wrap_u64, IntKind.wrap_u32', tmod_of_emod]; omega), rfl⟩

set_option maxHeartbeats 4000000 in
theorem rnumber_less (s : ByteArray) (w : World) (hs : s.size ≤ 9223372036854775807) (hz : 0 < s.size) (h45 : (s[0].toNat : Int) = 45) :
    Calls Tryd.prog 12 #[.string s] w fun e w' => e = .returned (.tuple #[.int .u32 (numV (bs s)), .bool (numOk (bs s))]) ∧ w = w' := by
  have hcut := cutp_yes s hz h45
  have hb : ((s[0].toNat : Int) == 45) = true := beq_iff_eq.2 h45
  clear h45
  go_enter Tryd.func12, Tryd.ntmps12
  go_wp2_with fail
  have hts : (s.extract 1 s.size).size ≤ 9223372036854775807 := by simp; omega
  generalize s.extract 1 s.size = t at hcut hts ⊢
  refine (digits_any _ _ (by omega)).mono ?_
  rintro e w' ⟨rfl, rfl⟩
  have hdr : -1 ≤ digitsV (bs t) ∧ digitsV (bs t) < 10000000000 := rmag_range (bs t) false
  obtain ⟨hdr1, hdr2⟩ := hdr
  by_cases h2 : 2 < t.size
  · by_cases h48 : (t[0].toNat : Int) = 48
    · by_cases h120 : (t[1].toNat : Int) = 120
      · have HP := Hd.mk (hexPre_yes t h2 h48 h120)
        have b0 : ((t[0].toNat : Int) == 48) = true := beq_iff_eq.2 h48
        have b1 : ((t[1].toNat : Int) == 120) = true := beq_iff_eq.2 h120
        clear h48 h120
        go_wp2_with fail
        refine (runhex_any _ _ (by simp; omega)).mono ?_
        rw [bs_from]
        rintro e w' ⟨rfl, rfl⟩
        have hxr := hexV_range ((bs t).drop 2)
        obtain ⟨hxr1, hxr2⟩ := hxr
        cases hk : hexOk ((bs t).drop 2)
        · have HM : Hd (rmag (hexPre (bs t)) (bs t) = -1) := ⟨by rw [HP.out, rmag, if_pos rfl, hk]; rfl⟩
          clear hk
          go_wp2_with (go_at_call 28; refine (word_any _ _ (by omega) (by omega)).mono ?_; rintro e w' ⟨rfl, rfl⟩)
          all_goals
            have hA := rmag_range (bs t) (hexPre (bs t))
            go_ret2
            first
              | (have HX := rnum_neg hcut (by rw [HM.out]; omega); exact ⟨ret_pair (by simp [numV, HX]) (by simp [numOk, HX]), rfl⟩)
              | (have HG := rnum_get (t := t) (by rw [HM.out]; omega); have HX := num_big hcut HG.1 HG.2 (by rw [HM.out]; omega); exact ⟨ret_pair (by simp [numV, HX]) (by simp [numOk, HX]), rfl⟩)
              | (have HG := rnum_get (t := t) (by rw [HM.out]; omega); have HX := num_neg_big hcut HG.1 HG.2 rfl (by rw [HM.out]; omega); exact ⟨ret_pair (by simp [numV, HX]) (by simp [numOk, HX]), rfl⟩)
              | (have HG := rnum_get (t := t) (by rw [HM.out]; omega); have HX := num_neg hcut HG.1 HG.2 rfl (by rw [HM.out]; omega); exact ⟨ret_pair (congrArg (Value.int .u32) (by rw [numV, HX, Option.getD_some, HM.out]; omega)) (by simp [numOk, HX]), rfl⟩)
        · have HM : Hd (rmag (hexPre (bs t)) (bs t) = hexV ((bs t).drop 2)) := ⟨by rw [HP.out, rmag, if_pos rfl, hk, if_pos rfl]⟩
          clear hk
          go_wp2_with (go_at_call 28; refine (word_any _ _ (by omega) (by omega)).mono ?_; rintro e w' ⟨rfl, rfl⟩)
          all_goals
            have hA := rmag_range (bs t) (hexPre (bs t))
            go_ret2
            first
              | (have HX := rnum_neg hcut (by rw [HM.out]; omega); exact ⟨ret_pair (by simp [numV, HX]) (by simp [numOk, HX]), rfl⟩)
              | (have HG := rnum_get (t := t) (by rw [HM.out]; omega); have HX := num_big hcut HG.1 HG.2 (by rw [HM.out]; omega); exact ⟨ret_pair (by simp [numV, HX]) (by simp [numOk, HX]), rfl⟩)
              | (have HG := rnum_get (t := t) (by rw [HM.out]; omega); have HX := num_neg_big hcut HG.1 HG.2 rfl (by rw [HM.out]; omega); exact ⟨ret_pair (by simp [numV, HX]) (by simp [numOk, HX]), rfl⟩)
              | (have HG := rnum_get (t := t) (by rw [HM.out]; omega); have HX := num_neg hcut HG.1 HG.2 rfl (by rw [HM.out]; omega); exact ⟨ret_pair (congrArg (Value.int .u32) (by rw [numV, HX, Option.getD_some, HM.out]; omega)) (by simp [numOk, HX]), rfl⟩)
      · have HP := Hd.mk (hexPre_no1 t h2 h120)
        have b0 : ((t[0].toNat : Int) == 48) = true := beq_iff_eq.2 h48
        have b1 : ((t[1].toNat : Int) == 120) = false := beq_eq_false_iff_ne.2 h120
        have HM : Hd (rmag (hexPre (bs t)) (bs t) = digitsV (bs t)) := ⟨by rw [HP.out, rmag, if_neg (by simp)]⟩
        clear h48 h120
        go_wp2_with (go_at_call 28; refine (word_any _ _ (by omega) (by omega)).mono ?_; rintro e w' ⟨rfl, rfl⟩)
        all_goals
          have hA := rmag_range (bs t) (hexPre (bs t))
          go_ret2
          first
            | (have HX := rnum_neg hcut (by rw [HM.out]; omega); exact ⟨ret_pair (by simp [numV, HX]) (by simp [numOk, HX]), rfl⟩)
            | (have HG := rnum_get (t := t) (by rw [HM.out]; omega); have HX := num_big hcut HG.1 HG.2 (by rw [HM.out]; omega); exact ⟨ret_pair (by simp [numV, HX]) (by simp [numOk, HX]), rfl⟩)
            | (have HG := rnum_get (t := t) (by rw [HM.out]; omega); have HX := num_neg_big hcut HG.1 HG.2 rfl (by rw [HM.out]; omega); exact ⟨ret_pair (by simp [numV, HX]) (by simp [numOk, HX]), rfl⟩)
            | (have HG := rnum_get (t := t) (by rw [HM.out]; omega); have HX := num_neg hcut HG.1 HG.2 rfl (by rw [HM.out]; omega); exact ⟨ret_pair (congrArg (Value.int .u32) (by rw [numV, HX, Option.getD_some, HM.out]; omega)) (by simp [numOk, HX]), rfl⟩)
    · have HP := Hd.mk (hexPre_no0 t h2 h48)
      have b0 : ((t[0].toNat : Int) == 48) = false := beq_eq_false_iff_ne.2 h48
      have HM : Hd (rmag (hexPre (bs t)) (bs t) = digitsV (bs t)) := ⟨by rw [HP.out, rmag, if_neg (by simp)]⟩
      clear h48
      go_wp2_with (go_at_call 28; refine (word_any _ _ (by omega) (by omega)).mono ?_; rintro e w' ⟨rfl, rfl⟩)
      all_goals
        have hA := rmag_range (bs t) (hexPre (bs t))
        go_ret2
        first
          | (have HX := rnum_neg hcut (by rw [HM.out]; omega); exact ⟨ret_pair (by simp [numV, HX]) (by simp [numOk, HX]), rfl⟩)
          | (have HG := rnum_get (t := t) (by rw [HM.out]; omega); have HX := num_big hcut HG.1 HG.2 (by rw [HM.out]; omega); exact ⟨ret_pair (by simp [numV, HX]) (by simp [numOk, HX]), rfl⟩)
          | (have HG := rnum_get (t := t) (by rw [HM.out]; omega); have HX := num_neg_big hcut HG.1 HG.2 rfl (by rw [HM.out]; omega); exact ⟨ret_pair (by simp [numV, HX]) (by simp [numOk, HX]), rfl⟩)
          | (have HG := rnum_get (t := t) (by rw [HM.out]; omega); have HX := num_neg hcut HG.1 HG.2 rfl (by rw [HM.out]; omega); exact ⟨ret_pair (congrArg (Value.int .u32) (by rw [numV, HX, Option.getD_some, HM.out]; omega)) (by simp [numOk, HX]), rfl⟩)
  · have HP := Hd.mk (hexPre_short t h2)
    have HM : Hd (rmag (hexPre (bs t)) (bs t) = digitsV (bs t)) := ⟨by rw [HP.out, rmag, if_neg (by simp)]⟩
    go_wp2_with (go_at_call 28; refine (word_any _ _ (by omega) (by omega)).mono ?_; rintro e w' ⟨rfl, rfl⟩)
    all_goals
      have hA := rmag_range (bs t) (hexPre (bs t))
      go_ret2
      first
        | (have HX := rnum_neg hcut (by rw [HM.out]; omega); exact ⟨ret_pair (by simp [numV, HX]) (by simp [numOk, HX]), rfl⟩)
        | (have HG := rnum_get (t := t) (by rw [HM.out]; omega); have HX := num_big hcut HG.1 HG.2 (by rw [HM.out]; omega); exact ⟨ret_pair (by simp [numV, HX]) (by simp [numOk, HX]), rfl⟩)
        | (have HG := rnum_get (t := t) (by rw [HM.out]; omega); have HX := num_neg_big hcut HG.1 HG.2 rfl (by rw [HM.out]; omega); exact ⟨ret_pair (by simp [numV, HX]) (by simp [numOk, HX]), rfl⟩)
        | (have HG := rnum_get (t := t) (by rw [HM.out]; omega); have HX := num_neg hcut HG.1 HG.2 rfl (by rw [HM.out]; omega); exact ⟨ret_pair (congrArg (Value.int .u32) (by rw [numV, HX, Option.getD_some, HM.out]; omega)) (by simp [numOk, HX]), rfl⟩)

set_option maxHeartbeats 4000000 in
theorem rnumber_no (s : ByteArray) (w : World) (hs : s.size ≤ 9223372036854775807) (hcut : CutP (bs s) [45] s false) (hb : 0 < s.size → ∀ h : 0 < s.size, (((s[0]'h).toNat : Int) == 45) = false) :
    Calls Tryd.prog 12 #[.string s] w fun e w' => e = .returned (.tuple #[.int .u32 (numV (bs s)), .bool (numOk (bs s))]) ∧ w = w' := by
  by_cases hz : 0 < s.size
  · have hb2 := hb hz hz
    clear hb
    go_enter Tryd.func12, Tryd.ntmps12
    go_wp2_with fail
    refine (digits_any _ _ (by omega)).mono ?_
    rintro e w' ⟨rfl, rfl⟩
    have hdr : -1 ≤ digitsV (bs s) ∧ digitsV (bs s) < 10000000000 := rmag_range (bs s) false
    obtain ⟨hdr1, hdr2⟩ := hdr
    by_cases h2 : 2 < s.size
    · by_cases h48 : (s[0].toNat : Int) = 48
      · by_cases h120 : (s[1].toNat : Int) = 120
        · have HP := Hd.mk (hexPre_yes s h2 h48 h120)
          have b0 : ((s[0].toNat : Int) == 48) = true := beq_iff_eq.2 h48
          have b1 : ((s[1].toNat : Int) == 120) = true := beq_iff_eq.2 h120
          clear h48 h120
          go_wp2_with fail
          refine (runhex_any _ _ (by simp; omega)).mono ?_
          rw [bs_from]
          rintro e w' ⟨rfl, rfl⟩
          have hxr := hexV_range ((bs s).drop 2)
          obtain ⟨hxr1, hxr2⟩ := hxr
          cases hk : hexOk ((bs s).drop 2)
          · have HM : Hd (rmag (hexPre (bs s)) (bs s) = -1) := ⟨by rw [HP.out, rmag, if_pos rfl, hk]; rfl⟩
            clear hk
            go_wp2_with (go_at_call 28; refine (word_any _ _ (by omega) (by omega)).mono ?_; rintro e w' ⟨rfl, rfl⟩)
            all_goals
              have hA := rmag_range (bs s) (hexPre (bs s))
              go_ret2
              first
                | (have HX := rnum_neg hcut (by rw [HM.out]; omega); exact ⟨ret_pair (by simp [numV, HX]) (by simp [numOk, HX]), rfl⟩)
                | (have HG := rnum_get (t := s) (by rw [HM.out]; omega); have HX := num_big hcut HG.1 HG.2 (by rw [HM.out]; omega); exact ⟨ret_pair (by simp [numV, HX]) (by simp [numOk, HX]), rfl⟩)
                | (have HG := rnum_get (t := s) (by rw [HM.out]; omega); have HX := num_pos hcut HG.1 HG.2 rfl (by rw [HM.out]; omega); exact ⟨ret_pair (congrArg (Value.int .u32) (by rw [numV, HX, Option.getD_some, HM.out]; omega)) (by simp [numOk, HX]), rfl⟩)
          · have HM : Hd (rmag (hexPre (bs s)) (bs s) = hexV ((bs s).drop 2)) := ⟨by rw [HP.out, rmag, if_pos rfl, hk, if_pos rfl]⟩
            clear hk
            go_wp2_with (go_at_call 28; refine (word_any _ _ (by omega) (by omega)).mono ?_; rintro e w' ⟨rfl, rfl⟩)
            all_goals
              have hA := rmag_range (bs s) (hexPre (bs s))
              go_ret2
              first
                | (have HX := rnum_neg hcut (by rw [HM.out]; omega); exact ⟨ret_pair (by simp [numV, HX]) (by simp [numOk, HX]), rfl⟩)
                | (have HG := rnum_get (t := s) (by rw [HM.out]; omega); have HX := num_big hcut HG.1 HG.2 (by rw [HM.out]; omega); exact ⟨ret_pair (by simp [numV, HX]) (by simp [numOk, HX]), rfl⟩)
                | (have HG := rnum_get (t := s) (by rw [HM.out]; omega); have HX := num_pos hcut HG.1 HG.2 rfl (by rw [HM.out]; omega); exact ⟨ret_pair (congrArg (Value.int .u32) (by rw [numV, HX, Option.getD_some, HM.out]; omega)) (by simp [numOk, HX]), rfl⟩)
        · have HP := Hd.mk (hexPre_no1 s h2 h120)
          have b0 : ((s[0].toNat : Int) == 48) = true := beq_iff_eq.2 h48
          have b1 : ((s[1].toNat : Int) == 120) = false := beq_eq_false_iff_ne.2 h120
          have HM : Hd (rmag (hexPre (bs s)) (bs s) = digitsV (bs s)) := ⟨by rw [HP.out, rmag, if_neg (by simp)]⟩
          clear h48 h120
          go_wp2_with (go_at_call 28; refine (word_any _ _ (by omega) (by omega)).mono ?_; rintro e w' ⟨rfl, rfl⟩)
          all_goals
            have hA := rmag_range (bs s) (hexPre (bs s))
            go_ret2
            first
              | (have HX := rnum_neg hcut (by rw [HM.out]; omega); exact ⟨ret_pair (by simp [numV, HX]) (by simp [numOk, HX]), rfl⟩)
              | (have HG := rnum_get (t := s) (by rw [HM.out]; omega); have HX := num_big hcut HG.1 HG.2 (by rw [HM.out]; omega); exact ⟨ret_pair (by simp [numV, HX]) (by simp [numOk, HX]), rfl⟩)
              | (have HG := rnum_get (t := s) (by rw [HM.out]; omega); have HX := num_pos hcut HG.1 HG.2 rfl (by rw [HM.out]; omega); exact ⟨ret_pair (congrArg (Value.int .u32) (by rw [numV, HX, Option.getD_some, HM.out]; omega)) (by simp [numOk, HX]), rfl⟩)
      · have HP := Hd.mk (hexPre_no0 s h2 h48)
        have b0 : ((s[0].toNat : Int) == 48) = false := beq_eq_false_iff_ne.2 h48
        have HM : Hd (rmag (hexPre (bs s)) (bs s) = digitsV (bs s)) := ⟨by rw [HP.out, rmag, if_neg (by simp)]⟩
        clear h48
        go_wp2_with (go_at_call 28; refine (word_any _ _ (by omega) (by omega)).mono ?_; rintro e w' ⟨rfl, rfl⟩)
        all_goals
          have hA := rmag_range (bs s) (hexPre (bs s))
          go_ret2
          first
            | (have HX := rnum_neg hcut (by rw [HM.out]; omega); exact ⟨ret_pair (by simp [numV, HX]) (by simp [numOk, HX]), rfl⟩)
            | (have HG := rnum_get (t := s) (by rw [HM.out]; omega); have HX := num_big hcut HG.1 HG.2 (by rw [HM.out]; omega); exact ⟨ret_pair (by simp [numV, HX]) (by simp [numOk, HX]), rfl⟩)
            | (have HG := rnum_get (t := s) (by rw [HM.out]; omega); have HX := num_pos hcut HG.1 HG.2 rfl (by rw [HM.out]; omega); exact ⟨ret_pair (congrArg (Value.int .u32) (by rw [numV, HX, Option.getD_some, HM.out]; omega)) (by simp [numOk, HX]), rfl⟩)
    · have HP := Hd.mk (hexPre_short s h2)
      have HM : Hd (rmag (hexPre (bs s)) (bs s) = digitsV (bs s)) := ⟨by rw [HP.out, rmag, if_neg (by simp)]⟩
      go_wp2_with (go_at_call 28; refine (word_any _ _ (by omega) (by omega)).mono ?_; rintro e w' ⟨rfl, rfl⟩)
      all_goals
        have hA := rmag_range (bs s) (hexPre (bs s))
        go_ret2
        first
          | (have HX := rnum_neg hcut (by rw [HM.out]; omega); exact ⟨ret_pair (by simp [numV, HX]) (by simp [numOk, HX]), rfl⟩)
          | (have HG := rnum_get (t := s) (by rw [HM.out]; omega); have HX := num_big hcut HG.1 HG.2 (by rw [HM.out]; omega); exact ⟨ret_pair (by simp [numV, HX]) (by simp [numOk, HX]), rfl⟩)
          | (have HG := rnum_get (t := s) (by rw [HM.out]; omega); have HX := num_pos hcut HG.1 HG.2 rfl (by rw [HM.out]; omega); exact ⟨ret_pair (congrArg (Value.int .u32) (by rw [numV, HX, Option.getD_some, HM.out]; omega)) (by simp [numOk, HX]), rfl⟩)
  · clear hb
    have h2 : ¬ 2 < s.size := by omega
    go_enter Tryd.func12, Tryd.ntmps12
    go_wp2_with fail
    refine (digits_any _ _ (by omega)).mono ?_
    rintro e w' ⟨rfl, rfl⟩
    have hdr : -1 ≤ digitsV (bs s) ∧ digitsV (bs s) < 10000000000 := rmag_range (bs s) false
    obtain ⟨hdr1, hdr2⟩ := hdr
    have HP := Hd.mk (hexPre_short s h2)
    have HM : Hd (rmag (hexPre (bs s)) (bs s) = digitsV (bs s)) := ⟨by rw [HP.out, rmag, if_neg (by simp)]⟩
    go_wp2_with (go_at_call 28; refine (word_any _ _ (by omega) (by omega)).mono ?_; rintro e w' ⟨rfl, rfl⟩)
    all_goals
      have hA := rmag_range (bs s) (hexPre (bs s))
      go_ret2
      first
        | (have HX := rnum_neg hcut (by rw [HM.out]; omega); exact ⟨ret_pair (by simp [numV, HX]) (by simp [numOk, HX]), rfl⟩)
        | (have HG := rnum_get (t := s) (by rw [HM.out]; omega); have HX := num_big hcut HG.1 HG.2 (by rw [HM.out]; omega); exact ⟨ret_pair (by simp [numV, HX]) (by simp [numOk, HX]), rfl⟩)
        | (have HG := rnum_get (t := s) (by rw [HM.out]; omega); have HX := num_pos hcut HG.1 HG.2 rfl (by rw [HM.out]; omega); exact ⟨ret_pair (congrArg (Value.int .u32) (by rw [numV, HX, Option.getD_some, HM.out]; omega)) (by simp [numOk, HX]), rfl⟩)

theorem rnumber_any (s : ByteArray) (w : World) (hs : s.size ≤ 9223372036854775807) :
    Calls Tryd.prog 12 #[.string s] w fun e w' => e = .returned (.tuple #[.int .u32 (numV (bs s)), .bool (numOk (bs s))]) ∧ w = w' := by
  by_cases hz : 0 < s.size
  · by_cases h45 : (s[0].toNat : Int) = 45
    · exact rnumber_less s w hs hz h45
    · exact rnumber_no s w hs (cutp_no s (pre45_no s hz h45)) (fun _ _ => beq_eq_false_iff_ne.2 h45)
  · exact rnumber_no s w hs (cutp_no s (pre45_nil s (by omega))) (fun h => absurd h hz)

end Go.Proofs.YtceelkmedfoefaaDoor
