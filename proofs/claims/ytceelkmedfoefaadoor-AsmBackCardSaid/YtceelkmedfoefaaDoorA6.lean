import Derived.Test.YtceelkmedfoefaaDoorA5
set_option linter.unusedVariables false
set_option linter.unusedSimpArgs false
namespace Go.Proofs.YtceelkmedfoefaaDoor
open Go.RowKit

/-- A register's shape: x, one or two signs, no 0 ahead of another one. -/
def regShape (l : Bytes) : Bool := Lib.hasPrefix l [120] && decide ((l.drop 1).length ≤ 2) && !(decide ((l.drop 1).length = 2) && decide ((l.drop 1).head? = some 48))
def regV (l : Bytes) : Int := if regShape l = true then decV (l.drop 1) else 0
def regOk (l : Bytes) : Bool := regShape l && decOk (l.drop 1) && decide (decV (l.drop 1) ≤ 31)
def regI (l : Bytes) : Int := if regOk l = true then regV l else -1
def nameB (l : Bytes) : Bool := match l with
  | [] => false
  | c :: _ => decide ((97 ≤ (c.toNat : Int) ∧ (c.toNat : Int) ≤ 122) ∨ (65 ≤ (c.toNat : Int) ∧ (c.toNat : Int) ≤ 90) ∨ (c.toNat : Int) = 95)

theorem head_bs (s : ByteArray) (h : 0 < s.size) : (bs s).head? = some s[0] := by rw [bs_cons s h]; rfl
theorem size_zero_bs {s : ByteArray} (h : s.size = 0) : bs s = [] := List.eq_nil_of_length_eq_zero (by rw [bs_length]; exact h)
theorem cutp_true {l p : Bytes} {t : ByteArray} (h : CutP l p t true) : bs t = l.drop p.length := by rw [h.rest, Lib.trimPrefix, ← h.has, if_pos rfl]
theorem nameB_nil : nameB [] = false := rfl
theorem nameB_at (s : ByteArray) (h : 0 < s.size) : nameB (bs s) = decide ((97 ≤ (s[0].toNat : Int) ∧ (s[0].toNat : Int) ≤ 122) ∨ (65 ≤ (s[0].toNat : Int) ∧ (s[0].toNat : Int) ≤ 90) ∨ (s[0].toNat : Int) = 95) := by
  rw [bs_cons s h]; rfl

set_option maxHeartbeats 1000000 in
theorem register_any (s : ByteArray) (w : World) :
    Calls Tryd.prog 75 #[.string s] w fun e w' => e = .returned (.tuple #[.int .i64 (regV (bs s)), .bool (regOk (bs s))]) ∧ w = w' := by
  go_enter Tryd.func75, Tryd.ntmps75
  go_wp2_with fail
  refine (cutPrefix_any _ _ _ [120] (by rfl)).mono ?_
  rintro e w' ⟨t, is, hcut, rfl, rfl⟩
  cases is
  · have HX : Hd (regShape (bs s) = false) := ⟨by simp [regShape, ← hcut.has]⟩
    go_wp2_with fail
    go_ret2
    exact ⟨ret_pair (by simp [regV, HX.out]) (by simp [regOk, HX.out]), rfl⟩
  · have HT : Hd (bs t = (bs s).drop 1) := ⟨cutp_true hcut⟩
    have HB : Hd (Lib.hasPrefix (bs s) [120] = true) := ⟨hcut.has.symm⟩
    by_cases h2 : 2 < t.size
    · have HX : Hd (regShape (bs s) = false) := ⟨by have := h2; unfold regShape; rw [← HT.out, bs_length, decide_eq_false (by omega : ¬ t.size ≤ 2)]; simp⟩
      go_wp2_with fail
      go_ret2
      exact ⟨ret_pair (by simp [regV, HX.out]) (by simp [regOk, HX.out]), rfl⟩
    have hd := decV_range (bs t) (by rw [bs_length]; omega)
    obtain ⟨hd1, hd2⟩ := hd
    by_cases h3 : t.size = 2
    · have e3 : ((t.size : Int) == 2) = true := beq_iff_eq.2 (by omega)
      have h3a : 0 < t.size := by omega
      by_cases h48 : ((t[0]'h3a).toNat : Int) = 48
      · have HX : Hd (regShape (bs s) = false) := ⟨by
          unfold regShape; rw [← HT.out, bs_length, h3, head_bs t (by omega), (byte_eq (n := 48) (by omega)).1 h48]; simp⟩
        have e4 : (((t[0]'h3a).toNat : Int) == 48) = true := beq_iff_eq.2 h48
        clear h48
        clear h3
        go_wp2_with fail
        go_ret2
        exact ⟨ret_pair (by simp [regV, HX.out]) (by simp [regOk, HX.out]), rfl⟩
      · have HX : Hd (regShape (bs s) = true) := ⟨by
          have h5 : ¬ (t[0]'h3a) = 48 := fun e => h48 ((byte_eq (n := 48) (by omega)).2 e)
          unfold regShape; rw [HB.out, ← HT.out, bs_length, h3, head_bs t (by omega)]; simp [h5]⟩
        have e4 : (((t[0]'h3a).toNat : Int) == 48) = false := beq_eq_false_iff_ne.2 h48
        clear h48
        have h3b : t.size ≤ 10 := by omega
        clear h3
        go_wp2_with (go_at_call 24; refine (decimal_any _ _ h3b).mono ?_; rintro e w' ⟨rfl, rfl⟩)
        all_goals
          go_ret2
          exact ⟨ret_pair (by simp [regV, HX.out, ← HT.out]) (by simp [regOk, HX.out, ← HT.out, *]), rfl⟩
    · have e3 : ((t.size : Int) == 2) = false := beq_eq_false_iff_ne.2 (by omega)
      have HX : Hd (regShape (bs s) = true) := ⟨by
          unfold regShape; rw [HB.out, ← HT.out, bs_length, decide_eq_true (by omega : t.size ≤ 2), decide_eq_false h3]; rfl⟩
      have h3b : t.size ≤ 10 := by omega
      clear h3
      go_wp2_with (go_at_call 24; refine (decimal_any _ _ h3b).mono ?_; rintro e w' ⟨rfl, rfl⟩)
      all_goals
        go_ret2
        exact ⟨ret_pair (by simp [regV, HX.out, ← HT.out]) (by simp [regOk, HX.out, ← HT.out, *]), rfl⟩

theorem hasPrefix_x (s : ByteArray) (h : 0 < s.size) : Lib.hasPrefix (bs s) [120] = decide ((s[0].toNat : Int) = 120) := by
  rw [bs_cons s h]
  by_cases e : (s[0].toNat : Int) = 120
  · rw [(byte_eq (n := 120) (by omega)).1 e]; rfl
  · rw [decide_eq_false e]
    have : ¬ s[0] = 120 := fun h => e ((byte_eq (n := 120) (by omega)).2 h)
    simp [Lib.hasPrefix, List.isPrefixOf]; exact fun h => this h.symm
theorem regI_len (s : ByteArray) (h : s.size < 2 ∨ 3 < s.size) : regI (bs s) = -1 := by
  unfold regI
  rw [if_neg]
  intro hk
  simp only [regOk, regShape, Bool.and_eq_true, decide_eq_true_eq, decOk] at hk
  simp only [List.length_drop, bs_length] at hk
  omega
theorem regI_not (s : ByteArray) (h : 0 < s.size) (hc : ¬ (s[0].toNat : Int) = 120) : regI (bs s) = -1 := by
  unfold regI
  rw [if_neg]
  intro hk
  simp only [regOk, regShape, Bool.and_eq_true, hasPrefix_x s h, decide_eq_true_eq] at hk
  omega
theorem digitsV_dec (l : Bytes) : digitsV l = if decOk l = true then decV l else -1 := by
  unfold digitsV
  by_cases e : decOk l = true
  · rw [if_pos e, if_pos (decOk_range _ e)]; simp [decV, (decOk_range _ e).1]
  · rw [if_neg e, if_neg (fun h => e (by simp [decOk, h.1, h.2.1, h.2.2]))]
theorem regI_zero (s : ByteArray) (h : s.size = 3) (hc : (s[1].toNat : Int) = 48) : regI (bs s) = -1 := by
  unfold regI
  rw [if_neg]
  intro hk
  have e : (bs s).drop 1 = s[1] :: (bs s).drop 2 := by conv => lhs; rw [bs_cons2 s (by omega)]
                                                       rfl
  simp only [regOk, regShape, Bool.and_eq_true, Bool.not_eq_true', Bool.and_eq_false_iff, decide_eq_false_iff_not, List.length_drop, bs_length] at hk
  rw [e, List.head?_cons, (byte_eq (n := 48) (by omega)).1 hc] at hk
  simp [h] at hk
theorem regI_dig (s : ByteArray) (h : 2 ≤ s.size) (h3 : s.size ≤ 3) (h0 : (s[0].toNat : Int) = 120) (hz : s.size = 3 → ¬ (s[1].toNat : Int) = 48) :
    regI (bs s) = if 31 < digitsV (bs s).tail then -1 else digitsV (bs s).tail := by
  rw [← List.drop_one]
  have hs : regShape (bs s) = true := by
    have e : (bs s).drop 1 = s[1] :: (bs s).drop 2 := by conv => lhs; rw [bs_cons2 s (by omega)]
                                                         rfl
    simp only [regShape, hasPrefix_x s (by omega), h0, decide_true, Bool.true_and, Bool.and_eq_true, decide_eq_true_eq, List.length_drop, bs_length, Bool.not_eq_true', Bool.and_eq_false_iff, decide_eq_false_iff_not]
    refine ⟨by omega, ?_⟩
    by_cases e3 : s.size = 3
    · right
      rw [e, List.head?_cons]
      intro h
      exact hz e3 ((byte_eq (n := 48) (by omega)).2 (by simpa using h))
    · left; omega
  unfold regI regV regOk
  rw [hs, digitsV_dec]
  simp only [Bool.true_and, if_true]
  by_cases e : decOk ((bs s).drop 1) = true
  · rw [e]
    simp only [Bool.true_and, decide_eq_true_eq, if_true]
    by_cases e2 : decV ((bs s).drop 1) ≤ 31
    · rw [if_pos e2, if_neg (by omega)]
    · rw [if_neg e2, if_pos (by omega)]
  · have h2 : decOk ((bs s).drop 1) = false := Bool.eq_false_iff.2 e
    rw [h2]
    simp only [Bool.false_and, Bool.false_eq_true, if_false]
    rw [if_neg (by omega)]

set_option maxHeartbeats 1000000 in
theorem rregister_any (s : ByteArray) (w : World) (hs : s.size ≤ 9223372036854775807) :
    Calls Tryd.prog 78 #[.string s] w fun e w' => e = .returned (.int .i64 (regI (bs s))) ∧ w = w' := by
  by_cases h2 : s.size < 2
  · have HX := Hd.mk (regI_len s (.inl h2))
    go_enter Tryd.func78, Tryd.ntmps78
    go_wp2_with fail
    go_ret
    exact ⟨ret_int HX.out.symm, rfl⟩
  by_cases h3 : 3 < s.size
  · have HX := Hd.mk (regI_len s (.inr h3))
    go_enter Tryd.func78, Tryd.ntmps78
    go_wp2_with fail
    go_ret
    exact ⟨ret_int HX.out.symm, rfl⟩
  have z0 : 0 < s.size := by omega
  have z1 : 1 < s.size := by omega
  by_cases h0 : ((s[0]'z0).toNat : Int) = 120
  · have e0 : (((s[0]'z0).toNat : Int) != 120) = false := by rw [bne_eq_false_iff_eq]; exact h0
    have e0' : (((s[0]'z0).toNat : Int) == 120) = true := beq_iff_eq.2 h0
    by_cases hz : s.size = 3 → ¬ ((s[1]'z1).toNat : Int) = 48
    · have HX := Hd.mk (regI_dig s (by omega) (by omega) h0 hz)
      clear h0
      by_cases e3 : s.size = 3
      · have HZ := hz e3
        have e1 : (((s[1]'z1).toNat : Int) == 48) = false := beq_eq_false_iff_ne.2 HZ
        clear HZ hz
        have f3 : ((s.size : Int) == 3) = true := beq_iff_eq.2 (by omega)
        clear e3
        go_enter Tryd.func78, Tryd.ntmps78
        go_wp2_with (go_at_call 26; refine (digits_any _ _ (by simp; omega)).mono ?_; rw [bs_from, List.drop_one]; rintro e w' ⟨rfl, rfl⟩)
        all_goals
          go_ret
          exact ⟨ret_int (by rw [HX.out]; first | (rw [if_pos (by omega)]) | (rw [if_neg (by omega)])), rfl⟩
      · have f3 : ((s.size : Int) == 3) = false := beq_eq_false_iff_ne.2 (by omega)
        clear e3 hz
        go_enter Tryd.func78, Tryd.ntmps78
        go_wp2_with (go_at_call 26; refine (digits_any _ _ (by simp; omega)).mono ?_; rw [bs_from, List.drop_one]; rintro e w' ⟨rfl, rfl⟩)
        all_goals
          go_ret
          exact ⟨ret_int (by rw [HX.out]; first | (rw [if_pos (by omega)]) | (rw [if_neg (by omega)])), rfl⟩
    · have hz2 : s.size = 3 ∧ ((s[1]'z1).toNat : Int) = 48 := by
        by_cases a : s.size = 3
        · exact ⟨a, by by_cases b : ((s[1]'z1).toNat : Int) = 48
                       · exact b
                       · exact absurd (fun _ => b) hz⟩
        · exact absurd (fun h => absurd h a) hz
      clear hz h0
      have HX := Hd.mk (regI_zero s hz2.1 hz2.2)
      have f3 : ((s.size : Int) == 3) = true := beq_iff_eq.2 (by omega)
      have e1 : (((s[1]'z1).toNat : Int) == 48) = true := beq_iff_eq.2 hz2.2
      clear hz2
      go_enter Tryd.func78, Tryd.ntmps78
      go_wp2_with (go_at_call 26; refine (digits_any _ _ (by simp; omega)).mono ?_; rw [bs_from, List.drop_one]; rintro e w' ⟨rfl, rfl⟩)
      all_goals
        go_ret
        exact ⟨ret_int HX.out.symm, rfl⟩
  · have e0 : (((s[0]'z0).toNat : Int) != 120) = true := by rw [bne_iff_ne]; exact h0
    have e0' : (((s[0]'z0).toNat : Int) == 120) = false := beq_eq_false_iff_ne.2 h0
    have HX := Hd.mk (regI_not s (by omega) h0)
    clear h0
    go_enter Tryd.func78, Tryd.ntmps78
    go_wp2_with fail
    go_ret
    exact ⟨ret_int HX.out.symm, rfl⟩

end Go.Proofs.YtceelkmedfoefaaDoor
