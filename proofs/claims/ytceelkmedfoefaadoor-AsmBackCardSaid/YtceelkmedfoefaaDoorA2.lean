import Derived.Test.YtceelkmedfoefaaDoorA1
import Derived.Test.YtceelkmedfoefaaDoorL1
set_option linter.unusedVariables false
set_option linter.unusedSimpArgs false
namespace Go.Proofs.YtceelkmedfoefaaDoor
open Go.RowKit

theorem ret_pair {a b c d : Value} (h : a = b) (h' : c = d) : Ending.returned (.tuple #[a, c]) = .returned (.tuple #[b, d]) := by rw [h, h']

def decV (l : Bytes) : Int := if allDig l = true then dval l else 0
def digitsV (l : Bytes) : Int := if allDig l = true ∧ 1 ≤ l.length ∧ l.length ≤ 10 then dval l else -1
def decOk (l : Bytes) : Bool := allDig l && decide (1 ≤ l.length) && decide (l.length ≤ 10)

theorem decOk_iff (s : ByteArray) (b : Bool) (h : allDig (bs s) = true) (hb : b = true ↔ (1 ≤ s.size ∧ s.size ≤ 10)) : Value.bool b = Value.bool (decOk (bs s)) := by
  have : b = decOk (bs s) := by
    rw [Bool.eq_iff_iff, hb]; simp [decOk, h, bs_length]
  rw [this]

set_option maxHeartbeats 1000000 in
theorem decimal_any (s : ByteArray) (w : World) (hs : s.size ≤ 10) :
    Calls Tryd.prog 24 #[.string s] w fun e w' => e = .returned (.tuple #[.int .u64 (decV (bs s)), .bool (decOk (bs s))]) ∧ w = w' := by
  have hlen := bs_length s
  have HL : Hd ((bs s).length = s.size) := ⟨hlen⟩
  clear hlen
  go_enter Tryd.func24, Tryd.ntmps24
  go_wp2
  go_loop [4, 8] (fun n i => ∃ k : Nat, k ≤ s.size ∧ Hd (allDig ((bs s).take k) = true) ∧ i = .int .i64 k ∧ n = .int .u64 (dval ((bs s).take k))) (fun _ i => s.size - (intOf i).toNat)
  case atStart => exact ⟨0, Nat.zero_le _, ⟨rfl⟩, rfl, rfl⟩
  case round =>
    obtain ⟨k, hk, hd, rfl, rfl⟩ := hrel
    by_cases hlt : k < s.size
    · have hb := dval_lt9 ((bs s).take k) hd.out (by simp; omega)
      obtain ⟨hb1, hb2⟩ := hb
      have HS : Hd (dval ((bs s).take (k + 1)) = dval ((bs s).take k) * 10 + ((s[k].toNat : Int) - 48)) := ⟨by rw [take_snoc s k hlt]; exact dval_snoc _ _⟩
      have HT : Hd (allDig ((bs s).take (k + 1)) = isDig s[k]) := ⟨by rw [take_snoc s k hlt, allDig_snoc, hd.out]; rfl⟩
      have HN : Hd (isDig s[k] = false → allDig (bs s) = false) := ⟨not_allDig_at s k hlt⟩
      have hr := s[k].toNat_lt
      by_cases hc : 48 ≤ (s[k].toNat : Int) ∧ (s[k].toNat : Int) ≤ 57
      · obtain ⟨hc1, hc2⟩ := hc
        go_wp2
        go_round
        case rel => exact ⟨k + 1, by omega, ⟨by rw [HT.out]; simp [isDig]; omega⟩, by go_num, by rw [HS.out]⟩
        case measure => simp [intOf]; omega
      · have HF : Hd (allDig (bs s) = false) := ⟨HN.out (by simp only [isDig, decide_eq_false_iff_not]; exact hc)⟩
        by_cases h1 : (s[k].toNat : Int) < 48
        · go_wp2
          go_ret2
          exact ⟨ret_pair (by simp [decV, HF.out]) (by simp [decOk, HF.out]), rfl⟩
        · have h2 : 57 < (s[k].toNat : Int) := by omega
          clear hc
          go_wp2
          go_ret2
          exact ⟨ret_pair (by simp [decV, HF.out]) (by simp [decOk, HF.out]), rfl⟩
    · have hk2 : k = s.size := by omega
      subst hk2
      have HE : Hd ((bs s).take s.size = bs s) := ⟨List.take_of_length_le (by rw [HL.out]; omega)⟩
      go_wp2
      all_goals
        go_ret2
        exact ⟨ret_pair (by have := hd.out; rw [HE.out] at this; simp [decV, this, HE.out]) (decOk_iff s _ (by have := hd.out; rwa [HE.out] at this) (by simp <;> omega)), rfl⟩

set_option maxHeartbeats 1000000 in
theorem digits_any (s : ByteArray) (w : World) (hs : s.size ≤ 9223372036854775807) :
    Calls Tryd.prog 26 #[.string s] w fun e w' => e = .returned (.int .i64 (digitsV (bs s))) ∧ w = w' := by
  have hlen := bs_length s
  have HL : Hd ((bs s).length = s.size) := ⟨hlen⟩
  clear hlen
  by_cases hz : s.size < 1
  · have hz2 : decide ((s.size : Int) < 1) = true := by simp; omega
    go_enter Tryd.func26, Tryd.ntmps26
    go_wp2
    go_ret
    exact ⟨ret_int (by unfold digitsV; rw [if_neg (by rw [HL.out]; omega)]), rfl⟩
  by_cases hz1 : 10 < s.size
  · have hz2 : decide ((s.size : Int) < 1) = false := by simp; omega
    go_enter Tryd.func26, Tryd.ntmps26
    go_wp2
    go_ret
    exact ⟨ret_int (by unfold digitsV; rw [if_neg (by rw [HL.out]; omega)]), rfl⟩
  have hz2 : decide ((s.size : Int) < 1) = false := by simp; omega
  have hz3 : decide (10 < (s.size : Int)) = false := by simp; omega
  go_enter Tryd.func26, Tryd.ntmps26
  go_wp2
  go_loop [3, 4] (fun n i => ∃ k : Nat, k ≤ s.size ∧ Hd (allDig ((bs s).take k) = true) ∧ i = .int .i64 k ∧ n = .int .i64 (dval ((bs s).take k))) (fun _ i => s.size - (intOf i).toNat)
  case atStart => exact ⟨0, Nat.zero_le _, ⟨rfl⟩, rfl, rfl⟩
  case round =>
    obtain ⟨k, hk, hd, rfl, rfl⟩ := hrel
    by_cases hlt : k < s.size
    · have hb := dval_lt9 ((bs s).take k) hd.out (by simp; omega)
      obtain ⟨hb1, hb2⟩ := hb
      have HS : Hd (dval ((bs s).take (k + 1)) = dval ((bs s).take k) * 10 + ((s[k].toNat : Int) - 48)) := ⟨by rw [take_snoc s k hlt]; exact dval_snoc _ _⟩
      have HT : Hd (allDig ((bs s).take (k + 1)) = isDig s[k]) := ⟨by rw [take_snoc s k hlt, allDig_snoc, hd.out]; rfl⟩
      have HN : Hd (isDig s[k] = false → allDig (bs s) = false) := ⟨not_allDig_at s k hlt⟩
      have hr := s[k].toNat_lt
      by_cases hc : 48 ≤ (s[k].toNat : Int) ∧ (s[k].toNat : Int) ≤ 57
      · obtain ⟨hc1, hc2⟩ := hc
        go_wp2
        go_round
        case rel => exact ⟨k + 1, by omega, ⟨by rw [HT.out]; simp [isDig]; omega⟩, by go_num, by rw [HS.out]; go_num⟩
        case measure => simp [intOf]; omega
      · have HF : Hd (allDig (bs s) = false) := ⟨HN.out (by simp only [isDig, decide_eq_false_iff_not]; exact hc)⟩
        by_cases h1 : (s[k].toNat : Int) < 48
        · go_wp2
          go_ret
          exact ⟨ret_int (by simp [digitsV, HF.out]), rfl⟩
        · have h2 : 57 < (s[k].toNat : Int) := by omega
          clear hc
          go_wp2
          go_ret
          exact ⟨ret_int (by simp [digitsV, HF.out]), rfl⟩
    · have hk2 : k = s.size := by omega
      subst hk2
      have HE : Hd ((bs s).take s.size = bs s) := ⟨List.take_of_length_le (by rw [HL.out]; omega)⟩
      go_wp2
      go_ret
      exact ⟨ret_int (by have := hd.out; rw [HE.out] at this; unfold digitsV; rw [if_pos ⟨this, by rw [HL.out]; omega, by rw [HL.out]; omega⟩, HE.out]), rfl⟩

end Go.Proofs.YtceelkmedfoefaaDoor
