import Derived.Test.YtceelkmedfoefaaDoorA2
import Derived.Laws.BitsAllLaws
set_option linter.unusedVariables false
set_option linter.unusedSimpArgs false
namespace Go.Proofs.YtceelkmedfoefaaDoor
open Go.RowKit

theorem digitW_hdig (c : UInt8) : digitW (c.toNat : Int) = if isHex c = true then hdig c else 16 := by
  unfold digitW isHex hdig; simp only [decide_eq_true_eq]; (repeat' split) <;> omega
theorem digitI_hdig (c : UInt8) : digitI (c.toNat : Int) = hdig c := rfl
theorem or_nib (n d : Int) (h0 : 0 ≤ n) (h1 : n < 268435456) (h2 : 0 ≤ d) (h3 : d ≤ 15) : bits .or .u32 (n * 16) d = n * 16 + d := by
  rw [u32_or _ _ (by omega) (by omega) (by omega) (by omega)]
  obtain ⟨a, rfl⟩ := Int.eq_ofNat_of_zero_le h0
  obtain ⟨b, rfl⟩ := Int.eq_ofNat_of_zero_le h2
  have e : ((a : Int) * 16).toNat = a <<< 4 := by rw [Nat.shiftLeft_eq]; omega
  rw [e, Int.toNat_natCast, ← Nat.shiftLeft_add_eq_or_of_lt (by omega : b < 2 ^ 4), Nat.shiftLeft_eq]
  omega
def hexE (l : Bytes) : Int := if hexOk l = true then 0 else 1

set_option maxHeartbeats 1000000 in
theorem unhex_any (s : ByteArray) (w : World) (hs : s.size ≤ 9223372036854775807) :
    Calls Tryd.prog 25 #[.string s] w fun e w' => e = .returned (.tuple #[.int .u32 (hexV (bs s)), .int .i64 (hexE (bs s))]) ∧ w = w' := by
  have hlen := bs_length s
  have HL : Hd ((bs s).length = s.size) := ⟨hlen⟩
  clear hlen
  by_cases hz : s.size < 1 ∨ 8 < s.size
  · have HO : Hd (hexOk (bs s) = false) := ⟨by simp [hexOk, HL.out]; omega⟩
    rcases hz with hz | hz
    · have hz2 : decide ((s.size : Int) < 1) = true := by simp; omega
      go_enter Tryd.func25, Tryd.ntmps25
      go_wp2
      go_ret2
      exact ⟨ret_pair (by simp [hexV, HO.out]) (by simp [hexE, HO.out]), rfl⟩
    · have hz2 : decide ((s.size : Int) < 1) = false := by simp; omega
      go_enter Tryd.func25, Tryd.ntmps25
      go_wp2
      go_ret2
      exact ⟨ret_pair (by simp [hexV, HO.out]) (by simp [hexE, HO.out]), rfl⟩
  have hz2 : decide ((s.size : Int) < 1) = false := by simp; omega
  have hz3 : decide (8 < (s.size : Int)) = false := by simp; omega
  go_enter Tryd.func25, Tryd.ntmps25
  go_wp2
  go_loop [4, 17] (fun n i => ∃ k : Nat, k ≤ s.size ∧ Hd (allHex ((bs s).take k) = true) ∧ i = .int .i64 k ∧ n = .int .u32 (hval ((bs s).take k))) (fun _ i => s.size - (intOf i).toNat)
  case atStart => exact ⟨0, Nat.zero_le _, ⟨rfl⟩, rfl, rfl⟩
  case round =>
    obtain ⟨k, hk, hd, rfl, rfl⟩ := hrel
    by_cases hlt : k < s.size
    · have hb := hval_lt7 ((bs s).take k) hd.out (by simp; omega)
      obtain ⟨hb1, hb2⟩ := hb
      have HS : Hd (hval ((bs s).take (k + 1)) = hval ((bs s).take k) * 16 + hdig s[k]) := ⟨by rw [take_snoc s k hlt]; exact hval_snoc _ _⟩
      have HT : Hd (allHex ((bs s).take (k + 1)) = isHex s[k]) := ⟨by rw [take_snoc s k hlt, allHex_snoc, hd.out]; rfl⟩
      have HN : Hd (isHex s[k] = false → allHex (bs s) = false) := ⟨not_allHex_at s k hlt⟩
      have hr := s[k].toNat_lt
      go_wp2_with (go_at_call 52; refine (digit_any _ _ (by omega) (by omega)).mono ?_; rintro e w' ⟨rfl, rfl⟩)
      · have HF : Hd (allHex (bs s) = false) := ⟨HN.out (by
          have hq : 15 < digitW ↑s[k].toNat := by assumption
          rw [digitW_hdig] at hq; have := hdig_range s[k]
          cases hh : isHex s[k] with
          | false => rfl
          | true => rw [hh, if_pos rfl] at hq; omega)⟩
        go_ret2
        exact ⟨ret_pair (by simp [hexV, hexOk, HF.out]) (by simp [hexE, hexOk, HF.out]), rfl⟩
      · have hq : digitW ↑s[k].toNat ≤ 15 := by assumption
        have HX : Hd (isHex s[k] = true) := ⟨by
          rw [digitW_hdig] at hq
          cases hh : isHex s[k] with
          | true => rfl
          | false => rw [hh, if_neg (by simp)] at hq; omega⟩
        have HD : Hd (digitW ↑s[k].toNat = hdig s[k]) := ⟨by rw [digitW_hdig, HX.out, if_pos rfl]⟩
        go_round
        case rel => exact ⟨k + 1, by omega, ⟨by rw [HT.out]; exact HX.out⟩, by go_num, by rw [HS.out, HD.out]; rw [or_nib _ _ hb1 hb2 (by have := HX.out; simpa [isHex] using this) (hdig_range _).2]⟩
        case measure => simp [intOf]; omega
    · have hk2 : k = s.size := by omega
      subst hk2
      have HE : Hd ((bs s).take s.size = bs s) := ⟨List.take_of_length_le (by rw [HL.out]; omega)⟩
      go_wp2
      have HO : hexOk (bs s) = true := by have := hd.out; rw [HE.out] at this; simp [hexOk, this, HL.out]; omega
      go_ret2
      exact ⟨ret_pair (by simp [hexV, HO, HE.out]) (by simp [hexE, HO]), rfl⟩

set_option maxHeartbeats 1000000 in
theorem runhex_any (s : ByteArray) (w : World) (hs : s.size ≤ 9223372036854775807) :
    Calls Tryd.prog 27 #[.string s] w fun e w' => e = .returned (.tuple #[.int .u32 (hexV (bs s)), .bool (hexOk (bs s))]) ∧ w = w' := by
  have hlen := bs_length s
  have HL : Hd ((bs s).length = s.size) := ⟨hlen⟩
  clear hlen
  by_cases hz : s.size < 1 ∨ 8 < s.size
  · have HO : Hd (hexOk (bs s) = false) := ⟨by simp [hexOk, HL.out]; omega⟩
    rcases hz with hz | hz
    · have hz2 : decide ((s.size : Int) < 1) = true := by simp; omega
      go_enter Tryd.func27, Tryd.ntmps27
      go_wp2
      go_ret2
      exact ⟨ret_pair (by simp [hexV, HO.out]) (by simp [HO.out]), rfl⟩
    · have hz2 : decide ((s.size : Int) < 1) = false := by simp; omega
      go_enter Tryd.func27, Tryd.ntmps27
      go_wp2
      go_ret2
      exact ⟨ret_pair (by simp [hexV, HO.out]) (by simp [HO.out]), rfl⟩
  have hz2 : decide ((s.size : Int) < 1) = false := by simp; omega
  have hz3 : decide (8 < (s.size : Int)) = false := by simp; omega
  go_enter Tryd.func27, Tryd.ntmps27
  go_wp2
  go_loop [4, 5] (fun n i => ∃ k : Nat, k ≤ s.size ∧ Hd (allHex ((bs s).take k) = true) ∧ i = .int .i64 k ∧ n = .int .u64 (hval ((bs s).take k))) (fun _ i => s.size - (intOf i).toNat)
  case atStart => exact ⟨0, Nat.zero_le _, ⟨rfl⟩, rfl, rfl⟩
  case round =>
    obtain ⟨k, hk, hd, rfl, rfl⟩ := hrel
    by_cases hlt : k < s.size
    · have hb := hval_lt7 ((bs s).take k) hd.out (by simp; omega)
      obtain ⟨hb1, hb2⟩ := hb
      have HS : Hd (hval ((bs s).take (k + 1)) = hval ((bs s).take k) * 16 + hdig s[k]) := ⟨by rw [take_snoc s k hlt]; exact hval_snoc _ _⟩
      have HT : Hd (allHex ((bs s).take (k + 1)) = isHex s[k]) := ⟨by rw [take_snoc s k hlt, allHex_snoc, hd.out]; rfl⟩
      have HN : Hd (isHex s[k] = false → allHex (bs s) = false) := ⟨not_allHex_at s k hlt⟩
      have hr := s[k].toNat_lt
      have hg := hdig_range s[k]
      have HD : Hd (digitI ↑s[k].toNat = hdig s[k]) := ⟨rfl⟩
      obtain ⟨d, hd2⟩ : ∃ d, d = hdig s[k] := ⟨_, rfl⟩
      have HDD : Hd (d = hdig s[k]) := ⟨hd2⟩
      rw [← hd2] at hg
      clear hd2
      obtain ⟨hg1, hg2⟩ := hg
      go_wp2_with (go_at_call 53; refine (rdigit_any _ _ (by omega) (by omega)).mono ?_; rintro e w' ⟨rfl, rfl⟩; rw [HD.out, ← HDD.out])
      · have HF : Hd (allHex (bs s) = false) := ⟨HN.out (by
          have hq : d < 0 := by assumption
          rw [HDD.out] at hq; simp [isHex]; omega)⟩
        go_ret2
        exact ⟨ret_pair (by simp [hexV, hexOk, HF.out]) (by simp [hexOk, HF.out]), rfl⟩
      · have hq : 0 ≤ d := by assumption
        have HX : Hd (isHex s[k] = true) := ⟨by rw [HDD.out] at hq; simpa [isHex] using hq⟩
        go_round
        case rel => exact ⟨k + 1, by omega, ⟨by rw [HT.out]; exact HX.out⟩, by go_num, by rw [HS.out, ← HDD.out]⟩
        case measure => simp [intOf]; omega
    · have hk2 : k = s.size := by omega
      subst hk2
      have HE : Hd ((bs s).take s.size = bs s) := ⟨List.take_of_length_le (by rw [HL.out]; omega)⟩
      have hb := hval_lt8 ((bs s).take s.size) hd.out (by simp; omega)
      obtain ⟨hb1, hb2⟩ := hb
      go_wp2
      have HO : hexOk (bs s) = true := by have := hd.out; rw [HE.out] at this; simp [hexOk, this, HL.out]; omega
      go_ret2
      exact ⟨ret_pair (by simp [hexV, HO, HE.out]) (by simp [HO]), rfl⟩

end Go.Proofs.YtceelkmedfoefaaDoor
