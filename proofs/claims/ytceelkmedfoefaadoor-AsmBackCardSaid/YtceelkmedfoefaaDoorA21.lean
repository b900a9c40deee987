import Derived.Test.YtceelkmedfoefaaDoorL8
import Derived.Test.YtceelkmedfoefaaDoorA7
set_option linter.unusedVariables false
set_option linter.unusedSimpArgs false
namespace Go.Proofs.YtceelkmedfoefaaDoor
open Go.RowKit

/-- What strings.Cut at a sign 10 hands back. -/
structure CutPost (l : Bytes) (w w' : World) (e : Ending) : Prop where
  ret : ∃ (a b : ByteArray) (f : Bool), bs a = (cutNl l).1 ∧ bs b = (cutNl l).2 ∧ e = .returned (.tuple #[.string a, .string b, .bool f])
  same : Below w.heap.size w w' ∧ w'.heap = w.heap

set_option maxHeartbeats 1000000 in
theorem lcut_any (s : ByteArray) (w : World) (hs : s.size ≤ 1048576) :
    Calls Tryd.prog 64 #[.string s, .string ⟨#[10]⟩] w fun e w' => CutPost (bs s) w w' e := by
  rcases cutNl_index (bs s) with ⟨h1, h2⟩ | ⟨h1, h2, h3⟩
  · have H2 := Hd.mk h2
    have H1 : Hd (Lib.indexByte s.data.toList 10 = -1) := ⟨h1⟩
    clear h1 h2
    go_enter Tryd.func64, Tryd.ntmps64
    go_wp2_with (go_at_call 79; refine (Tryd.stringslite_Index_one s 10 _).mono ?_; rw [H1.out]; rintro e w' ⟨rfl, rfl⟩)
    go_ret3
    exact ⟨⟨s, ⟨#[]⟩, false, by rw [H2.out], by rw [H2.out]; rfl, rfl⟩, Below.refl _ _, rfl⟩
  · have H3 := Hd.mk h3
    obtain ⟨i, hi⟩ := Int.eq_ofNat_of_zero_le h1
    have H1 : Hd (Lib.indexByte s.data.toList 10 = (i : Int)) := ⟨hi⟩
    rw [hi, Int.toNat_natCast] at h2 h3
    rw [bs_length] at h2
    have H4 := Hd.mk h3
    clear h1 hi h3
    go_enter Tryd.func64, Tryd.ntmps64
    go_wp2_with (go_at_call 79; refine (Tryd.stringslite_Index_one s 10 _).mono ?_; rw [H1.out]; rintro e w' ⟨rfl, rfl⟩)
    have e1 : (i : Int) ≤ (s.size : Int) := by omega
    have e2 : (i : Int) + 1 ≤ (s.size : Int) := by omega
    have e3 : (0 : Int) ≤ (i : Int) + 1 := by omega
    have e4 : ((i : Int) + 1).toNat = i + 1 := by omega
    have e5 : IntKind.i64.wrap ((i : Int) + 1) = (i : Int) + 1 := IntWalk.i64_in _ (by omega)
    go_quiet (fail)
    clear e5 e4 e3 e2 e1
    go_wp2_with fail
    go_ret3
    exact ⟨⟨_, _, true, by rw [H4.out, bs_extract]; rfl, by rw [H4.out, bs_from], rfl⟩, ⟨rfl, rfl, rfl, Nat.le_refl _, fun _ _ => rfl⟩, rfl⟩

set_option maxHeartbeats 1000000 in
theorem cut_any (s : ByteArray) (w : World) (hs : s.size ≤ 1048576) :
    Calls Tryd.prog 32 #[.string s, .string ⟨#[10]⟩] w fun e w' => CutPost (bs s) w w' e := by
  go_enter Tryd.func32, Tryd.ntmps32
  go_wp2_with fail
  refine (lcut_any s _ hs).mono ?_
  rintro e w' hc
  obtain ⟨⟨a, b, f, ha, hb, rfl⟩, hsame⟩ := hc
  have HA := Hd.mk (And.intro ha (And.intro hb hsame))
  clear ha hb hsame
  go_wp2_with fail
  go_ret3
  exact ⟨⟨a, b, f, HA.out.1, HA.out.2.1, rfl⟩, HA.out.2.2⟩

end Go.Proofs.YtceelkmedfoefaaDoor
