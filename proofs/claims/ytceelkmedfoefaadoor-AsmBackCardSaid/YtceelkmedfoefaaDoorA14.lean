import Derived.Test.YtceelkmedfoefaaDoorL5
import Derived.StillTailTactics
set_option linter.unusedVariables false
set_option linter.unusedSimpArgs false
namespace Go.Proofs.YtceelkmedfoefaaDoor
open Go.RowKit

theorem readO_word {p : List Bytes} (h2 : p.length = 2) (hw : p.getD 0 [] = wordB) : readO p = if numOk (p.getD 1 []) = true then some { zeroX with word := numV (p.getD 1 []), raw := true, has := true } else none := by
  unfold readO; rw [if_pos ⟨h2, hw⟩]

set_option maxRecDepth 100000 in
set_option maxHeartbeats 4000000 in
theorem read_word (b off n cap : Nat) (p : List Bytes) (w : World) (hp : StrAt w b off p) (hn : p.length = n) (h2 : n = 2) (hw : p.getD 0 [] = wordB) (hc : n ≤ cap) :
    Calls Tryd.prog 29 #[.slice (some ⟨b, off, none⟩) n cap] w fun e w' => ReadPost p w w' e := by
  have hlt : b < w.heap.size := by rcases hp.lt with e | e; rw [e] at hn; simp at hn; omega; exact e
  obtain ⟨s0, hs0, hb0⟩ := sv_ex (p.getD 0 [])
  obtain ⟨s1, hs1, hb1⟩ := sv_ex (p.getD 1 [])
  have hc0 : w.cell? ⟨b, off, none⟩ = some (.string s0) := by rw [← hs0]; exact hp.cell 0 (by omega)
  have hc1 : w.cell? ⟨b, off + 1, none⟩ = some (.string s1) := by rw [← hs1]; exact hp.cell 1 (by omega)
  have ht : (s0.toList == wordB) = true := by rw [toList_eq_bs, hb0, hw]; exact beq_iff_eq.2 rfl
  unfold wordB at ht
  have hne := numE_ok (bs s1)
  have HR := Hd.mk (readO_word (by omega) hw)
  rw [← hb1] at HR
  have e2 : ((n : Int) == 2) = true := beq_iff_eq.2 (by omega)
  have hn2 : 2 ≤ n := by omega
  have HP := Hd.mk (And.intro hs0 (And.intro hs1 (And.intro hb0 (And.intro hb1 (And.intro hn hw)))))
  clear hs0 hs1 hb0 hb1 hn hw h2
  cases hk : numOk (bs s1)
  · rw [hk] at hne
    have HK := Hd.mk hk
    clear hk
    go_enter Tryd.func29, Tryd.ntmps29
    go_wp2_with (go_at_call 11; refine (number_any _ _).mono ?_; rintro e w' ⟨rfl, rfl⟩)
    refine bodyPost_ret (v := .tuple #[itemV { zeroX with word := numV (bs s1), raw := true, has := true }, .bool false]) ?_ rfl ⟨⟨_, _, rfl, (fun h => by cases h), fun _ => by rw [HR.out, HK.out]; rfl⟩, ((Below.refl _ _).alloc (Nat.le_refl _) _).alloc (by simp) _⟩
    simp [results, Tryd.results29, go_sem, itemV, ICells, zeroX, SV]
  · rw [hk] at hne
    have HK := Hd.mk hk
    clear hk
    go_enter Tryd.func29, Tryd.ntmps29
    go_wp2_with (go_at_call 11; refine (number_any _ _).mono ?_; rintro e w' ⟨rfl, rfl⟩)
    refine bodyPost_ret (v := .tuple #[itemV { zeroX with word := numV (bs s1), raw := true, has := true }, .bool true]) ?_ rfl ⟨⟨_, _, rfl, (fun _ => by rw [HR.out, HK.out, if_pos rfl]), (fun h => by cases h)⟩, ((Below.refl _ _).alloc (Nat.le_refl _) _).alloc (by simp) _⟩
    simp [results, Tryd.results29, go_sem, itemV, ICells, zeroX, SV]

end Go.Proofs.YtceelkmedfoefaaDoor
