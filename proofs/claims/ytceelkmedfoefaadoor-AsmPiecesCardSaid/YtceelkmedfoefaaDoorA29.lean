import Derived.Test.YtceelkmedfoefaaDoorA28
import Derived.Test.YtceelkmedfoefaaDoorA9
set_option linter.unusedVariables false
set_option linter.unusedSimpArgs false
namespace Go.Proofs.YtceelkmedfoefaaDoor
open Go.RowKit

/-- What a law leaves. -/
def Lawful (w w' : World) (e : Ending) : Prop := e = .returned (.bool true) ∧ Below w.heap.size w w'
theorem num_cases (l : Bytes) : (numOk l = true ∧ numE l = 0) ∨ (numOk l = false ∧ numE l = 1) := by
  unfold numOk numE
  cases (numOf l).isSome <;> simp
theorem awake_from {w w1 : World} (hE : Env w) (h4 : 4 ≤ w.heap.size) (hB : Below w.heap.size w w1) :
    Calls Tryd.prog 8 #[] w1 fun e w' => e = .returned (.bool true) ∧ Below w.heap.size w w' :=
  (awake_any w1 (hE.below hB) (by have := hB.size; omega)).mono fun e w' ⟨h1, h2⟩ => ⟨h1, hB.trans (h2.mono hB.size)⟩

set_option maxRecDepth 100000 in
set_option maxHeartbeats 4000000 in
theorem lawPieces_any (s : ByteArray) (w : World) (hE : Env w) (h4 : 4 ≤ w.heap.size) :
    Calls Tryd.prog 3 #[.string s] w fun e w' => Lawful w w' e := by
  by_cases hbig : 3000 < s.size
  · have e1 : decide ((s.size : Int) > 3000) = true := decide_eq_true (by omega)
    go_enter Tryd.func3, Tryd.ntmps3
    go_wp2_with fail
    refine (awake_any w hE h4).mono ?_
    rintro e w' ⟨rfl, hb⟩
    go_wp2_with fail
    go_ret
    exact ⟨rfl, hb⟩
  have e1 : decide ((s.size : Int) > 3000) = false := decide_eq_false (by omega)
  have hs : s.size ≤ 1048576 := by omega
  clear hbig
  go_enter Tryd.func3, Tryd.ntmps3
  go_wp2_with fail
  refine (pieces_any s w hs).mono ?_
  rintro e w1 hP
  cases hP with
  | bad hp hb =>
    have hnb := Hd.mk hp
    clear hp
    go_wp2_with fail
    refine (rpieces_any s w1 hs).mono ?_
    rintro e w2 hR
    cases hR with
    | good out v hp2 _ _ _ => exfalso; rw [hnb.out] at hp2; cases hp2
    | bad hp2 hb2 =>
      have hB := hb.trans (hb2.mono hb.size)
      obtain ⟨n, hn⟩ : ∃ n, numV (bs s) = n := ⟨_, rfl⟩
      have HN := Hd.mk hn
      clear hp2 hb2 hb hn
      rcases num_cases (bs s) with ⟨h1, h2⟩ | ⟨h1, h2⟩
      · have HO := Hd.mk (And.intro h1 h2)
        clear h1 h2
        go_wp2_with (first | (go_at_call 11; refine (number_any s _).mono ?_; rw [HN.out, HO.out.2]; rintro e w' ⟨rfl, rfl⟩) | (go_at_call 12; refine (rnumber_any s _ (by omega)).mono ?_; rw [HN.out, HO.out.1]; rintro e w' ⟨rfl, rfl⟩))
        go_loopw [11] (fun i wr => i = .int .i64 0 ∧ Below w.heap.size w wr) (fun _ _ => 0)
        case atStart => exact ⟨rfl, hB⟩
        case round =>
          obtain ⟨rfl, hB3⟩ := hrel
          go_wp2_with fail
          refine (awake_from hE h4 hB3).mono ?_
          rintro e w4 ⟨rfl, hb⟩
          go_wp2_with fail
          go_ret
          exact ⟨rfl, hb⟩
      · have HO := Hd.mk (And.intro h1 h2)
        clear h1 h2
        go_wp2_with (first | (go_at_call 11; refine (number_any s _).mono ?_; rw [HN.out, HO.out.2]; rintro e w' ⟨rfl, rfl⟩) | (go_at_call 12; refine (rnumber_any s _ (by omega)).mono ?_; rw [HN.out, HO.out.1]; rintro e w' ⟨rfl, rfl⟩))
        go_loopw [11] (fun i wr => i = .int .i64 0 ∧ Below w.heap.size w wr) (fun _ _ => 0)
        case atStart => exact ⟨rfl, hB⟩
        case round =>
          obtain ⟨rfl, hB3⟩ := hrel
          go_wp2_with fail
          refine (awake_from hE h4 hB3).mono ?_
          rintro e w4 ⟨rfl, hb⟩
          go_wp2_with fail
          go_ret
          exact ⟨rfl, hb⟩
  | good out v hp hlen ho hb =>
    have hnb := Hd.mk hp
    clear hp
    go_wp2_with fail
    refine (rpieces_any s w1 hs).mono ?_
    rintro e w2 hR
    cases hR with
    | bad hp2 _ => exfalso; rw [hnb.out] at hp2; cases hp2
    | good out2 v2 hp2 hlen2 ho2 hb2 =>
      have hoo : out2 = out := by rw [hnb.out] at hp2; cases hp2; rfl
      subst hoo
      have hB := hb.trans (hb2.mono hb.size)
      have ho1 := ho.kept (grown_of_below hb2) (by cases v.ownBlock <;> simp)
      obtain ⟨a1, cap1, rfl⟩ := own_form ho
      obtain ⟨a2, cap2, rfl⟩ := own_form ho2
      rw [bs_length] at hlen
      obtain ⟨n, hn⟩ : ∃ n, numV (bs s) = n := ⟨_, rfl⟩
      have HN := Hd.mk hn
      clear hp2 hb2 hb hn ho
      rcases num_cases (bs s) with ⟨h1, h2⟩ | ⟨h1, h2⟩
      · have HO := Hd.mk (And.intro h1 h2)
        clear h1 h2
        go_wp2_with (first | (go_at_call 11; refine (number_any s _).mono ?_; rw [HN.out, HO.out.2]; rintro e w' ⟨rfl, rfl⟩) | (go_at_call 12; refine (rnumber_any s _ (by omega)).mono ?_; rw [HN.out, HO.out.1]; rintro e w' ⟨rfl, rfl⟩))
        go_loopw [11] (fun i wr => ∃ k : Nat, k ≤ out2.length ∧ i = .int .i64 k ∧ Below w2.heap.size w2 wr) (fun i _ => out2.length - (intOf i).toNat)
        case atStart => exact ⟨0, Nat.zero_le _, rfl, Below.refl _ _⟩
        case round =>
          obtain ⟨k, hk, rfl, hb3⟩ := hrel
          have hB3 := hB.trans (hb3.mono hB.size)
          by_cases hlt : k < out2.length
          · obtain ⟨b, hb, hb2⟩ := sv_ex (out2.getD k [])
            have hki : (k : Int) < (out2.length : Int) := by omega
            have hx : (strs out2)[k]? = some (.string b) := by
              unfold strs
              rw [List.getElem?_map, List.getElem?_eq_getElem hlt, ← hb, List.getD_eq_getElem?_getD, List.getElem?_eq_getElem hlt]; rfl
            obtain ⟨g1, c1, hf1, hg1, hg2⟩ := ho1.form (by omega)
            obtain ⟨g2, c2, hf2, hg3, hg4⟩ := ho2.form (by omega)
            have d1 := (ho1.kept (grown_of_below hb3) (by cases (Value.slice a1 out2.length cap1).ownBlock <;> simp)).cells (g := g1) (by rw [hf1]; rfl) k _ hx
            have d2 := (ho2.kept (grown_of_below hb3) (by cases (Value.slice a2 out2.length cap2).ownBlock <;> simp)).cells (g := g2) (by rw [hf2]; rfl) k _ hx
            rw [Addr.add_mid, Nat.zero_add] at d1 d2
            cases hf1
            cases hf2
            clear hx hb hb2 ho1 ho2
            go_wp2_with fail
            go_quiet (fail)
            go_wp2_with fail
            exact ⟨⟨k + 1, by omega, by simp, pw_below_drewN2 hb3 nq⟩, by simp [intOf]; omega⟩
          · go_wp2_with fail
            refine (awake_from hE h4 hB3).mono ?_
            rintro e w4 ⟨rfl, hb⟩
            go_wp2_with fail
            go_ret
            exact ⟨rfl, hb⟩
      · have HO := Hd.mk (And.intro h1 h2)
        clear h1 h2
        go_wp2_with (first | (go_at_call 11; refine (number_any s _).mono ?_; rw [HN.out, HO.out.2]; rintro e w' ⟨rfl, rfl⟩) | (go_at_call 12; refine (rnumber_any s _ (by omega)).mono ?_; rw [HN.out, HO.out.1]; rintro e w' ⟨rfl, rfl⟩))
        go_loopw [11] (fun i wr => ∃ k : Nat, k ≤ out2.length ∧ i = .int .i64 k ∧ Below w2.heap.size w2 wr) (fun i _ => out2.length - (intOf i).toNat)
        case atStart => exact ⟨0, Nat.zero_le _, rfl, Below.refl _ _⟩
        case round =>
          obtain ⟨k, hk, rfl, hb3⟩ := hrel
          have hB3 := hB.trans (hb3.mono hB.size)
          by_cases hlt : k < out2.length
          · obtain ⟨b, hb, hb2⟩ := sv_ex (out2.getD k [])
            have hki : (k : Int) < (out2.length : Int) := by omega
            have hx : (strs out2)[k]? = some (.string b) := by
              unfold strs
              rw [List.getElem?_map, List.getElem?_eq_getElem hlt, ← hb, List.getD_eq_getElem?_getD, List.getElem?_eq_getElem hlt]; rfl
            obtain ⟨g1, c1, hf1, hg1, hg2⟩ := ho1.form (by omega)
            obtain ⟨g2, c2, hf2, hg3, hg4⟩ := ho2.form (by omega)
            have d1 := (ho1.kept (grown_of_below hb3) (by cases (Value.slice a1 out2.length cap1).ownBlock <;> simp)).cells (g := g1) (by rw [hf1]; rfl) k _ hx
            have d2 := (ho2.kept (grown_of_below hb3) (by cases (Value.slice a2 out2.length cap2).ownBlock <;> simp)).cells (g := g2) (by rw [hf2]; rfl) k _ hx
            rw [Addr.add_mid, Nat.zero_add] at d1 d2
            cases hf1
            cases hf2
            clear hx hb hb2 ho1 ho2
            go_wp2_with fail
            go_quiet (fail)
            go_wp2_with fail
            exact ⟨⟨k + 1, by omega, by simp, pw_below_drewN2 hb3 nq⟩, by simp [intOf]; omega⟩
          · go_wp2_with fail
            refine (awake_from hE h4 hB3).mono ?_
            rintro e w4 ⟨rfl, hb⟩
            go_wp2_with fail
            go_ret
            exact ⟨rfl, hb⟩
end Go.Proofs.YtceelkmedfoefaaDoor
