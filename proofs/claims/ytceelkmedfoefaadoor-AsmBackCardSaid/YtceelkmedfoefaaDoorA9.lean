import Derived.Test.YtceelkmedfoefaaDoorA8
set_option linter.unusedVariables false
set_option linter.unusedSimpArgs false
namespace Go.Proofs.YtceelkmedfoefaaDoor
open Go.RowKit

/-- What the reference's Pieces leaves. -/
inductive RPiecesPost (l : Bytes) (w w' : World) : Ending → Prop
  | bad (h : pieces l = none) (hb : Below w.heap.size w w') : RPiecesPost l w w' (.returned (.tuple #[.slice none 0 0, .bool false]))
  | good (out : List Bytes) (v : Value) (h : pieces l = some out) (hl : out.length ≤ l.length) (ho : w'.ownsRow w.heap.size 9 1 v out.length (strs out)) (hb : Below w.heap.size w w') : RPiecesPost l w w' (.returned (.tuple #[v, .bool true]))

structure RInv (s : ByteArray) (w wr : World) (k : Nat) (piece : Bytes) (out : List Bytes) (v : Value) : Prop where
  own : wr.ownsRow w.heap.size 9 1 v out.length (strs out)
  len : out.length + (if piece = [] then 0 else 1) ≤ k
  plen : piece.length ≤ k
  bel : Below w.heap.size w wr
  eq : pcs ((bs s).drop k) piece out = pieces (bs s)

theorem pcs0 {c : UInt8} (l p : Bytes) (o : List Bytes) (h : kindI (c.toNat : Int) = 0) : pcs (c :: l) p o = none := by simp [pcs, h]
theorem pcs1 {c : UInt8} (l p : Bytes) (o : List Bytes) (h : kindI (c.toNat : Int) = 1) : pcs (c :: l) p o = pcs l [] (flush p o) := by simp [pcs, h]
theorem pcs2 {c : UInt8} (l p : Bytes) (o : List Bytes) (h : kindI (c.toNat : Int) = 2) : pcs (c :: l) p o = pcs l [] (flush p o ++ [[c]]) := by simp [pcs, h]
theorem pcs3 {c : UInt8} (l p : Bytes) (o : List Bytes) (h : kindI (c.toNat : Int) = 3) : pcs (c :: l) p o = pcs l (p ++ [c]) o := by simp [pcs, h]
theorem pcs4 {c : UInt8} (l p : Bytes) (o : List Bytes) (h : kindI (c.toNat : Int) = 4) : pcs (c :: l) p o = some (flush p o) := by simp [pcs, h]
theorem bs_append (a b : ByteArray) : bs (a ++ b) = bs a ++ bs b := by unfold bs; rw [ByteArray.data_append]; simp

set_option maxRecDepth 100000 in
set_option maxHeartbeats 8000000 in
theorem rpieces_any (s : ByteArray) (w : World) (hs : s.size ≤ 1048576) :
    Calls Tryd.prog 10 #[.string s] w fun e w' => RPiecesPost (bs s) w w' e := by
  go_enter Tryd.func10, Tryd.ntmps10
  go_wp2_with fail
  go_loopw [4, 5, 6] (fun v p i wr => ∃ (k : Nat) (pb : ByteArray) (out : List Bytes), k ≤ s.size ∧ i = .int .i64 k ∧ p = .string pb ∧ RInv s w wr k (bs pb) out v) (fun _ _ i _ => s.size - (intOf i).toNat)
  case atStart => exact ⟨0, ⟨#[]⟩, [], Nat.zero_le _, rfl, rfl, World.ownsRow_made w #[] 0 (Nat.le_refl _) (by unfold maxLen; omega) rfl, Nat.le_refl _, Nat.le_refl _, (Below.refl _ _).alloc (Nat.le_refl _) _, rfl⟩
  case round =>
    obtain ⟨k, pb, out, hk, rfl, rfl, hI⟩ := hrel
    have hB := hI.bel.size
    have hpl : pb.size ≤ 1048576 := by have := hI.plen; rw [bs_length] at this; omega
    have hol : out.length ≤ 1048576 := by have := hI.len; omega
    by_cases hlt : k < s.size
    · have hr := s[k].toNat_lt
      obtain ⟨kk, hkk⟩ : ∃ kk, kindI (s[k].toNat : Int) = kk := ⟨_, rfl⟩
      have HK := Hd.mk hkk
      have hk5 : kk = 0 ∨ kk = 1 ∨ kk = 2 ∨ kk = 3 ∨ kk = 4 := by rw [← hkk]; unfold kindI; (repeat' split) <;> simp
      clear hkk
      have hex : Hd (bs (s.extract k (k + 1)) = [s[k]]) := ⟨by
        rw [bs_extract, slice_snoc s k k (Nat.le_refl _) hlt, List.drop_eq_nil_of_le (by rw [List.length_take]; omega)]; rfl⟩
      have HE : Hd (pcs (s[k] :: (bs s).drop (k + 1)) (bs pb) out = pieces (bs s)) := ⟨by rw [← drop_at s k hlt]; exact hI.eq⟩
      by_cases hpe : 0 < pb.size
      · obtain ⟨t1, t2⟩ := tl_cons hpe
        have hne : Hd (¬ bs pb = []) := ⟨by rw [← toList_eq_bs]; exact t1⟩
        have hlen : out.length + 1 ≤ k := by have := hI.len; rw [if_neg hne.out] at this; exact this
        have hf : Hd (flush (bs pb) out = out ++ [bs pb]) := ⟨by rw [flush, if_neg hne.out]⟩
        have tok : True := trivial
        go_wp2_with fail
        refine (kind_any _ _ (by omega) (by omega)).mono ?_
        rintro e w' ⟨rfl, rfl⟩
        rw [HK.out]
        rcases hk5 with rfl | rfl | rfl | rfl | rfl
        · go_wp2_with (at_builtin; have _t := tok; refine app9 rfl _ _ rfl w.heap.size _ _ out rfl (hI.own.alloc _) pb _ rfl ?_ ?_ ?_ ?_; (exact World.cell?_alloc_at _ _ _ _ rfl); (omega); (simp; omega); intro v1 w1 ho hg; have hB1 := own_step hI.bel hI.own _ hg; have hB2 := hB1.size; clear tok _t)
          go_ret2
          exact RPiecesPost.bad (by rw [← HE.out, pcs0 _ _ _ HK.out]) hB1
        · go_wp2_with (at_builtin; have _t := tok; refine app9 rfl _ _ rfl w.heap.size _ _ out rfl (hI.own.alloc _) pb _ rfl ?_ ?_ ?_ ?_; (exact World.cell?_alloc_at _ _ _ _ rfl); (omega); (simp; omega); intro v1 w1 ho hg; have hB1 := own_step hI.bel hI.own _ hg; have hB2 := hB1.size; clear tok _t)
          go_roundw
          case rel => exact ⟨k + 1, ⟨#[]⟩, out ++ [bs pb], by omega, by go_num, rfl, by simpa using ho, by simp [bs]; omega, Nat.zero_le _, hB1, by rw [← HE.out, pcs1 _ _ _ HK.out, hf.out]; rfl⟩
          case measure => simp [intOf]; omega
        · go_wp2_with (first | (at_builtin; have _t := tok; refine app9 rfl _ _ rfl w.heap.size _ _ out rfl (hI.own.alloc _) pb _ rfl ?_ ?_ ?_ ?_; (exact World.cell?_alloc_at _ _ _ _ rfl); (omega); (simp; omega); intro v1 w1 ho hg; have hB1 := own_step hI.bel hI.own _ hg; have hB2 := hB1.size; clear tok _t) | (at_builtin; refine app9 rfl _ _ rfl w.heap.size _ _ (out ++ [bs pb]) rfl (ho.alloc _) (s.extract k (k + 1)) _ rfl ?_ ?_ ?_ ?_; (exact World.cell?_alloc_at _ _ _ _ rfl); (simp; omega); (simp; omega); intro v2 w2 ho2 hg2))
          go_roundw
          case rel => exact ⟨k + 1, ⟨#[]⟩, out ++ [bs pb] ++ [bs (s.extract k (k + 1))], by omega, by go_num, rfl, by simpa using ho2, by simp [bs]; omega, Nat.zero_le _, own_step hB1 ho _ hg2, by rw [← HE.out, hex.out, pcs2 _ _ _ HK.out, hf.out]; rfl⟩
          case measure => simp [intOf]; omega
        · clear tok
          go_wp2_with fail
          go_roundw
          case rel => exact ⟨k + 1, pb ++ s.extract k (k + 1), out, by omega, by go_num, rfl, hI.own, by split <;> omega, by rw [bs_length]; simp; have := hI.plen; rw [bs_length] at this; omega, hI.bel, by rw [← HE.out, pcs3 _ _ _ HK.out, bs_append, hex.out]⟩
          case measure => simp [intOf]; omega
        · go_wp2_with (at_builtin; have _t := tok; refine app9 rfl _ _ rfl w.heap.size _ _ out rfl (hI.own.alloc _) pb _ rfl ?_ ?_ ?_ ?_; (exact World.cell?_alloc_at _ _ _ _ rfl); (omega); (simp; omega); intro v1 w1 ho hg; have hB1 := own_step hI.bel hI.own _ hg; have hB2 := hB1.size; clear tok _t)
          go_ret2
          exact RPiecesPost.good (out ++ [bs pb]) _ (by rw [← HE.out, pcs4 _ _ _ HK.out, hf.out]) (by rw [bs_length]; simp; omega) (by simpa using ho) hB1
      · obtain ⟨t1, t2⟩ := tl_nil (s := pb) (by omega)
        have hne : Hd (bs pb = []) := ⟨by rw [← toList_eq_bs]; exact t1⟩
        have hlen : out.length ≤ k := by have := hI.len; rw [if_pos hne.out] at this; exact this
        have hf : Hd (flush (bs pb) out = out) := ⟨by rw [flush, if_pos hne.out]⟩
        go_wp2_with fail
        refine (kind_any _ _ (by omega) (by omega)).mono ?_
        rintro e w' ⟨rfl, rfl⟩
        rw [HK.out]
        rcases hk5 with rfl | rfl | rfl | rfl | rfl
        · go_wp2_with fail
          go_ret2
          exact RPiecesPost.bad (by rw [← HE.out, pcs0 _ _ _ HK.out]) hI.bel
        · go_wp2_with fail
          go_roundw
          case rel => exact ⟨k + 1, pb, out, by omega, by go_num, rfl, hI.own, by rw [if_pos hne.out]; omega, by rw [hne.out]; exact Nat.zero_le _, hI.bel, by rw [← HE.out, pcs1 _ _ _ HK.out, hf.out, hne.out]⟩
          case measure => simp [intOf]; omega
        · go_wp2_with (at_builtin; refine app9 rfl _ _ rfl w.heap.size _ _ out rfl (hI.own.alloc _) (s.extract k (k + 1)) _ rfl ?_ ?_ ?_ ?_; (exact World.cell?_alloc_at _ _ _ _ rfl); (omega); (simp; omega); intro v2 w2 ho2 hg2)
          go_roundw
          case rel => exact ⟨k + 1, pb, out ++ [bs (s.extract k (k + 1))], by omega, by go_num, rfl, by simpa using ho2, by rw [if_pos hne.out]; simp; omega, by rw [hne.out]; exact Nat.zero_le _, own_step hI.bel hI.own _ hg2, by rw [← HE.out, hex.out, pcs2 _ _ _ HK.out, hf.out, hne.out]⟩
          case measure => simp [intOf]; omega
        · go_wp2_with fail
          go_roundw
          case rel => exact ⟨k + 1, pb ++ s.extract k (k + 1), out, by omega, by go_num, rfl, hI.own, by split <;> omega, by rw [bs_length]; simp; omega, hI.bel, by rw [← HE.out, pcs3 _ _ _ HK.out, bs_append, hex.out]⟩
          case measure => simp [intOf]; omega
        · go_wp2_with fail
          go_ret2
          exact RPiecesPost.good out _ (by rw [← HE.out, pcs4 _ _ _ HK.out, hf.out]) (by rw [bs_length]; omega) hI.own hI.bel
    · have hk2 : k = s.size := by omega
      subst hk2
      have HE : Hd (pcs [] (bs pb) out = pieces (bs s)) := ⟨by rw [← drop_end s _ (Nat.le_refl _)]; exact hI.eq⟩
      by_cases hpe : 0 < pb.size
      · obtain ⟨t1, t2⟩ := tl_cons hpe
        have hne : Hd (¬ bs pb = []) := ⟨by rw [← toList_eq_bs]; exact t1⟩
        have hlen : out.length + 1 ≤ s.size := by have := hI.len; rw [if_neg hne.out] at this; exact this
        have hf : Hd (flush (bs pb) out = out ++ [bs pb]) := ⟨by rw [flush, if_neg hne.out]⟩
        have tok : True := trivial
        go_wp2_with (at_builtin; have _t := tok; refine app9 rfl _ _ rfl w.heap.size _ _ out rfl (hI.own.alloc _) pb _ rfl ?_ ?_ ?_ ?_; (exact World.cell?_alloc_at _ _ _ _ rfl); (omega); (simp; omega); intro v1 w1 ho hg; have hB1 := own_step hI.bel hI.own _ hg; have hB2 := hB1.size; clear tok _t)
        go_ret2
        exact RPiecesPost.good (out ++ [bs pb]) _ (by rw [← HE.out]; simp [pcs, hf.out]) (by rw [bs_length]; simp; omega) (by simpa using ho) hB1
      · obtain ⟨t1, t2⟩ := tl_nil (s := pb) (by omega)
        have hne : Hd (bs pb = []) := ⟨by rw [← toList_eq_bs]; exact t1⟩
        have hlen : out.length ≤ s.size := by have := hI.len; rw [if_pos hne.out] at this; exact this
        have hf : Hd (flush (bs pb) out = out) := ⟨by rw [flush, if_pos hne.out]⟩
        go_wp2_with fail
        go_ret2
        exact RPiecesPost.good out _ (by rw [← HE.out]; simp [pcs, hf.out]) (by rw [bs_length]; omega) hI.own hI.bel

end Go.Proofs.YtceelkmedfoefaaDoor
