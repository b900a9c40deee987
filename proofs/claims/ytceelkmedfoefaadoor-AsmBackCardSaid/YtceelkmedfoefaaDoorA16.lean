import Derived.Test.YtceelkmedfoefaaDoorA15
import Derived.Test.YtceelkmedfoefaaDoorL6
set_option linter.unusedVariables false
set_option linter.unusedSimpArgs false
namespace Go.Proofs.YtceelkmedfoefaaDoor
open Go.RowKit

theorem Blk.drew {w : World} {b : Nat} {cs : Array Value} {T : TypeId} (h : Blk w b cs T) : Blk w.drew b cs T := ⟨h.at_⟩
structure LInv (w wr : World) (x : AItem) (want : Bytes) (rest : List Bytes) (R : Option AItem) : Prop where
  item : ItemAt wr (w.heap.size + 1) x
  res : Blk wr w.heap.size (ICells zeroX) 58
  bel : Below w.heap.size w wr
  fold : fillAll x want rest = R
  imm : 0 ≤ x.imm ∧ x.imm < 4294967296
theorem LInv.drew {w wr : World} {x : AItem} {want : Bytes} {rest : List Bytes} {R : Option AItem} (h : LInv w wr x want rest R) : LInv w wr.drew x want rest R :=
  ⟨⟨h.item.blk.drew⟩, h.res.drew, h.bel.drew, h.fold, h.imm⟩
theorem fillX_imm {x : AItem} {what : Int} {s : Bytes} (h : 0 ≤ x.imm ∧ x.imm < 4294967296) : 0 ≤ (fillX x what s).imm ∧ (fillX x what s).imm < 4294967296 := by
  unfold fillX
  have h2 := numV_range s
  obtain ⟨h3, h4⟩ := h
  (repeat' split) <;> first | exact ⟨h3, h4⟩ | exact h2
theorem LInv.step {w wr w' : World} {x : AItem} {c : UInt8} {want : Bytes} {s : Bytes} {rest : List Bytes} {R : Option AItem} {e : Ending}
    (h : LInv w wr x (c :: want) (s :: rest) R) (hp : FillPost x (w.heap.size + 1) (c.toNat : Int) s wr w' e) (hk : fillOk (c.toNat : Int) s = true) : LInv w w' (fillX x (c.toNat : Int) s) want rest R :=
  ⟨hp.item, h.res.grown hp.grown (by simp), h.bel.trans (below_of_grown hp.grown (by omega) h.bel.size), by have := h.fold; rwa [fillAll, if_pos hk] at this, fillX_imm h.imm⟩
theorem LInv.fell {w wr : World} {x : AItem} {c : UInt8} {want : Bytes} {s : Bytes} {rest : List Bytes} {R : Option AItem}
    (h : LInv w wr x (c :: want) (s :: rest) R) (hk : fillOk (c.toNat : Int) s = false) : R = none := by
  have := h.fold; rw [fillAll, if_neg (by rw [hk]; simp)] at this; exact this.symm

theorem blk_new2 (w : World) (o : Obj) (cs : Array Value) (T : TypeId) : Blk ((w.alloc o).alloc (.cells cs T)) (w.heap.size + 1) cs T := by
  have := blk_new (w.alloc o) cs T
  simpa using this
theorem drop_getD (p : List Bytes) (k : Nat) (h : k < p.length) : p.drop k = p.getD k [] :: p.drop (k + 1) := by
  rw [List.drop_eq_getElem_cons h, List.getD_eq_getElem?_getD, List.getElem?_eq_getElem h]; rfl
theorem shape_len (n : Int) : (shapeL n).length = 0 ∨ (shapeL n).length = 3 ∨ (shapeL n).length = 5 ∨ (shapeL n).length = 6 := by
  unfold shapeL; (repeat' split) <;> simp
theorem below_set {B : Nat} {w W : World} {b k : Nat} {v : Value} (h : Below B w W) (hb : B ≤ b) : Below B w (W.setCell ⟨b, k, none⟩ v) := h.setCell hb v
theorem cells10 {w : World} {b : Nat} {x : AItem} (h : Blk w b (ICells x) 58) :
    w.cell? ⟨b, 0, none⟩ = some (.int .i64 x.op) ∧ w.cell? ⟨b, 1, none⟩ = some (.int .i64 x.rd) ∧ w.cell? ⟨b, 2, none⟩ = some (.int .i64 x.rs1) ∧ w.cell? ⟨b, 3, none⟩ = some (.int .i64 x.rs2) ∧ w.cell? ⟨b, 4, none⟩ = some (.int .u32 x.imm) ∧ w.cell? ⟨b, 5, none⟩ = some (.int .i64 x.csr) ∧
    w.cell? ⟨b, 6, none⟩ = some (SV x.label) ∧ w.cell? ⟨b, 7, none⟩ = some (.int .u32 x.word) ∧ w.cell? ⟨b, 8, none⟩ = some (.bool x.raw) ∧ w.cell? ⟨b, 9, none⟩ = some (.bool x.has) ∧ ∀ j, w.frozen? ⟨b, j, none⟩ = false :=
  ⟨h.cell 0 rfl, h.cell 1 rfl, h.cell 2 rfl, h.cell 3 rfl, h.cell 4 rfl, h.cell 5 rfl, h.cell 6 rfl, h.cell 7 rfl, h.cell 8 rfl, h.cell 9 rfl, h.free⟩
/-- The kinds of a shape. -/
theorem shape_kinds (n : Int) : ∀ c ∈ shapeL n, (c.toNat : Int) = 100 ∨ (c.toNat : Int) = 49 ∨ (c.toNat : Int) = 50 ∨ (c.toNat : Int) = 116 ∨ (c.toNat : Int) = 110 ∨ (c.toNat : Int) = 99 ∨ (c.toNat : Int) = 44 ∨ (c.toNat : Int) = 40 ∨ (c.toNat : Int) = 41 := by
  unfold shapeL
  (repeat' split) <;> decide

set_option maxRecDepth 100000 in
set_option maxHeartbeats 4000000 in
theorem read_good (b off n cap : Nat) (p : List Bytes) (w : World) (hE : Env w) (hp : StrAt w b off p) (hn : p.length = n) (h1 : 1 ≤ n) (hbig : n ≤ 1048576) (hc : n ≤ cap) (hw : ¬ (p.length = 2 ∧ p.getD 0 [] = wordB))
    (hb : opE (p.getD 0 []) = 0 ∧ opI (p.getD 0 []) ≠ 0 ∧ p.length = 1 + (shapeL (opI (p.getD 0 []))).length) :
    Calls Tryd.prog 29 #[.slice (some ⟨b, off, none⟩) n cap] w fun e w' => ReadPost p w w' e := by
  have hlt : b < w.heap.size := by rcases hp.lt with e | e; rw [e] at hn; simp at hn; omega; exact e
  obtain ⟨s0, hs0, hb0⟩ := sv_ex (p.getD 0 [])
  have hc0 : w.cell? ⟨b, off, none⟩ = some (.string s0) := by rw [← hs0]; exact hp.cell 0 (by omega)
  have hR := readO_go hw hb
  rw [← hb0] at hR hb
  obtain ⟨oi, hoi⟩ : ∃ oi, opI (bs s0) = oi := ⟨_, rfl⟩
  obtain ⟨wb, hwb, hwl⟩ : ∃ wb : ByteArray, (⟨(shapeL oi).toArray⟩ : ByteArray) = wb ∧ bs wb = shapeL oi := ⟨_, rfl, by simp [bs]⟩
  rw [hoi] at hR hb
  rw [← hwl] at hR hb
  rw [bs_length, hn] at hb
  have HOE := Hd.mk hb.1
  have HOI := Hd.mk hoi
  have HWB := Hd.mk hwb
  have HWL := Hd.mk hwl
  have HR := Hd.mk hR
  have b2 : (oi == 0) = false := beq_eq_false_iff_ne.2 hb.2.1
  have b3 : ((n : Int) != 1 + (wb.size : Int)) = false := by rw [bne_eq_false_iff_eq]; have := hb.2.2; omega
  have hm : wb.size < n := by omega
  have HM : Hd (n = 1 + wb.size) := ⟨hb.2.2⟩
  have hoir : 0 ≤ oi ∧ oi < 58 := by rw [← hoi]; exact opI_range _
  have h2 : ¬ n = 2 := by
    have hl := shape_len oi
    rw [← hwl, bs_length] at hl
    omega
  have e2 : ((n : Int) == 2) = false := beq_eq_false_iff_ne.2 (by omega)
  have HH := Hd.mk (And.intro hs0 (And.intro hb0 (And.intro hn hw)))
  obtain ⟨hoir1, hoir2⟩ := hoir
  clear hoi hwb hs0 hb0 hn hw hb hwl hR
  clear h2
  go_enter Tryd.func29, Tryd.ntmps29
  go_wp2_with (first | (go_at_call 54; refine (op_any _ _ ((hE.alloc _).alloc _)).mono ?_; rw [HOE.out, HOI.out]; rintro e w' ⟨rfl, rfl⟩) | (go_at_call 55; refine (shape_any _ _ ((hE.alloc _).alloc _)).mono ?_; rw [HWB.out]; rintro e w' ⟨rfl, rfl⟩))
  go_loopw [64] (fun i wr => ∃ (k : Nat) (x : AItem), k ≤ wb.size ∧ i = .int .i64 k ∧ LInv w wr x ((bs wb).drop k) (p.drop (k + 1)) (fillAll (startX oi) (bs wb) (p.drop 1))) (fun i _ => wb.size - (intOf i).toNat)
  case atStart => exact ⟨0, startX oi, Nat.zero_le _, rfl, ⟨⟨blk_new2 _ _ _ _⟩, (blk_new _ _ _).alloc _, below_two _ _, by simp, by simp [startX, zeroX], by simp [startX, zeroX]⟩⟩
  case round =>
    obtain ⟨k, x, hk, rfl, hI⟩ := hrel
    by_cases hkl : k < wb.size
    · obtain ⟨sk, hsk, hbk⟩ := sv_ex (p.getD (k + 1) [])
      have hck : wr.cell? ⟨b, off + (k + 1), none⟩ = some (.string sk) := by
        rw [← hsk, ← hp.cell (k + 1) (by have := HH.out.2.2.1; omega)]
        exact hI.bel.cell (p := ⟨b, off + (k + 1), none⟩) hlt
      have hI2 : LInv w wr x (wb[k] :: (bs wb).drop (k + 1)) (bs sk :: p.drop (k + 2)) (fillAll (startX oi) (bs wb) (p.drop 1)) := by
        rw [← drop_at wb k hkl, hbk, ← drop_getD p (k + 1) (by have := HH.out.2.2.1; omega)]; exact hI
      have hkind := shape_kinds oi wb[k] (by rw [← HWL.out]; unfold bs; rw [Array.mem_toList_iff]; exact Array.getElem_mem (xs := wb.data) hkl)
      have HKI := Hd.mk hkind
      have HSB := Hd.mk (And.intro hsk hbk)
      have hr := wb[k].toNat_lt
      clear hsk hbk hkind hI
      have hkn : (k : Int) + 1 < (n : Int) := by omega
      have hk0 : (0 : Int) ≤ (k : Int) + 1 := by omega
      have hkt : ((k : Int) + 1).toNat = k + 1 := by omega
      have hkw : IntKind.i64.wrap ((k : Int) + 1) = (k : Int) + 1 := IntWalk.i64_in _ (by omega)
      go_wp2_with fail
      go_still_tail 8, (by kernel_rfl)
      clear hkw hkt hk0 hkn
      change wpList _ _ _ _ _ wr.drew
      have hI3 := hI2.drew
      generalize wr.drew = w2 at hI3 ⊢
      clear hI2
      obtain ⟨ok, hok⟩ : ∃ ok, fillOk (wb[k].toNat : Int) (bs sk) = ok := ⟨_, rfl⟩
      go_wp2_with fail
      refine (fill_any x (w.heap.size + 1) _ sk _ hI3.item HKI.out).mono ?_
      rintro e w' hF
      have hres := hI3.res.grown hF.grown (by simp)
      have hbel := hI3.bel.trans (below_of_grown hF.grown (by omega) hI3.bel.size)
      cases ok
      · have hN := Hd.mk (hI3.fell hok)
        have hr := hF.ret
        rw [hok] at hr
        subst hr
        have HB := Hd.mk hbel
        have hnone : Hd (readO p = none) := ⟨by rw [HR.out, hN.out]⟩
        clear hF hI3 hok hbel
        go_wp2_with (refine st_blk rfl 58 _ _ rfl w.heap.size (ICells zeroX) rfl rfl hres info58 rfl (icells_one _) ?_; intro w3 hb3 hg3)
        exact bodyPost_ret (v := .tuple #[itemV zeroX, .bool false]) (res_blk rfl _ _ w.heap.size _ 58 rfl hb3 Tryd.underlying58 info58 rfl) rfl ⟨⟨_, _, rfl, (fun h => by cases h), fun _ => hnone.out⟩, HB.out.trans (below_of_grown hg3 (Nat.le_refl _) HB.out.size)⟩
      · have hS := hI3.step hF hok
        have hr := hF.ret
        rw [hok] at hr
        subst hr
        clear hF hI3 hok hbel hres
        go_wp2_with fail
        go_roundw
        case rel => exact ⟨k + 1, _, by omega, by go_num, hS⟩
        case measure => simp [intOf]; omega
    · have hk2 : k = wb.size := by omega
      subst hk2
      have hfold : fillAll (startX oi) (bs wb) (p.drop 1) = some x := by
        have := hI.fold
        rw [drop_end wb _ (Nat.le_refl _), fillAll] at this
        exact this.symm
      have HRR : Hd (readO p = if upOk x = true then some (upX x) else none) := ⟨by rw [HR.out, hfold]⟩
      go_wp2_with fail
      refine (upper_any x (w.heap.size + 1) _ hI.item hI.imm.1 hI.imm.2).mono ?_
      rintro e w' hF
      have hres := hI.res.grown hF.grown (by simp)
      have HB := Hd.mk (hI.bel.trans (below_of_grown hF.grown (by omega) hI.bel.size))
      have hr := hF.ret
      have hit := hF.item.blk
      obtain ⟨y, hy⟩ : ∃ y, upX x = y := ⟨_, rfl⟩
      rw [hy] at hit
      obtain ⟨ok, hok⟩ : ∃ ok, upOk x = ok := ⟨_, rfl⟩
      rw [hok] at hr
      rw [hok, hy] at HRR
      subst hr
      clear hF hI hok hfold hy
      go_wp2_with (first | (refine ld_blk rfl 58 _ rfl (w.heap.size + 1) rfl hit Tryd.underlying58 info58 ?_) | (refine st_blk rfl 58 _ _ rfl w.heap.size (ICells y) rfl rfl hres info58 rfl (icells_one _) ?_; intro w3 hb3 hg3))
      have h1 : ok = true → readO p = some y := fun h => by rw [HRR.out, if_pos h]
      have h2 : ok = false → readO p = none := fun h => by rw [HRR.out, if_neg (by rw [h]; simp)]
      exact bodyPost_ret (v := .tuple #[itemV y, .bool ok]) (res_blk rfl _ _ w.heap.size _ 58 rfl hb3 Tryd.underlying58 info58 rfl) rfl ⟨⟨y, ok, rfl, h1, h2⟩, HB.out.trans (below_of_grown hg3 (Nat.le_refl _) HB.out.size)⟩

/-- asm.read, of whatever pieces. -/
theorem read_any (b off n cap : Nat) (p : List Bytes) (w : World) (hE : Env w) (hp : StrAt w b off p) (hn : p.length = n) (h1 : 1 ≤ n) (hbig : n ≤ 1048576) (hc : n ≤ cap) :
    Calls Tryd.prog 29 #[.slice (some ⟨b, off, none⟩) n cap] w fun e w' => ReadPost p w w' e := by
  by_cases hw : p.length = 2 ∧ p.getD 0 [] = wordB
  · exact read_word b off n cap p w hp hn (by omega) hw.2 hc
  · by_cases hb : opE (p.getD 0 []) = 0 ∧ opI (p.getD 0 []) ≠ 0 ∧ p.length = 1 + (shapeL (opI (p.getD 0 []))).length
    · exact read_good b off n cap p w hE hp hn h1 hbig hc hw hb
    · exact read_bad b off n cap p w hE hp hn h1 hbig hc hw hb

end Go.Proofs.YtceelkmedfoefaaDoor
