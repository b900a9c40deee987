import Derived.Test.YtceelkmedfoefaaDoorA14
set_option linter.unusedVariables false
set_option linter.unusedSimpArgs false
namespace Go.Proofs.YtceelkmedfoefaaDoor
open Go.RowKit

theorem readO_bad {p : List Bytes} (hw : ¬ (p.length = 2 ∧ p.getD 0 [] = wordB)) (hb : ¬ (opE (p.getD 0 []) = 0 ∧ opI (p.getD 0 []) ≠ 0 ∧ p.length = 1 + (shapeL (opI (p.getD 0 []))).length)) : readO p = none := by
  unfold readO; rw [if_neg hw, if_neg hb]
def startX (op : Int) : AItem := { zeroX with op := op, has := true }
theorem readO_go {p : List Bytes} (hw : ¬ (p.length = 2 ∧ p.getD 0 [] = wordB)) (hb : opE (p.getD 0 []) = 0 ∧ opI (p.getD 0 []) ≠ 0 ∧ p.length = 1 + (shapeL (opI (p.getD 0 []))).length) :
    readO p = match fillAll (startX (opI (p.getD 0 []))) (shapeL (opI (p.getD 0 []))) (p.drop 1) with
      | none => none
      | some x => if upOk x = true then some (upX x) else none := by
  unfold readO; rw [if_neg hw, if_pos hb]; rfl
theorem below_two {w : World} (o o' : Obj) : Below w.heap.size w ((w.alloc o).alloc o') := ((Below.refl _ _).alloc (Nat.le_refl _) o).alloc (by simp) o'

/-- The frame that read has come to when it looks whether the shape fits: three ways not to. -/
structure RBad (oe oi : Int) (n m : Nat) : Prop where
  bad : oe ≠ 0 ∨ oi = 0 ∨ n ≠ 1 + m

set_option maxRecDepth 100000 in
set_option maxHeartbeats 4000000 in
theorem read_bad (b off n cap : Nat) (p : List Bytes) (w : World) (hE : Env w) (hp : StrAt w b off p) (hn : p.length = n) (h1 : 1 ≤ n) (hbig : n ≤ 1048576) (hc : n ≤ cap) (hw : ¬ (p.length = 2 ∧ p.getD 0 [] = wordB))
    (hb : ¬ (opE (p.getD 0 []) = 0 ∧ opI (p.getD 0 []) ≠ 0 ∧ p.length = 1 + (shapeL (opI (p.getD 0 []))).length)) :
    Calls Tryd.prog 29 #[.slice (some ⟨b, off, none⟩) n cap] w fun e w' => ReadPost p w w' e := by
  have hlt : b < w.heap.size := by rcases hp.lt with e | e; rw [e] at hn; simp at hn; omega; exact e
  obtain ⟨s0, hs0, hb0⟩ := sv_ex (p.getD 0 [])
  have hc0 : w.cell? ⟨b, off, none⟩ = some (.string s0) := by rw [← hs0]; exact hp.cell 0 (by omega)
  have HR := Hd.mk (readO_bad hw hb)
  obtain ⟨oe, hoe⟩ : ∃ oe, opE (bs s0) = oe := ⟨_, rfl⟩
  obtain ⟨oi, hoi⟩ : ∃ oi, opI (bs s0) = oi := ⟨_, rfl⟩
  obtain ⟨wb, hwb, hwl⟩ : ∃ wb : ByteArray, (⟨(shapeL oi).toArray⟩ : ByteArray) = wb ∧ wb.size = (shapeL oi).length := ⟨_, rfl, by simp [ByteArray.size]⟩
  have hbad : oe ≠ 0 ∨ (oe = 0 ∧ oi = 0) ∨ (oe = 0 ∧ oi ≠ 0 ∧ n ≠ 1 + wb.size) := by
    rw [← hb0, hn, hoe, hoi, ← hwl] at hb
    by_cases a : oe = 0
    · by_cases c : oi = 0
      · exact .inr (.inl ⟨a, c⟩)
      · exact .inr (.inr ⟨a, c, fun d => hb ⟨a, c, d⟩⟩)
    · exact .inl a
  have HOE := Hd.mk hoe
  have HOI := Hd.mk hoi
  have HWB := Hd.mk hwb
  have h20 : n = 2 → (s0.toList == [46, 119, 111, 114, 100]) = false := by
    intro e
    rw [toList_eq_bs, hb0]
    exact beq_eq_false_iff_ne.2 fun h => hw ⟨by omega, h⟩
  have HH := Hd.mk (And.intro hs0 (And.intro hb0 (And.intro hn hw)))
  clear hoe hoi hwb hs0 hb0 hn hw hb hwl
  have hws : wb.size ≤ 9223372036854775806 := by
    have := congrArg ByteArray.size HWB.out
    rw [← this]
    have h2 := shapeR_length oi
    unfold shapeR at h2
    rw [List.length_map] at h2
    simp [ByteArray.size]; omega
  rcases hbad with a | ⟨a, c⟩ | ⟨a, c, d⟩
  · have b1 : (oe != 0) = true := by rw [bne_iff_ne]; exact a
    clear a
    by_cases h2 : n = 2
    · have e2 : ((n : Int) == 2) = true := beq_iff_eq.2 (by omega)
      have e3 := h20 h2
      clear h2 h20
      go_enter Tryd.func29, Tryd.ntmps29
      go_wp2_with (first | (go_at_call 54; refine (op_any _ _ ((hE.alloc _).alloc _)).mono ?_; rw [HOE.out, HOI.out]; rintro e w' ⟨rfl, rfl⟩) | (go_at_call 55; refine (shape_any _ _ ((hE.alloc _).alloc _)).mono ?_; rw [HWB.out]; rintro e w' ⟨rfl, rfl⟩))
      refine bodyPost_ret (v := .tuple #[itemV zeroX, .bool false]) ?_ rfl ⟨⟨_, _, rfl, (fun h => by cases h), fun _ => HR.out⟩, below_two _ _⟩
      simp [results, Tryd.results29, go_sem, itemV, ICells, zeroX, SV]
    · have e2 : ((n : Int) == 2) = false := beq_eq_false_iff_ne.2 (by omega)
      clear h2 h20
      go_enter Tryd.func29, Tryd.ntmps29
      go_wp2_with (first | (go_at_call 54; refine (op_any _ _ ((hE.alloc _).alloc _)).mono ?_; rw [HOE.out, HOI.out]; rintro e w' ⟨rfl, rfl⟩) | (go_at_call 55; refine (shape_any _ _ ((hE.alloc _).alloc _)).mono ?_; rw [HWB.out]; rintro e w' ⟨rfl, rfl⟩))
      refine bodyPost_ret (v := .tuple #[itemV zeroX, .bool false]) ?_ rfl ⟨⟨_, _, rfl, (fun h => by cases h), fun _ => HR.out⟩, below_two _ _⟩
      simp [results, Tryd.results29, go_sem, itemV, ICells, zeroX, SV]
  · have b1 : (oe != 0) = false := by rw [bne_eq_false_iff_eq]; exact a
    have b2 : (oi == 0) = true := beq_iff_eq.2 c
    clear a c
    by_cases h2 : n = 2
    · have e2 : ((n : Int) == 2) = true := beq_iff_eq.2 (by omega)
      have e3 := h20 h2
      clear h2 h20
      go_enter Tryd.func29, Tryd.ntmps29
      go_wp2_with (first | (go_at_call 54; refine (op_any _ _ ((hE.alloc _).alloc _)).mono ?_; rw [HOE.out, HOI.out]; rintro e w' ⟨rfl, rfl⟩) | (go_at_call 55; refine (shape_any _ _ ((hE.alloc _).alloc _)).mono ?_; rw [HWB.out]; rintro e w' ⟨rfl, rfl⟩))
      refine bodyPost_ret (v := .tuple #[itemV zeroX, .bool false]) ?_ rfl ⟨⟨_, _, rfl, (fun h => by cases h), fun _ => HR.out⟩, below_two _ _⟩
      simp [results, Tryd.results29, go_sem, itemV, ICells, zeroX, SV]
    · have e2 : ((n : Int) == 2) = false := beq_eq_false_iff_ne.2 (by omega)
      clear h2 h20
      go_enter Tryd.func29, Tryd.ntmps29
      go_wp2_with (first | (go_at_call 54; refine (op_any _ _ ((hE.alloc _).alloc _)).mono ?_; rw [HOE.out, HOI.out]; rintro e w' ⟨rfl, rfl⟩) | (go_at_call 55; refine (shape_any _ _ ((hE.alloc _).alloc _)).mono ?_; rw [HWB.out]; rintro e w' ⟨rfl, rfl⟩))
      refine bodyPost_ret (v := .tuple #[itemV zeroX, .bool false]) ?_ rfl ⟨⟨_, _, rfl, (fun h => by cases h), fun _ => HR.out⟩, below_two _ _⟩
      simp [results, Tryd.results29, go_sem, itemV, ICells, zeroX, SV]
  · have b1 : (oe != 0) = false := by rw [bne_eq_false_iff_eq]; exact a
    have b2 : (oi == 0) = false := beq_eq_false_iff_ne.2 c
    have b3 : ((n : Int) != 1 + (wb.size : Int)) = true := by rw [bne_iff_ne]; omega
    clear a c d
    by_cases h2 : n = 2
    · have e2 : ((n : Int) == 2) = true := beq_iff_eq.2 (by omega)
      have e3 := h20 h2
      clear h2 h20
      go_enter Tryd.func29, Tryd.ntmps29
      go_wp2_with (first | (go_at_call 54; refine (op_any _ _ ((hE.alloc _).alloc _)).mono ?_; rw [HOE.out, HOI.out]; rintro e w' ⟨rfl, rfl⟩) | (go_at_call 55; refine (shape_any _ _ ((hE.alloc _).alloc _)).mono ?_; rw [HWB.out]; rintro e w' ⟨rfl, rfl⟩))
      refine bodyPost_ret (v := .tuple #[itemV zeroX, .bool false]) ?_ rfl ⟨⟨_, _, rfl, (fun h => by cases h), fun _ => HR.out⟩, below_two _ _⟩
      simp [results, Tryd.results29, go_sem, itemV, ICells, zeroX, SV]
    · have e2 : ((n : Int) == 2) = false := beq_eq_false_iff_ne.2 (by omega)
      clear h2 h20
      go_enter Tryd.func29, Tryd.ntmps29
      go_wp2_with (first | (go_at_call 54; refine (op_any _ _ ((hE.alloc _).alloc _)).mono ?_; rw [HOE.out, HOI.out]; rintro e w' ⟨rfl, rfl⟩) | (go_at_call 55; refine (shape_any _ _ ((hE.alloc _).alloc _)).mono ?_; rw [HWB.out]; rintro e w' ⟨rfl, rfl⟩))
      refine bodyPost_ret (v := .tuple #[itemV zeroX, .bool false]) ?_ rfl ⟨⟨_, _, rfl, (fun h => by cases h), fun _ => HR.out⟩, below_two _ _⟩
      simp [results, Tryd.results29, go_sem, itemV, ICells, zeroX, SV]

end Go.Proofs.YtceelkmedfoefaaDoor
