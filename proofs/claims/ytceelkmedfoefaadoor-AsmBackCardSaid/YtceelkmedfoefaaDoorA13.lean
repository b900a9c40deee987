import Derived.Test.YtceelkmedfoefaaDoorA12
set_option linter.unusedVariables false
set_option linter.unusedSimpArgs false
namespace Go.Proofs.YtceelkmedfoefaaDoor
open Go.RowKit

/-- The number of FormU, in its place. -/
def upX (x : AItem) : AItem := if x.op = 1 ∨ x.op = 2 then { x with imm := x.imm * 4096 % 4294967296 } else x
def upOk (x : AItem) : Bool := if x.op = 1 ∨ x.op = 2 then decide (x.imm < 1048576) else true
structure UpPost (x : AItem) (b : Nat) (w w' : World) (e : Ending) : Prop where
  ret : e = .returned (.bool (upOk x))
  item : ItemAt w' b (upX x)
  grown : w.grownBy w' (some b)

set_option maxHeartbeats 1000000 in
theorem upper_any (x : AItem) (b : Nat) (w : World) (hx : ItemAt w b x) (h0 : 0 ≤ x.imm) (h1 : x.imm < 4294967296) :
    Calls Tryd.prog 57 #[.pointer (some ⟨b, 0, none⟩)] w fun e w' => UpPost x b w w' e := by
  have hc : w.cell? ⟨b, 0, none⟩ = some (.int .i64 x.op) := hx.blk.cell 0 rfl
  have hc4 : w.cell? ⟨b, 4, none⟩ = some (.int .u32 x.imm) := hx.blk.cell 4 rfl
  have hf := hx.blk.free 4
  obtain ⟨op, hop⟩ : ∃ op, x.op = op := ⟨_, rfl⟩
  obtain ⟨imm, himm⟩ : ∃ imm, x.imm = imm := ⟨_, rfl⟩
  rw [hop] at hc
  rw [himm] at hc4 h0 h1
  have HO := Hd.mk hop
  have HI := Hd.mk himm
  clear hop himm
  by_cases h : op = 1 ∨ op = 2
  · have HX : Hd (upX x = { x with imm := imm * 4096 % 4294967296 }) := ⟨by unfold upX; rw [HO.out, if_pos h, HI.out]⟩
    have HK : Hd (upOk x = decide (imm < 1048576)) := ⟨by unfold upOk; rw [HO.out, if_pos h, HI.out]⟩
    rcases h with h | h
    · have b1 : (op != 1) = false := by rw [bne_eq_false_iff_eq]; exact h
      clear h
      go_enter Tryd.func57, Tryd.ntmps57
      go_wp2_with fail
      go_ret
      exact ⟨ret_bool HK.out.symm, by rw [HX.out]; exact ⟨hx.blk.set 4 _⟩, grown_set _ _ _ _⟩
    · have b1 : (op != 1) = true := by rw [bne_iff_ne]; omega
      have b2 : (op != 2) = false := by rw [bne_eq_false_iff_eq]; exact h
      clear h
      go_enter Tryd.func57, Tryd.ntmps57
      go_wp2_with fail
      go_ret
      exact ⟨ret_bool HK.out.symm, by rw [HX.out]; exact ⟨hx.blk.set 4 _⟩, grown_set _ _ _ _⟩
  · have HX : Hd (upX x = x) := ⟨by unfold upX; rw [HO.out, if_neg h]⟩
    have HK : Hd (upOk x = true) := ⟨by unfold upOk; rw [HO.out, if_neg h]⟩
    have b1 : (op != 1) = true := by rw [bne_iff_ne]; omega
    have b2 : (op != 2) = true := by rw [bne_iff_ne]; omega
    clear h
    go_enter Tryd.func57, Tryd.ntmps57
    go_wp2_with fail
    go_ret
    exact ⟨ret_bool HK.out.symm, by rw [HX.out]; exact hx, grown_refl _ _⟩

end Go.Proofs.YtceelkmedfoefaaDoor
