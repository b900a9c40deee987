/- The reference's fill and read, whatever the pieces are. -/
import Derived.Test.YtceelkmedfoefaaDoorL7
import Derived.Test.YtceelkmedfoefaaDoorA9
import Derived.Test.YtceelkmedfoefaaDoorA16
import Derived.Test.YtceelkmedfoefaaDoorL11
import Derived.Test.YtceelkmedfoefaaDoorA25
import Derived.Deep.QuietTactic
import Derived.BigQuiet
set_option linter.unusedVariables false
set_option linter.unusedSimpArgs false
/-! The reference's fill. -/
namespace Go.Proofs.YtceelkmedfoefaaDoor
open Go.RowKit

def RCells (x : AItem) (l : Int) : Array Value := #[.int .i64 x.op, .int .i64 x.rd, .int .i64 x.rs1, .int .i64 x.rs2, .int .u32 x.imm, .int .i64 x.csr, SV x.label, .int .u32 x.word, .bool x.raw, .int .i64 l]
theorem rcells_one (x : AItem) (l : Int) : (RCells x l).all (·.oneCell') = true := by simp [RCells, SV, Value.oneCell']
structure RFillPost (x : AItem) (l : Int) (what : Int) (s : Bytes) (w w' : World) (e : Ending) : Prop where
  ret : ∃ y ok, e = .returned (.tuple #[.agg (RCells y l), .bool ok]) ∧ ok = fillOk what s ∧ (ok = true → y = fillX x what s)
  below : Below w.heap.size w w'
theorem rfill_end {fn : Func} {w w3 : World} {x y : AItem} {l what : Int} {s : Bytes} {ok : Bool} {a : Act} {g : Nat} (hr : fn.results = #[.cell 6 62, .tmp 7]) (hp : a.tmps.getD 6 undef = .pointer (some ⟨g, 0, none⟩)) (hc : a.tmps.getD 7 undef = .bool ok)
    (hb3 : Blk w3 g (RCells y l) 62) (hd : a.defers = []) (hB : Below w.heap.size w w3) (h1 : ok = fillOk what s) (h2 : ok = true → y = fillX x what s) : bodyPost Tryd.prog fn (fun e w' => RFillPost x l what s w w' e) .ret a w3 :=
  bodyPost_ret (v := .tuple #[.agg (RCells y l), .bool ok]) (res_blk hr _ _ g _ 62 hp hb3 Tryd.underlying62 info62 hc) hd ⟨⟨y, ok, rfl, h1, h2⟩, hB⟩
theorem blk_two (w : World) (o : Obj) (cs : Array Value) (T : TypeId) : Blk ((w.alloc o).alloc (.cells cs T)) (w.heap.size + 1) cs T := by simpa using blk_new (w.alloc o) cs T
theorem rbelow_two {w w3 : World} {o p : Obj} (hg : ((w.alloc o).alloc p).grownBy w3 (some (w.heap.size + 1))) : Below w.heap.size w w3 :=
  (((Below.refl _ _).alloc (Nat.le_refl _) o).alloc (by simp) p).trans (below_of_grown hg (Nat.le_succ _) (by simp; omega))
theorem decV_nonneg (l : Bytes) : 0 ≤ regV l := by
  unfold regV; split
  · rename_i h; unfold regShape at h; exact (decV_range _ (by simp at h ⊢; omega)).1
  · exact Int.le_refl _
theorem regI_ok (l : Bytes) : decide (regI l ≥ 0) = regOk l := by
  have := decV_nonneg l
  unfold regI
  cases h : regOk l
  · simp
  · simp; exact this
theorem regI_V {l : Bytes} (h : regOk l = true) : regI l = regV l := by unfold regI; rw [if_pos h]

set_option maxRecDepth 100000 in
set_option maxHeartbeats 1000000 in
theorem rfill_d (x : AItem) (l : Int) (s : ByteArray) (w : World) (hs : s.size ≤ 1048576) :
    Calls Tryd.prog 63 #[.agg (RCells x l), .string ⟨#[114, 100]⟩, .string s] w fun e w' => RFillPost x l 100 (bs s) w w' e := by
  go_enter Tryd.func63, Tryd.ntmps63
  go_wp2_with (first | (go_at_call 78; refine (rregister_any s _ (by omega)).mono ?_; rintro e w' ⟨rfl, rfl⟩) | (go_at_call 12; refine (rnumber_any s _ (by omega)).mono ?_; rintro e w' ⟨rfl, rfl⟩) | (refine ld_blk rfl 62 _ rfl w.heap.size rfl ((blk_new w ((RCells x l).setIfInBounds 1 (.int .i64 (regI (bs s)))) _).alloc _) Tryd.underlying62 info62 ?_) | (refine st_blk rfl 62 _ _ rfl (w.heap.size + 1) (RCells { x with rd := regI (bs s) } l) rfl rfl (blk_two _ _ (RCells zeroX 0) _) info62 rfl (rcells_one _ _) ?_; intro w3 hx3 hg3))
  exact rfill_end rfl rfl rfl hx3 rfl (rbelow_two hg3) (by rw [regI_ok]; rfl) (fun h => by rw [regI_ok] at h; rw [regI_V h]; rfl)

set_option maxRecDepth 100000 in
set_option maxHeartbeats 1000000 in
theorem rfill_1 (x : AItem) (l : Int) (s : ByteArray) (w : World) (hs : s.size ≤ 1048576) :
    Calls Tryd.prog 63 #[.agg (RCells x l), .string ⟨#[114, 115, 49]⟩, .string s] w fun e w' => RFillPost x l 49 (bs s) w w' e := by
  go_enter Tryd.func63, Tryd.ntmps63
  go_wp2_with (first | (go_at_call 78; refine (rregister_any s _ (by omega)).mono ?_; rintro e w' ⟨rfl, rfl⟩) | (go_at_call 12; refine (rnumber_any s _ (by omega)).mono ?_; rintro e w' ⟨rfl, rfl⟩) | (refine ld_blk rfl 62 _ rfl w.heap.size rfl ((blk_new w ((RCells x l).setIfInBounds 2 (.int .i64 (regI (bs s)))) _).alloc _) Tryd.underlying62 info62 ?_) | (refine st_blk rfl 62 _ _ rfl (w.heap.size + 1) (RCells { x with rs1 := regI (bs s) } l) rfl rfl (blk_two _ _ (RCells zeroX 0) _) info62 rfl (rcells_one _ _) ?_; intro w3 hx3 hg3))
  exact rfill_end rfl rfl rfl hx3 rfl (rbelow_two hg3) (by rw [regI_ok]; rfl) (fun h => by rw [regI_ok] at h; rw [regI_V h]; rfl)

set_option maxRecDepth 100000 in
set_option maxHeartbeats 1000000 in
theorem rfill_2 (x : AItem) (l : Int) (s : ByteArray) (w : World) (hs : s.size ≤ 1048576) :
    Calls Tryd.prog 63 #[.agg (RCells x l), .string ⟨#[114, 115, 50]⟩, .string s] w fun e w' => RFillPost x l 50 (bs s) w w' e := by
  go_enter Tryd.func63, Tryd.ntmps63
  go_wp2_with (first | (go_at_call 78; refine (rregister_any s _ (by omega)).mono ?_; rintro e w' ⟨rfl, rfl⟩) | (go_at_call 12; refine (rnumber_any s _ (by omega)).mono ?_; rintro e w' ⟨rfl, rfl⟩) | (refine ld_blk rfl 62 _ rfl w.heap.size rfl ((blk_new w ((RCells x l).setIfInBounds 3 (.int .i64 (regI (bs s)))) _).alloc _) Tryd.underlying62 info62 ?_) | (refine st_blk rfl 62 _ _ rfl (w.heap.size + 1) (RCells { x with rs2 := regI (bs s) } l) rfl rfl (blk_two _ _ (RCells zeroX 0) _) info62 rfl (rcells_one _ _) ?_; intro w3 hx3 hg3))
  exact rfill_end rfl rfl rfl hx3 rfl (rbelow_two hg3) (by rw [regI_ok]; rfl) (fun h => by rw [regI_ok] at h; rw [regI_V h]; rfl)

set_option maxRecDepth 100000 in
set_option maxHeartbeats 1000000 in
theorem rfill_n (x : AItem) (l : Int) (s : ByteArray) (w : World) (hs : s.size ≤ 1048576) :
    Calls Tryd.prog 63 #[.agg (RCells x l), .string ⟨#[110, 117, 109, 98, 101, 114]⟩, .string s] w fun e w' => RFillPost x l 110 (bs s) w w' e := by
  have hr := numV_range (bs s)
  obtain ⟨hr1, hr2⟩ := hr
  go_enter Tryd.func63, Tryd.ntmps63
  go_wp2_with (first | (go_at_call 78; refine (rregister_any s _ (by omega)).mono ?_; rintro e w' ⟨rfl, rfl⟩) | (go_at_call 12; refine (rnumber_any s _ (by omega)).mono ?_; rintro e w' ⟨rfl, rfl⟩) | (refine ld_blk rfl 62 _ rfl w.heap.size rfl ((blk_new w ((RCells x l).setIfInBounds 4 (.int .u32 (numV (bs s)))) _).alloc _) Tryd.underlying62 info62 ?_) | (refine st_blk rfl 62 _ _ rfl (w.heap.size + 1) (RCells { x with imm := numV (bs s) } l) rfl rfl (blk_two _ _ (RCells zeroX 0) _) info62 rfl (rcells_one _ _) ?_; intro w3 hx3 hg3))
  exact rfill_end rfl rfl rfl hx3 rfl (rbelow_two hg3) (rfl) (fun h => rfl)

set_option maxRecDepth 100000 in
set_option maxHeartbeats 1000000 in
theorem rfill_c (x : AItem) (l : Int) (s : ByteArray) (w : World) (hs : s.size ≤ 1048576) :
    Calls Tryd.prog 63 #[.agg (RCells x l), .string ⟨#[99, 115, 114]⟩, .string s] w fun e w' => RFillPost x l 99 (bs s) w w' e := by
  have hr := numV_range (bs s)
  obtain ⟨hr1, hr2⟩ := hr
  go_enter Tryd.func63, Tryd.ntmps63
  go_wp2_with (first | (go_at_call 78; refine (rregister_any s _ (by omega)).mono ?_; rintro e w' ⟨rfl, rfl⟩) | (go_at_call 12; refine (rnumber_any s _ (by omega)).mono ?_; rintro e w' ⟨rfl, rfl⟩) | (refine ld_blk rfl 62 _ rfl w.heap.size rfl ((blk_new w ((RCells x l).setIfInBounds 5 (.int .i64 (numV (bs s)))) _).alloc _) Tryd.underlying62 info62 ?_) | (refine st_blk rfl 62 _ _ rfl (w.heap.size + 1) (RCells { x with csr := numV (bs s) } l) rfl rfl (blk_two _ _ (RCells zeroX 0) _) info62 rfl (rcells_one _ _) ?_; intro w3 hx3 hg3))
  exact rfill_end rfl rfl rfl hx3 rfl (rbelow_two hg3) (rfl) (fun h => rfl)

set_option maxRecDepth 100000 in
set_option maxHeartbeats 1000000 in
theorem rfill_t (x : AItem) (l : Int) (s : ByteArray) (w : World) (hs : s.size ≤ 1048576) :
    Calls Tryd.prog 63 #[.agg (RCells x l), .string ⟨#[116, 97, 114, 103, 101, 116]⟩, .string s] w fun e w' => RFillPost x l 116 (bs s) w w' e := by
  have hr := numV_range (bs s)
  obtain ⟨hr1, hr2⟩ := hr
  cases hn : nameB (bs s)
  · have HN := Hd.mk hn
    go_enter Tryd.func63, Tryd.ntmps63
    go_wp2_with (first | (go_at_call 36; refine (rname_any s _).mono ?_; rw [HN.out]; rintro e w' ⟨rfl, rfl⟩) | (go_at_call 78; refine (rregister_any s _ (by omega)).mono ?_; rintro e w' ⟨rfl, rfl⟩) | (go_at_call 12; refine (rnumber_any s _ (by omega)).mono ?_; rintro e w' ⟨rfl, rfl⟩) | (refine ld_blk rfl 62 _ rfl w.heap.size rfl ((blk_new w ((RCells x l).setIfInBounds 4 (.int .u32 (numV (bs s)))) _).alloc _) Tryd.underlying62 info62 ?_) | (refine st_blk rfl 62 _ _ rfl (w.heap.size + 1) (RCells { x with imm := numV (bs s) } l) rfl rfl (blk_two _ _ (RCells zeroX 0) _) info62 rfl (rcells_one _ _) ?_; intro w3 hx3 hg3))
    exact rfill_end rfl rfl rfl hx3 rfl (rbelow_two hg3) (by unfold fillOk; rw [HN.out]; simp) (fun h => by unfold fillX; rw [HN.out]; simp)
  · have HN := Hd.mk hn
    go_enter Tryd.func63, Tryd.ntmps63
    go_wp2_with (first | (go_at_call 36; refine (rname_any s _).mono ?_; rw [HN.out]; rintro e w' ⟨rfl, rfl⟩) | (go_at_call 78; refine (rregister_any s _ (by omega)).mono ?_; rintro e w' ⟨rfl, rfl⟩) | (go_at_call 12; refine (rnumber_any s _ (by omega)).mono ?_; rintro e w' ⟨rfl, rfl⟩) | (refine ld_blk rfl 62 _ rfl w.heap.size rfl ((blk_new w ((RCells x l).setIfInBounds 6 (.string s)) _).alloc _) Tryd.underlying62 info62 ?_) | (refine st_blk rfl 62 _ _ rfl (w.heap.size + 1) (RCells { x with label := bs s } l) rfl (by rw [RCells, RCells, sv_bs]; rfl) (blk_two _ _ (RCells zeroX 0) _) info62 rfl (rcells_one _ _) ?_; intro w3 hx3 hg3))
    exact rfill_end rfl rfl rfl hx3 rfl (rbelow_two hg3) (by unfold fillOk; rw [HN.out]; simp) (fun h => by unfold fillX; rw [HN.out]; simp)

set_option maxRecDepth 100000 in
set_option maxHeartbeats 1000000 in
theorem rfill_comma (x : AItem) (l : Int) (s : ByteArray) (w : World) (hs : s.size ≤ 1048576) :
    Calls Tryd.prog 63 #[.agg (RCells x l), .string ⟨#[44]⟩, .string s] w fun e w' => RFillPost x l 44 (bs s) w w' e := by
  have HM := Hd.mk (mark_ok 44 44 s rfl (by decide))
  have HX := Hd.mk (mark_x 44 x (bs s) (by decide))
  go_enter Tryd.func63, Tryd.ntmps63
  go_wp2_with (first | (go_at_call 78; refine (rregister_any s _ (by omega)).mono ?_; rintro e w' ⟨rfl, rfl⟩) | (go_at_call 12; refine (rnumber_any s _ (by omega)).mono ?_; rintro e w' ⟨rfl, rfl⟩) | (refine ld_blk rfl 62 _ rfl w.heap.size rfl ((blk_new w (RCells x l) _).alloc _) Tryd.underlying62 info62 ?_) | (refine st_blk rfl 62 _ _ rfl (w.heap.size + 1) (RCells x l) rfl rfl (blk_two _ _ (RCells zeroX 0) _) info62 rfl (rcells_one _ _) ?_; intro w3 hx3 hg3))
  exact rfill_end rfl rfl rfl hx3 rfl (rbelow_two hg3) (by rw [HM.out]; rfl) (fun h => HX.out.symm)

set_option maxRecDepth 100000 in
set_option maxHeartbeats 1000000 in
theorem rfill_open (x : AItem) (l : Int) (s : ByteArray) (w : World) (hs : s.size ≤ 1048576) :
    Calls Tryd.prog 63 #[.agg (RCells x l), .string ⟨#[40]⟩, .string s] w fun e w' => RFillPost x l 40 (bs s) w w' e := by
  have HM := Hd.mk (mark_ok 40 40 s rfl (by decide))
  have HX := Hd.mk (mark_x 40 x (bs s) (by decide))
  go_enter Tryd.func63, Tryd.ntmps63
  go_wp2_with (first | (go_at_call 78; refine (rregister_any s _ (by omega)).mono ?_; rintro e w' ⟨rfl, rfl⟩) | (go_at_call 12; refine (rnumber_any s _ (by omega)).mono ?_; rintro e w' ⟨rfl, rfl⟩) | (refine ld_blk rfl 62 _ rfl w.heap.size rfl ((blk_new w (RCells x l) _).alloc _) Tryd.underlying62 info62 ?_) | (refine st_blk rfl 62 _ _ rfl (w.heap.size + 1) (RCells x l) rfl rfl (blk_two _ _ (RCells zeroX 0) _) info62 rfl (rcells_one _ _) ?_; intro w3 hx3 hg3))
  exact rfill_end rfl rfl rfl hx3 rfl (rbelow_two hg3) (by rw [HM.out]; rfl) (fun h => HX.out.symm)

set_option maxRecDepth 100000 in
set_option maxHeartbeats 1000000 in
theorem rfill_close (x : AItem) (l : Int) (s : ByteArray) (w : World) (hs : s.size ≤ 1048576) :
    Calls Tryd.prog 63 #[.agg (RCells x l), .string ⟨#[41]⟩, .string s] w fun e w' => RFillPost x l 41 (bs s) w w' e := by
  have HM := Hd.mk (mark_ok 41 41 s rfl (by decide))
  have HX := Hd.mk (mark_x 41 x (bs s) (by decide))
  go_enter Tryd.func63, Tryd.ntmps63
  go_wp2_with (first | (go_at_call 78; refine (rregister_any s _ (by omega)).mono ?_; rintro e w' ⟨rfl, rfl⟩) | (go_at_call 12; refine (rnumber_any s _ (by omega)).mono ?_; rintro e w' ⟨rfl, rfl⟩) | (refine ld_blk rfl 62 _ rfl w.heap.size rfl ((blk_new w (RCells x l) _).alloc _) Tryd.underlying62 info62 ?_) | (refine st_blk rfl 62 _ _ rfl (w.heap.size + 1) (RCells x l) rfl rfl (blk_two _ _ (RCells zeroX 0) _) info62 rfl (rcells_one _ _) ?_; intro w3 hx3 hg3))
  exact rfill_end rfl rfl rfl hx3 rfl (rbelow_two hg3) (by rw [HM.out]; rfl) (fun h => HX.out.symm)

/-- The reference's fill, whatever is asked for of the kinds that shapes have. -/
theorem rfill_any (x : AItem) (l : Int) (c : UInt8) (s : ByteArray) (w : World) (hs : s.size ≤ 1048576) (h : c = 100 ∨ c = 49 ∨ c = 50 ∨ c = 116 ∨ c = 110 ∨ c = 99 ∨ c = 44 ∨ c = 40 ∨ c = 41) :
    Calls Tryd.prog 63 #[.agg (RCells x l), SV (wordOf c), .string s] w fun e w' => RFillPost x l (c.toNat : Int) (bs s) w w' e := by
  rcases h with rfl | rfl | rfl | rfl | rfl | rfl | rfl | rfl | rfl
  · exact rfill_d x l s w hs
  · exact rfill_1 x l s w hs
  · exact rfill_2 x l s w hs
  · exact rfill_t x l s w hs
  · exact rfill_n x l s w hs
  · exact rfill_c x l s w hs
  · exact rfill_comma x l s w hs
  · exact rfill_open x l s w hs
  · exact rfill_close x l s w hs

end Go.Proofs.YtceelkmedfoefaaDoor

/-! For the reference's read: a struct's store in a region; the search for a name. -/
set_option linter.unusedVariables false
set_option linter.unusedSimpArgs false
namespace Go.Proofs.YtceelkmedfoefaaDoor
open Go.RowKit

section
variable {ops : Array Oper} {o : Oper} {a : Act} {w : World} {K : Act → World → Prop} {Q : Exit → Act → World → Prop} {E : Prop}
theorem step_st62 (hgd : o.guard = none) (x y : Operand) (ho : o.op = .store 62 x y) (g : Nat) (cells old : Array Value) (T : TypeId) (hx : a.eval x = .pointer (some ⟨g, 0, none⟩)) (hy : a.eval y = .agg cells)
    (hb : Blk w g old T) (hc : cells.size = 10) (hold : old.size = 10) (h1 : cells.all (·.oneCell') = true)
    (h : ∀ w', Blk w' g cells T → w.grownBy w' (some g) → K (a.put o.dst undef) w') : if Region.wanted o (yielded ops a.tmps) = true then Oper.wp Tryd.prog o a w K Q else E := by
  have hw : Region.wanted o (yielded ops a.tmps) = true := by simp [Region.wanted, hgd]
  rw [if_pos hw]
  exact wp_store_row 62 x y ho g cells hx hy T old hb.at_ (by rw [info62, hc]) (by rw [hold, hc]) h1 (h _ (setRow_blk hb) (setRow_grown g cells))
end
/-- Where the search for a name stands. -/
def seen (l : Bytes) (k : Nat) : Int := if nameList.idxOf l < k then (nameList.idxOf l : Int) else 0
theorem seen_end (l : Bytes) : seen l 58 = opI l := by unfold seen opI opN; split <;> simp
theorem seen_hit {l : Bytes} {k : Nat} (hk : k < 58) (h : nameL k = l) : seen l (k + 1) = k := by
  unfold seen; rw [idx_hit hk h, if_pos (by omega)]
theorem seen_miss {l : Bytes} {k : Nat} (hk : k < 58) (h : ¬ nameL k = l) : seen l (k + 1) = seen l k := by
  unfold seen
  have : ¬ nameList.idxOf l = k := fun e => h (by rw [← e]; exact idx_at (by omega))
  by_cases h2 : nameList.idxOf l < k
  · rw [if_pos (by omega), if_pos h2]
  · rw [if_neg (by omega), if_neg h2]
theorem seen_range (l : Bytes) (k : Nat) (hk : k ≤ 58) : 0 ≤ seen l k ∧ seen l k < 58 := by unfold seen; split <;> omega
end Go.Proofs.YtceelkmedfoefaaDoor

set_option linter.unusedVariables false
set_option linter.unusedSimpArgs false
namespace Go.Proofs.YtceelkmedfoefaaDoor
open Go.RowKit

/-- What the reference's read leaves. -/
structure RReadPost (p : List Bytes) (w w' : World) (e : Ending) : Prop where
  ret : ∃ x ok, e = .returned (.tuple #[.agg (RCells x 0), .bool ok]) ∧ (ok = true → readO p = some x) ∧ (ok = false → readO p = none)
  below : Below w.heap.size w w'
theorem rread_end {fn : Func} {w w3 : World} {x : AItem} {ok : Bool} {p : List Bytes} {a : Act} {g : Nat} (hr : fn.results = #[.cell 2 62, .tmp 3]) (hp : a.tmps.getD 2 undef = .pointer (some ⟨g, 0, none⟩)) (hc : a.tmps.getD 3 undef = .bool ok)
    (hb3 : Blk w3 g (RCells x 0) 62) (hd : a.defers = []) (hB : Below w.heap.size w w3) (h1 : ok = true → readO p = some x) (h2 : ok = false → readO p = none) : bodyPost Tryd.prog fn (fun e w' => RReadPost p w w' e) .ret a w3 :=
  bodyPost_ret (v := .tuple #[.agg (RCells x 0), .bool ok]) (res_blk hr _ _ g _ 62 hp hb3 Tryd.underlying62 info62 hc) hd ⟨⟨x, ok, rfl, h1, h2⟩, hB⟩

set_option maxRecDepth 100000 in
set_option maxHeartbeats 1000000 in
theorem rread_word (g off n cap : Nat) (p : List Bytes) (w : World) (hp : StrAt w g off p) (hn : p.length = n) (hc : n ≤ cap) (hw : n = 2 ∧ p.getD 0 [] = wordB) (hlen : ∀ k, (p.getD k []).length ≤ 1048576) :
    Calls Tryd.prog 31 #[.slice (some ⟨g, off, none⟩) n cap] w fun e w' => RReadPost p w w' e := by
  obtain ⟨rfl, hw2⟩ := hw
  have hlt : g < w.heap.size := by rcases hp.lt with e | e; rw [e] at hn; simp at hn; exact e
  obtain ⟨s0, hs0, hb0⟩ := sv_ex (p.getD 0 [])
  obtain ⟨s1, hs1, hb1⟩ := sv_ex (p.getD 1 [])
  have hp2 := hp.below ((Below.refl w.heap.size w).alloc (Nat.le_refl _) (.cells (RCells zeroX 0) 62)) hlt
  have c0 : (w.alloc (.cells #[.int .i64 0, .int .i64 0, .int .i64 0, .int .i64 0, .int .u32 0, .int .i64 0, .string ⟨#[]⟩, .int .u32 0, .bool false, .int .i64 0] 62)).cell? ⟨g, off, none⟩ = some (.string s0) := by rw [← hs0]; exact hp2.cell 0 (by omega)
  have c1 : (w.alloc (.cells #[.int .i64 0, .int .i64 0, .int .i64 0, .int .i64 0, .int .u32 0, .int .i64 0, .string ⟨#[]⟩, .int .u32 0, .bool false, .int .i64 0] 62)).cell? ⟨g, off + 1, none⟩ = some (.string s1) := by rw [← hs1]; exact hp2.cell 1 (by omega)
  have ht : (s0.toList == [46, 119, 111, 114, 100]) = true := by rw [toList_eq_bs, hb0, hw2]; exact beq_iff_eq.2 rfl
  have hsl : s1.size ≤ 1048576 := by have := hlen 1; rw [← hb1, bs_length] at this; exact this
  have HR : Hd (numOk (bs s1) = true → readO p = some { zeroX with word := numV (bs s1), raw := true, has := true }) := ⟨fun h => by
    unfold readO; rw [if_pos ⟨hn, hw2⟩, ← hb1, if_pos h]⟩
  have HR2 : Hd (numOk (bs s1) = false → readO p = none) := ⟨fun h => by
    unfold readO; rw [if_pos ⟨hn, hw2⟩, ← hb1, if_neg (by rw [h]; simp)]⟩
  clear hs0 hs1 hb0 hb1 hw2 hp hp2 hlen hn
  go_enter Tryd.func31, Tryd.ntmps31
  go_wp2_with (first | (go_at_call 12; refine (rnumber_any s1 _ (by omega)).mono ?_; rintro e w' ⟨rfl, rfl⟩) | (refine st_blk rfl 62 _ _ rfl w.heap.size (RCells { zeroX with word := numV (bs s1), raw := true, has := true } 0) rfl rfl (blk_new w (RCells zeroX 0) 62) info62 rfl (rcells_one _ _) ?_; intro w3 hb3 hg3))
  exact rread_end rfl rfl rfl hb3 rfl (((Below.refl _ _).alloc (Nat.le_refl _) _).trans (below_of_grown hg3 (Nat.le_refl _) (by simp))) HR.out HR2.out

theorem heap_cell {W : World} {g k : Nat} {v : Value} (h : W.cell? ⟨g, k, none⟩ = some v) : g < W.heap.size := by
  rcases Nat.lt_or_ge g W.heap.size with e | e
  · exact e
  · have : W.heap[g]? = none := Array.getElem?_eq_none e
    simp [World.cell?, this] at h
/-- What a round's region reads. -/
structure S3 (xb : Nat) (x : AItem) (gs j : Nat) (c : UInt8) (g off : Nat) (sp : ByteArray) (W : World) : Prop where
  item : Blk W xb (RCells x 0) 62
  want : W.cell? ⟨gs, j, none⟩ = some (SV (wordOf c))
  piece : W.cell? ⟨g, off + (j + 1), none⟩ = some (.string sp)
theorem S3.below {xb : Nat} {x : AItem} {gs j : Nat} {c : UInt8} {g off : Nat} {sp : ByteArray} {W W' : World} (h : S3 xb x gs j c g off sp W) (hb : Below W.heap.size W W') (hx : xb < W.heap.size) : S3 xb x gs j c g off sp W' :=
  ⟨h.item.below hb hx, (hb.cell (p := ⟨gs, j, none⟩) (heap_cell h.want)).trans h.want, (hb.cell (p := ⟨g, off + (j + 1), none⟩) (heap_cell h.piece)).trans h.piece⟩
theorem S3.below6 {xb : Nat} {x : AItem} {gs j : Nat} {c : UInt8} {g off : Nat} {sp : ByteArray} {B : Nat} {W W' : World} (h : S3 xb x gs j c g off sp W) (hb : Below B W W') (hx : xb < B) (h1 : gs < B) (h2 : g < B) : S3 xb x gs j c g off sp W' :=
  ⟨h.item.below hb hx, (hb.cell (p := ⟨gs, j, none⟩) h1).trans h.want, (hb.cell (p := ⟨g, off + (j + 1), none⟩) h2).trans h.piece⟩
structure RLoop (oi : Int) (w3 wr : World) (x : AItem) (want : Bytes) (rest : List Bytes) (R : Option AItem) : Prop where
  item : Blk wr w3.heap.size (RCells x 0) 62
  bel : Below w3.heap.size w3 wr
  fold : fillAll x want rest = R
  imm : 0 ≤ x.imm ∧ x.imm < 4294967296
  op : x.op = oi
theorem fillX_op (x : AItem) (what : Int) (s : Bytes) : (fillX x what s).op = x.op := by
  unfold fillX; (repeat' split) <;> rfl
theorem formP_one {n : Int} : formP n = 1 ↔ (n = 1 ∨ n = 2) := by
  unfold formP; (repeat' split) <;> omega
theorem nameL_get {k : Nat} (hk : k < 58) : (strs nameList)[k]? = some (SV (nameL k)) := by
  unfold strs nameL
  rw [List.getElem?_map, List.getElem?_eq_getElem (by rw [nameList_length]; exact hk), List.getD_eq_getElem?_getD, List.getElem?_eq_getElem (by rw [nameList_length]; exact hk)]; rfl

set_option maxRecDepth 100000 in
set_option maxHeartbeats 4000000 in
theorem rread_else (g off n cap : Nat) (p : List Bytes) (w : World) (hp : StrAt w g off p) (hn : p.length = n) (h1 : 1 ≤ n) (hbig : n ≤ 1048576) (hc : n ≤ cap) (hw : ¬ (n = 2 ∧ p.getD 0 [] = wordB)) (hlen : ∀ k, (p.getD k []).length ≤ 1048576) :
    Calls Tryd.prog 31 #[.slice (some ⟨g, off, none⟩) n cap] w fun e w' => RReadPost p w w' e := by
  have hlt : g < w.heap.size := by rcases hp.lt with e | e; rw [e] at hn; simp at hn; omega; exact e
  obtain ⟨s0, hs0, hb0⟩ := sv_ex (p.getD 0 [])
  have hp2 := hp.below ((Below.refl w.heap.size w).alloc (Nat.le_refl _) (.cells #[.int .i64 0, .int .i64 0, .int .i64 0, .int .i64 0, .int .u32 0, .int .i64 0, .string ⟨#[]⟩, .int .u32 0, .bool false, .int .i64 0] 62)) hlt
  have c0 : (w.alloc (.cells #[.int .i64 0, .int .i64 0, .int .i64 0, .int .i64 0, .int .u32 0, .int .i64 0, .string ⟨#[]⟩, .int .u32 0, .bool false, .int .i64 0] 62)).cell? ⟨g, off, none⟩ = some (.string s0) := by rw [← hs0]; exact hp2.cell 0 (by omega)
  have ht : n = 2 → (s0.toList == [46, 119, 111, 114, 100]) = false := by
    intro e
    rw [toList_eq_bs, hb0]
    exact beq_eq_false_iff_ne.2 (fun e2 => hw ⟨e, e2⟩)
  have HB0 := Hd.mk (And.intro hs0 hb0)
  have HP := Hd.mk (And.intro hp (And.intro hn hlen))
  have HW := Hd.mk hw
  have hb1 : Below w.heap.size w (w.alloc (.cells #[.int .i64 0, .int .i64 0, .int .i64 0, .int .i64 0, .int .u32 0, .int .i64 0, .string ⟨#[]⟩, .int .u32 0, .bool false, .int .i64 0] 62)) := (Below.refl _ _).alloc (Nat.le_refl _) _
  have hr1 : Blk (w.alloc (.cells #[.int .i64 0, .int .i64 0, .int .i64 0, .int .i64 0, .int .u32 0, .int .i64 0, .string ⟨#[]⟩, .int .u32 0, .bool false, .int .i64 0] 62)) w.heap.size (RCells zeroX 0) 62 := blk_new _ _ _
  clear hp hn hlen hw hs0 hb0 hp2
  have hn1 : (0 : Int) < (n : Int) := by omega
  go_enter Tryd.func31, Tryd.ntmps31
  go_upto_region 1 with fail
  generalize w.alloc _ = w1 at c0 hb1 hr1 ⊢
  go_cut [22] (fun u w' => w1 = w' ∧ u = .bool false)
  case first =>
    by_cases h2 : n = 2
    · subst h2
      have ht2 := ht rfl
      clear ht
      go_wp2_with fail
      go_meet
      exact ⟨rfl, rfl⟩
    · have e2 : ((n : Int) == 2) = false := beq_eq_false_iff_ne.2 (by omega)
      clear ht h2
      go_wp2_with fail
      go_meet
      exact ⟨rfl, rfl⟩
  case rest =>
    obtain ⟨rfl, rfl⟩ := hcut
    have hs1 := hb1.size
    go_wp2_with fail
    refine (rnames_any w1).mono ?_
    rintro e w2 ⟨v, rfl, hnames, hb2⟩
    have hB2 := hb1.trans (hb2.mono hs1)
    obtain ⟨gn, cn, rfl, hgn, hgn2⟩ := hnames.form (by decide)
    have hr2 := hr1.below hb2 hr1.lt
    have cb := fun k (hk : k < 58) => hnames.cells (g := gn) rfl k _ (nameL_get hk)
    have c02 : w2.cell? ⟨g, off, none⟩ = some (.string s0) := (hb2.cell (p := ⟨g, off, none⟩) (by have := heap_cell c0; exact this)).trans c0
    clear c0 hr1 hb1 ht hnames hb2
    go_wp2_with fail
    go_loopw [6, 8] (fun o i wr => ∃ k : Nat, k ≤ 58 ∧ i = .int .i64 k ∧ o = .int .i64 (seen (bs s0) k) ∧ Below w2.heap.size w2 wr) (fun _ i _ => 58 - (intOf i).toNat)
    case atStart => exact ⟨0, Nat.zero_le _, rfl, rfl, Below.refl _ _⟩
    case round =>
      obtain ⟨k, hk, rfl, rfl, hbr⟩ := hrel
      have hB3 := hB2.trans (hbr.mono hB2.size)
      by_cases hlt2 : k < 58
      · obtain ⟨sb, hsb, hbsb⟩ := sv_ex (nameL k)
        have e1 := cb k hlt2
        rw [Addr.add_mid, Nat.zero_add, hsb] at e1
        have d1 := (hbr.cell (p := ⟨gn, k, none⟩) hgn2).trans e1
        clear e1
        have d2 := (hbr.cell (p := ⟨g, off, none⟩) (heap_cell c02)).trans c02
        obtain ⟨q, hq⟩ : ∃ q, (sb.toList == s0.toList) = q := ⟨_, rfl⟩
        have HS : Hd (seen (bs s0) (k + 1) = if q = true then (k : Int) else seen (bs s0) k) := ⟨by
          rw [toList_eq_bs, toList_eq_bs, hbsb] at hq
          by_cases e : nameL k = bs s0
          · rw [seen_hit hlt2 e, ← hq, e]; simp
          · rw [seen_miss hlt2 e, ← hq, if_neg (by simpa using e)]⟩
        have hki : (k : Int) < 58 := by omega
        clear hsb hbsb cb hB3
        cases q
        · go_wp2_with fail
          go_quiet (fail)
          go_wp2_with fail
          refine ⟨⟨k + 1, by omega, by simp, by rw [HS.out]; rfl, pw_below_drewN2 hbr nq⟩, by simp [intOf]; omega⟩
        · go_wp2_with fail
          go_quiet (fail)
          go_wp2_with fail
          refine ⟨⟨k + 1, by omega, by simp, by rw [HS.out]; rfl, pw_below_drewN2 hbr nq⟩, by simp [intOf]; omega⟩
      · have hk2 : k = 58 := by omega
        subst hk2
        rw [seen_end]
        have hr3 := hr2.below hbr hr2.lt
        have hB3s := hB3.size
        obtain ⟨oi, hoi⟩ : ∃ oi, opI (bs s0) = oi := ⟨_, rfl⟩
        rw [hoi]
        have hoir : 0 ≤ oi ∧ oi < 58 := by rw [← hoi]; exact opI_range _
        have HOI := Hd.mk hoi
        clear hoi cb c02 hr2 hlt2
        go_wp2_with fail
        refine (rshape_any oi wr).mono ?_
        rintro e w3 ⟨v, rfl, hsh, hb3⟩
        have hr4 := hr3.below hb3 hr3.lt
        have hB4 := hB3.trans (hb3.mono hB3s)
        have hp4 := HP.out.1.below hB4 hlt
        clear hB3 hB2 hr3 hbr hb3
        have hB4s := hB4.size
        have hmm : (shapeR oi).length = (shapeL oi).length := by unfold shapeR; rw [List.length_map]
        obtain ⟨m, hm⟩ : ∃ m, (shapeL oi).length = m := ⟨_, rfl⟩
        rw [hmm, hm] at hsh
        have hm6 : m ≤ 6 := by have := shapeR_length oi; omega
        obtain ⟨ash, csh, rfl⟩ := own_form hsh
        have HM := Hd.mk hm
        clear hm hmm
        have HNone : Hd ((oi = 0 ∨ ¬ n = m + 1) → readO p = none) := ⟨fun h => by
          unfold readO
          rw [if_neg (by rw [HP.out.2.1]; exact HW.out), if_neg]
          rintro ⟨h1, h2, h3⟩
          rw [← HB0.out.2, HOI.out] at h2 h3
          rw [HM.out, HP.out.2.1] at h3
          omega⟩
        by_cases h0 : oi = 0
        · have b1 : (oi == 0) = true := beq_iff_eq.2 h0
          have HX := Hd.mk (HNone.out (.inl h0))
          clear h0
          go_wp2_with (refine st_blk rfl 62 _ _ rfl w.heap.size (RCells zeroX 0) rfl rfl hr4 info62 rfl (rcells_one _ _) ?_; intro w5 hb5 hg5)
          exact rread_end rfl rfl rfl hb5 rfl (hB4.trans (below_of_grown hg5 (Nat.le_refl _) hB4s)) (fun h => by cases h) (fun _ => HX.out)
        have b1 : (oi == 0) = false := beq_eq_false_iff_ne.2 h0
        by_cases hnm : n = m + 1
        · have b2 : ((n : Int) == (m : Int) + 1) = true := beq_iff_eq.2 (by omega)
          have HGo : Hd (readO p = match fillAll { zeroX with op := oi, has := true } (shapeL oi) (p.drop 1) with
              | none => none
              | some x => if upOk x = true then some (upX x) else none) := ⟨by
            have hb : opE (p.getD 0 []) = 0 ∧ opI (p.getD 0 []) ≠ 0 ∧ p.length = 1 + (shapeL (opI (p.getD 0 []))).length := by
              rw [← HB0.out.2, HOI.out, HM.out, HP.out.2.1]
              refine ⟨?_, h0, by omega⟩
              have := HOI.out
              unfold opI opN at this
              unfold opE
              split
              · rfl
              · rename_i h; rw [if_neg h] at this; omega
            unfold readO
            rw [if_neg (by rw [HP.out.2.1]; exact HW.out), if_pos hb, ← HB0.out.2, HOI.out]
            rfl⟩
          obtain ⟨R, hR⟩ : ∃ R, fillAll { zeroX with op := oi, has := true } (shapeL oi) (p.drop 1) = R := ⟨_, rfl⟩
          rw [hR] at HGo
          have HFold := Hd.mk hR
          have HNM := Hd.mk hnm
          clear hR hnm h0
          go_wp2_with (refine st_blk rfl 62 _ _ rfl w3.heap.size (RCells { zeroX with op := oi, has := true } 0) rfl rfl (blk_new w3 (RCells zeroX 0) 62) info62 rfl (rcells_one _ _) ?_; intro w5 hb5 hg5)
          have hb35 : Below w3.heap.size w3 w5 := ((Below.refl _ _).alloc (Nat.le_refl _) _).trans (below_of_grown hg5 (Nat.le_refl _) (by simp))
          go_loopw [11] (fun i wr => ∃ (j : Nat) (x : AItem), j ≤ m ∧ i = .int .i64 j ∧ RLoop oi w3 wr x ((shapeL oi).drop j) (p.drop (j + 1)) R) (fun i _ => m - (intOf i).toNat)
          case atStart => exact ⟨0, _, Nat.zero_le _, rfl, hb5, hb35, HFold.out, by simp [zeroX], rfl⟩
          case round =>
            obtain ⟨j, x, hj, rfl, hI⟩ := hrel
            by_cases hjm : j < m
            · have hjn : j + 1 < n := by have := HNM.out; omega
              have hwr : IntKind.i64.wrap ((j : Int) + 1) = (j : Int) + 1 := IntWalk.i64_in _ (by omega)
              have HWR := Hd.mk hwr
              clear hwr
              obtain ⟨c, hcx⟩ : ∃ c, (shapeL oi).drop j = c :: (shapeL oi).drop (j + 1) := ⟨_, List.drop_eq_getElem_cons (by rw [HM.out]; exact hjm)⟩
              have hcj : (shapeL oi)[j]? = some c := by have := congrArg (fun l => l[0]?) hcx; simpa using this
              have hck := shape_kinds oi c (List.mem_of_getElem? hcj)
              obtain ⟨sp, hsp, hbsp⟩ := sv_ex (p.getD (j + 1) [])
              have hpx := drop_getD p (j + 1) (by rw [HP.out.2.1]; exact hjn)
              obtain ⟨gs, cs2, hf, hgs1, hgs2⟩ := hsh.form (by omega)
              cases hf
              have d1 := hsh.cells (g := gs) rfl j (SV (wordOf c)) (by unfold strs shapeR; rw [List.getElem?_map, List.getElem?_map, hcj]; rfl)
              rw [Addr.add_mid, Nat.zero_add] at d1
              have d2 := hp4.cell (j + 1) (by rw [HP.out.2.1]; exact hjn)
              rw [hsp] at d2
              have hfold := hI.fold
              rw [hcx, hpx, ← hbsp] at hfold
              have hspl : sp.size ≤ 1048576 := by have := HP.out.2.2 (j + 1); rw [← hbsp, bs_length] at this; exact this
              have HFo := Hd.mk hfold
              have hS0 : S3 w3.heap.size x gs j c g off sp wr := ⟨hI.item, (hI.bel.cell (p := ⟨gs, j, none⟩) hgs2).trans d1, (hI.bel.cell (p := ⟨g, off + (j + 1), none⟩) (by have := heap_cell d2; exact this)).trans d2⟩
              have hbel := hI.bel
              have himm := hI.imm
              have HOP := Hd.mk hI.op
              have hji : (j : Int) < (m : Int) := by omega
              have hjn2 : (j : Int) + 1 < (n : Int) := by omega
              have h01 : (0 : Int) ≤ (j : Int) + 1 := by omega
              have hltx : w3.heap.size < wr.heap.size := hI.item.lt
              have HCK : Hd (c = 100 ∨ c = 49 ∨ c = 50 ∨ c = 116 ∨ c = 110 ∨ c = 99 ∨ c = 44 ∨ c = 40 ∨ c = 41) := ⟨by
                have e : ∀ k : UInt8, (c.toNat : Int) = (k.toNat : Int) → c = k := fun k h => UInt8.toNat_inj.1 (by omega)
                rcases hck with h | h | h | h | h | h | h | h | h
                · exact .inl (e 100 h)
                · exact .inr (.inl (e 49 h))
                · exact .inr (.inr (.inl (e 50 h)))
                · exact .inr (.inr (.inr (.inl (e 116 h))))
                · exact .inr (.inr (.inr (.inr (.inl (e 110 h)))))
                · exact .inr (.inr (.inr (.inr (.inr (.inl (e 99 h))))))
                · exact .inr (.inr (.inr (.inr (.inr (.inr (.inl (e 44 h)))))))
                · exact .inr (.inr (.inr (.inr (.inr (.inr (.inr (.inl (e 40 h))))))))
                · exact .inr (.inr (.inr (.inr (.inr (.inr (.inr (.inr (e 41 h))))))))⟩
              clear hfold hcx hcj hpx hsp hbsp d1 d2 hI hck
              go_upto_region 18 with fail
              have hwr := HWR.out
              refine Late.region (S := S3 w3.heap.size x gs j c g off sp) (late := fun j => j == 1 || j == 2 || j == 3 || j == 5 || j == 6 || j == 7 || j == 8) (by kernel_rfl) ?_
              have hS1 := hS0.below (Below.refl wr.heap.size wr).drew hltx
              have hbel1 := hbel.trans ((Below.refl wr.heap.size wr).drew.mono hbel.size)
              have hltx1 : w3.heap.size < wr.drew.heap.size := hltx
              generalize wr.drew = w6 at hS1 hbel1 hltx1 ⊢
              clear hS0 hbel hltx
              refine Late.take (i := 1) (v := ?_) rfl (by kernel_rfl) rfl (by kernel_rfl) (by kernel_rfl) (fun _ _ _ h => h) (Or.inl ⟨by rfl, ?_⟩) ?_
              case refine_2 => intro W _; go_simp; (try with_reducible rfl)
              try simp only [Act.put, List.setIfInBounds_toArray, List.set_cons_zero, List.set_cons_succ]
              refine Late.take (i := 2) (v := ?_) rfl (by kernel_rfl) rfl (by kernel_rfl) (by kernel_rfl) (fun _ _ _ h => h) (Or.inl ⟨by rfl, ?_⟩) ?_
              case refine_2 => intro W _; go_simp; (try with_reducible rfl)
              try simp only [Act.put, List.setIfInBounds_toArray, List.set_cons_zero, List.set_cons_succ]
              refine Late.take (i := 3) (v := ?_) rfl (by kernel_rfl) rfl (by kernel_rfl) (by kernel_rfl) (fun _ _ _ h => h) (Or.inl ⟨by rfl, ?_⟩) ?_
              case refine_2 => intro W _; go_simp; (try with_reducible rfl)
              try simp only [Act.put, List.setIfInBounds_toArray, List.set_cons_zero, List.set_cons_succ]
              refine Late.take (i := 5) (v := ?_) rfl (by kernel_rfl) rfl (by kernel_rfl) (by kernel_rfl) (fun _ _ _ h => h) (Or.inl ⟨by rfl, ?_⟩) ?_
              case refine_2 => intro W _; go_simp; (try with_reducible rfl)
              try simp only [Act.put, List.setIfInBounds_toArray, List.set_cons_zero, List.set_cons_succ]
              refine Late.take (i := 6) (v := ?_) rfl (by kernel_rfl) rfl (by kernel_rfl) (by kernel_rfl) (fun _ _ _ h => h) (Or.inl ⟨by rfl, ?_⟩) ?_
              case refine_2 => intro W _; go_simp; (try with_reducible rfl)
              try simp only [Act.put, List.setIfInBounds_toArray, List.set_cons_zero, List.set_cons_succ]
              refine Late.take (i := 7) (v := ?_) rfl (by kernel_rfl) rfl (by kernel_rfl) (by kernel_rfl) (fun _ _ _ h => h) (Or.inl ⟨by rfl, ?_⟩) ?_
              case refine_2 => intro W _; go_simp; (try with_reducible rfl)
              try simp only [Act.put, List.setIfInBounds_toArray, List.set_cons_zero, List.set_cons_succ]
              refine Late.take (i := 8) (v := ?_) rfl (by kernel_rfl) rfl (by kernel_rfl) (by kernel_rfl) (fun _ _ _ h => h) (Or.inl ⟨by rfl, ?_⟩) ?_
              case refine_2 => intro W _; go_simp; (try with_reducible rfl)
              try simp only [Act.put, List.setIfInBounds_toArray, List.set_cons_zero, List.set_cons_succ]
              refine Late.load (i := 0) (v := .agg (RCells x 0)) rfl (by kernel_rfl) (by kernel_rfl) (by kernel_rfl) (by kernel_rfl) (fun _ _ _ h => h) (yield_ld (by kernel_rfl) 62 (.tmp 10) (by kernel_rfl) w3.heap.size (by simp only [Act.eval]; kernel_rfl) (RCells x 0) 62 (fun W hW => hW.item) Tryd.underlying62 info62) hS1 ?_
              try simp only [Act.put, List.setIfInBounds_toArray, List.set_cons_zero, List.set_cons_succ]
              refine Late.load (i := 4) (v := ?_) rfl (by kernel_rfl) (by kernel_rfl) (by kernel_rfl) (by kernel_rfl) (fun _ _ _ h => h) (Or.inl ⟨by rfl, ?_⟩) hS1 ?_
              case refine_2 => intro W hW; have c0 := hW.want; clear hW; go_simp; (try with_reducible rfl)
              try simp only [Act.put, List.setIfInBounds_toArray, List.set_cons_zero, List.set_cons_succ]
              refine Late.load (i := 9) (v := ?_) rfl (by kernel_rfl) (by kernel_rfl) (by kernel_rfl) (by kernel_rfl) (fun _ _ _ h => h) (Or.inl ⟨by rfl, ?_⟩) hS1 ?_
              case refine_2 => intro W hW; have c0 := hW.piece; clear hW; go_simp; (try with_reducible rfl)
              try simp only [Act.put, List.setIfInBounds_toArray, List.set_cons_zero, List.set_cons_succ]
              refine Late.ready2 (i := 10) (k := 14) (by kernel_rfl) (by rfl) (by rfl) (fun K hK => ?_) (fun K hK => ?_)
              · go_simp
                refine (rfill_any x 0 c sp w6 hspl HCK.out).mono ?_
                rintro e w7 ⟨⟨y, ok, rfl, hok1, hok2⟩, hb7⟩
                have HOK := Hd.mk (And.intro hok1 hok2)
                clear hok1 hok2
                have hS7 := hS1.below hb7 hltx1
                have hbel7 := (hbel1).trans (hb7.mono (hbel1).size)
                go_wp2_with fail
                refine hK.out _ _ (fun _ => hS7) ?_
                clear hK K
                try simp only [Act.put, List.setIfInBounds_toArray, List.set_cons_zero, List.set_cons_succ]
                refine Late.load (i := 11) (v := ?_) rfl (by kernel_rfl) (by kernel_rfl) (by kernel_rfl) (by kernel_rfl) (fun _ _ _ h => h) (Or.inl ⟨by rfl, ?_⟩) hS7 ?_
                case refine_2 => intro W hW; clear hW; go_simp; (try with_reducible rfl)
                try simp only [Act.put, List.setIfInBounds_toArray, List.set_cons_zero, List.set_cons_succ]
                refine Late.load (i := 12) (v := ?_) rfl (by kernel_rfl) (by kernel_rfl) (by kernel_rfl) (by kernel_rfl) (fun _ _ _ h => h) (Or.inl ⟨by rfl, ?_⟩) hS7 ?_
                case refine_2 => intro W hW; clear hW; go_simp; (try with_reducible rfl)
                try simp only [Act.put, List.setIfInBounds_toArray, List.set_cons_zero, List.set_cons_succ]
                refine Late.load (i := 13) (v := ?_) rfl (by kernel_rfl) (by kernel_rfl) (by kernel_rfl) (by kernel_rfl) (fun _ _ _ h => h) (Or.inl ⟨by rfl, ?_⟩) hS7 ?_
                case refine_2 => intro W hW; clear hW; go_simp; (try with_reducible rfl)
                try simp only [Act.put, List.setIfInBounds_toArray, List.set_cons_zero, List.set_cons_succ]
                refine Late.ready1 (i := 14) (by kernel_rfl) rfl (fun K hK => ?_)
                have hS7b := hS7.below ((Below.refl w7.heap.size w7).alloc (Nat.le_refl _) (.cells (RCells zeroX 0) 62)) (Nat.lt_of_lt_of_le hltx1 hb7.size)
                go_simp
                refine hK.out _ _ (fun _ => hS7b) ?_
                clear hK K
                try simp only [Act.put, List.setIfInBounds_toArray, List.set_cons_zero, List.set_cons_succ]
                refine Late.ready1 (i := 15) (by kernel_rfl) rfl (fun K hK => ?_)
                refine step_st62 rfl (.tmp 12) (.tmp 83) rfl w7.heap.size (RCells y 0) (RCells zeroX 0) 62 (by simp [Act.eval]) (by simp [Act.eval]) (blk_new w7 (RCells zeroX 0) 62) rfl rfl (rcells_one _ _) ?_
                intro w8 hx8 hg8
                have hb78 : Below w7.heap.size w7 w8 := ((Below.refl _ _).alloc (Nat.le_refl _) _).trans (below_of_grown hg8 (Nat.le_refl _) (by simp))
                have hS8 := hS7.below hb78 (Nat.lt_of_lt_of_le hltx1 hb7.size)
                have hbel8 := hbel7.trans (hb78.mono hbel7.size)
                refine hK.out _ _ (fun _ => hS8) ?_
                clear hK K
                try simp only [Act.put, List.setIfInBounds_toArray, List.set_cons_zero, List.set_cons_succ]
                refine Late.ready1 (i := 16) (by kernel_rfl) rfl (fun K hK => ?_)
                go_simp
                refine hK.out _ _ (fun _ => hS8) ?_
                clear hK K
                try simp only [Act.put, List.setIfInBounds_toArray, List.set_cons_zero, List.set_cons_succ]
                refine Late.done (by kernel_rfl) ?_ _
                have hB8 := hB4.trans ((hbel8).mono hB4s)
                have hr8 := hr4.below (hbel8) hr4.lt
                cases ok
                · have hRn : R = none := by
                    have := HFo.out
                    rw [fillAll, if_neg (by rw [← HOK.out.1]; simp)] at this; exact this.symm
                  have HX : Hd (readO p = none) := ⟨by rw [HGo.out, hRn]⟩
                  clear hRn
                  go_wp2_with (refine st_blk rfl 62 _ _ rfl w.heap.size (RCells zeroX 0) rfl rfl hr8 info62 rfl (rcells_one _ _) ?_; intro w9 hb9 hg9)
                  exact rread_end rfl rfl rfl hb9 rfl (hB8.trans (below_of_grown hg9 (Nat.le_refl _) hB8.size)) (fun h => by cases h) (fun _ => HX.out)
                · have hy := HOK.out.2 rfl
                  have hfo : fillAll (fillX x (c.toNat : Int) (bs sp)) ((shapeL oi).drop (j + 1)) (p.drop (j + 1 + 1)) = R := by
                    have := HFo.out
                    rw [fillAll, if_pos HOK.out.1.symm] at this; exact this
                  rw [← hy] at hfo
                  have hiy : (0 ≤ y.imm ∧ y.imm < 4294967296) ∧ y.op = oi := by rw [hy, fillX_op]; exact ⟨fillX_imm himm, HOP.out⟩
                  have HY := Hd.mk (And.intro hfo hiy)
                  have hxi := hS8.item
                  have hlt8 := hxi.lt
                  have hb38 := hbel8
                  clear hy hfo hiy
                  go_wp2_with (first | (refine ld_blk rfl 62 _ rfl w7.heap.size rfl hx8 Tryd.underlying62 info62 ?_) | (refine st_blk rfl 62 _ _ rfl w3.heap.size (RCells y 0) rfl rfl hxi info62 rfl (rcells_one _ _) ?_; intro w9 hb9 hg9))
                  refine ⟨⟨j + 1, y, by omega, by simp, hb9, hb38.trans (below_of_grown hg9 (Nat.le_refl _) hb38.size), HY.out.1, HY.out.2.1, HY.out.2.2⟩, by simp [intOf]; omega⟩
              · have hbA : Below w6.heap.size w6 (w6.alloc (.cells (RCells zeroX 0) 62)) := (Below.refl w6.heap.size w6).alloc (Nat.le_refl _) _
                have hSA := hS1.below hbA hltx1
                have hyA := blk_new w6 (RCells zeroX 0) 62
                have hbelA := hbel1.trans (hbA.mono hbel1.size)
                have hltxA := Nat.lt_of_lt_of_le hltx1 hbA.size
                go_simp
                refine hK.out _ _ (fun _ => hSA) ?_
                clear hK K
                try simp only [Act.put, List.setIfInBounds_toArray, List.set_cons_zero, List.set_cons_succ]
                refine Late.ready1 (i := 10) (by kernel_rfl) rfl (fun K hK => ?_)
                go_simp
                refine (rfill_any x 0 c sp _ hspl HCK.out).mono ?_
                rintro e w7 ⟨⟨y, ok, rfl, hok1, hok2⟩, hb7⟩
                have HOK := Hd.mk (And.intro hok1 hok2)
                clear hok1 hok2
                have hS7 := hSA.below hb7 hltxA
                have hbel7 := (hbelA).trans (hb7.mono (hbelA).size)
                go_wp2_with fail
                refine hK.out _ _ (fun _ => hS7) ?_
                clear hK K
                try simp only [Act.put, List.setIfInBounds_toArray, List.set_cons_zero, List.set_cons_succ]
                refine Late.load (i := 11) (v := ?_) rfl (by kernel_rfl) (by kernel_rfl) (by kernel_rfl) (by kernel_rfl) (fun _ _ _ h => h) (Or.inl ⟨by rfl, ?_⟩) hS7 ?_
                case refine_2 => intro W hW; clear hW; go_simp; (try with_reducible rfl)
                try simp only [Act.put, List.setIfInBounds_toArray, List.set_cons_zero, List.set_cons_succ]
                refine Late.load (i := 12) (v := ?_) rfl (by kernel_rfl) (by kernel_rfl) (by kernel_rfl) (by kernel_rfl) (fun _ _ _ h => h) (Or.inl ⟨by rfl, ?_⟩) hS7 ?_
                case refine_2 => intro W hW; clear hW; go_simp; (try with_reducible rfl)
                try simp only [Act.put, List.setIfInBounds_toArray, List.set_cons_zero, List.set_cons_succ]
                refine Late.load (i := 13) (v := ?_) rfl (by kernel_rfl) (by kernel_rfl) (by kernel_rfl) (by kernel_rfl) (fun _ _ _ h => h) (Or.inl ⟨by rfl, ?_⟩) hS7 ?_
                case refine_2 => intro W hW; clear hW; go_simp; (try with_reducible rfl)
                try simp only [Act.put, List.setIfInBounds_toArray, List.set_cons_zero, List.set_cons_succ]
                have hyB := hyA.below hb7 hyA.lt
                have h67 : w6.heap.size ≤ w7.heap.size := Nat.le_trans hbA.size hb7.size
                have h6x : w3.heap.size < w6.heap.size := hltx1
                refine Late.ready1 (i := 15) (by kernel_rfl) rfl (fun K hK => ?_)
                refine step_st62 rfl (.tmp 12) (.tmp 83) rfl w6.heap.size (RCells y 0) (RCells zeroX 0) 62 (by simp [Act.eval]) (by simp [Act.eval]) hyB rfl rfl (rcells_one _ _) ?_
                intro w8 hx8 hg8
                have hb78 : Below w6.heap.size w7 w8 := below_of_grown hg8 (Nat.le_refl _) h67
                have hS8 : S3 w3.heap.size x gs j c g off sp w8 := hS7.below6 hb78 h6x (heap_cell hS1.want) (heap_cell hS1.piece)
                have hbel8 := hbel7.trans (hb78.mono (Nat.le_of_lt h6x))
                refine hK.out _ _ (fun _ => hS8) ?_
                clear hK K
                try simp only [Act.put, List.setIfInBounds_toArray, List.set_cons_zero, List.set_cons_succ]
                refine Late.ready1 (i := 16) (by kernel_rfl) rfl (fun K hK => ?_)
                go_simp
                refine hK.out _ _ (fun _ => hS8) ?_
                clear hK K
                try simp only [Act.put, List.setIfInBounds_toArray, List.set_cons_zero, List.set_cons_succ]
                refine Late.done (by kernel_rfl) ?_ _
                have hB8 := hB4.trans ((hbel8).mono hB4s)
                have hr8 := hr4.below (hbel8) hr4.lt
                cases ok
                · have hRn : R = none := by
                    have := HFo.out
                    rw [fillAll, if_neg (by rw [← HOK.out.1]; simp)] at this; exact this.symm
                  have HX : Hd (readO p = none) := ⟨by rw [HGo.out, hRn]⟩
                  clear hRn
                  go_wp2_with (refine st_blk rfl 62 _ _ rfl w.heap.size (RCells zeroX 0) rfl rfl hr8 info62 rfl (rcells_one _ _) ?_; intro w9 hb9 hg9)
                  exact rread_end rfl rfl rfl hb9 rfl (hB8.trans (below_of_grown hg9 (Nat.le_refl _) hB8.size)) (fun h => by cases h) (fun _ => HX.out)
                · have hy := HOK.out.2 rfl
                  have hfo : fillAll (fillX x (c.toNat : Int) (bs sp)) ((shapeL oi).drop (j + 1)) (p.drop (j + 1 + 1)) = R := by
                    have := HFo.out
                    rw [fillAll, if_pos HOK.out.1.symm] at this; exact this
                  rw [← hy] at hfo
                  have hiy : (0 ≤ y.imm ∧ y.imm < 4294967296) ∧ y.op = oi := by rw [hy, fillX_op]; exact ⟨fillX_imm himm, HOP.out⟩
                  have HY := Hd.mk (And.intro hfo hiy)
                  have hxi := hS8.item
                  have hlt8 := hxi.lt
                  have hb38 := hbel8
                  clear hy hfo hiy
                  go_wp2_with (first | (refine ld_blk rfl 62 _ rfl w6.heap.size rfl hx8 Tryd.underlying62 info62 ?_) | (refine st_blk rfl 62 _ _ rfl w3.heap.size (RCells y 0) rfl rfl hxi info62 rfl (rcells_one _ _) ?_; intro w9 hb9 hg9))
                  refine ⟨⟨j + 1, y, by omega, by simp, hb9, hb38.trans (below_of_grown hg9 (Nat.le_refl _) hb38.size), HY.out.1, HY.out.2.1, HY.out.2.2⟩, by simp [intOf]; omega⟩
            · have hjm2 : j = m := by omega
              have hR : R = some x := by
                have := hI.fold
                rw [List.drop_eq_nil_of_le (by rw [HM.out]; omega), fillAll] at this; exact this.symm
              have hr6 := hr4.below hI.bel hr4.lt
              have hB6 := hB4.trans (hI.bel.mono hB4s)
              have hbel := hI.bel
              have hx := hI.item
              have himm := hI.imm
              obtain ⟨himm1, himm2⟩ := himm
              have hxlt := hx.lt
              have k4 := hx.cell 4 (v := .int .u32 x.imm) rfl
              have f4 := hx.free 4
              rw [hR] at HGo
              have HOP := Hd.mk hI.op
              have hB6s := hB6.size
              clear hR hI hjm2
              by_cases h12 : oi = 1 ∨ oi = 2
              · have bf : (formP oi == 1) = true := beq_iff_eq.2 (formP_one.2 h12)
                by_cases hbig2 : 1048576 ≤ x.imm
                · have HX : Hd (readO p = none) := ⟨by
                    rw [HGo.out]; simp only []; unfold upOk; rw [HOP.out, if_pos h12, if_neg (by simp; omega)]⟩
                  clear h12
                  go_wp2_with (first | (go_at_call 39; refine (rform_any _ _).mono ?_; rintro e w' ⟨rfl, rfl⟩) | (refine st_blk rfl 62 _ _ rfl w.heap.size (RCells zeroX 0) rfl rfl hr6 info62 rfl (rcells_one _ _) ?_; intro w9 hb9 hg9))
                  exact rread_end rfl rfl rfl hb9 rfl (hB6.trans (below_of_grown hg9 (Nat.le_refl _) hB6s)) (fun h => by cases h) (fun _ => HX.out)
                · have hwr : IntKind.u32.wrap (x.imm * 4096) = x.imm * 4096 := by rw [IntKind.wrap_u32]; omega
                  have HX : Hd (readO p = some { x with imm := x.imm * 4096 }) := ⟨by
                    rw [HGo.out]; simp only []; unfold upOk upX; rw [HOP.out, if_pos h12, if_pos (by simp; omega), if_pos h12, Int.emod_eq_of_lt (by omega) (by omega)]⟩
                  have hlt2 : x.imm < 1048576 := by omega
                  have hx2 : ∀ v, Blk (wr.setCell ⟨w3.heap.size, 4, none⟩ (.int .u32 v)) w3.heap.size (RCells { x with imm := v } 0) 62 := fun v => by simpa [RCells] using hx.set 4 (.int .u32 v)
                  have hr7 : ∀ v, Blk (wr.setCell ⟨w3.heap.size, 4, none⟩ v) w.heap.size (RCells zeroX 0) 62 := fun v => hr6.grown (grown_set _ _ _ _) (by have := hr4.lt; simp; omega)
                  have hB7 : ∀ v, Below w.heap.size w (wr.setCell ⟨w3.heap.size, 4, none⟩ v) := fun v => hB6.setCell (by have := hr4.lt; simp; omega) _
                  clear h12 hbig2
                  go_wp2_with (first | (go_at_call 39; refine (rform_any _ _).mono ?_; rintro e w' ⟨rfl, rfl⟩) | (refine ld_blk rfl 62 _ rfl w3.heap.size rfl (hx2 _) Tryd.underlying62 info62 ?_) | (refine st_blk rfl 62 _ _ rfl w.heap.size (RCells { x with imm := x.imm * 4096 } 0) rfl rfl (hr7 _) info62 rfl (rcells_one _ _) ?_; intro w9 hb9 hg9))
                  exact rread_end rfl rfl rfl hb9 rfl ((hB7 _).trans (below_of_grown hg9 (Nat.le_refl _) (hB7 (.int .u32 (x.imm * 4096))).size)) (fun _ => HX.out) (fun h => by cases h)
              · have bf : (formP oi == 1) = false := beq_eq_false_iff_ne.2 (fun e => h12 (formP_one.1 e))
                have HX : Hd (readO p = some x) := ⟨by
                  rw [HGo.out]; simp only []; unfold upOk upX; rw [HOP.out, if_neg h12, if_pos rfl, if_neg h12]⟩
                clear h12
                go_wp2_with (first | (go_at_call 39; refine (rform_any _ _).mono ?_; rintro e w' ⟨rfl, rfl⟩) | (refine ld_blk rfl 62 _ rfl w3.heap.size rfl hx Tryd.underlying62 info62 ?_) | (refine st_blk rfl 62 _ _ rfl w.heap.size (RCells x 0) rfl rfl hr6 info62 rfl (rcells_one _ _) ?_; intro w9 hb9 hg9))
                exact rread_end rfl rfl rfl hb9 rfl (hB6.trans (below_of_grown hg9 (Nat.le_refl _) hB6s)) (fun _ => HX.out) (fun h => by cases h)
        · have b2 : ((n : Int) == (m : Int) + 1) = false := beq_eq_false_iff_ne.2 (by omega)
          have HX := Hd.mk (HNone.out (.inr hnm))
          clear hnm
          go_wp2_with (refine st_blk rfl 62 _ _ rfl w.heap.size (RCells zeroX 0) rfl rfl hr4 info62 rfl (rcells_one _ _) ?_; intro w5 hb5 hg5)
          exact rread_end rfl rfl rfl hb5 rfl (hB4.trans (below_of_grown hg5 (Nat.le_refl _) hB4s)) (fun h => by cases h) (fun _ => HX.out)
end Go.Proofs.YtceelkmedfoefaaDoor

