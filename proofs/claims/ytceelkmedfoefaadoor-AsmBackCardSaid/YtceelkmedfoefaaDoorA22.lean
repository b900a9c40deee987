import Derived.Test.YtceelkmedfoefaaDoorL7
import Derived.Test.YtceelkmedfoefaaDoorA10
set_option linter.unusedVariables false
set_option linter.unusedSimpArgs false
namespace Go.Proofs.YtceelkmedfoefaaDoor
open Go.RowKit

/-- A word with bits put in. -/
def orW (v g : Int) : Int := bits .or .u32 v g
structure PutPost (b : Nat) (v : Int) (w w' : World) (e : Ending) : Prop where
  ret : e = .returned (.tuple #[])
  blk : Blk w' b #[.int .u32 v] 29
  grown : w.grownBy w' (some b)
theorem put_end {b : Nat} {v v' u : Int} {w : World} (hb : Blk w b #[.int .u32 v] 29) (h : u = v') : PutPost b v' w (w.setCell ⟨b, 0, none⟩ (.int .u32 u)) (.returned (.tuple #[])) := by
  subst h
  exact ⟨rfl, hb.set 0 _, grown_set _ _ _ _⟩

set_option maxHeartbeats 400000 in
theorem put_0_5_7 (b : Nat) (v x : Int) (w : World) (hb : Blk w b #[.int .u32 v] 29) (h0 : 0 ≤ x) (h1 : x < 4294967296) :
    Calls Tryd.prog 81 #[.int .u32 x, .int .u64 0, .int .u64 5, .int .u64 7, .pointer (some ⟨b, 0, none⟩)] w fun e w' => PutPost b (orW v (x % 32 * 128)) w w' e := by
  have hv : w.cell? ⟨b, 0, none⟩ = some (.int .u32 v) := hb.cell 0 rfl
  have hf := hb.free 0
  go_enter Tryd.func81, Tryd.ntmps81
  go_wp2_with fail
  go_end0
  refine put_end hb ?_
  unfold orW
  congr 1
  omega

set_option maxHeartbeats 400000 in
theorem put_0_5_15 (b : Nat) (v x : Int) (w : World) (hb : Blk w b #[.int .u32 v] 29) (h0 : 0 ≤ x) (h1 : x < 4294967296) :
    Calls Tryd.prog 81 #[.int .u32 x, .int .u64 0, .int .u64 5, .int .u64 15, .pointer (some ⟨b, 0, none⟩)] w fun e w' => PutPost b (orW v (x % 32 * 32768)) w w' e := by
  have hv : w.cell? ⟨b, 0, none⟩ = some (.int .u32 v) := hb.cell 0 rfl
  have hf := hb.free 0
  go_enter Tryd.func81, Tryd.ntmps81
  go_wp2_with fail
  go_end0
  refine put_end hb ?_
  unfold orW
  congr 1
  omega

set_option maxHeartbeats 400000 in
theorem put_0_5_20 (b : Nat) (v x : Int) (w : World) (hb : Blk w b #[.int .u32 v] 29) (h0 : 0 ≤ x) (h1 : x < 4294967296) :
    Calls Tryd.prog 81 #[.int .u32 x, .int .u64 0, .int .u64 5, .int .u64 20, .pointer (some ⟨b, 0, none⟩)] w fun e w' => PutPost b (orW v (x % 32 * 1048576)) w w' e := by
  have hv : w.cell? ⟨b, 0, none⟩ = some (.int .u32 v) := hb.cell 0 rfl
  have hf := hb.free 0
  go_enter Tryd.func81, Tryd.ntmps81
  go_wp2_with fail
  go_end0
  refine put_end hb ?_
  unfold orW
  congr 1
  omega

set_option maxHeartbeats 400000 in
theorem put_0_12_20 (b : Nat) (v x : Int) (w : World) (hb : Blk w b #[.int .u32 v] 29) (h0 : 0 ≤ x) (h1 : x < 4294967296) :
    Calls Tryd.prog 81 #[.int .u32 x, .int .u64 0, .int .u64 12, .int .u64 20, .pointer (some ⟨b, 0, none⟩)] w fun e w' => PutPost b (orW v (x % 4096 * 1048576)) w w' e := by
  have hv : w.cell? ⟨b, 0, none⟩ = some (.int .u32 v) := hb.cell 0 rfl
  have hf := hb.free 0
  go_enter Tryd.func81, Tryd.ntmps81
  go_wp2_with fail
  go_end0
  refine put_end hb ?_
  unfold orW
  congr 1
  omega

set_option maxHeartbeats 400000 in
theorem put_12_20_12 (b : Nat) (v x : Int) (w : World) (hb : Blk w b #[.int .u32 v] 29) (h0 : 0 ≤ x) (h1 : x < 4294967296) :
    Calls Tryd.prog 81 #[.int .u32 x, .int .u64 12, .int .u64 20, .int .u64 12, .pointer (some ⟨b, 0, none⟩)] w fun e w' => PutPost b (orW v (x / 4096 % 1048576 * 4096)) w w' e := by
  have hv : w.cell? ⟨b, 0, none⟩ = some (.int .u32 v) := hb.cell 0 rfl
  have hf := hb.free 0
  go_enter Tryd.func81, Tryd.ntmps81
  go_wp2_with fail
  go_end0
  refine put_end hb ?_
  unfold orW
  congr 1
  omega

set_option maxHeartbeats 400000 in
theorem put_20_1_31 (b : Nat) (v x : Int) (w : World) (hb : Blk w b #[.int .u32 v] 29) (h0 : 0 ≤ x) (h1 : x < 4294967296) :
    Calls Tryd.prog 81 #[.int .u32 x, .int .u64 20, .int .u64 1, .int .u64 31, .pointer (some ⟨b, 0, none⟩)] w fun e w' => PutPost b (orW v (x / 1048576 % 2 * 2147483648)) w w' e := by
  have hv : w.cell? ⟨b, 0, none⟩ = some (.int .u32 v) := hb.cell 0 rfl
  have hf := hb.free 0
  go_enter Tryd.func81, Tryd.ntmps81
  go_wp2_with fail
  go_end0
  refine put_end hb ?_
  unfold orW
  congr 1
  omega

set_option maxHeartbeats 400000 in
theorem put_12_8_12 (b : Nat) (v x : Int) (w : World) (hb : Blk w b #[.int .u32 v] 29) (h0 : 0 ≤ x) (h1 : x < 4294967296) :
    Calls Tryd.prog 81 #[.int .u32 x, .int .u64 12, .int .u64 8, .int .u64 12, .pointer (some ⟨b, 0, none⟩)] w fun e w' => PutPost b (orW v (x / 4096 % 256 * 4096)) w w' e := by
  have hv : w.cell? ⟨b, 0, none⟩ = some (.int .u32 v) := hb.cell 0 rfl
  have hf := hb.free 0
  go_enter Tryd.func81, Tryd.ntmps81
  go_wp2_with fail
  go_end0
  refine put_end hb ?_
  unfold orW
  congr 1
  omega

set_option maxHeartbeats 400000 in
theorem put_11_1_20 (b : Nat) (v x : Int) (w : World) (hb : Blk w b #[.int .u32 v] 29) (h0 : 0 ≤ x) (h1 : x < 4294967296) :
    Calls Tryd.prog 81 #[.int .u32 x, .int .u64 11, .int .u64 1, .int .u64 20, .pointer (some ⟨b, 0, none⟩)] w fun e w' => PutPost b (orW v (x / 2048 % 2 * 1048576)) w w' e := by
  have hv : w.cell? ⟨b, 0, none⟩ = some (.int .u32 v) := hb.cell 0 rfl
  have hf := hb.free 0
  go_enter Tryd.func81, Tryd.ntmps81
  go_wp2_with fail
  go_end0
  refine put_end hb ?_
  unfold orW
  congr 1
  omega

set_option maxHeartbeats 400000 in
theorem put_1_10_21 (b : Nat) (v x : Int) (w : World) (hb : Blk w b #[.int .u32 v] 29) (h0 : 0 ≤ x) (h1 : x < 4294967296) :
    Calls Tryd.prog 81 #[.int .u32 x, .int .u64 1, .int .u64 10, .int .u64 21, .pointer (some ⟨b, 0, none⟩)] w fun e w' => PutPost b (orW v (x / 2 % 1024 * 2097152)) w w' e := by
  have hv : w.cell? ⟨b, 0, none⟩ = some (.int .u32 v) := hb.cell 0 rfl
  have hf := hb.free 0
  go_enter Tryd.func81, Tryd.ntmps81
  go_wp2_with fail
  go_end0
  refine put_end hb ?_
  unfold orW
  congr 1
  omega

set_option maxHeartbeats 400000 in
theorem put_12_1_31 (b : Nat) (v x : Int) (w : World) (hb : Blk w b #[.int .u32 v] 29) (h0 : 0 ≤ x) (h1 : x < 4294967296) :
    Calls Tryd.prog 81 #[.int .u32 x, .int .u64 12, .int .u64 1, .int .u64 31, .pointer (some ⟨b, 0, none⟩)] w fun e w' => PutPost b (orW v (x / 4096 % 2 * 2147483648)) w w' e := by
  have hv : w.cell? ⟨b, 0, none⟩ = some (.int .u32 v) := hb.cell 0 rfl
  have hf := hb.free 0
  go_enter Tryd.func81, Tryd.ntmps81
  go_wp2_with fail
  go_end0
  refine put_end hb ?_
  unfold orW
  congr 1
  omega

set_option maxHeartbeats 400000 in
theorem put_11_1_7 (b : Nat) (v x : Int) (w : World) (hb : Blk w b #[.int .u32 v] 29) (h0 : 0 ≤ x) (h1 : x < 4294967296) :
    Calls Tryd.prog 81 #[.int .u32 x, .int .u64 11, .int .u64 1, .int .u64 7, .pointer (some ⟨b, 0, none⟩)] w fun e w' => PutPost b (orW v (x / 2048 % 2 * 128)) w w' e := by
  have hv : w.cell? ⟨b, 0, none⟩ = some (.int .u32 v) := hb.cell 0 rfl
  have hf := hb.free 0
  go_enter Tryd.func81, Tryd.ntmps81
  go_wp2_with fail
  go_end0
  refine put_end hb ?_
  unfold orW
  congr 1
  omega

set_option maxHeartbeats 400000 in
theorem put_5_6_25 (b : Nat) (v x : Int) (w : World) (hb : Blk w b #[.int .u32 v] 29) (h0 : 0 ≤ x) (h1 : x < 4294967296) :
    Calls Tryd.prog 81 #[.int .u32 x, .int .u64 5, .int .u64 6, .int .u64 25, .pointer (some ⟨b, 0, none⟩)] w fun e w' => PutPost b (orW v (x / 32 % 64 * 33554432)) w w' e := by
  have hv : w.cell? ⟨b, 0, none⟩ = some (.int .u32 v) := hb.cell 0 rfl
  have hf := hb.free 0
  go_enter Tryd.func81, Tryd.ntmps81
  go_wp2_with fail
  go_end0
  refine put_end hb ?_
  unfold orW
  congr 1
  omega

set_option maxHeartbeats 400000 in
theorem put_1_4_8 (b : Nat) (v x : Int) (w : World) (hb : Blk w b #[.int .u32 v] 29) (h0 : 0 ≤ x) (h1 : x < 4294967296) :
    Calls Tryd.prog 81 #[.int .u32 x, .int .u64 1, .int .u64 4, .int .u64 8, .pointer (some ⟨b, 0, none⟩)] w fun e w' => PutPost b (orW v (x / 2 % 16 * 256)) w w' e := by
  have hv : w.cell? ⟨b, 0, none⟩ = some (.int .u32 v) := hb.cell 0 rfl
  have hf := hb.free 0
  go_enter Tryd.func81, Tryd.ntmps81
  go_wp2_with fail
  go_end0
  refine put_end hb ?_
  unfold orW
  congr 1
  omega

set_option maxHeartbeats 400000 in
theorem put_5_7_25 (b : Nat) (v x : Int) (w : World) (hb : Blk w b #[.int .u32 v] 29) (h0 : 0 ≤ x) (h1 : x < 4294967296) :
    Calls Tryd.prog 81 #[.int .u32 x, .int .u64 5, .int .u64 7, .int .u64 25, .pointer (some ⟨b, 0, none⟩)] w fun e w' => PutPost b (orW v (x / 32 % 128 * 33554432)) w w' e := by
  have hv : w.cell? ⟨b, 0, none⟩ = some (.int .u32 v) := hb.cell 0 rfl
  have hf := hb.free 0
  go_enter Tryd.func81, Tryd.ntmps81
  go_wp2_with fail
  go_end0
  refine put_end hb ?_
  unfold orW
  congr 1
  omega

end Go.Proofs.YtceelkmedfoefaaDoor
