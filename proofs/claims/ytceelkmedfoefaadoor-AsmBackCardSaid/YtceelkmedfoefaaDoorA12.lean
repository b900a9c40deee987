import Derived.Test.YtceelkmedfoefaaDoorL4
import Derived.Test.YtceelkmedfoefaaDoorA11
import Derived.Laws.IdiomStrings
set_option linter.unusedVariables false
set_option linter.unusedSimpArgs false
namespace Go.Proofs.YtceelkmedfoefaaDoor
open Go.RowKit

/-- What fill leaves. -/
structure FillPost (x : AItem) (b : Nat) (what : Int) (s : Bytes) (w w' : World) (e : Ending) : Prop where
  ret : e = .returned (.bool (fillOk what s))
  item : ItemAt w' b (fillX x what s)
  grown : w.grownBy w' (some b)

theorem numE_ok (l : Bytes) : (numE l == 0) = numOk l := by
  unfold numE numOk; cases (numOf l).isSome <;> rfl
theorem sv_bs (s : ByteArray) : SV (bs s) = .string s := (sv_of s).symm

set_option maxHeartbeats 1000000 in
theorem fill_d (x : AItem) (b : Nat) (s : ByteArray) (w : World) (hx : ItemAt w b x) :
    Calls Tryd.prog 56 #[.pointer (some ⟨b, 0, none⟩), .int .u8 100, .string s] w fun e w' => FillPost x b 100 (bs s) w w' e := by
  have hc := hx.blk.cell 1 rfl
  have hf := hx.blk.free 1
  go_enter Tryd.func56, Tryd.ntmps56
  go_wp2_with (first | (go_at_call 75; refine (register_any _ _).mono ?_; rintro e w' ⟨rfl, rfl⟩) | (go_at_call 11; refine (number_any _ _).mono ?_; rintro e w' ⟨rfl, rfl⟩) | (go_at_call 65; refine (name_any _ _).mono ?_; rintro e w' ⟨rfl, rfl⟩))
  go_ret
  exact ⟨rfl, ⟨hx.blk.set 1 _⟩, grown_set _ _ _ _⟩

set_option maxHeartbeats 1000000 in
theorem fill_1 (x : AItem) (b : Nat) (s : ByteArray) (w : World) (hx : ItemAt w b x) :
    Calls Tryd.prog 56 #[.pointer (some ⟨b, 0, none⟩), .int .u8 49, .string s] w fun e w' => FillPost x b 49 (bs s) w w' e := by
  have hc := hx.blk.cell 2 rfl
  have hf := hx.blk.free 2
  go_enter Tryd.func56, Tryd.ntmps56
  go_wp2_with (first | (go_at_call 75; refine (register_any _ _).mono ?_; rintro e w' ⟨rfl, rfl⟩) | (go_at_call 11; refine (number_any _ _).mono ?_; rintro e w' ⟨rfl, rfl⟩) | (go_at_call 65; refine (name_any _ _).mono ?_; rintro e w' ⟨rfl, rfl⟩))
  go_ret
  exact ⟨rfl, ⟨hx.blk.set 2 _⟩, grown_set _ _ _ _⟩

set_option maxHeartbeats 1000000 in
theorem fill_2 (x : AItem) (b : Nat) (s : ByteArray) (w : World) (hx : ItemAt w b x) :
    Calls Tryd.prog 56 #[.pointer (some ⟨b, 0, none⟩), .int .u8 50, .string s] w fun e w' => FillPost x b 50 (bs s) w w' e := by
  have hc := hx.blk.cell 3 rfl
  have hf := hx.blk.free 3
  go_enter Tryd.func56, Tryd.ntmps56
  go_wp2_with (first | (go_at_call 75; refine (register_any _ _).mono ?_; rintro e w' ⟨rfl, rfl⟩) | (go_at_call 11; refine (number_any _ _).mono ?_; rintro e w' ⟨rfl, rfl⟩) | (go_at_call 65; refine (name_any _ _).mono ?_; rintro e w' ⟨rfl, rfl⟩))
  go_ret
  exact ⟨rfl, ⟨hx.blk.set 3 _⟩, grown_set _ _ _ _⟩

set_option maxHeartbeats 1000000 in
theorem fill_t (x : AItem) (b : Nat) (s : ByteArray) (w : World) (hx : ItemAt w b x) :
    Calls Tryd.prog 56 #[.pointer (some ⟨b, 0, none⟩), .int .u8 116, .string s] w fun e w' => FillPost x b 116 (bs s) w w' e := by
  have hc := hx.blk.cell 6 rfl
  have hf := hx.blk.free 6
  have hc4 := hx.blk.cell 4 rfl
  have hf4 := hx.blk.free 4
  have HE := Hd.mk (numE_ok (bs s))
  cases hn : nameB (bs s)
  · have HN := Hd.mk hn
    go_enter Tryd.func56, Tryd.ntmps56
    go_wp2_with (first | (go_at_call 75; refine (register_any _ _).mono ?_; rintro e w' ⟨rfl, rfl⟩) | (go_at_call 11; refine (number_any _ _).mono ?_; rintro e w' ⟨rfl, rfl⟩) | (go_at_call 65; refine (name_any _ _).mono ?_; rintro e w' ⟨rfl, rfl⟩))
    go_ret
    exact ⟨ret_bool (by rw [HE.out]; simp [fillOk, HN.out]), by rw [fillX, HN.out]; exact ⟨hx.blk.set 4 _⟩, grown_set _ _ _ _⟩
  · have HN := Hd.mk hn
    go_enter Tryd.func56, Tryd.ntmps56
    go_wp2_with (first | (go_at_call 75; refine (register_any _ _).mono ?_; rintro e w' ⟨rfl, rfl⟩) | (go_at_call 11; refine (number_any _ _).mono ?_; rintro e w' ⟨rfl, rfl⟩) | (go_at_call 65; refine (name_any _ _).mono ?_; rintro e w' ⟨rfl, rfl⟩))
    go_ret
    exact ⟨ret_bool (by simp [fillOk, HN.out]), by rw [fillX, HN.out, sv_of]; exact ⟨hx.blk.set 6 _⟩, grown_set _ _ _ _⟩

set_option maxHeartbeats 1000000 in
theorem fill_n (x : AItem) (b : Nat) (s : ByteArray) (w : World) (hx : ItemAt w b x) :
    Calls Tryd.prog 56 #[.pointer (some ⟨b, 0, none⟩), .int .u8 110, .string s] w fun e w' => FillPost x b 110 (bs s) w w' e := by
  have hc := hx.blk.cell 4 rfl
  have hf := hx.blk.free 4
  have HE := Hd.mk (numE_ok (bs s))
  have hr := numV_range (bs s)
  obtain ⟨hr1, hr2⟩ := hr
  go_enter Tryd.func56, Tryd.ntmps56
  go_wp2_with (first | (go_at_call 75; refine (register_any _ _).mono ?_; rintro e w' ⟨rfl, rfl⟩) | (go_at_call 11; refine (number_any _ _).mono ?_; rintro e w' ⟨rfl, rfl⟩) | (go_at_call 65; refine (name_any _ _).mono ?_; rintro e w' ⟨rfl, rfl⟩))
  go_ret
  exact ⟨ret_bool (by rw [HE.out]; rfl), ⟨hx.blk.set 4 _⟩, grown_set _ _ _ _⟩

set_option maxHeartbeats 1000000 in
theorem fill_c (x : AItem) (b : Nat) (s : ByteArray) (w : World) (hx : ItemAt w b x) :
    Calls Tryd.prog 56 #[.pointer (some ⟨b, 0, none⟩), .int .u8 99, .string s] w fun e w' => FillPost x b 99 (bs s) w w' e := by
  have hc := hx.blk.cell 5 rfl
  have hf := hx.blk.free 5
  have HE := Hd.mk (numE_ok (bs s))
  have hr := numV_range (bs s)
  obtain ⟨hr1, hr2⟩ := hr
  go_enter Tryd.func56, Tryd.ntmps56
  go_wp2_with (first | (go_at_call 75; refine (register_any _ _).mono ?_; rintro e w' ⟨rfl, rfl⟩) | (go_at_call 11; refine (number_any _ _).mono ?_; rintro e w' ⟨rfl, rfl⟩) | (go_at_call 65; refine (name_any _ _).mono ?_; rintro e w' ⟨rfl, rfl⟩))
  go_ret
  exact ⟨ret_bool (by rw [HE.out]; rfl), ⟨hx.blk.set 5 _⟩, grown_set _ _ _ _⟩

theorem conv_one (w : World) (c : Int) (n : Nat) (hc : c = n) (hn : n < 256) : (convert 42 9 (.slice (some ⟨w.heap.size, 0, none⟩) 1 1)).run Tryd.prog (w.alloc (.cells #[.int .u8 c] 5)) = .ok (.string ⟨#[UInt8.ofNat n]⟩) (w.alloc (.cells #[.int .u8 c] 5)) := by
  subst hc
  have h := run_convert_bytes_back (P := Tryd.prog) (w.alloc (.cells #[.int .u8 n] 5)) 42 9 5 ⟨w.heap.size, 0, none⟩ 1 [UInt8.ofNat n] Tryd.underlying42 Tryd.underlying5 Tryd.underlying9 (by
    intro j hj
    have e : j = 0 := by simpa using hj
    subst e
    rw [show (⟨w.heap.size, 0, none⟩ : Addr).add 0 = ⟨w.heap.size, 0, none⟩ from by unfold Addr.add; split <;> simp_all, World.cell?_alloc_at _ _ _ _ rfl]
    simp [Nat.mod_eq_of_lt hn])
  exact h
theorem mark_ok (what : Int) (n : Nat) (s : ByteArray) (hw : what = n) (h : what = 44 ∨ what = 40 ∨ what = 41) : fillOk what (bs s) = (s.toList == [UInt8.ofNat n]) := by
  unfold fillOk
  rw [if_neg (by omega), if_neg (by omega), if_neg (by omega), toList_eq_bs, hw, Int.toNat_natCast, Bool.eq_iff_iff]
  simp
theorem mark_x (what : Int) (x : AItem) (s : Bytes) (h : what = 44 ∨ what = 40 ∨ what = 41) : fillX x what s = x := by
  unfold fillX
  rw [if_neg (by omega), if_neg (by omega), if_neg (by omega), if_neg (by omega), if_neg (by omega), if_neg (by omega)]

set_option maxRecDepth 100000 in
set_option maxHeartbeats 1000000 in
theorem fill_comma (x : AItem) (b : Nat) (s : ByteArray) (w : World) (hx : ItemAt w b x) :
    Calls Tryd.prog 56 #[.pointer (some ⟨b, 0, none⟩), .int .u8 44, .string s] w fun e w' => FillPost x b 44 (bs s) w w' e := by
  have hcv := conv_one w 44 44 rfl (by decide)
  have HM := Hd.mk (mark_ok 44 44 s rfl (by decide))
  have HX := Hd.mk (mark_x 44 x (bs s) (by decide))
  go_enter Tryd.func56, Tryd.ntmps56
  go_wp2_with (first | (go_at_call 75; refine (register_any _ _).mono ?_; rintro e w' ⟨rfl, rfl⟩) | (go_at_call 11; refine (number_any _ _).mono ?_; rintro e w' ⟨rfl, rfl⟩))
  go_ret
  exact ⟨ret_bool (by rw [HM.out]; rfl), by rw [HX.out]; exact ⟨hx.blk.alloc _⟩, grown_alloc _ _ _⟩

set_option maxRecDepth 100000 in
set_option maxHeartbeats 1000000 in
theorem fill_open (x : AItem) (b : Nat) (s : ByteArray) (w : World) (hx : ItemAt w b x) :
    Calls Tryd.prog 56 #[.pointer (some ⟨b, 0, none⟩), .int .u8 40, .string s] w fun e w' => FillPost x b 40 (bs s) w w' e := by
  have hcv := conv_one w 40 40 rfl (by decide)
  have HM := Hd.mk (mark_ok 40 40 s rfl (by decide))
  have HX := Hd.mk (mark_x 40 x (bs s) (by decide))
  go_enter Tryd.func56, Tryd.ntmps56
  go_wp2_with (first | (go_at_call 75; refine (register_any _ _).mono ?_; rintro e w' ⟨rfl, rfl⟩) | (go_at_call 11; refine (number_any _ _).mono ?_; rintro e w' ⟨rfl, rfl⟩))
  go_ret
  exact ⟨ret_bool (by rw [HM.out]; rfl), by rw [HX.out]; exact ⟨hx.blk.alloc _⟩, grown_alloc _ _ _⟩

set_option maxRecDepth 100000 in
set_option maxHeartbeats 1000000 in
theorem fill_close (x : AItem) (b : Nat) (s : ByteArray) (w : World) (hx : ItemAt w b x) :
    Calls Tryd.prog 56 #[.pointer (some ⟨b, 0, none⟩), .int .u8 41, .string s] w fun e w' => FillPost x b 41 (bs s) w w' e := by
  have hcv := conv_one w 41 41 rfl (by decide)
  have HM := Hd.mk (mark_ok 41 41 s rfl (by decide))
  have HX := Hd.mk (mark_x 41 x (bs s) (by decide))
  go_enter Tryd.func56, Tryd.ntmps56
  go_wp2_with (first | (go_at_call 75; refine (register_any _ _).mono ?_; rintro e w' ⟨rfl, rfl⟩) | (go_at_call 11; refine (number_any _ _).mono ?_; rintro e w' ⟨rfl, rfl⟩))
  go_ret
  exact ⟨ret_bool (by rw [HM.out]; rfl), by rw [HX.out]; exact ⟨hx.blk.alloc _⟩, grown_alloc _ _ _⟩

/-- fill, whatever is asked for of the kinds that shapes have. -/
theorem fill_any (x : AItem) (b : Nat) (what : Int) (s : ByteArray) (w : World) (hx : ItemAt w b x) (h : what = 100 ∨ what = 49 ∨ what = 50 ∨ what = 116 ∨ what = 110 ∨ what = 99 ∨ what = 44 ∨ what = 40 ∨ what = 41) :
    Calls Tryd.prog 56 #[.pointer (some ⟨b, 0, none⟩), .int .u8 what, .string s] w fun e w' => FillPost x b what (bs s) w w' e := by
  rcases h with rfl | rfl | rfl | rfl | rfl | rfl | rfl | rfl | rfl
  · exact fill_d x b s w hx
  · exact fill_1 x b s w hx
  · exact fill_2 x b s w hx
  · exact fill_t x b s w hx
  · exact fill_n x b s w hx
  · exact fill_c x b s w hx
  · exact fill_comma x b s w hx
  · exact fill_open x b s w hx
  · exact fill_close x b s w hx

end Go.Proofs.YtceelkmedfoefaaDoor
