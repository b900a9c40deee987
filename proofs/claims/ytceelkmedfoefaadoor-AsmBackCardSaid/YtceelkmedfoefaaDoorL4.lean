import Derived.Test.YtceelkmedfoefaaDoorL3
import Derived.OneCell
/-! Blocks known whole; items. -/
set_option linter.unusedVariables false
set_option linter.unusedSimpArgs false
namespace Go.Proofs.YtceelkmedfoefaaDoor
open Go.RowKit

/-- Block b holds just these cells, none frozen. -/
structure Blk (w : World) (b : Nat) (cs : Array Value) (T : TypeId) : Prop where
  at_ : w.heap[b]? = some (.cells cs T (0, 0))
theorem Blk.lt {w : World} {b : Nat} {cs : Array Value} {T : TypeId} (h : Blk w b cs T) : b < w.heap.size := (Array.getElem?_eq_some_iff.1 h.at_).1
theorem Blk.cell {w : World} {b : Nat} {cs : Array Value} {T : TypeId} (h : Blk w b cs T) (k : Nat) {v : Value} (hk : cs[k]? = some v) : w.cell? ⟨b, k, none⟩ = some v := by
  simp [World.cell?, h.at_, hk]
theorem Blk.free {w : World} {b : Nat} {cs : Array Value} {T : TypeId} (h : Blk w b cs T) (k : Nat) : w.frozen? ⟨b, k, none⟩ = false := by
  simp [World.frozen?, h.at_]
theorem Blk.set {w : World} {b : Nat} {cs : Array Value} {T : TypeId} (h : Blk w b cs T) (k : Nat) (v : Value) : Blk (w.setCell ⟨b, k, none⟩ v) b (cs.setIfInBounds k v) T :=
  ⟨by simp [World.setCell, Array.getElem?_modify, h.at_]⟩
theorem Blk.alloc {w : World} {b : Nat} {cs : Array Value} {T : TypeId} (h : Blk w b cs T) (o : Obj) : Blk (w.alloc o) b cs T :=
  ⟨by rw [Below.heap_alloc w o b h.lt]; exact h.at_⟩
theorem Blk.grown {w w' : World} {b : Nat} {cs : Array Value} {T : TypeId} (h : Blk w b cs T) {row : Option Nat} (hg : w.grownBy w' row) (hr : some b ≠ row) : Blk w' b cs T :=
  ⟨by rw [hg.block b h.lt hr]; exact h.at_⟩
theorem Blk.below {w w' : World} {b B : Nat} {cs : Array Value} {T : TypeId} (h : Blk w b cs T) (hb : Below B w w') (hB : b < B) : Blk w' b cs T :=
  ⟨by rw [hb.block b hB]; exact h.at_⟩
theorem blk_new (w : World) (cs : Array Value) (T : TypeId) : Blk (w.alloc (.cells cs T)) w.heap.size cs T := ⟨heap_alloc_new w _⟩
theorem grown_set (w : World) (b k : Nat) (v : Value) : w.grownBy (w.setCell ⟨b, k, none⟩ v) (some b) :=
  ⟨rfl, rfl, rfl, by simp [World.setCell], fun i _ hne => Below.heap_setCell _ _ _ _ (fun e => hne (by rw [e]))⟩
theorem grown_refl (w : World) (row : Option Nat) : w.grownBy w row := ⟨rfl, rfl, rfl, Nat.le_refl _, fun _ _ _ => rfl⟩
theorem grown_trans {a b c : World} {row : Option Nat} (h : a.grownBy b row) (k : b.grownBy c row) : a.grownBy c row :=
  ⟨k.os.trans h.os, k.tape.trans h.tape, k.output.trans h.output, Nat.le_trans h.size k.size, fun i hi hn => (k.block i (Nat.lt_of_lt_of_le hi h.size) hn).trans (h.block i hi hn)⟩
theorem grown_alloc (w : World) (o : Obj) (row : Option Nat) : w.grownBy (w.alloc o) row := World.grownBy_alloc w o row
theorem below_of_grown {w w' : World} {b B : Nat} (h : w.grownBy w' (some b)) (hB : B ≤ b) (hw : B ≤ w.heap.size) : Below B w w' :=
  ⟨h.os, h.tape, h.output, h.size, fun k hk => h.block k (by omega) (fun e => by cases e; omega)⟩

/-- An item, as asm has it. -/
structure AItem where
  op : Int
  rd : Int
  rs1 : Int
  rs2 : Int
  imm : Int
  csr : Int
  label : Bytes
  word : Int
  raw : Bool
  has : Bool
def ICells (x : AItem) : Array Value := #[.int .i64 x.op, .int .i64 x.rd, .int .i64 x.rs1, .int .i64 x.rs2, .int .u32 x.imm, .int .i64 x.csr, SV x.label, .int .u32 x.word, .bool x.raw, .bool x.has]
structure ItemAt (w : World) (b : Nat) (x : AItem) : Prop where
  blk : Blk w b (ICells x) 58

/-- A piece, filled into an item; and whether it may be. -/
def fillX (x : AItem) (what : Int) (s : Bytes) : AItem :=
  if what = 100 then { x with rd := regV s } else if what = 49 then { x with rs1 := regV s } else if what = 50 then { x with rs2 := regV s }
  else if what = 116 then (if nameB s = true then { x with label := s } else { x with imm := numV s })
  else if what = 110 then { x with imm := numV s } else if what = 99 then { x with csr := numV s } else x
def fillOk (what : Int) (s : Bytes) : Bool :=
  if what = 100 ∨ what = 49 ∨ what = 50 then regOk s
  else if what = 116 then (nameB s || numOk s)
  else if what = 110 ∨ what = 99 then numOk s else decide (s = [UInt8.ofNat what.toNat])

end Go.Proofs.YtceelkmedfoefaaDoor
