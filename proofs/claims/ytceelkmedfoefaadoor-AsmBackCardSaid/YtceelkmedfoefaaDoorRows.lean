/-
  NARROWER THAN 'FOR EVERY INPUT', by the rows' own cells (each row's printed sentence says how): AsmPieces: laid · AsmLines: laid · AsmPrograms: laid · AsmMany: laid · AsmBack: laid.
  DERIVED. THE GIVEN ROWS OF THIS SEAT. 5 by the template 'for every input the law returns true; each argument reads behind the call as it read before'; 0 by the template 'total and deterministic' (their statements: YtceelkmedfoefaaDoorTotals.lean).
  GIVEN WITH THE SEED: the statements are not yours to turn. If you find one false, say at which input.
  Laid BY PROGRAM, IN A SANDBOX (cutbox-rows.mjs): the forced cells as the released guide's own fill.sh prints them over the translation e192e9e6143a4aac… (all of the seat's roots in one cut). By AI agents, Wed Nov 11 2026. No macro, syntax, notation, axiom, sorry.
-/
import Derived.Test.YtceelkmedfoefaaDoorChecked
import GoSem.Claim
import GoSem.ClaimJoined
import GoSem.ClaimMapViews
import Derived.JoinedTies
import Derived.KernelRfl
namespace Go.Proofs.YtceelkmedfoefaaDoor
/- THE CELL 'sum', in the pinned program and in every row, IS THE sha256 OF THE DUMP (.gsa) THAT YtceelkmedfoefaaDoorProg.lean LOADS. Nothing in Lean hashes anything: it is a label: what it is worth is what the hold of that sum in a sandbox is worth. -/
noncomputable def Tryd.pinned : Pinned := { name := "ytceelkmedfoefaadoor", sum := "e192e9e6143a4aac9abdb079afa7a00165e82aadc4a268d8b08b6fd5a62d8c0f", checked := Tryd.checked }
namespace Rows
def none {H : Type} : Left H := { results := [], args := [] }

/- WHAT THE LISTED PACKAGE-LEVEL VARIABLES READ AS WHEN THE CALL BEGINS. Each datum BY PROGRAM (the guide's laid-datum.mjs) off the statement by which the dump's own 'gosem.cut.vars' lays the variable. In a bare row this is a premise. The card (YtceelkmedfoefaaDoorCards.lean) ties it to the program's text. -/
def laid_mimesis_inst_names {H : Type} : DataW H := .agg [.lit (.string [105, 108, 108, 101, 103, 97, 108]), .lit (.string [108, 117, 105]), .lit (.string [97, 117, 105, 112, 99]), .lit (.string [106, 97, 108]), .lit (.string [106, 97, 108, 114]), .lit (.string [98, 101, 113]), .lit (.string [98, 110, 101]), .lit (.string [98, 108, 116]), .lit (.string [98, 103, 101]), .lit (.string [98, 108, 116, 117]), .lit (.string [98, 103, 101, 117]), .lit (.string [108, 98]), .lit (.string [108, 104]), .lit (.string [108, 119]), .lit (.string [108, 98, 117]), .lit (.string [108, 104, 117]), .lit (.string [115, 98]), .lit (.string [115, 104]), .lit (.string [115, 119]), .lit (.string [97, 100, 100, 105]), .lit (.string [115, 108, 116, 105]), .lit (.string [115, 108, 116, 105, 117]), .lit (.string [120, 111, 114, 105]), .lit (.string [111, 114, 105]), .lit (.string [97, 110, 100, 105]), .lit (.string [115, 108, 108, 105]), .lit (.string [115, 114, 108, 105]), .lit (.string [115, 114, 97, 105]), .lit (.string [97, 100, 100]), .lit (.string [115, 117, 98]), .lit (.string [115, 108, 108]), .lit (.string [115, 108, 116]), .lit (.string [115, 108, 116, 117]), .lit (.string [120, 111, 114]), .lit (.string [115, 114, 108]), .lit (.string [115, 114, 97]), .lit (.string [111, 114]), .lit (.string [97, 110, 100]), .lit (.string [102, 101, 110, 99, 101]), .lit (.string [102, 101, 110, 99, 101, 46, 105]), .lit (.string [101, 99, 97, 108, 108]), .lit (.string [101, 98, 114, 101, 97, 107]), .lit (.string [99, 115, 114, 114, 119]), .lit (.string [99, 115, 114, 114, 115]), .lit (.string [99, 115, 114, 114, 99]), .lit (.string [99, 115, 114, 114, 119, 105]), .lit (.string [99, 115, 114, 114, 115, 105]), .lit (.string [99, 115, 114, 114, 99, 105]), .lit (.string [109, 114, 101, 116]), .lit (.string [119, 102, 105]), .lit (.string [109, 117, 108]), .lit (.string [109, 117, 108, 104]), .lit (.string [109, 117, 108, 104, 115, 117]), .lit (.string [109, 117, 108, 104, 117]), .lit (.string [100, 105, 118]), .lit (.string [100, 105, 118, 117]), .lit (.string [114, 101, 109]), .lit (.string [114, 101, 109, 117])]
def laid_mimesis_inst_forms {H : Type} : DataW H := .agg [.lit (.int .i64 0), .lit (.int .i64 1), .lit (.int .i64 1), .lit (.int .i64 2), .lit (.int .i64 3), .lit (.int .i64 4), .lit (.int .i64 4), .lit (.int .i64 4), .lit (.int .i64 4), .lit (.int .i64 4), .lit (.int .i64 4), .lit (.int .i64 3), .lit (.int .i64 3), .lit (.int .i64 3), .lit (.int .i64 3), .lit (.int .i64 3), .lit (.int .i64 5), .lit (.int .i64 5), .lit (.int .i64 5), .lit (.int .i64 3), .lit (.int .i64 3), .lit (.int .i64 3), .lit (.int .i64 3), .lit (.int .i64 3), .lit (.int .i64 3), .lit (.int .i64 7), .lit (.int .i64 7), .lit (.int .i64 7), .lit (.int .i64 6), .lit (.int .i64 6), .lit (.int .i64 6), .lit (.int .i64 6), .lit (.int .i64 6), .lit (.int .i64 6), .lit (.int .i64 6), .lit (.int .i64 6), .lit (.int .i64 6), .lit (.int .i64 6), .lit (.int .i64 3), .lit (.int .i64 3), .lit (.int .i64 0), .lit (.int .i64 0), .lit (.int .i64 8), .lit (.int .i64 8), .lit (.int .i64 8), .lit (.int .i64 9), .lit (.int .i64 9), .lit (.int .i64 9), .lit (.int .i64 0), .lit (.int .i64 0), .lit (.int .i64 6), .lit (.int .i64 6), .lit (.int .i64 6), .lit (.int .i64 6), .lit (.int .i64 6), .lit (.int .i64 6), .lit (.int .i64 6), .lit (.int .i64 6)]
def laid_mimesis_encode_matches {H : Type} : DataW H := .agg [.lit (.int .u32 0), .lit (.int .u32 55), .lit (.int .u32 23), .lit (.int .u32 111), .lit (.int .u32 103), .lit (.int .u32 99), .lit (.int .u32 4195), .lit (.int .u32 16483), .lit (.int .u32 20579), .lit (.int .u32 24675), .lit (.int .u32 28771), .lit (.int .u32 3), .lit (.int .u32 4099), .lit (.int .u32 8195), .lit (.int .u32 16387), .lit (.int .u32 20483), .lit (.int .u32 35), .lit (.int .u32 4131), .lit (.int .u32 8227), .lit (.int .u32 19), .lit (.int .u32 8211), .lit (.int .u32 12307), .lit (.int .u32 16403), .lit (.int .u32 24595), .lit (.int .u32 28691), .lit (.int .u32 4115), .lit (.int .u32 20499), .lit (.int .u32 1073762323), .lit (.int .u32 51), .lit (.int .u32 1073741875), .lit (.int .u32 4147), .lit (.int .u32 8243), .lit (.int .u32 12339), .lit (.int .u32 16435), .lit (.int .u32 20531), .lit (.int .u32 1073762355), .lit (.int .u32 24627), .lit (.int .u32 28723), .lit (.int .u32 15), .lit (.int .u32 4111), .lit (.int .u32 115), .lit (.int .u32 1048691), .lit (.int .u32 4211), .lit (.int .u32 8307), .lit (.int .u32 12403), .lit (.int .u32 20595), .lit (.int .u32 24691), .lit (.int .u32 28787), .lit (.int .u32 807403635), .lit (.int .u32 273678451), .lit (.int .u32 33554483), .lit (.int .u32 33558579), .lit (.int .u32 33562675), .lit (.int .u32 33566771), .lit (.int .u32 33570867), .lit (.int .u32 33574963), .lit (.int .u32 33579059), .lit (.int .u32 33583155)]

/-- 'mimesislaw06.AsmPieces': WHATEVER THE INPUT: true; the input reads as it did. -/
def asmPiecesSpec : ChangeSpec := { name := "asmPieces", fn := fun _ => fun
  | [d] => { results := [.lit (.bool true)], args := [d] }
  | _ => none }
def asmPiecesRow : OpenClaim := { program := "ytceelkmedfoefaadoor", sum := "e192e9e6143a4aac9abdb079afa7a00165e82aadc4a268d8b08b6fd5a62d8c0f", func := "mimesis/mimesislaw06.AsmPieces", spec := "asmPieces", inPlace := ["internal/bytealg.IndexByteString", "internal/bytealg.IndexString"], unfollowed := true, recurses := true, named := ["mimesis/inst.names", "mimesis/inst.forms", "internal/bytealg.MaxLen", "mimesis/encode.matches"], apart := false, laid := [("mimesis/inst.names", laid_mimesis_inst_names), ("mimesis/inst.forms", laid_mimesis_inst_forms), ("mimesis/encode.matches", laid_mimesis_encode_matches)] }
def AsmPiecesSaid : Prop := asmPiecesRow.holds Tryd.pinned (OpenSpec.ofChange asmPiecesSpec)

/-- ITS FALSE NEIGHBOUR: 'it returns false'. Refute it at one input. -/
def asmPiecesWrong : ChangeSpec := { name := "asmPieces", fn := fun _ => fun
  | [d] => { results := [.lit (.bool false)], args := [d] }
  | _ => none }
def AsmPiecesWrongFalsely : Prop := asmPiecesRow.holds Tryd.pinned (OpenSpec.ofChange asmPiecesWrong)

/-- 'mimesislaw06.AsmLines': WHATEVER THE INPUT: true; the input reads as it did. -/
def asmLinesSpec : ChangeSpec := { name := "asmLines", fn := fun _ => fun
  | [d] => { results := [.lit (.bool true)], args := [d] }
  | _ => none }
def asmLinesRow : OpenClaim := { program := "ytceelkmedfoefaadoor", sum := "e192e9e6143a4aac9abdb079afa7a00165e82aadc4a268d8b08b6fd5a62d8c0f", func := "mimesis/mimesislaw06.AsmLines", spec := "asmLines", inPlace := ["internal/bytealg.IndexByteString", "internal/bytealg.IndexString"], unfollowed := true, recurses := true, named := ["mimesis/inst.names", "mimesis/inst.forms", "internal/bytealg.MaxLen", "mimesis/encode.matches"], apart := false, laid := [("mimesis/inst.names", laid_mimesis_inst_names), ("mimesis/inst.forms", laid_mimesis_inst_forms), ("mimesis/encode.matches", laid_mimesis_encode_matches)] }
def AsmLinesSaid : Prop := asmLinesRow.holds Tryd.pinned (OpenSpec.ofChange asmLinesSpec)

/-- ITS FALSE NEIGHBOUR: 'it returns false'. Refute it at one input. -/
def asmLinesWrong : ChangeSpec := { name := "asmLines", fn := fun _ => fun
  | [d] => { results := [.lit (.bool false)], args := [d] }
  | _ => none }
def AsmLinesWrongFalsely : Prop := asmLinesRow.holds Tryd.pinned (OpenSpec.ofChange asmLinesWrong)

/-- 'mimesislaw06.AsmPrograms': WHATEVER THE INPUT: true; the input reads as it did. -/
def asmProgramsSpec : ChangeSpec := { name := "asmPrograms", fn := fun _ => fun
  | [d] => { results := [.lit (.bool true)], args := [d] }
  | _ => none }
def asmProgramsRow : OpenClaim := { program := "ytceelkmedfoefaadoor", sum := "e192e9e6143a4aac9abdb079afa7a00165e82aadc4a268d8b08b6fd5a62d8c0f", func := "mimesis/mimesislaw06.AsmPrograms", spec := "asmPrograms", inPlace := ["internal/bytealg.IndexByteString", "internal/bytealg.IndexString"], unfollowed := true, recurses := true, named := ["mimesis/inst.names", "mimesis/inst.forms", "internal/bytealg.MaxLen", "mimesis/encode.matches"], apart := false, laid := [("mimesis/inst.names", laid_mimesis_inst_names), ("mimesis/inst.forms", laid_mimesis_inst_forms), ("mimesis/encode.matches", laid_mimesis_encode_matches)] }
def AsmProgramsSaid : Prop := asmProgramsRow.holds Tryd.pinned (OpenSpec.ofChange asmProgramsSpec)

/-- ITS FALSE NEIGHBOUR: 'it returns false'. Refute it at one input. -/
def asmProgramsWrong : ChangeSpec := { name := "asmPrograms", fn := fun _ => fun
  | [d] => { results := [.lit (.bool false)], args := [d] }
  | _ => none }
def AsmProgramsWrongFalsely : Prop := asmProgramsRow.holds Tryd.pinned (OpenSpec.ofChange asmProgramsWrong)

/-- 'mimesislaw06.AsmMany': WHATEVER THE INPUT: true; the input reads as it did. -/
def asmManySpec : ChangeSpec := { name := "asmMany", fn := fun _ => fun
  | [d] => { results := [.lit (.bool true)], args := [d] }
  | _ => none }
def asmManyRow : OpenClaim := { program := "ytceelkmedfoefaadoor", sum := "e192e9e6143a4aac9abdb079afa7a00165e82aadc4a268d8b08b6fd5a62d8c0f", func := "mimesis/mimesislaw06.AsmMany", spec := "asmMany", inPlace := ["internal/bytealg.IndexByteString", "internal/bytealg.IndexString"], unfollowed := true, recurses := true, named := ["internal/bytealg.MaxLen", "mimesis/inst.names", "mimesis/inst.forms", "mimesis/encode.matches"], apart := false, laid := [("mimesis/inst.names", laid_mimesis_inst_names), ("mimesis/inst.forms", laid_mimesis_inst_forms), ("mimesis/encode.matches", laid_mimesis_encode_matches)] }
def AsmManySaid : Prop := asmManyRow.holds Tryd.pinned (OpenSpec.ofChange asmManySpec)

/-- ITS FALSE NEIGHBOUR: 'it returns false'. Refute it at one input. -/
def asmManyWrong : ChangeSpec := { name := "asmMany", fn := fun _ => fun
  | [d] => { results := [.lit (.bool false)], args := [d] }
  | _ => none }
def AsmManyWrongFalsely : Prop := asmManyRow.holds Tryd.pinned (OpenSpec.ofChange asmManyWrong)

/-- 'mimesislaw06.AsmBack': WHATEVER THE INPUT: true; the input reads as it did. -/
def asmBackSpec : ChangeSpec := { name := "asmBack", fn := fun _ => fun
  | [d1, d2] => { results := [.lit (.bool true)], args := [d1, d2] }
  | _ => none }
def asmBackRow : OpenClaim := { program := "ytceelkmedfoefaadoor", sum := "e192e9e6143a4aac9abdb079afa7a00165e82aadc4a268d8b08b6fd5a62d8c0f", func := "mimesis/mimesislaw06.AsmBack", spec := "asmBack", inPlace := ["internal/bytealg.IndexByteString", "internal/bytealg.IndexString"], unfollowed := true, recurses := true, named := ["mimesis/inst.names", "mimesis/inst.forms", "internal/bytealg.MaxLen", "mimesis/encode.matches"], apart := false, laid := [("mimesis/inst.names", laid_mimesis_inst_names), ("mimesis/inst.forms", laid_mimesis_inst_forms), ("mimesis/encode.matches", laid_mimesis_encode_matches)] }
def AsmBackSaid : Prop := asmBackRow.holds Tryd.pinned (OpenSpec.ofChange asmBackSpec)

/-- ITS FALSE NEIGHBOUR: 'it returns false'. Refute it at one input. -/
def asmBackWrong : ChangeSpec := { name := "asmBack", fn := fun _ => fun
  | [d1, d2] => { results := [.lit (.bool false)], args := [d1, d2] }
  | _ => none }
def AsmBackWrongFalsely : Prop := asmBackRow.holds Tryd.pinned (OpenSpec.ofChange asmBackWrong)

/- THE SECOND FORM. 'bulk': how many values and letters a reading holds, each counted each time it is reached (what is shared counts as often as it is met; a slice's spare places count too). A statement '..UptoSaid' is the law's where the arguments, and the package variables that the reading takes, are together of bulk at most 1048576: NARROWER than '..Said'. Prove '..Said' where nothing that the law and all that it calls make is longer than what came in: it says more and counts as full. Else prove '..UptoSaid'. A law counts once. -/
mutual
def uptoBulk {H : Type} : DataW H → Nat
  | .lit (.string bytes) => bytes.length + 1
  | .lit _ => 1
  | .nil => 1
  | .ptr d => uptoBulk d + 1
  | .slice elems spare => uptoBulkAll elems + uptoBulkAll spare + 1
  | .agg parts => uptoBulkAll parts + 1
  | .iface _ d => uptoBulk d + 1
  | .map entries => uptoBulkEntries entries + 1
  | .held _ => 1
def uptoBulkAll {H : Type} : List (DataW H) → Nat
  | [] => 0
  | d :: r => uptoBulk d + uptoBulkAll r
def uptoBulkEntries {H : Type} : List (Lit × DataW H) → Nat
  | [] => 0
  | x :: r => uptoBulkEntry x + uptoBulkEntries r
def uptoBulkEntry {H : Type} : Lit × DataW H → Nat
  | (.string bytes, d) => bytes.length + uptoBulk d + 1
  | (_, d) => uptoBulk d + 1
 end
def uptoSmall : (H : Type) → List (DataW H) → Bool := fun _ ds => decide (uptoBulkAll ds ≤ 1048576)
def OpenSpec.upto (s : _root_.Go.ChangeSpec) : _root_.Go.OpenSpec := { _root_.Go.OpenSpec.ofChange s with cond := some uptoSmall }

/-- 'mimesislaw06.AsmPieces', WHERE WHAT IT READS IS OF BULK AT MOST 1048576: true; the input reads as it did. -/
def asmPiecesUptoRow : OpenClaim := { program := "ytceelkmedfoefaadoor", sum := "e192e9e6143a4aac9abdb079afa7a00165e82aadc4a268d8b08b6fd5a62d8c0f", func := "mimesis/mimesislaw06.AsmPieces", spec := "asmPieces", inPlace := ["internal/bytealg.IndexByteString", "internal/bytealg.IndexString"], unfollowed := true, recurses := true, named := ["mimesis/inst.names", "mimesis/inst.forms", "internal/bytealg.MaxLen", "mimesis/encode.matches"], apart := false, laid := [("mimesis/inst.names", laid_mimesis_inst_names), ("mimesis/inst.forms", laid_mimesis_inst_forms), ("mimesis/encode.matches", laid_mimesis_encode_matches)], narrowed := true }
def AsmPiecesUptoSaid : Prop := asmPiecesUptoRow.holds Tryd.pinned (OpenSpec.upto asmPiecesSpec)

/-- 'mimesislaw06.AsmLines', WHERE WHAT IT READS IS OF BULK AT MOST 1048576: true; the input reads as it did. -/
def asmLinesUptoRow : OpenClaim := { program := "ytceelkmedfoefaadoor", sum := "e192e9e6143a4aac9abdb079afa7a00165e82aadc4a268d8b08b6fd5a62d8c0f", func := "mimesis/mimesislaw06.AsmLines", spec := "asmLines", inPlace := ["internal/bytealg.IndexByteString", "internal/bytealg.IndexString"], unfollowed := true, recurses := true, named := ["mimesis/inst.names", "mimesis/inst.forms", "internal/bytealg.MaxLen", "mimesis/encode.matches"], apart := false, laid := [("mimesis/inst.names", laid_mimesis_inst_names), ("mimesis/inst.forms", laid_mimesis_inst_forms), ("mimesis/encode.matches", laid_mimesis_encode_matches)], narrowed := true }
def AsmLinesUptoSaid : Prop := asmLinesUptoRow.holds Tryd.pinned (OpenSpec.upto asmLinesSpec)

/-- 'mimesislaw06.AsmPrograms', WHERE WHAT IT READS IS OF BULK AT MOST 1048576: true; the input reads as it did. -/
def asmProgramsUptoRow : OpenClaim := { program := "ytceelkmedfoefaadoor", sum := "e192e9e6143a4aac9abdb079afa7a00165e82aadc4a268d8b08b6fd5a62d8c0f", func := "mimesis/mimesislaw06.AsmPrograms", spec := "asmPrograms", inPlace := ["internal/bytealg.IndexByteString", "internal/bytealg.IndexString"], unfollowed := true, recurses := true, named := ["mimesis/inst.names", "mimesis/inst.forms", "internal/bytealg.MaxLen", "mimesis/encode.matches"], apart := false, laid := [("mimesis/inst.names", laid_mimesis_inst_names), ("mimesis/inst.forms", laid_mimesis_inst_forms), ("mimesis/encode.matches", laid_mimesis_encode_matches)], narrowed := true }
def AsmProgramsUptoSaid : Prop := asmProgramsUptoRow.holds Tryd.pinned (OpenSpec.upto asmProgramsSpec)

/-- 'mimesislaw06.AsmMany', WHERE WHAT IT READS IS OF BULK AT MOST 1048576: true; the input reads as it did. -/
def asmManyUptoRow : OpenClaim := { program := "ytceelkmedfoefaadoor", sum := "e192e9e6143a4aac9abdb079afa7a00165e82aadc4a268d8b08b6fd5a62d8c0f", func := "mimesis/mimesislaw06.AsmMany", spec := "asmMany", inPlace := ["internal/bytealg.IndexByteString", "internal/bytealg.IndexString"], unfollowed := true, recurses := true, named := ["internal/bytealg.MaxLen", "mimesis/inst.names", "mimesis/inst.forms", "mimesis/encode.matches"], apart := false, laid := [("mimesis/inst.names", laid_mimesis_inst_names), ("mimesis/inst.forms", laid_mimesis_inst_forms), ("mimesis/encode.matches", laid_mimesis_encode_matches)], narrowed := true }
def AsmManyUptoSaid : Prop := asmManyUptoRow.holds Tryd.pinned (OpenSpec.upto asmManySpec)

/-- 'mimesislaw06.AsmBack', WHERE WHAT IT READS IS OF BULK AT MOST 1048576: true; the input reads as it did. -/
def asmBackUptoRow : OpenClaim := { program := "ytceelkmedfoefaadoor", sum := "e192e9e6143a4aac9abdb079afa7a00165e82aadc4a268d8b08b6fd5a62d8c0f", func := "mimesis/mimesislaw06.AsmBack", spec := "asmBack", inPlace := ["internal/bytealg.IndexByteString", "internal/bytealg.IndexString"], unfollowed := true, recurses := true, named := ["mimesis/inst.names", "mimesis/inst.forms", "internal/bytealg.MaxLen", "mimesis/encode.matches"], apart := false, laid := [("mimesis/inst.names", laid_mimesis_inst_names), ("mimesis/inst.forms", laid_mimesis_inst_forms), ("mimesis/encode.matches", laid_mimesis_encode_matches)], narrowed := true }
def AsmBackUptoSaid : Prop := asmBackUptoRow.holds Tryd.pinned (OpenSpec.upto asmBackSpec)

end Rows
end Go.Proofs.YtceelkmedfoefaaDoor
