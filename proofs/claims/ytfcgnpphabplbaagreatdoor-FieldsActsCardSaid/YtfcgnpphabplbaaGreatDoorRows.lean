/-
  NARROWER THAN 'FOR EVERY INPUT', by the rows' own cells (each row's printed sentence says how): SubstAt: laid · FieldsNext: laid · FieldsAll: laid · FieldsBlocks: laid · FieldsJoined: laid · FieldsActs: laid.
  DERIVED. THE GIVEN ROWS OF THIS SEAT. 6 by the template 'for every input the law returns true; each argument reads behind the call as it read before'; 0 by the template 'total and deterministic' (their statements: YtfcgnpphabplbaaGreatDoorTotals.lean).
  GIVEN WITH THE SEED: the statements are not yours to turn. If you find one false, say at which input.
  Laid BY PROGRAM, IN A SANDBOX (cutbox-rows.mjs): the forced cells as the released guide's own fill.sh prints them over the translation eb10c9bf891c1d0e… (all of the seat's roots in one cut). By AI agents, Wed Nov 11 2026. No macro, syntax, notation, axiom, sorry.
-/
import Derived.Test.YtfcgnpphabplbaaGreatDoorChecked
import GoSem.PinnedTables
import GoSem.Claim
import GoSem.ClaimJoined
import GoSem.ClaimMapViews
import Derived.JoinedTies
import Derived.KernelRfl
namespace Go.Proofs.YtfcgnpphabplbaaGreatDoor
/- THE CELL 'sum', in the pinned program and in every row, IS THE sha256 OF THE DUMP (.gsa) THAT YtfcgnpphabplbaaGreatDoorProg.lean LOADS. Nothing in Lean hashes anything: it is a label: what it is worth is what the hold of that sum in a sandbox is worth. -/
noncomputable def Tryz.pinned : Pinned := { name := "ytfcgnpphabplbaagreatdoor", sum := "eb10c9bf891c1d0e0d74150df2c078581cd282bb6ed4dc9e6c4af3f0bd65aba9", checked := Tryz.checked }
namespace Rows
def none {H : Type} : Left H := { results := [], args := [] }

/- WHAT THE LISTED PACKAGE-LEVEL VARIABLES READ AS WHEN THE CALL BEGINS. Each datum BY PROGRAM (the guide's laid-datum.mjs) off the statement by which the dump's own 'gosem.cut.vars' lays the variable. In a bare row this is a premise. The card (YtfcgnpphabplbaaGreatDoorCards.lean) ties it to the program's text. -/
def laid_unicode_utf8_acceptRanges {H : Type} : DataW H := .agg [.agg [.lit (.int .u8 128), .lit (.int .u8 191)], .agg [.lit (.int .u8 160), .lit (.int .u8 191)], .agg [.lit (.int .u8 128), .lit (.int .u8 159)], .agg [.lit (.int .u8 144), .lit (.int .u8 191)], .agg [.lit (.int .u8 128), .lit (.int .u8 143)], .agg [.lit (.int .u8 0), .lit (.int .u8 0)], .agg [.lit (.int .u8 0), .lit (.int .u8 0)], .agg [.lit (.int .u8 0), .lit (.int .u8 0)], .agg [.lit (.int .u8 0), .lit (.int .u8 0)], .agg [.lit (.int .u8 0), .lit (.int .u8 0)], .agg [.lit (.int .u8 0), .lit (.int .u8 0)], .agg [.lit (.int .u8 0), .lit (.int .u8 0)], .agg [.lit (.int .u8 0), .lit (.int .u8 0)], .agg [.lit (.int .u8 0), .lit (.int .u8 0)], .agg [.lit (.int .u8 0), .lit (.int .u8 0)], .agg [.lit (.int .u8 0), .lit (.int .u8 0)]]
/-- One of Go's own tables, pinned by name: the form's constant. -/
def laid_unicode_utf8_first : DataW Unit := Go.Pinned.utf8First

/-- 'aukletlaw08.SubstAt': WHATEVER THE INPUT: true; the input reads as it did. -/
def substAtSpec : ChangeSpec := { name := "substAt", fn := fun _ => fun
  | [d1, d2] => { results := [.lit (.bool true)], args := [d1, d2] }
  | _ => none }
def substAtRow : OpenClaim := { program := "ytfcgnpphabplbaagreatdoor", sum := "eb10c9bf891c1d0e0d74150df2c078581cd282bb6ed4dc9e6c4af3f0bd65aba9", func := "auklet/aukletlaw08.SubstAt", spec := "substAt", inPlace := ["internal/bytealg.IndexByteString", "internal/bytealg.IndexString", "internal/abi.NoEscape", "internal/bytealg.CountString"], unfollowed := true, recurses := true, named := ["internal/bytealg.MaxLen", "unicode/utf8.first", "unicode/utf8.acceptRanges"], apart := false, laid := [("unicode/utf8.acceptRanges", laid_unicode_utf8_acceptRanges), ("unicode/utf8.first", laid_unicode_utf8_first)] }
def SubstAtSaid : Prop := substAtRow.holds Tryz.pinned (OpenSpec.ofChange substAtSpec)

/-- ITS FALSE NEIGHBOUR: 'it returns false'. Refute it at one input. -/
def substAtWrong : ChangeSpec := { name := "substAt", fn := fun _ => fun
  | [d1, d2] => { results := [.lit (.bool false)], args := [d1, d2] }
  | _ => none }
def SubstAtWrongFalsely : Prop := substAtRow.holds Tryz.pinned (OpenSpec.ofChange substAtWrong)

/-- 'aukletlaw09.FieldsNext': WHATEVER THE INPUT: true; the input reads as it did. -/
def fieldsNextSpec : ChangeSpec := { name := "fieldsNext", fn := fun _ => fun
  | [d1, d2, d3] => { results := [.lit (.bool true)], args := [d1, d2, d3] }
  | _ => none }
def fieldsNextRow : OpenClaim := { program := "ytfcgnpphabplbaagreatdoor", sum := "eb10c9bf891c1d0e0d74150df2c078581cd282bb6ed4dc9e6c4af3f0bd65aba9", func := "auklet/aukletlaw09.FieldsNext", spec := "fieldsNext", inPlace := ["internal/bytealg.IndexByteString", "internal/bytealg.IndexString", "internal/bytealg.CountString", "internal/abi.NoEscape", "internal/bytealg.MakeNoZero"], unfollowed := true, recurses := true, named := ["internal/bytealg.MaxLen", "unicode/utf8.first", "unicode/utf8.acceptRanges"], apart := false, laid := [("unicode/utf8.acceptRanges", laid_unicode_utf8_acceptRanges), ("unicode/utf8.first", laid_unicode_utf8_first)] }
def FieldsNextSaid : Prop := fieldsNextRow.holds Tryz.pinned (OpenSpec.ofChange fieldsNextSpec)

/-- ITS FALSE NEIGHBOUR: 'it returns false'. Refute it at one input. -/
def fieldsNextWrong : ChangeSpec := { name := "fieldsNext", fn := fun _ => fun
  | [d1, d2, d3] => { results := [.lit (.bool false)], args := [d1, d2, d3] }
  | _ => none }
def FieldsNextWrongFalsely : Prop := fieldsNextRow.holds Tryz.pinned (OpenSpec.ofChange fieldsNextWrong)

/-- 'aukletlaw09.FieldsAll': WHATEVER THE INPUT: true; the input reads as it did. -/
def fieldsAllSpec : ChangeSpec := { name := "fieldsAll", fn := fun _ => fun
  | [d1, d2] => { results := [.lit (.bool true)], args := [d1, d2] }
  | _ => none }
def fieldsAllRow : OpenClaim := { program := "ytfcgnpphabplbaagreatdoor", sum := "eb10c9bf891c1d0e0d74150df2c078581cd282bb6ed4dc9e6c4af3f0bd65aba9", func := "auklet/aukletlaw09.FieldsAll", spec := "fieldsAll", inPlace := ["internal/bytealg.IndexByteString", "internal/bytealg.IndexString", "internal/bytealg.CountString", "internal/abi.NoEscape", "internal/bytealg.MakeNoZero"], unfollowed := true, recurses := true, named := ["internal/bytealg.MaxLen", "unicode/utf8.first", "unicode/utf8.acceptRanges"], apart := false, laid := [("unicode/utf8.acceptRanges", laid_unicode_utf8_acceptRanges), ("unicode/utf8.first", laid_unicode_utf8_first)] }
def FieldsAllSaid : Prop := fieldsAllRow.holds Tryz.pinned (OpenSpec.ofChange fieldsAllSpec)

/-- ITS FALSE NEIGHBOUR: 'it returns false'. Refute it at one input. -/
def fieldsAllWrong : ChangeSpec := { name := "fieldsAll", fn := fun _ => fun
  | [d1, d2] => { results := [.lit (.bool false)], args := [d1, d2] }
  | _ => none }
def FieldsAllWrongFalsely : Prop := fieldsAllRow.holds Tryz.pinned (OpenSpec.ofChange fieldsAllWrong)

/-- 'aukletlaw09.FieldsBlocks': WHATEVER THE INPUT: true; the input reads as it did. -/
def fieldsBlocksSpec : ChangeSpec := { name := "fieldsBlocks", fn := fun _ => fun
  | [d] => { results := [.lit (.bool true)], args := [d] }
  | _ => none }
def fieldsBlocksRow : OpenClaim := { program := "ytfcgnpphabplbaagreatdoor", sum := "eb10c9bf891c1d0e0d74150df2c078581cd282bb6ed4dc9e6c4af3f0bd65aba9", func := "auklet/aukletlaw09.FieldsBlocks", spec := "fieldsBlocks", inPlace := ["internal/bytealg.IndexByteString", "internal/bytealg.IndexString", "internal/bytealg.CountString", "internal/abi.NoEscape", "internal/bytealg.MakeNoZero"], unfollowed := true, recurses := true, named := ["internal/bytealg.MaxLen", "unicode/utf8.first", "unicode/utf8.acceptRanges"], apart := false, laid := [("unicode/utf8.acceptRanges", laid_unicode_utf8_acceptRanges), ("unicode/utf8.first", laid_unicode_utf8_first)] }
def FieldsBlocksSaid : Prop := fieldsBlocksRow.holds Tryz.pinned (OpenSpec.ofChange fieldsBlocksSpec)

/-- ITS FALSE NEIGHBOUR: 'it returns false'. Refute it at one input. -/
def fieldsBlocksWrong : ChangeSpec := { name := "fieldsBlocks", fn := fun _ => fun
  | [d] => { results := [.lit (.bool false)], args := [d] }
  | _ => none }
def FieldsBlocksWrongFalsely : Prop := fieldsBlocksRow.holds Tryz.pinned (OpenSpec.ofChange fieldsBlocksWrong)

/-- 'aukletlaw09.FieldsJoined': WHATEVER THE INPUT: true; the input reads as it did. -/
def fieldsJoinedSpec : ChangeSpec := { name := "fieldsJoined", fn := fun _ => fun
  | [d1, d2, d3] => { results := [.lit (.bool true)], args := [d1, d2, d3] }
  | _ => none }
def fieldsJoinedRow : OpenClaim := { program := "ytfcgnpphabplbaagreatdoor", sum := "eb10c9bf891c1d0e0d74150df2c078581cd282bb6ed4dc9e6c4af3f0bd65aba9", func := "auklet/aukletlaw09.FieldsJoined", spec := "fieldsJoined", inPlace := ["internal/bytealg.IndexByteString", "internal/bytealg.IndexString", "internal/bytealg.CountString", "internal/abi.NoEscape", "internal/bytealg.MakeNoZero", "math/bits.Add64"], unfollowed := true, recurses := true, named := ["internal/bytealg.MaxLen", "unicode/utf8.first", "unicode/utf8.acceptRanges"], apart := false, laid := [("unicode/utf8.acceptRanges", laid_unicode_utf8_acceptRanges), ("unicode/utf8.first", laid_unicode_utf8_first)] }
def FieldsJoinedSaid : Prop := fieldsJoinedRow.holds Tryz.pinned (OpenSpec.ofChange fieldsJoinedSpec)

/-- ITS FALSE NEIGHBOUR: 'it returns false'. Refute it at one input. -/
def fieldsJoinedWrong : ChangeSpec := { name := "fieldsJoined", fn := fun _ => fun
  | [d1, d2, d3] => { results := [.lit (.bool false)], args := [d1, d2, d3] }
  | _ => none }
def FieldsJoinedWrongFalsely : Prop := fieldsJoinedRow.holds Tryz.pinned (OpenSpec.ofChange fieldsJoinedWrong)

/-- 'aukletlaw09.FieldsActs': WHATEVER THE INPUT: true; the input reads as it did. -/
def fieldsActsSpec : ChangeSpec := { name := "fieldsActs", fn := fun _ => fun
  | [d1, d2] => { results := [.lit (.bool true)], args := [d1, d2] }
  | _ => none }
def fieldsActsRow : OpenClaim := { program := "ytfcgnpphabplbaagreatdoor", sum := "eb10c9bf891c1d0e0d74150df2c078581cd282bb6ed4dc9e6c4af3f0bd65aba9", func := "auklet/aukletlaw09.FieldsActs", spec := "fieldsActs", inPlace := ["internal/bytealg.IndexByteString", "internal/bytealg.IndexString", "internal/bytealg.CountString", "internal/abi.NoEscape", "internal/bytealg.MakeNoZero", "math/bits.Add64"], unfollowed := true, recurses := true, named := ["internal/bytealg.MaxLen", "unicode/utf8.first", "unicode/utf8.acceptRanges"], apart := false, laid := [("unicode/utf8.acceptRanges", laid_unicode_utf8_acceptRanges), ("unicode/utf8.first", laid_unicode_utf8_first)] }
def FieldsActsSaid : Prop := fieldsActsRow.holds Tryz.pinned (OpenSpec.ofChange fieldsActsSpec)

/-- ITS FALSE NEIGHBOUR: 'it returns false'. Refute it at one input. -/
def fieldsActsWrong : ChangeSpec := { name := "fieldsActs", fn := fun _ => fun
  | [d1, d2] => { results := [.lit (.bool false)], args := [d1, d2] }
  | _ => none }
def FieldsActsWrongFalsely : Prop := fieldsActsRow.holds Tryz.pinned (OpenSpec.ofChange fieldsActsWrong)

/- THE SECOND FORM. 'bulk': how many values and letters a reading holds, each counted each time it is reached (what is shared counts as often as it is met; a slice's spare places count too). A statement '..UptoSaid' is the law's where the arguments, and the package variables that the reading takes, are together of bulk at most 1048576: NARROWER than '..Said'. Prove '..Said' where nothing that the law and all that it calls make is longer than what came in: it says more and counts as full. Else prove '..UptoSaid'. A law counts once. -/
mutual
def uptoBulk {H : Type} : DataW H → Nat
  | .lit (.string bytes) => bytes.length + 1
  | .lit _ => 1
  | .nil => 1
  | .ptr d => uptoBulk d + 1
  | .slice elems spare => uptoBulkAll elems + uptoBulkAll spare + 1
  | .agg parts => uptoBulkAll parts + 1
  | .iface _ d => uptoBulk d + 1
  | .map entries => uptoBulkEntries entries + 1
  | .held _ => 1
def uptoBulkAll {H : Type} : List (DataW H) → Nat
  | [] => 0
  | d :: r => uptoBulk d + uptoBulkAll r
def uptoBulkEntries {H : Type} : List (Lit × DataW H) → Nat
  | [] => 0
  | x :: r => uptoBulkEntry x + uptoBulkEntries r
def uptoBulkEntry {H : Type} : Lit × DataW H → Nat
  | (.string bytes, d) => bytes.length + uptoBulk d + 1
  | (_, d) => uptoBulk d + 1
 end
def uptoSmall : (H : Type) → List (DataW H) → Bool := fun _ ds => decide (uptoBulkAll ds ≤ 1048576)
def OpenSpec.upto (s : _root_.Go.ChangeSpec) : _root_.Go.OpenSpec := { _root_.Go.OpenSpec.ofChange s with cond := some uptoSmall }

/-- 'aukletlaw08.SubstAt', WHERE WHAT IT READS IS OF BULK AT MOST 1048576: true; the input reads as it did. -/
def substAtUptoRow : OpenClaim := { program := "ytfcgnpphabplbaagreatdoor", sum := "eb10c9bf891c1d0e0d74150df2c078581cd282bb6ed4dc9e6c4af3f0bd65aba9", func := "auklet/aukletlaw08.SubstAt", spec := "substAt", inPlace := ["internal/bytealg.IndexByteString", "internal/bytealg.IndexString", "internal/abi.NoEscape", "internal/bytealg.CountString"], unfollowed := true, recurses := true, named := ["internal/bytealg.MaxLen", "unicode/utf8.first", "unicode/utf8.acceptRanges"], apart := false, laid := [("unicode/utf8.acceptRanges", laid_unicode_utf8_acceptRanges), ("unicode/utf8.first", laid_unicode_utf8_first)], narrowed := true }
def SubstAtUptoSaid : Prop := substAtUptoRow.holds Tryz.pinned (OpenSpec.upto substAtSpec)

/-- 'aukletlaw09.FieldsNext', WHERE WHAT IT READS IS OF BULK AT MOST 1048576: true; the input reads as it did. -/
def fieldsNextUptoRow : OpenClaim := { program := "ytfcgnpphabplbaagreatdoor", sum := "eb10c9bf891c1d0e0d74150df2c078581cd282bb6ed4dc9e6c4af3f0bd65aba9", func := "auklet/aukletlaw09.FieldsNext", spec := "fieldsNext", inPlace := ["internal/bytealg.IndexByteString", "internal/bytealg.IndexString", "internal/bytealg.CountString", "internal/abi.NoEscape", "internal/bytealg.MakeNoZero"], unfollowed := true, recurses := true, named := ["internal/bytealg.MaxLen", "unicode/utf8.first", "unicode/utf8.acceptRanges"], apart := false, laid := [("unicode/utf8.acceptRanges", laid_unicode_utf8_acceptRanges), ("unicode/utf8.first", laid_unicode_utf8_first)], narrowed := true }
def FieldsNextUptoSaid : Prop := fieldsNextUptoRow.holds Tryz.pinned (OpenSpec.upto fieldsNextSpec)

/-- 'aukletlaw09.FieldsAll', WHERE WHAT IT READS IS OF BULK AT MOST 1048576: true; the input reads as it did. -/
def fieldsAllUptoRow : OpenClaim := { program := "ytfcgnpphabplbaagreatdoor", sum := "eb10c9bf891c1d0e0d74150df2c078581cd282bb6ed4dc9e6c4af3f0bd65aba9", func := "auklet/aukletlaw09.FieldsAll", spec := "fieldsAll", inPlace := ["internal/bytealg.IndexByteString", "internal/bytealg.IndexString", "internal/bytealg.CountString", "internal/abi.NoEscape", "internal/bytealg.MakeNoZero"], unfollowed := true, recurses := true, named := ["internal/bytealg.MaxLen", "unicode/utf8.first", "unicode/utf8.acceptRanges"], apart := false, laid := [("unicode/utf8.acceptRanges", laid_unicode_utf8_acceptRanges), ("unicode/utf8.first", laid_unicode_utf8_first)], narrowed := true }
def FieldsAllUptoSaid : Prop := fieldsAllUptoRow.holds Tryz.pinned (OpenSpec.upto fieldsAllSpec)

/-- 'aukletlaw09.FieldsBlocks', WHERE WHAT IT READS IS OF BULK AT MOST 1048576: true; the input reads as it did. -/
def fieldsBlocksUptoRow : OpenClaim := { program := "ytfcgnpphabplbaagreatdoor", sum := "eb10c9bf891c1d0e0d74150df2c078581cd282bb6ed4dc9e6c4af3f0bd65aba9", func := "auklet/aukletlaw09.FieldsBlocks", spec := "fieldsBlocks", inPlace := ["internal/bytealg.IndexByteString", "internal/bytealg.IndexString", "internal/bytealg.CountString", "internal/abi.NoEscape", "internal/bytealg.MakeNoZero"], unfollowed := true, recurses := true, named := ["internal/bytealg.MaxLen", "unicode/utf8.first", "unicode/utf8.acceptRanges"], apart := false, laid := [("unicode/utf8.acceptRanges", laid_unicode_utf8_acceptRanges), ("unicode/utf8.first", laid_unicode_utf8_first)], narrowed := true }
def FieldsBlocksUptoSaid : Prop := fieldsBlocksUptoRow.holds Tryz.pinned (OpenSpec.upto fieldsBlocksSpec)

/-- 'aukletlaw09.FieldsJoined', WHERE WHAT IT READS IS OF BULK AT MOST 1048576: true; the input reads as it did. -/
def fieldsJoinedUptoRow : OpenClaim := { program := "ytfcgnpphabplbaagreatdoor", sum := "eb10c9bf891c1d0e0d74150df2c078581cd282bb6ed4dc9e6c4af3f0bd65aba9", func := "auklet/aukletlaw09.FieldsJoined", spec := "fieldsJoined", inPlace := ["internal/bytealg.IndexByteString", "internal/bytealg.IndexString", "internal/bytealg.CountString", "internal/abi.NoEscape", "internal/bytealg.MakeNoZero", "math/bits.Add64"], unfollowed := true, recurses := true, named := ["internal/bytealg.MaxLen", "unicode/utf8.first", "unicode/utf8.acceptRanges"], apart := false, laid := [("unicode/utf8.acceptRanges", laid_unicode_utf8_acceptRanges), ("unicode/utf8.first", laid_unicode_utf8_first)], narrowed := true }
def FieldsJoinedUptoSaid : Prop := fieldsJoinedUptoRow.holds Tryz.pinned (OpenSpec.upto fieldsJoinedSpec)

/-- 'aukletlaw09.FieldsActs', WHERE WHAT IT READS IS OF BULK AT MOST 1048576: true; the input reads as it did. -/
def fieldsActsUptoRow : OpenClaim := { program := "ytfcgnpphabplbaagreatdoor", sum := "eb10c9bf891c1d0e0d74150df2c078581cd282bb6ed4dc9e6c4af3f0bd65aba9", func := "auklet/aukletlaw09.FieldsActs", spec := "fieldsActs", inPlace := ["internal/bytealg.IndexByteString", "internal/bytealg.IndexString", "internal/bytealg.CountString", "internal/abi.NoEscape", "internal/bytealg.MakeNoZero", "math/bits.Add64"], unfollowed := true, recurses := true, named := ["internal/bytealg.MaxLen", "unicode/utf8.first", "unicode/utf8.acceptRanges"], apart := false, laid := [("unicode/utf8.acceptRanges", laid_unicode_utf8_acceptRanges), ("unicode/utf8.first", laid_unicode_utf8_first)], narrowed := true }
def FieldsActsUptoSaid : Prop := fieldsActsUptoRow.holds Tryz.pinned (OpenSpec.upto fieldsActsSpec)

end Rows
end Go.Proofs.YtfcgnpphabplbaaGreatDoor
