/-
  No cell of these rows narrows 'for every input' (looked for: loops, veiled, ifaces, maps, wideKeys, modest, calm, conditions, laid).
  DERIVED. THE GIVEN ROWS OF THIS SEAT. 3 by the template 'for every input the law returns true; each argument reads behind the call as it read before'; 0 by the template 'total and deterministic' (their statements: YtfcgnpphabplbaaGreatTotals.lean).
  GIVEN WITH THE SEED: the statements are not yours to turn. If you find one false, say at which input.
  Laid BY PROGRAM, IN A SANDBOX (cutbox-rows.mjs): the forced cells as the released guide's own fill.sh prints them over the translation 727a40bbb4e71622… (all of the seat's roots in one cut). By AI agents, Wed Nov 11 2026. No macro, syntax, notation, axiom, sorry.
-/
import Derived.Test.YtfcgnpphabplbaaGreatChecked
import GoSem.Claim
import GoSem.ClaimJoined
import GoSem.ClaimMapViews
import Derived.JoinedTies
import Derived.KernelRfl
namespace Go.Proofs.YtfcgnpphabplbaaGreat
/- THE CELL 'sum', in the pinned program and in every row, IS THE sha256 OF THE DUMP (.gsa) THAT YtfcgnpphabplbaaGreatProg.lean LOADS. Nothing in Lean hashes anything: it is a label: what it is worth is what the hold of that sum in a sandbox is worth. -/
noncomputable def Tryz.pinned : Pinned := { name := "ytfcgnpphabplbaagreat", sum := "727a40bbb4e71622ba431e41427cd8eef98c3f5969e828849b29cd9df570122d", checked := Tryz.checked }
namespace Rows
def none {H : Type} : Left H := { results := [], args := [] }

/-- 'aukletlaw08.SubstSubs': WHATEVER THE INPUT: true; the input reads as it did. -/
def substSubsSpec : ChangeSpec := { name := "substSubs", fn := fun _ => fun
  | [d1, d2, d3] => { results := [.lit (.bool true)], args := [d1, d2, d3] }
  | _ => none }
def substSubsRow : OpenClaim := { program := "ytfcgnpphabplbaagreat", sum := "727a40bbb4e71622ba431e41427cd8eef98c3f5969e828849b29cd9df570122d", func := "auklet/aukletlaw08.SubstSubs", spec := "substSubs", inPlace := ["internal/bytealg.IndexByteString", "internal/bytealg.IndexString", "internal/abi.NoEscape"], unfollowed := true, recurses := true, named := ["internal/bytealg.MaxLen"], apart := false }
def SubstSubsSaid : Prop := substSubsRow.holds Tryz.pinned (OpenSpec.ofChange substSubsSpec)

/-- ITS FALSE NEIGHBOUR: 'it returns false'. Refute it at one input. -/
def substSubsWrong : ChangeSpec := { name := "substSubs", fn := fun _ => fun
  | [d1, d2, d3] => { results := [.lit (.bool false)], args := [d1, d2, d3] }
  | _ => none }
def SubstSubsWrongFalsely : Prop := substSubsRow.holds Tryz.pinned (OpenSpec.ofChange substSubsWrong)

/-- 'aukletlaw08.SubstSplits': WHATEVER THE INPUT: true; the input reads as it did. -/
def substSplitsSpec : ChangeSpec := { name := "substSplits", fn := fun _ => fun
  | [d1, d2] => { results := [.lit (.bool true)], args := [d1, d2] }
  | _ => none }
def substSplitsRow : OpenClaim := { program := "ytfcgnpphabplbaagreat", sum := "727a40bbb4e71622ba431e41427cd8eef98c3f5969e828849b29cd9df570122d", func := "auklet/aukletlaw08.SubstSplits", spec := "substSplits", inPlace := ["internal/bytealg.IndexByteString", "internal/bytealg.IndexString", "internal/abi.NoEscape"], unfollowed := true, recurses := true, named := ["internal/bytealg.MaxLen"], apart := false }
def SubstSplitsSaid : Prop := substSplitsRow.holds Tryz.pinned (OpenSpec.ofChange substSplitsSpec)

/-- ITS FALSE NEIGHBOUR: 'it returns false'. Refute it at one input. -/
def substSplitsWrong : ChangeSpec := { name := "substSplits", fn := fun _ => fun
  | [d1, d2] => { results := [.lit (.bool false)], args := [d1, d2] }
  | _ => none }
def SubstSplitsWrongFalsely : Prop := substSplitsRow.holds Tryz.pinned (OpenSpec.ofChange substSplitsWrong)

/-- 'aukletlaw17.StreamsAll': WHATEVER THE INPUT: true; the input reads as it did. -/
def streamsAllSpec : ChangeSpec := { name := "streamsAll", fn := fun _ => fun
  | [d1, d2] => { results := [.lit (.bool true)], args := [d1, d2] }
  | _ => none }
def streamsAllRow : OpenClaim := { program := "ytfcgnpphabplbaagreat", sum := "727a40bbb4e71622ba431e41427cd8eef98c3f5969e828849b29cd9df570122d", func := "auklet/aukletlaw17.StreamsAll", spec := "streamsAll", inPlace := ["internal/abi.NoEscape", "internal/bytealg.IndexByteString", "internal/bytealg.IndexString"], unfollowed := true, recurses := true, named := ["internal/bytealg.MaxLen"], apart := false }
def StreamsAllSaid : Prop := streamsAllRow.holds Tryz.pinned (OpenSpec.ofChange streamsAllSpec)

/-- ITS FALSE NEIGHBOUR: 'it returns false'. Refute it at one input. -/
def streamsAllWrong : ChangeSpec := { name := "streamsAll", fn := fun _ => fun
  | [d1, d2] => { results := [.lit (.bool false)], args := [d1, d2] }
  | _ => none }
def StreamsAllWrongFalsely : Prop := streamsAllRow.holds Tryz.pinned (OpenSpec.ofChange streamsAllWrong)

/- THE SECOND FORM. 'bulk': how many values and letters a reading holds, each counted each time it is reached (what is shared counts as often as it is met; a slice's spare places count too). A statement '..UptoSaid' is the law's where the arguments, and the package variables that the reading takes, are together of bulk at most 1048576: NARROWER than '..Said'. Prove '..Said' where nothing that the law and all that it calls make is longer than what came in: it says more and counts as full. Else prove '..UptoSaid'. A law counts once. -/
mutual
def uptoBulk {H : Type} : DataW H → Nat
  | .lit (.string bytes) => bytes.length + 1
  | .lit _ => 1
  | .nil => 1
  | .ptr d => uptoBulk d + 1
  | .slice elems spare => uptoBulkAll elems + uptoBulkAll spare + 1
  | .agg parts => uptoBulkAll parts + 1
  | .iface _ d => uptoBulk d + 1
  | .map entries => uptoBulkEntries entries + 1
  | .held _ => 1
def uptoBulkAll {H : Type} : List (DataW H) → Nat
  | [] => 0
  | d :: r => uptoBulk d + uptoBulkAll r
def uptoBulkEntries {H : Type} : List (Lit × DataW H) → Nat
  | [] => 0
  | x :: r => uptoBulkEntry x + uptoBulkEntries r
def uptoBulkEntry {H : Type} : Lit × DataW H → Nat
  | (.string bytes, d) => bytes.length + uptoBulk d + 1
  | (_, d) => uptoBulk d + 1
 end
def uptoSmall : (H : Type) → List (DataW H) → Bool := fun _ ds => decide (uptoBulkAll ds ≤ 1048576)
def OpenSpec.upto (s : _root_.Go.ChangeSpec) : _root_.Go.OpenSpec := { _root_.Go.OpenSpec.ofChange s with cond := some uptoSmall }

/-- 'aukletlaw08.SubstSubs', WHERE WHAT IT READS IS OF BULK AT MOST 1048576: true; the input reads as it did. -/
def substSubsUptoRow : OpenClaim := { program := "ytfcgnpphabplbaagreat", sum := "727a40bbb4e71622ba431e41427cd8eef98c3f5969e828849b29cd9df570122d", func := "auklet/aukletlaw08.SubstSubs", spec := "substSubs", inPlace := ["internal/bytealg.IndexByteString", "internal/bytealg.IndexString", "internal/abi.NoEscape"], unfollowed := true, recurses := true, named := ["internal/bytealg.MaxLen"], apart := false, narrowed := true }
def SubstSubsUptoSaid : Prop := substSubsUptoRow.holds Tryz.pinned (OpenSpec.upto substSubsSpec)

/-- 'aukletlaw08.SubstSplits', WHERE WHAT IT READS IS OF BULK AT MOST 1048576: true; the input reads as it did. -/
def substSplitsUptoRow : OpenClaim := { program := "ytfcgnpphabplbaagreat", sum := "727a40bbb4e71622ba431e41427cd8eef98c3f5969e828849b29cd9df570122d", func := "auklet/aukletlaw08.SubstSplits", spec := "substSplits", inPlace := ["internal/bytealg.IndexByteString", "internal/bytealg.IndexString", "internal/abi.NoEscape"], unfollowed := true, recurses := true, named := ["internal/bytealg.MaxLen"], apart := false, narrowed := true }
def SubstSplitsUptoSaid : Prop := substSplitsUptoRow.holds Tryz.pinned (OpenSpec.upto substSplitsSpec)

/-- 'aukletlaw17.StreamsAll', WHERE WHAT IT READS IS OF BULK AT MOST 1048576: true; the input reads as it did. -/
def streamsAllUptoRow : OpenClaim := { program := "ytfcgnpphabplbaagreat", sum := "727a40bbb4e71622ba431e41427cd8eef98c3f5969e828849b29cd9df570122d", func := "auklet/aukletlaw17.StreamsAll", spec := "streamsAll", inPlace := ["internal/abi.NoEscape", "internal/bytealg.IndexByteString", "internal/bytealg.IndexString"], unfollowed := true, recurses := true, named := ["internal/bytealg.MaxLen"], apart := false, narrowed := true }
def StreamsAllUptoSaid : Prop := streamsAllUptoRow.holds Tryz.pinned (OpenSpec.upto streamsAllSpec)

end Rows
end Go.Proofs.YtfcgnpphabplbaaGreat
