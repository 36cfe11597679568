/-
  No cell of these rows narrows 'for every input' (looked for: loops, veiled, ifaces, maps, wideKeys, modest, calm, conditions, laid).
  DERIVED. THE GIVEN ROWS OF THIS SEAT. 6 by the template 'for every input the law returns true; each argument reads behind the call as it read before'; 0 by the template 'total and deterministic' (their statements: YtfcgnpphabplbaaTotals.lean).
  GIVEN WITH THE SEED: the statements are not yours to turn. If you find one false, say at which input.
  Laid BY PROGRAM, IN A SANDBOX (cutbox-rows.mjs): the forced cells as the released guide's own fill.sh prints them over the translation 37989eadab2262ef… (all of the seat's roots in one cut). By AI agents, Wed Nov 11 2026. No macro, syntax, notation, axiom, sorry.
-/
import Derived.Test.YtfcgnpphabplbaaChecked
import GoSem.Claim
import GoSem.ClaimJoined
import GoSem.ClaimMapViews
import Derived.JoinedTies
import Derived.KernelRfl
namespace Go.Proofs.Ytfcgnpphabplbaa
/- THE CELL 'sum', in the pinned program and in every row, IS THE sha256 OF THE DUMP (.gsa) THAT YtfcgnpphabplbaaProg.lean LOADS. Nothing in Lean hashes anything: it is a label: what it is worth is what the hold of that sum in a sandbox is worth. -/
noncomputable def Try.pinned : Pinned := { name := "ytfcgnpphabplbaa", sum := "37989eadab2262ef0805626357a6706af8d7b9caff8b1e090c3bf2593a3e06d1", checked := Try.checked }
namespace Rows
def none {H : Type} : Left H := { results := [], args := [] }

/-- 'aukletlaw06.NfaTexts': WHATEVER THE INPUT: true; the input reads as it did. -/
def nfaTextsSpec : ChangeSpec := { name := "nfaTexts", fn := fun _ => fun
  | [d1, d2, d3] => { results := [.lit (.bool true)], args := [d1, d2, d3] }
  | _ => none }
def nfaTextsRow : OpenClaim := { program := "ytfcgnpphabplbaa", sum := "37989eadab2262ef0805626357a6706af8d7b9caff8b1e090c3bf2593a3e06d1", func := "auklet/aukletlaw06.NfaTexts", spec := "nfaTexts", unfollowed := true, recurses := true, apart := false }
def NfaTextsSaid : Prop := nfaTextsRow.holds Try.pinned (OpenSpec.ofChange nfaTextsSpec)

/-- ITS FALSE NEIGHBOUR: 'it returns false'. Refute it at one input. -/
def nfaTextsWrong : ChangeSpec := { name := "nfaTexts", fn := fun _ => fun
  | [d1, d2, d3] => { results := [.lit (.bool false)], args := [d1, d2, d3] }
  | _ => none }
def NfaTextsWrongFalsely : Prop := nfaTextsRow.holds Try.pinned (OpenSpec.ofChange nfaTextsWrong)

/-- 'aukletlaw07.MatchOrder': WHATEVER THE INPUT: true; the input reads as it did. -/
def matchOrderSpec : ChangeSpec := { name := "matchOrder", fn := fun _ => fun
  | [d1, d2] => { results := [.lit (.bool true)], args := [d1, d2] }
  | _ => none }
def matchOrderRow : OpenClaim := { program := "ytfcgnpphabplbaa", sum := "37989eadab2262ef0805626357a6706af8d7b9caff8b1e090c3bf2593a3e06d1", func := "auklet/aukletlaw07.MatchOrder", spec := "matchOrder", inPlace := ["internal/bytealg.IndexByteString", "internal/bytealg.IndexString"], unfollowed := true, recurses := true, named := ["internal/bytealg.MaxLen"], apart := false }
def MatchOrderSaid : Prop := matchOrderRow.holds Try.pinned (OpenSpec.ofChange matchOrderSpec)

/-- ITS FALSE NEIGHBOUR: 'it returns false'. Refute it at one input. -/
def matchOrderWrong : ChangeSpec := { name := "matchOrder", fn := fun _ => fun
  | [d1, d2] => { results := [.lit (.bool false)], args := [d1, d2] }
  | _ => none }
def MatchOrderWrongFalsely : Prop := matchOrderRow.holds Try.pinned (OpenSpec.ofChange matchOrderWrong)

/-- 'aukletlaw07.MatchLongest': WHATEVER THE INPUT: true; the input reads as it did. -/
def matchLongestSpec : ChangeSpec := { name := "matchLongest", fn := fun _ => fun
  | [d1, d2, d3] => { results := [.lit (.bool true)], args := [d1, d2, d3] }
  | _ => none }
def matchLongestRow : OpenClaim := { program := "ytfcgnpphabplbaa", sum := "37989eadab2262ef0805626357a6706af8d7b9caff8b1e090c3bf2593a3e06d1", func := "auklet/aukletlaw07.MatchLongest", spec := "matchLongest", inPlace := ["internal/bytealg.IndexByteString", "internal/bytealg.IndexString"], unfollowed := true, recurses := true, named := ["internal/bytealg.MaxLen"], apart := false }
def MatchLongestSaid : Prop := matchLongestRow.holds Try.pinned (OpenSpec.ofChange matchLongestSpec)

/-- ITS FALSE NEIGHBOUR: 'it returns false'. Refute it at one input. -/
def matchLongestWrong : ChangeSpec := { name := "matchLongest", fn := fun _ => fun
  | [d1, d2, d3] => { results := [.lit (.bool false)], args := [d1, d2, d3] }
  | _ => none }
def MatchLongestWrongFalsely : Prop := matchLongestRow.holds Try.pinned (OpenSpec.ofChange matchLongestWrong)

/-- 'aukletlaw08.SubstSame': WHATEVER THE INPUT: true; the input reads as it did. -/
def substSameSpec : ChangeSpec := { name := "substSame", fn := fun _ => fun
  | [d1, d2] => { results := [.lit (.bool true)], args := [d1, d2] }
  | _ => none }
def substSameRow : OpenClaim := { program := "ytfcgnpphabplbaa", sum := "37989eadab2262ef0805626357a6706af8d7b9caff8b1e090c3bf2593a3e06d1", func := "auklet/aukletlaw08.SubstSame", spec := "substSame", inPlace := ["internal/bytealg.IndexByteString", "internal/bytealg.IndexString", "internal/abi.NoEscape"], unfollowed := true, recurses := true, named := ["internal/bytealg.MaxLen"], apart := false }
def SubstSameSaid : Prop := substSameRow.holds Try.pinned (OpenSpec.ofChange substSameSpec)

/-- ITS FALSE NEIGHBOUR: 'it returns false'. Refute it at one input. -/
def substSameWrong : ChangeSpec := { name := "substSame", fn := fun _ => fun
  | [d1, d2] => { results := [.lit (.bool false)], args := [d1, d2] }
  | _ => none }
def SubstSameWrongFalsely : Prop := substSameRow.holds Try.pinned (OpenSpec.ofChange substSameWrong)

/-- 'aukletlaw08.SubstPuts': WHATEVER THE INPUT: true; the input reads as it did. -/
def substPutsSpec : ChangeSpec := { name := "substPuts", fn := fun _ => fun
  | [d1, d2] => { results := [.lit (.bool true)], args := [d1, d2] }
  | _ => none }
def substPutsRow : OpenClaim := { program := "ytfcgnpphabplbaa", sum := "37989eadab2262ef0805626357a6706af8d7b9caff8b1e090c3bf2593a3e06d1", func := "auklet/aukletlaw08.SubstPuts", spec := "substPuts", inPlace := ["internal/bytealg.IndexByteString", "internal/bytealg.IndexString", "internal/abi.NoEscape"], unfollowed := true, recurses := true, named := ["internal/bytealg.MaxLen"], apart := false }
def SubstPutsSaid : Prop := substPutsRow.holds Try.pinned (OpenSpec.ofChange substPutsSpec)

/-- ITS FALSE NEIGHBOUR: 'it returns false'. Refute it at one input. -/
def substPutsWrong : ChangeSpec := { name := "substPuts", fn := fun _ => fun
  | [d1, d2] => { results := [.lit (.bool false)], args := [d1, d2] }
  | _ => none }
def SubstPutsWrongFalsely : Prop := substPutsRow.holds Try.pinned (OpenSpec.ofChange substPutsWrong)

/-- 'aukletlaw17.StreamsApart': WHATEVER THE INPUT: true; the input reads as it did. -/
def streamsApartSpec : ChangeSpec := { name := "streamsApart", fn := fun _ => fun
  | [d1, d2, d3] => { results := [.lit (.bool true)], args := [d1, d2, d3] }
  | _ => none }
def streamsApartRow : OpenClaim := { program := "ytfcgnpphabplbaa", sum := "37989eadab2262ef0805626357a6706af8d7b9caff8b1e090c3bf2593a3e06d1", func := "auklet/aukletlaw17.StreamsApart", spec := "streamsApart", inPlace := ["internal/abi.NoEscape", "internal/bytealg.IndexByteString", "internal/bytealg.IndexString"], unfollowed := true, recurses := true, named := ["internal/bytealg.MaxLen"], apart := false }
def StreamsApartSaid : Prop := streamsApartRow.holds Try.pinned (OpenSpec.ofChange streamsApartSpec)

/-- ITS FALSE NEIGHBOUR: 'it returns false'. Refute it at one input. -/
def streamsApartWrong : ChangeSpec := { name := "streamsApart", fn := fun _ => fun
  | [d1, d2, d3] => { results := [.lit (.bool false)], args := [d1, d2, d3] }
  | _ => none }
def StreamsApartWrongFalsely : Prop := streamsApartRow.holds Try.pinned (OpenSpec.ofChange streamsApartWrong)

/- THE SECOND FORM. 'bulk': how many values and letters a reading holds, each counted each time it is reached (what is shared counts as often as it is met; a slice's spare places count too). A statement '..UptoSaid' is the law's where the arguments, and the package variables that the reading takes, are together of bulk at most 1048576: NARROWER than '..Said'. Prove '..Said' where nothing that the law and all that it calls make is longer than what came in: it says more and counts as full. Else prove '..UptoSaid'. A law counts once. -/
mutual
def uptoBulk {H : Type} : DataW H → Nat
  | .lit (.string bytes) => bytes.length + 1
  | .lit _ => 1
  | .nil => 1
  | .ptr d => uptoBulk d + 1
  | .slice elems spare => uptoBulkAll elems + uptoBulkAll spare + 1
  | .agg parts => uptoBulkAll parts + 1
  | .iface _ d => uptoBulk d + 1
  | .map entries => uptoBulkEntries entries + 1
  | .held _ => 1
def uptoBulkAll {H : Type} : List (DataW H) → Nat
  | [] => 0
  | d :: r => uptoBulk d + uptoBulkAll r
def uptoBulkEntries {H : Type} : List (Lit × DataW H) → Nat
  | [] => 0
  | x :: r => uptoBulkEntry x + uptoBulkEntries r
def uptoBulkEntry {H : Type} : Lit × DataW H → Nat
  | (.string bytes, d) => bytes.length + uptoBulk d + 1
  | (_, d) => uptoBulk d + 1
 end
def uptoSmall : (H : Type) → List (DataW H) → Bool := fun _ ds => decide (uptoBulkAll ds ≤ 1048576)
def OpenSpec.upto (s : _root_.Go.ChangeSpec) : _root_.Go.OpenSpec := { _root_.Go.OpenSpec.ofChange s with cond := some uptoSmall }

/-- 'aukletlaw06.NfaTexts', WHERE WHAT IT READS IS OF BULK AT MOST 1048576: true; the input reads as it did. -/
def nfaTextsUptoRow : OpenClaim := { program := "ytfcgnpphabplbaa", sum := "37989eadab2262ef0805626357a6706af8d7b9caff8b1e090c3bf2593a3e06d1", func := "auklet/aukletlaw06.NfaTexts", spec := "nfaTexts", unfollowed := true, recurses := true, apart := false, narrowed := true }
def NfaTextsUptoSaid : Prop := nfaTextsUptoRow.holds Try.pinned (OpenSpec.upto nfaTextsSpec)

/-- 'aukletlaw07.MatchOrder', WHERE WHAT IT READS IS OF BULK AT MOST 1048576: true; the input reads as it did. -/
def matchOrderUptoRow : OpenClaim := { program := "ytfcgnpphabplbaa", sum := "37989eadab2262ef0805626357a6706af8d7b9caff8b1e090c3bf2593a3e06d1", func := "auklet/aukletlaw07.MatchOrder", spec := "matchOrder", inPlace := ["internal/bytealg.IndexByteString", "internal/bytealg.IndexString"], unfollowed := true, recurses := true, named := ["internal/bytealg.MaxLen"], apart := false, narrowed := true }
def MatchOrderUptoSaid : Prop := matchOrderUptoRow.holds Try.pinned (OpenSpec.upto matchOrderSpec)

/-- 'aukletlaw07.MatchLongest', WHERE WHAT IT READS IS OF BULK AT MOST 1048576: true; the input reads as it did. -/
def matchLongestUptoRow : OpenClaim := { program := "ytfcgnpphabplbaa", sum := "37989eadab2262ef0805626357a6706af8d7b9caff8b1e090c3bf2593a3e06d1", func := "auklet/aukletlaw07.MatchLongest", spec := "matchLongest", inPlace := ["internal/bytealg.IndexByteString", "internal/bytealg.IndexString"], unfollowed := true, recurses := true, named := ["internal/bytealg.MaxLen"], apart := false, narrowed := true }
def MatchLongestUptoSaid : Prop := matchLongestUptoRow.holds Try.pinned (OpenSpec.upto matchLongestSpec)

/-- 'aukletlaw08.SubstSame', WHERE WHAT IT READS IS OF BULK AT MOST 1048576: true; the input reads as it did. -/
def substSameUptoRow : OpenClaim := { program := "ytfcgnpphabplbaa", sum := "37989eadab2262ef0805626357a6706af8d7b9caff8b1e090c3bf2593a3e06d1", func := "auklet/aukletlaw08.SubstSame", spec := "substSame", inPlace := ["internal/bytealg.IndexByteString", "internal/bytealg.IndexString", "internal/abi.NoEscape"], unfollowed := true, recurses := true, named := ["internal/bytealg.MaxLen"], apart := false, narrowed := true }
def SubstSameUptoSaid : Prop := substSameUptoRow.holds Try.pinned (OpenSpec.upto substSameSpec)

/-- 'aukletlaw08.SubstPuts', WHERE WHAT IT READS IS OF BULK AT MOST 1048576: true; the input reads as it did. -/
def substPutsUptoRow : OpenClaim := { program := "ytfcgnpphabplbaa", sum := "37989eadab2262ef0805626357a6706af8d7b9caff8b1e090c3bf2593a3e06d1", func := "auklet/aukletlaw08.SubstPuts", spec := "substPuts", inPlace := ["internal/bytealg.IndexByteString", "internal/bytealg.IndexString", "internal/abi.NoEscape"], unfollowed := true, recurses := true, named := ["internal/bytealg.MaxLen"], apart := false, narrowed := true }
def SubstPutsUptoSaid : Prop := substPutsUptoRow.holds Try.pinned (OpenSpec.upto substPutsSpec)

/-- 'aukletlaw17.StreamsApart', WHERE WHAT IT READS IS OF BULK AT MOST 1048576: true; the input reads as it did. -/
def streamsApartUptoRow : OpenClaim := { program := "ytfcgnpphabplbaa", sum := "37989eadab2262ef0805626357a6706af8d7b9caff8b1e090c3bf2593a3e06d1", func := "auklet/aukletlaw17.StreamsApart", spec := "streamsApart", inPlace := ["internal/abi.NoEscape", "internal/bytealg.IndexByteString", "internal/bytealg.IndexString"], unfollowed := true, recurses := true, named := ["internal/bytealg.MaxLen"], apart := false, narrowed := true }
def StreamsApartUptoSaid : Prop := streamsApartUptoRow.holds Try.pinned (OpenSpec.upto streamsApartSpec)

end Rows
end Go.Proofs.Ytfcgnpphabplbaa
