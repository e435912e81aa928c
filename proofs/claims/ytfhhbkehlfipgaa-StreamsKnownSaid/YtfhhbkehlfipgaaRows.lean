/-
  No cell of these rows narrows 'for every input' (looked for: loops, veiled, ifaces, maps, wideKeys, modest, calm, conditions, laid).
  DERIVED. THE GIVEN ROWS OF THIS SEAT. 7 by the template 'for every input the law returns true; each argument reads behind the call as it read before'; 0 by the template 'total and deterministic' (their statements: YtfhhbkehlfipgaaTotals.lean).
  GIVEN WITH THE SEED: the statements are not yours to turn. If you find one false, say at which input.
  Laid BY PROGRAM, IN A SANDBOX (cutbox-rows.mjs): the forced cells as the released guide's own fill.sh prints them over the translation 0624db7ea8ce6fde… (all of the seat's roots in one cut). By AI agents, Wed Nov 11 2026. No macro, syntax, notation, axiom, sorry.
-/
import Derived.Test.YtfhhbkehlfipgaaChecked
import GoSem.Claim
import GoSem.ClaimJoined
import GoSem.ClaimMapViews
import Derived.JoinedTies
import Derived.KernelRfl
namespace Go.Proofs.Ytfhhbkehlfipgaa
/- THE CELL 'sum', in the pinned program and in every row, IS THE sha256 OF THE DUMP (.gsa) THAT YtfhhbkehlfipgaaProg.lean LOADS. Nothing in Lean hashes anything: it is a label: what it is worth is what the hold of that sum in a sandbox is worth. -/
noncomputable def Try.pinned : Pinned := { name := "ytfhhbkehlfipgaa", sum := "0624db7ea8ce6fde8cc48fa7a464e7139be1f45c32bc46c64023a274b5a5e01c", checked := Try.checked }
namespace Rows
def none {H : Type} : Left H := { results := [], args := [] }

/-- 'tannoylaw35.StreamsCuts': WHATEVER THE INPUT: true; the input reads as it did. -/
def streamsCutsSpec : ChangeSpec := { name := "streamsCuts", fn := fun _ => fun
  | [d1, d2] => { results := [.lit (.bool true)], args := [d1, d2] }
  | _ => none }
def streamsCutsRow : OpenClaim := { program := "ytfhhbkehlfipgaa", sum := "0624db7ea8ce6fde8cc48fa7a464e7139be1f45c32bc46c64023a274b5a5e01c", func := "tannoy/tannoylaw35.StreamsCuts", spec := "streamsCuts", unfollowed := true, recurses := true, apart := false }
def StreamsCutsSaid : Prop := streamsCutsRow.holds Try.pinned (OpenSpec.ofChange streamsCutsSpec)

/-- ITS FALSE NEIGHBOUR: 'it returns false'. Refute it at one input. -/
def streamsCutsWrong : ChangeSpec := { name := "streamsCuts", fn := fun _ => fun
  | [d1, d2] => { results := [.lit (.bool false)], args := [d1, d2] }
  | _ => none }
def StreamsCutsWrongFalsely : Prop := streamsCutsRow.holds Try.pinned (OpenSpec.ofChange streamsCutsWrong)

/-- 'tannoylaw35.StreamsAgain': WHATEVER THE INPUT: true; the input reads as it did. -/
def streamsAgainSpec : ChangeSpec := { name := "streamsAgain", fn := fun _ => fun
  | [d1, d2, d3] => { results := [.lit (.bool true)], args := [d1, d2, d3] }
  | _ => none }
def streamsAgainRow : OpenClaim := { program := "ytfhhbkehlfipgaa", sum := "0624db7ea8ce6fde8cc48fa7a464e7139be1f45c32bc46c64023a274b5a5e01c", func := "tannoy/tannoylaw35.StreamsAgain", spec := "streamsAgain", unfollowed := true, recurses := true, apart := false }
def StreamsAgainSaid : Prop := streamsAgainRow.holds Try.pinned (OpenSpec.ofChange streamsAgainSpec)

/-- ITS FALSE NEIGHBOUR: 'it returns false'. Refute it at one input. -/
def streamsAgainWrong : ChangeSpec := { name := "streamsAgain", fn := fun _ => fun
  | [d1, d2, d3] => { results := [.lit (.bool false)], args := [d1, d2, d3] }
  | _ => none }
def StreamsAgainWrongFalsely : Prop := streamsAgainRow.holds Try.pinned (OpenSpec.ofChange streamsAgainWrong)

/-- 'tannoylaw35.StreamsJoins': WHATEVER THE INPUT: true; the input reads as it did. -/
def streamsJoinsSpec : ChangeSpec := { name := "streamsJoins", fn := fun _ => fun
  | [d] => { results := [.lit (.bool true)], args := [d] }
  | _ => none }
def streamsJoinsRow : OpenClaim := { program := "ytfhhbkehlfipgaa", sum := "0624db7ea8ce6fde8cc48fa7a464e7139be1f45c32bc46c64023a274b5a5e01c", func := "tannoy/tannoylaw35.StreamsJoins", spec := "streamsJoins", unfollowed := true, recurses := true, apart := false }
def StreamsJoinsSaid : Prop := streamsJoinsRow.holds Try.pinned (OpenSpec.ofChange streamsJoinsSpec)

/-- ITS FALSE NEIGHBOUR: 'it returns false'. Refute it at one input. -/
def streamsJoinsWrong : ChangeSpec := { name := "streamsJoins", fn := fun _ => fun
  | [d] => { results := [.lit (.bool false)], args := [d] }
  | _ => none }
def StreamsJoinsWrongFalsely : Prop := streamsJoinsRow.holds Try.pinned (OpenSpec.ofChange streamsJoinsWrong)

/-- 'tannoylaw35.StreamsCut': WHATEVER THE INPUT: true; the input reads as it did. -/
def streamsCutSpec : ChangeSpec := { name := "streamsCut", fn := fun _ => fun
  | [d1, d2, d3, d4] => { results := [.lit (.bool true)], args := [d1, d2, d3, d4] }
  | _ => none }
def streamsCutRow : OpenClaim := { program := "ytfhhbkehlfipgaa", sum := "0624db7ea8ce6fde8cc48fa7a464e7139be1f45c32bc46c64023a274b5a5e01c", func := "tannoy/tannoylaw35.StreamsCut", spec := "streamsCut", unfollowed := true, recurses := true, apart := false }
def StreamsCutSaid : Prop := streamsCutRow.holds Try.pinned (OpenSpec.ofChange streamsCutSpec)

/-- ITS FALSE NEIGHBOUR: 'it returns false'. Refute it at one input. -/
def streamsCutWrong : ChangeSpec := { name := "streamsCut", fn := fun _ => fun
  | [d1, d2, d3, d4] => { results := [.lit (.bool false)], args := [d1, d2, d3, d4] }
  | _ => none }
def StreamsCutWrongFalsely : Prop := streamsCutRow.holds Try.pinned (OpenSpec.ofChange streamsCutWrong)

/-- 'tannoylaw35.StreamsSkips': WHATEVER THE INPUT: true; the input reads as it did. -/
def streamsSkipsSpec : ChangeSpec := { name := "streamsSkips", fn := fun _ => fun
  | [d1, d2] => { results := [.lit (.bool true)], args := [d1, d2] }
  | _ => none }
def streamsSkipsRow : OpenClaim := { program := "ytfhhbkehlfipgaa", sum := "0624db7ea8ce6fde8cc48fa7a464e7139be1f45c32bc46c64023a274b5a5e01c", func := "tannoy/tannoylaw35.StreamsSkips", spec := "streamsSkips", unfollowed := true, recurses := true, apart := false }
def StreamsSkipsSaid : Prop := streamsSkipsRow.holds Try.pinned (OpenSpec.ofChange streamsSkipsSpec)

/-- ITS FALSE NEIGHBOUR: 'it returns false'. Refute it at one input. -/
def streamsSkipsWrong : ChangeSpec := { name := "streamsSkips", fn := fun _ => fun
  | [d1, d2] => { results := [.lit (.bool false)], args := [d1, d2] }
  | _ => none }
def StreamsSkipsWrongFalsely : Prop := streamsSkipsRow.holds Try.pinned (OpenSpec.ofChange streamsSkipsWrong)

/-- 'tannoylaw35.StreamsDrops': WHATEVER THE INPUT: true; the input reads as it did. -/
def streamsDropsSpec : ChangeSpec := { name := "streamsDrops", fn := fun _ => fun
  | [d1, d2, d3, d4, d5] => { results := [.lit (.bool true)], args := [d1, d2, d3, d4, d5] }
  | _ => none }
def streamsDropsRow : OpenClaim := { program := "ytfhhbkehlfipgaa", sum := "0624db7ea8ce6fde8cc48fa7a464e7139be1f45c32bc46c64023a274b5a5e01c", func := "tannoy/tannoylaw35.StreamsDrops", spec := "streamsDrops", inPlace := ["internal/abi.NoEscape", "internal/bytealg.MakeNoZero"], unfollowed := true, recurses := true, apart := false }
def StreamsDropsSaid : Prop := streamsDropsRow.holds Try.pinned (OpenSpec.ofChange streamsDropsSpec)

/-- ITS FALSE NEIGHBOUR: 'it returns false'. Refute it at one input. -/
def streamsDropsWrong : ChangeSpec := { name := "streamsDrops", fn := fun _ => fun
  | [d1, d2, d3, d4, d5] => { results := [.lit (.bool false)], args := [d1, d2, d3, d4, d5] }
  | _ => none }
def StreamsDropsWrongFalsely : Prop := streamsDropsRow.holds Try.pinned (OpenSpec.ofChange streamsDropsWrong)

/-- 'tannoylaw35.StreamsKnown': WHATEVER THE INPUT: true; the input reads as it did. -/
def streamsKnownSpec : ChangeSpec := { name := "streamsKnown", fn := fun _ => fun
  | [] => { results := [.lit (.bool true)], args := [] }
  | _ => none }
def streamsKnownRow : OpenClaim := { program := "ytfhhbkehlfipgaa", sum := "0624db7ea8ce6fde8cc48fa7a464e7139be1f45c32bc46c64023a274b5a5e01c", func := "tannoy/tannoylaw35.StreamsKnown", spec := "streamsKnown", inPlace := ["internal/abi.NoEscape", "internal/bytealg.MakeNoZero"], unfollowed := true, recurses := true, apart := false }
def StreamsKnownSaid : Prop := streamsKnownRow.holds Try.pinned (OpenSpec.ofChange streamsKnownSpec)

/-- ITS FALSE NEIGHBOUR: 'it returns false'. Refute it at one input. -/
def streamsKnownWrong : ChangeSpec := { name := "streamsKnown", fn := fun _ => fun
  | [] => { results := [.lit (.bool false)], args := [] }
  | _ => none }
def StreamsKnownWrongFalsely : Prop := streamsKnownRow.holds Try.pinned (OpenSpec.ofChange streamsKnownWrong)

/- THE SECOND FORM. 'bulk': how many values and letters a reading holds, each counted each time it is reached (what is shared counts as often as it is met; a slice's spare places count too). A statement '..UptoSaid' is the law's where the arguments, and the package variables that the reading takes, are together of bulk at most 1048576: NARROWER than '..Said'. Prove '..Said' where nothing that the law and all that it calls make is longer than what came in: it says more and counts as full. Else prove '..UptoSaid'. A law counts once. -/
mutual
def uptoBulk {H : Type} : DataW H → Nat
  | .lit (.string bytes) => bytes.length + 1
  | .lit _ => 1
  | .nil => 1
  | .ptr d => uptoBulk d + 1
  | .slice elems spare => uptoBulkAll elems + uptoBulkAll spare + 1
  | .agg parts => uptoBulkAll parts + 1
  | .iface _ d => uptoBulk d + 1
  | .map entries => uptoBulkEntries entries + 1
  | .held _ => 1
def uptoBulkAll {H : Type} : List (DataW H) → Nat
  | [] => 0
  | d :: r => uptoBulk d + uptoBulkAll r
def uptoBulkEntries {H : Type} : List (Lit × DataW H) → Nat
  | [] => 0
  | x :: r => uptoBulkEntry x + uptoBulkEntries r
def uptoBulkEntry {H : Type} : Lit × DataW H → Nat
  | (.string bytes, d) => bytes.length + uptoBulk d + 1
  | (_, d) => uptoBulk d + 1
 end
def uptoSmall : (H : Type) → List (DataW H) → Bool := fun _ ds => decide (uptoBulkAll ds ≤ 1048576)
def OpenSpec.upto (s : _root_.Go.ChangeSpec) : _root_.Go.OpenSpec := { _root_.Go.OpenSpec.ofChange s with cond := some uptoSmall }

/-- 'tannoylaw35.StreamsCuts', WHERE WHAT IT READS IS OF BULK AT MOST 1048576: true; the input reads as it did. -/
def streamsCutsUptoRow : OpenClaim := { program := "ytfhhbkehlfipgaa", sum := "0624db7ea8ce6fde8cc48fa7a464e7139be1f45c32bc46c64023a274b5a5e01c", func := "tannoy/tannoylaw35.StreamsCuts", spec := "streamsCuts", unfollowed := true, recurses := true, apart := false, narrowed := true }
def StreamsCutsUptoSaid : Prop := streamsCutsUptoRow.holds Try.pinned (OpenSpec.upto streamsCutsSpec)

/-- 'tannoylaw35.StreamsAgain', WHERE WHAT IT READS IS OF BULK AT MOST 1048576: true; the input reads as it did. -/
def streamsAgainUptoRow : OpenClaim := { program := "ytfhhbkehlfipgaa", sum := "0624db7ea8ce6fde8cc48fa7a464e7139be1f45c32bc46c64023a274b5a5e01c", func := "tannoy/tannoylaw35.StreamsAgain", spec := "streamsAgain", unfollowed := true, recurses := true, apart := false, narrowed := true }
def StreamsAgainUptoSaid : Prop := streamsAgainUptoRow.holds Try.pinned (OpenSpec.upto streamsAgainSpec)

/-- 'tannoylaw35.StreamsJoins', WHERE WHAT IT READS IS OF BULK AT MOST 1048576: true; the input reads as it did. -/
def streamsJoinsUptoRow : OpenClaim := { program := "ytfhhbkehlfipgaa", sum := "0624db7ea8ce6fde8cc48fa7a464e7139be1f45c32bc46c64023a274b5a5e01c", func := "tannoy/tannoylaw35.StreamsJoins", spec := "streamsJoins", unfollowed := true, recurses := true, apart := false, narrowed := true }
def StreamsJoinsUptoSaid : Prop := streamsJoinsUptoRow.holds Try.pinned (OpenSpec.upto streamsJoinsSpec)

/-- 'tannoylaw35.StreamsCut', WHERE WHAT IT READS IS OF BULK AT MOST 1048576: true; the input reads as it did. -/
def streamsCutUptoRow : OpenClaim := { program := "ytfhhbkehlfipgaa", sum := "0624db7ea8ce6fde8cc48fa7a464e7139be1f45c32bc46c64023a274b5a5e01c", func := "tannoy/tannoylaw35.StreamsCut", spec := "streamsCut", unfollowed := true, recurses := true, apart := false, narrowed := true }
def StreamsCutUptoSaid : Prop := streamsCutUptoRow.holds Try.pinned (OpenSpec.upto streamsCutSpec)

/-- 'tannoylaw35.StreamsSkips', WHERE WHAT IT READS IS OF BULK AT MOST 1048576: true; the input reads as it did. -/
def streamsSkipsUptoRow : OpenClaim := { program := "ytfhhbkehlfipgaa", sum := "0624db7ea8ce6fde8cc48fa7a464e7139be1f45c32bc46c64023a274b5a5e01c", func := "tannoy/tannoylaw35.StreamsSkips", spec := "streamsSkips", unfollowed := true, recurses := true, apart := false, narrowed := true }
def StreamsSkipsUptoSaid : Prop := streamsSkipsUptoRow.holds Try.pinned (OpenSpec.upto streamsSkipsSpec)

/-- 'tannoylaw35.StreamsDrops', WHERE WHAT IT READS IS OF BULK AT MOST 1048576: true; the input reads as it did. -/
def streamsDropsUptoRow : OpenClaim := { program := "ytfhhbkehlfipgaa", sum := "0624db7ea8ce6fde8cc48fa7a464e7139be1f45c32bc46c64023a274b5a5e01c", func := "tannoy/tannoylaw35.StreamsDrops", spec := "streamsDrops", inPlace := ["internal/abi.NoEscape", "internal/bytealg.MakeNoZero"], unfollowed := true, recurses := true, apart := false, narrowed := true }
def StreamsDropsUptoSaid : Prop := streamsDropsUptoRow.holds Try.pinned (OpenSpec.upto streamsDropsSpec)

/-- 'tannoylaw35.StreamsKnown', WHERE WHAT IT READS IS OF BULK AT MOST 1048576: true; the input reads as it did. -/
def streamsKnownUptoRow : OpenClaim := { program := "ytfhhbkehlfipgaa", sum := "0624db7ea8ce6fde8cc48fa7a464e7139be1f45c32bc46c64023a274b5a5e01c", func := "tannoy/tannoylaw35.StreamsKnown", spec := "streamsKnown", inPlace := ["internal/abi.NoEscape", "internal/bytealg.MakeNoZero"], unfollowed := true, recurses := true, apart := false, narrowed := true }
def StreamsKnownUptoSaid : Prop := streamsKnownUptoRow.holds Try.pinned (OpenSpec.upto streamsKnownSpec)

end Rows
end Go.Proofs.Ytfhhbkehlfipgaa
