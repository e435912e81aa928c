/-
  No cell of these rows narrows 'for every input' (looked for: loops, veiled, ifaces, maps, wideKeys, modest, calm, conditions, laid).
  DERIVED. THE GIVEN ROWS OF THIS SEAT. 3 by the template 'for every input the law returns true; each argument reads behind the call as it read before'; 0 by the template 'total and deterministic' (their statements: YtfhhbkehlfipgaaGreatTotals.lean).
  GIVEN WITH THE SEED: the statements are not yours to turn. If you find one false, say at which input.
  Laid BY PROGRAM, IN A SANDBOX (cutbox-rows.mjs): the forced cells as the released guide's own fill.sh prints them over the translation 916d2a3556972c82… (all of the seat's roots in one cut). By AI agents, Wed Nov 11 2026. No macro, syntax, notation, axiom, sorry.
-/
import Derived.Test.YtfhhbkehlfipgaaGreatChecked
import GoSem.Claim
import GoSem.ClaimJoined
import GoSem.ClaimMapViews
import Derived.JoinedTies
import Derived.KernelRfl
namespace Go.Proofs.YtfhhbkehlfipgaaGreat
/- THE CELL 'sum', in the pinned program and in every row, IS THE sha256 OF THE DUMP (.gsa) THAT YtfhhbkehlfipgaaGreatProg.lean LOADS. Nothing in Lean hashes anything: it is a label: what it is worth is what the hold of that sum in a sandbox is worth. -/
noncomputable def Tryz.pinned : Pinned := { name := "ytfhhbkehlfipgaagreat", sum := "916d2a3556972c82d36a5c94e8d5ebda4bf3071ed7b4cd93f7703e11d3258e26", checked := Tryz.checked }
namespace Rows
def none {H : Type} : Left H := { results := [], args := [] }

/-- 'tannoylaw35.StreamsSends': WHATEVER THE INPUT: true; the input reads as it did. -/
def streamsSendsSpec : ChangeSpec := { name := "streamsSends", fn := fun _ => fun
  | [d1, d2, d3, d4, d5, d6, d7, d8] => { results := [.lit (.bool true)], args := [d1, d2, d3, d4, d5, d6, d7, d8] }
  | _ => none }
def streamsSendsRow : OpenClaim := { program := "ytfhhbkehlfipgaagreat", sum := "916d2a3556972c82d36a5c94e8d5ebda4bf3071ed7b4cd93f7703e11d3258e26", func := "tannoy/tannoylaw35.StreamsSends", spec := "streamsSends", inPlace := ["internal/abi.NoEscape", "internal/bytealg.MakeNoZero"], unfollowed := true, recurses := true, apart := false }
def StreamsSendsSaid : Prop := streamsSendsRow.holds Tryz.pinned (OpenSpec.ofChange streamsSendsSpec)

/-- ITS FALSE NEIGHBOUR: 'it returns false'. Refute it at one input. -/
def streamsSendsWrong : ChangeSpec := { name := "streamsSends", fn := fun _ => fun
  | [d1, d2, d3, d4, d5, d6, d7, d8] => { results := [.lit (.bool false)], args := [d1, d2, d3, d4, d5, d6, d7, d8] }
  | _ => none }
def StreamsSendsWrongFalsely : Prop := streamsSendsRow.holds Tryz.pinned (OpenSpec.ofChange streamsSendsWrong)

/-- 'tannoylaw35.StreamsTakes': WHATEVER THE INPUT: true; the input reads as it did. -/
def streamsTakesSpec : ChangeSpec := { name := "streamsTakes", fn := fun _ => fun
  | [d1, d2, d3, d4, d5, d6, d7, d8] => { results := [.lit (.bool true)], args := [d1, d2, d3, d4, d5, d6, d7, d8] }
  | _ => none }
def streamsTakesRow : OpenClaim := { program := "ytfhhbkehlfipgaagreat", sum := "916d2a3556972c82d36a5c94e8d5ebda4bf3071ed7b4cd93f7703e11d3258e26", func := "tannoy/tannoylaw35.StreamsTakes", spec := "streamsTakes", inPlace := ["internal/abi.NoEscape", "internal/bytealg.MakeNoZero"], unfollowed := true, recurses := true, apart := false }
def StreamsTakesSaid : Prop := streamsTakesRow.holds Tryz.pinned (OpenSpec.ofChange streamsTakesSpec)

/-- ITS FALSE NEIGHBOUR: 'it returns false'. Refute it at one input. -/
def streamsTakesWrong : ChangeSpec := { name := "streamsTakes", fn := fun _ => fun
  | [d1, d2, d3, d4, d5, d6, d7, d8] => { results := [.lit (.bool false)], args := [d1, d2, d3, d4, d5, d6, d7, d8] }
  | _ => none }
def StreamsTakesWrongFalsely : Prop := streamsTakesRow.holds Tryz.pinned (OpenSpec.ofChange streamsTakesWrong)

/-- 'tannoylaw35.StreamsResets': WHATEVER THE INPUT: true; the input reads as it did. -/
def streamsResetsSpec : ChangeSpec := { name := "streamsResets", fn := fun _ => fun
  | [d1, d2, d3, d4, d5, d6, d7, d8] => { results := [.lit (.bool true)], args := [d1, d2, d3, d4, d5, d6, d7, d8] }
  | _ => none }
def streamsResetsRow : OpenClaim := { program := "ytfhhbkehlfipgaagreat", sum := "916d2a3556972c82d36a5c94e8d5ebda4bf3071ed7b4cd93f7703e11d3258e26", func := "tannoy/tannoylaw35.StreamsResets", spec := "streamsResets", inPlace := ["internal/abi.NoEscape", "internal/bytealg.MakeNoZero"], unfollowed := true, recurses := true, apart := false }
def StreamsResetsSaid : Prop := streamsResetsRow.holds Tryz.pinned (OpenSpec.ofChange streamsResetsSpec)

/-- ITS FALSE NEIGHBOUR: 'it returns false'. Refute it at one input. -/
def streamsResetsWrong : ChangeSpec := { name := "streamsResets", fn := fun _ => fun
  | [d1, d2, d3, d4, d5, d6, d7, d8] => { results := [.lit (.bool false)], args := [d1, d2, d3, d4, d5, d6, d7, d8] }
  | _ => none }
def StreamsResetsWrongFalsely : Prop := streamsResetsRow.holds Tryz.pinned (OpenSpec.ofChange streamsResetsWrong)

/- THE SECOND FORM. 'bulk': how many values and letters a reading holds, each counted each time it is reached (what is shared counts as often as it is met; a slice's spare places count too). A statement '..UptoSaid' is the law's where the arguments, and the package variables that the reading takes, are together of bulk at most 1048576: NARROWER than '..Said'. Prove '..Said' where nothing that the law and all that it calls make is longer than what came in: it says more and counts as full. Else prove '..UptoSaid'. A law counts once. -/
mutual
def uptoBulk {H : Type} : DataW H → Nat
  | .lit (.string bytes) => bytes.length + 1
  | .lit _ => 1
  | .nil => 1
  | .ptr d => uptoBulk d + 1
  | .slice elems spare => uptoBulkAll elems + uptoBulkAll spare + 1
  | .agg parts => uptoBulkAll parts + 1
  | .iface _ d => uptoBulk d + 1
  | .map entries => uptoBulkEntries entries + 1
  | .held _ => 1
def uptoBulkAll {H : Type} : List (DataW H) → Nat
  | [] => 0
  | d :: r => uptoBulk d + uptoBulkAll r
def uptoBulkEntries {H : Type} : List (Lit × DataW H) → Nat
  | [] => 0
  | x :: r => uptoBulkEntry x + uptoBulkEntries r
def uptoBulkEntry {H : Type} : Lit × DataW H → Nat
  | (.string bytes, d) => bytes.length + uptoBulk d + 1
  | (_, d) => uptoBulk d + 1
 end
def uptoSmall : (H : Type) → List (DataW H) → Bool := fun _ ds => decide (uptoBulkAll ds ≤ 1048576)
def OpenSpec.upto (s : _root_.Go.ChangeSpec) : _root_.Go.OpenSpec := { _root_.Go.OpenSpec.ofChange s with cond := some uptoSmall }

/-- 'tannoylaw35.StreamsSends', WHERE WHAT IT READS IS OF BULK AT MOST 1048576: true; the input reads as it did. -/
def streamsSendsUptoRow : OpenClaim := { program := "ytfhhbkehlfipgaagreat", sum := "916d2a3556972c82d36a5c94e8d5ebda4bf3071ed7b4cd93f7703e11d3258e26", func := "tannoy/tannoylaw35.StreamsSends", spec := "streamsSends", inPlace := ["internal/abi.NoEscape", "internal/bytealg.MakeNoZero"], unfollowed := true, recurses := true, apart := false, narrowed := true }
def StreamsSendsUptoSaid : Prop := streamsSendsUptoRow.holds Tryz.pinned (OpenSpec.upto streamsSendsSpec)

/-- 'tannoylaw35.StreamsTakes', WHERE WHAT IT READS IS OF BULK AT MOST 1048576: true; the input reads as it did. -/
def streamsTakesUptoRow : OpenClaim := { program := "ytfhhbkehlfipgaagreat", sum := "916d2a3556972c82d36a5c94e8d5ebda4bf3071ed7b4cd93f7703e11d3258e26", func := "tannoy/tannoylaw35.StreamsTakes", spec := "streamsTakes", inPlace := ["internal/abi.NoEscape", "internal/bytealg.MakeNoZero"], unfollowed := true, recurses := true, apart := false, narrowed := true }
def StreamsTakesUptoSaid : Prop := streamsTakesUptoRow.holds Tryz.pinned (OpenSpec.upto streamsTakesSpec)

/-- 'tannoylaw35.StreamsResets', WHERE WHAT IT READS IS OF BULK AT MOST 1048576: true; the input reads as it did. -/
def streamsResetsUptoRow : OpenClaim := { program := "ytfhhbkehlfipgaagreat", sum := "916d2a3556972c82d36a5c94e8d5ebda4bf3071ed7b4cd93f7703e11d3258e26", func := "tannoy/tannoylaw35.StreamsResets", spec := "streamsResets", inPlace := ["internal/abi.NoEscape", "internal/bytealg.MakeNoZero"], unfollowed := true, recurses := true, apart := false, narrowed := true }
def StreamsResetsUptoSaid : Prop := streamsResetsUptoRow.holds Tryz.pinned (OpenSpec.upto streamsResetsSpec)

end Rows
end Go.Proofs.YtfhhbkehlfipgaaGreat
