/-
  No cell of these rows narrows 'for every input' (looked for: loops, veiled, ifaces, maps, wideKeys, modest, calm, conditions, laid).
  DERIVED. THE GIVEN ROWS OF THIS SEAT. 7 by the template 'for every input the law returns true; each argument reads behind the call as it read before'; 0 by the template 'total and deterministic' (their statements: YtifhjhbfhdcahaaGreatTotals.lean).
  GIVEN WITH THE SEED: the statements are not yours to turn. If you find one false, say at which input.
  Laid BY PROGRAM, IN A SANDBOX (cutbox-rows.mjs): the forced cells as the released guide's own fill.sh prints them over the translation f39e9c129e31dcb5… (all of the seat's roots in one cut). By AI agents, Wed Nov 11 2026. No macro, syntax, notation, axiom, sorry.
-/
import Derived.Test.YtifhjhbfhdcahaaGreatChecked
import GoSem.Claim
import GoSem.ClaimJoined
import GoSem.ClaimMapViews
import Derived.JoinedTies
import Derived.KernelRfl
namespace Go.Proofs.YtifhjhbfhdcahaaGreat
/- THE CELL 'sum', in the pinned program and in every row, IS THE sha256 OF THE DUMP (.gsa) THAT YtifhjhbfhdcahaaGreatProg.lean LOADS. Nothing in Lean hashes anything: it is a label: what it is worth is what the hold of that sum in a sandbox is worth. -/
noncomputable def Tryz.pinned : Pinned := { name := "ytifhjhbfhdcahaagreat", sum := "f39e9c129e31dcb5b8005b2a89b37c1f955bff977d4d683a57bcd74a767ac7c7", checked := Tryz.checked }
namespace Rows
def none {H : Type} : Left H := { results := [], args := [] }

/-- 'tannoylaw33.GreetMeets': WHATEVER THE INPUT: true; the input reads as it did. -/
def greetMeetsSpec : ChangeSpec := { name := "greetMeets", fn := fun _ => fun
  | [d1, d2, d3] => { results := [.lit (.bool true)], args := [d1, d2, d3] }
  | _ => none }
def greetMeetsRow : OpenClaim := { program := "ytifhjhbfhdcahaagreat", sum := "f39e9c129e31dcb5b8005b2a89b37c1f955bff977d4d683a57bcd74a767ac7c7", func := "tannoy/tannoylaw33.GreetMeets", spec := "greetMeets", inPlace := ["internal/abi.NoEscape", "internal/bytealg.MakeNoZero"], unfollowed := true, recurses := true, apart := false }
def GreetMeetsSaid : Prop := greetMeetsRow.holds Tryz.pinned (OpenSpec.ofChange greetMeetsSpec)

/-- ITS FALSE NEIGHBOUR: 'it returns false'. Refute it at one input. -/
def greetMeetsWrong : ChangeSpec := { name := "greetMeets", fn := fun _ => fun
  | [d1, d2, d3] => { results := [.lit (.bool false)], args := [d1, d2, d3] }
  | _ => none }
def GreetMeetsWrongFalsely : Prop := greetMeetsRow.holds Tryz.pinned (OpenSpec.ofChange greetMeetsWrong)

/-- 'tannoylaw33.GreetParts': WHATEVER THE INPUT: true; the input reads as it did. -/
def greetPartsSpec : ChangeSpec := { name := "greetParts", fn := fun _ => fun
  | [d1, d2, d3] => { results := [.lit (.bool true)], args := [d1, d2, d3] }
  | _ => none }
def greetPartsRow : OpenClaim := { program := "ytifhjhbfhdcahaagreat", sum := "f39e9c129e31dcb5b8005b2a89b37c1f955bff977d4d683a57bcd74a767ac7c7", func := "tannoy/tannoylaw33.GreetParts", spec := "greetParts", inPlace := ["internal/abi.NoEscape", "internal/bytealg.MakeNoZero"], unfollowed := true, recurses := true, apart := false }
def GreetPartsSaid : Prop := greetPartsRow.holds Tryz.pinned (OpenSpec.ofChange greetPartsSpec)

/-- ITS FALSE NEIGHBOUR: 'it returns false'. Refute it at one input. -/
def greetPartsWrong : ChangeSpec := { name := "greetParts", fn := fun _ => fun
  | [d1, d2, d3] => { results := [.lit (.bool false)], args := [d1, d2, d3] }
  | _ => none }
def GreetPartsWrongFalsely : Prop := greetPartsRow.holds Tryz.pinned (OpenSpec.ofChange greetPartsWrong)

/-- 'tannoylaw33.GreetTries': WHATEVER THE INPUT: true; the input reads as it did. -/
def greetTriesSpec : ChangeSpec := { name := "greetTries", fn := fun _ => fun
  | [d1, d2] => { results := [.lit (.bool true)], args := [d1, d2] }
  | _ => none }
def greetTriesRow : OpenClaim := { program := "ytifhjhbfhdcahaagreat", sum := "f39e9c129e31dcb5b8005b2a89b37c1f955bff977d4d683a57bcd74a767ac7c7", func := "tannoy/tannoylaw33.GreetTries", spec := "greetTries", inPlace := ["internal/abi.NoEscape", "internal/bytealg.MakeNoZero"], unfollowed := true, recurses := true, apart := false }
def GreetTriesSaid : Prop := greetTriesRow.holds Tryz.pinned (OpenSpec.ofChange greetTriesSpec)

/-- ITS FALSE NEIGHBOUR: 'it returns false'. Refute it at one input. -/
def greetTriesWrong : ChangeSpec := { name := "greetTries", fn := fun _ => fun
  | [d1, d2] => { results := [.lit (.bool false)], args := [d1, d2] }
  | _ => none }
def GreetTriesWrongFalsely : Prop := greetTriesRow.holds Tryz.pinned (OpenSpec.ofChange greetTriesWrong)

/-- 'tannoylaw33.GreetSteps': WHATEVER THE INPUT: true; the input reads as it did. -/
def greetStepsSpec : ChangeSpec := { name := "greetSteps", fn := fun _ => fun
  | [d1, d2, d3, d4, d5, d6, d7, d8] => { results := [.lit (.bool true)], args := [d1, d2, d3, d4, d5, d6, d7, d8] }
  | _ => none }
def greetStepsRow : OpenClaim := { program := "ytifhjhbfhdcahaagreat", sum := "f39e9c129e31dcb5b8005b2a89b37c1f955bff977d4d683a57bcd74a767ac7c7", func := "tannoy/tannoylaw33.GreetSteps", spec := "greetSteps", inPlace := ["internal/abi.NoEscape", "internal/bytealg.MakeNoZero", "math/bits.Add64"], unfollowed := true, recurses := true, apart := false }
def GreetStepsSaid : Prop := greetStepsRow.holds Tryz.pinned (OpenSpec.ofChange greetStepsSpec)

/-- ITS FALSE NEIGHBOUR: 'it returns false'. Refute it at one input. -/
def greetStepsWrong : ChangeSpec := { name := "greetSteps", fn := fun _ => fun
  | [d1, d2, d3, d4, d5, d6, d7, d8] => { results := [.lit (.bool false)], args := [d1, d2, d3, d4, d5, d6, d7, d8] }
  | _ => none }
def GreetStepsWrongFalsely : Prop := greetStepsRow.holds Tryz.pinned (OpenSpec.ofChange greetStepsWrong)

/-- 'tannoylaw33.GreetKeeps': WHATEVER THE INPUT: true; the input reads as it did. -/
def greetKeepsSpec : ChangeSpec := { name := "greetKeeps", fn := fun _ => fun
  | [d1, d2, d3, d4] => { results := [.lit (.bool true)], args := [d1, d2, d3, d4] }
  | _ => none }
def greetKeepsRow : OpenClaim := { program := "ytifhjhbfhdcahaagreat", sum := "f39e9c129e31dcb5b8005b2a89b37c1f955bff977d4d683a57bcd74a767ac7c7", func := "tannoy/tannoylaw33.GreetKeeps", spec := "greetKeeps", inPlace := ["internal/abi.NoEscape", "internal/bytealg.MakeNoZero"], unfollowed := true, recurses := true, apart := false }
def GreetKeepsSaid : Prop := greetKeepsRow.holds Tryz.pinned (OpenSpec.ofChange greetKeepsSpec)

/-- ITS FALSE NEIGHBOUR: 'it returns false'. Refute it at one input. -/
def greetKeepsWrong : ChangeSpec := { name := "greetKeeps", fn := fun _ => fun
  | [d1, d2, d3, d4] => { results := [.lit (.bool false)], args := [d1, d2, d3, d4] }
  | _ => none }
def GreetKeepsWrongFalsely : Prop := greetKeepsRow.holds Tryz.pinned (OpenSpec.ofChange greetKeepsWrong)

/-- 'tannoylaw33.GreetKnown': WHATEVER THE INPUT: true; the input reads as it did. -/
def greetKnownSpec : ChangeSpec := { name := "greetKnown", fn := fun _ => fun
  | [] => { results := [.lit (.bool true)], args := [] }
  | _ => none }
def greetKnownRow : OpenClaim := { program := "ytifhjhbfhdcahaagreat", sum := "f39e9c129e31dcb5b8005b2a89b37c1f955bff977d4d683a57bcd74a767ac7c7", func := "tannoy/tannoylaw33.GreetKnown", spec := "greetKnown", inPlace := ["internal/abi.NoEscape", "internal/bytealg.MakeNoZero"], unfollowed := true, recurses := true, apart := false }
def GreetKnownSaid : Prop := greetKnownRow.holds Tryz.pinned (OpenSpec.ofChange greetKnownSpec)

/-- ITS FALSE NEIGHBOUR: 'it returns false'. Refute it at one input. -/
def greetKnownWrong : ChangeSpec := { name := "greetKnown", fn := fun _ => fun
  | [] => { results := [.lit (.bool false)], args := [] }
  | _ => none }
def GreetKnownWrongFalsely : Prop := greetKnownRow.holds Tryz.pinned (OpenSpec.ofChange greetKnownWrong)

/-- 'tannoylaw33.GreetChecks': WHATEVER THE INPUT: true; the input reads as it did. -/
def greetChecksSpec : ChangeSpec := { name := "greetChecks", fn := fun _ => fun
  | [d1, d2, d3, d4, d5, d6, d7, d8, d9, d10] => { results := [.lit (.bool true)], args := [d1, d2, d3, d4, d5, d6, d7, d8, d9, d10] }
  | _ => none }
def greetChecksRow : OpenClaim := { program := "ytifhjhbfhdcahaagreat", sum := "f39e9c129e31dcb5b8005b2a89b37c1f955bff977d4d683a57bcd74a767ac7c7", func := "tannoy/tannoylaw33.GreetChecks", spec := "greetChecks", inPlace := ["internal/abi.NoEscape", "internal/bytealg.MakeNoZero", "math/bits.Add64"], unfollowed := true, recurses := true, apart := false }
def GreetChecksSaid : Prop := greetChecksRow.holds Tryz.pinned (OpenSpec.ofChange greetChecksSpec)

/-- ITS FALSE NEIGHBOUR: 'it returns false'. Refute it at one input. -/
def greetChecksWrong : ChangeSpec := { name := "greetChecks", fn := fun _ => fun
  | [d1, d2, d3, d4, d5, d6, d7, d8, d9, d10] => { results := [.lit (.bool false)], args := [d1, d2, d3, d4, d5, d6, d7, d8, d9, d10] }
  | _ => none }
def GreetChecksWrongFalsely : Prop := greetChecksRow.holds Tryz.pinned (OpenSpec.ofChange greetChecksWrong)

/- THE SECOND FORM. 'bulk': how many values and letters a reading holds, each counted each time it is reached (what is shared counts as often as it is met; a slice's spare places count too). A statement '..UptoSaid' is the law's where the arguments, and the package variables that the reading takes, are together of bulk at most 1048576: NARROWER than '..Said'. Prove '..Said' where nothing that the law and all that it calls make is longer than what came in: it says more and counts as full. Else prove '..UptoSaid'. A law counts once. -/
mutual
def uptoBulk {H : Type} : DataW H → Nat
  | .lit (.string bytes) => bytes.length + 1
  | .lit _ => 1
  | .nil => 1
  | .ptr d => uptoBulk d + 1
  | .slice elems spare => uptoBulkAll elems + uptoBulkAll spare + 1
  | .agg parts => uptoBulkAll parts + 1
  | .iface _ d => uptoBulk d + 1
  | .map entries => uptoBulkEntries entries + 1
  | .held _ => 1
def uptoBulkAll {H : Type} : List (DataW H) → Nat
  | [] => 0
  | d :: r => uptoBulk d + uptoBulkAll r
def uptoBulkEntries {H : Type} : List (Lit × DataW H) → Nat
  | [] => 0
  | x :: r => uptoBulkEntry x + uptoBulkEntries r
def uptoBulkEntry {H : Type} : Lit × DataW H → Nat
  | (.string bytes, d) => bytes.length + uptoBulk d + 1
  | (_, d) => uptoBulk d + 1
 end
def uptoSmall : (H : Type) → List (DataW H) → Bool := fun _ ds => decide (uptoBulkAll ds ≤ 1048576)
def OpenSpec.upto (s : _root_.Go.ChangeSpec) : _root_.Go.OpenSpec := { _root_.Go.OpenSpec.ofChange s with cond := some uptoSmall }

/-- 'tannoylaw33.GreetMeets', WHERE WHAT IT READS IS OF BULK AT MOST 1048576: true; the input reads as it did. -/
def greetMeetsUptoRow : OpenClaim := { program := "ytifhjhbfhdcahaagreat", sum := "f39e9c129e31dcb5b8005b2a89b37c1f955bff977d4d683a57bcd74a767ac7c7", func := "tannoy/tannoylaw33.GreetMeets", spec := "greetMeets", inPlace := ["internal/abi.NoEscape", "internal/bytealg.MakeNoZero"], unfollowed := true, recurses := true, apart := false, narrowed := true }
def GreetMeetsUptoSaid : Prop := greetMeetsUptoRow.holds Tryz.pinned (OpenSpec.upto greetMeetsSpec)

/-- 'tannoylaw33.GreetParts', WHERE WHAT IT READS IS OF BULK AT MOST 1048576: true; the input reads as it did. -/
def greetPartsUptoRow : OpenClaim := { program := "ytifhjhbfhdcahaagreat", sum := "f39e9c129e31dcb5b8005b2a89b37c1f955bff977d4d683a57bcd74a767ac7c7", func := "tannoy/tannoylaw33.GreetParts", spec := "greetParts", inPlace := ["internal/abi.NoEscape", "internal/bytealg.MakeNoZero"], unfollowed := true, recurses := true, apart := false, narrowed := true }
def GreetPartsUptoSaid : Prop := greetPartsUptoRow.holds Tryz.pinned (OpenSpec.upto greetPartsSpec)

/-- 'tannoylaw33.GreetTries', WHERE WHAT IT READS IS OF BULK AT MOST 1048576: true; the input reads as it did. -/
def greetTriesUptoRow : OpenClaim := { program := "ytifhjhbfhdcahaagreat", sum := "f39e9c129e31dcb5b8005b2a89b37c1f955bff977d4d683a57bcd74a767ac7c7", func := "tannoy/tannoylaw33.GreetTries", spec := "greetTries", inPlace := ["internal/abi.NoEscape", "internal/bytealg.MakeNoZero"], unfollowed := true, recurses := true, apart := false, narrowed := true }
def GreetTriesUptoSaid : Prop := greetTriesUptoRow.holds Tryz.pinned (OpenSpec.upto greetTriesSpec)

/-- 'tannoylaw33.GreetSteps', WHERE WHAT IT READS IS OF BULK AT MOST 1048576: true; the input reads as it did. -/
def greetStepsUptoRow : OpenClaim := { program := "ytifhjhbfhdcahaagreat", sum := "f39e9c129e31dcb5b8005b2a89b37c1f955bff977d4d683a57bcd74a767ac7c7", func := "tannoy/tannoylaw33.GreetSteps", spec := "greetSteps", inPlace := ["internal/abi.NoEscape", "internal/bytealg.MakeNoZero", "math/bits.Add64"], unfollowed := true, recurses := true, apart := false, narrowed := true }
def GreetStepsUptoSaid : Prop := greetStepsUptoRow.holds Tryz.pinned (OpenSpec.upto greetStepsSpec)

/-- 'tannoylaw33.GreetKeeps', WHERE WHAT IT READS IS OF BULK AT MOST 1048576: true; the input reads as it did. -/
def greetKeepsUptoRow : OpenClaim := { program := "ytifhjhbfhdcahaagreat", sum := "f39e9c129e31dcb5b8005b2a89b37c1f955bff977d4d683a57bcd74a767ac7c7", func := "tannoy/tannoylaw33.GreetKeeps", spec := "greetKeeps", inPlace := ["internal/abi.NoEscape", "internal/bytealg.MakeNoZero"], unfollowed := true, recurses := true, apart := false, narrowed := true }
def GreetKeepsUptoSaid : Prop := greetKeepsUptoRow.holds Tryz.pinned (OpenSpec.upto greetKeepsSpec)

/-- 'tannoylaw33.GreetKnown', WHERE WHAT IT READS IS OF BULK AT MOST 1048576: true; the input reads as it did. -/
def greetKnownUptoRow : OpenClaim := { program := "ytifhjhbfhdcahaagreat", sum := "f39e9c129e31dcb5b8005b2a89b37c1f955bff977d4d683a57bcd74a767ac7c7", func := "tannoy/tannoylaw33.GreetKnown", spec := "greetKnown", inPlace := ["internal/abi.NoEscape", "internal/bytealg.MakeNoZero"], unfollowed := true, recurses := true, apart := false, narrowed := true }
def GreetKnownUptoSaid : Prop := greetKnownUptoRow.holds Tryz.pinned (OpenSpec.upto greetKnownSpec)

/-- 'tannoylaw33.GreetChecks', WHERE WHAT IT READS IS OF BULK AT MOST 1048576: true; the input reads as it did. -/
def greetChecksUptoRow : OpenClaim := { program := "ytifhjhbfhdcahaagreat", sum := "f39e9c129e31dcb5b8005b2a89b37c1f955bff977d4d683a57bcd74a767ac7c7", func := "tannoy/tannoylaw33.GreetChecks", spec := "greetChecks", inPlace := ["internal/abi.NoEscape", "internal/bytealg.MakeNoZero", "math/bits.Add64"], unfollowed := true, recurses := true, apart := false, narrowed := true }
def GreetChecksUptoSaid : Prop := greetChecksUptoRow.holds Tryz.pinned (OpenSpec.upto greetChecksSpec)

end Rows
end Go.Proofs.YtifhjhbfhdcahaaGreat
