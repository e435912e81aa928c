/-
  DERIVED. GIVEN WITH THE SEED: THE CARDS: each row of YtaacfnngodhecaaGreatDoorRows.lean that lists a variable, with what it lists TIED to the program's text (the seventh form; the later family's looks); each row that meets fmt, with fmt's text TOLD by the authors' own Lean function (tested against real Go, not proved from fmt's source: count such statements apart). THE CARD IS WHAT COUNTS. Prove the row's statement (the work); the ties are given (YtaacfnngodhecaaGreatDoorTie.lean); close each card by the builder's one call (the guide's Derived/Test/ToyasCard.lean, 'card_holds'). Laid BY PROGRAM, IN A SANDBOX (cutbox-door.mjs). By AI agents, Wed Nov 11 2026. No macro, syntax, notation, axiom, sorry.
-/
import Derived.Test.YtaacfnngodhecaaGreatDoorRows
import GoSem.ClaimSeven
namespace Go.Proofs.YtaacfnngodhecaaGreatDoor
namespace Rows

/-- THE TIED CARD OF 'tannoylaw32.ChunkPackets'. -/
def chunkPacketsCard : Claim7 := { stood := { row := chunkPacketsRow, standIns := [], harness := (true, "102b59b2478a4246669fa94a1afd9b08f71bb2222198bd3684d1f2344aa2ee43"), looks := true }, kinds := [], alts := [], laidByText := true, laidKinds := [.data, .pinned], laidTests := true, laidLooks := .later }
def ChunkPacketsCardSaid : Prop := Claim7.holds Tryz.pinned (.plain (OpenSpec.ofChange chunkPacketsSpec)) chunkPacketsCard

/-- THE TIED CARD OF 'tannoylaw32.ChunkPuts'. -/
def chunkPutsCard : Claim7 := { stood := { row := chunkPutsRow, standIns := [], harness := (true, "102b59b2478a4246669fa94a1afd9b08f71bb2222198bd3684d1f2344aa2ee43"), looks := true }, kinds := [], alts := [], laidByText := true, laidKinds := [.data, .pinned], laidTests := true, laidLooks := .later }
def ChunkPutsCardSaid : Prop := Claim7.holds Tryz.pinned (.plain (OpenSpec.ofChange chunkPutsSpec)) chunkPutsCard

/-- THE TIED CARD OF 'tannoylaw32.ChunkFlips'. -/
def chunkFlipsCard : Claim7 := { stood := { row := chunkFlipsRow, standIns := [], harness := (true, "102b59b2478a4246669fa94a1afd9b08f71bb2222198bd3684d1f2344aa2ee43"), looks := true }, kinds := [], alts := [], laidByText := true, laidKinds := [.data, .pinned], laidTests := true, laidLooks := .later }
def ChunkFlipsCardSaid : Prop := Claim7.holds Tryz.pinned (.plain (OpenSpec.ofChange chunkFlipsSpec)) chunkFlipsCard

/-- THE TIED CARD OF 'tannoylaw32.ChunkGets'. -/
def chunkGetsCard : Claim7 := { stood := { row := chunkGetsRow, standIns := [], harness := (true, "102b59b2478a4246669fa94a1afd9b08f71bb2222198bd3684d1f2344aa2ee43"), looks := true }, kinds := [], alts := [], laidByText := true, laidKinds := [.data, .pinned], laidTests := true, laidLooks := .later }
def ChunkGetsCardSaid : Prop := Claim7.holds Tryz.pinned (.plain (OpenSpec.ofChange chunkGetsSpec)) chunkGetsCard

/-- THE TIED CARD OF 'tannoylaw32.ChunkBack'. -/
def chunkBackCard : Claim7 := { stood := { row := chunkBackRow, standIns := [], harness := (true, "102b59b2478a4246669fa94a1afd9b08f71bb2222198bd3684d1f2344aa2ee43"), looks := true }, kinds := [], alts := [], laidByText := true, laidKinds := [.data, .pinned], laidTests := true, laidLooks := .later }
def ChunkBackCardSaid : Prop := Claim7.holds Tryz.pinned (.plain (OpenSpec.ofChange chunkBackSpec)) chunkBackCard

/-- THE TIED CARD OF 'tannoylaw32.ChunkGot'. -/
def chunkGotCard : Claim7 := { stood := { row := chunkGotRow, standIns := [], harness := (true, "102b59b2478a4246669fa94a1afd9b08f71bb2222198bd3684d1f2344aa2ee43"), looks := true }, kinds := [], alts := [], laidByText := true, laidKinds := [.data, .pinned], laidTests := true, laidLooks := .later }
def ChunkGotCardSaid : Prop := Claim7.holds Tryz.pinned (.plain (OpenSpec.ofChange chunkGotSpec)) chunkGotCard

/-- THE TIED CARD OF 'tannoylaw32.ChunkKnown'. -/
def chunkKnownCard : Claim7 := { stood := { row := chunkKnownRow, standIns := [], harness := (true, "102b59b2478a4246669fa94a1afd9b08f71bb2222198bd3684d1f2344aa2ee43"), looks := true }, kinds := [], alts := [], laidByText := true, laidKinds := [.data, .pinned], laidTests := true, laidLooks := .later }
def ChunkKnownCardSaid : Prop := Claim7.holds Tryz.pinned (.plain (OpenSpec.ofChange chunkKnownSpec)) chunkKnownCard

/-- THE SECOND FORM's CARD OF 'tannoylaw32.ChunkPackets'. -/
def chunkPacketsUptoCard : Claim7 := { stood := { row := chunkPacketsUptoRow, standIns := [], harness := (true, "102b59b2478a4246669fa94a1afd9b08f71bb2222198bd3684d1f2344aa2ee43"), looks := true }, kinds := [], alts := [], laidByText := true, laidKinds := [.data, .pinned], laidTests := true, laidLooks := .later }
def ChunkPacketsUptoCardSaid : Prop := Claim7.holds Tryz.pinned (.plain (OpenSpec.upto chunkPacketsSpec)) chunkPacketsUptoCard

/-- THE SECOND FORM's CARD OF 'tannoylaw32.ChunkPuts'. -/
def chunkPutsUptoCard : Claim7 := { stood := { row := chunkPutsUptoRow, standIns := [], harness := (true, "102b59b2478a4246669fa94a1afd9b08f71bb2222198bd3684d1f2344aa2ee43"), looks := true }, kinds := [], alts := [], laidByText := true, laidKinds := [.data, .pinned], laidTests := true, laidLooks := .later }
def ChunkPutsUptoCardSaid : Prop := Claim7.holds Tryz.pinned (.plain (OpenSpec.upto chunkPutsSpec)) chunkPutsUptoCard

/-- THE SECOND FORM's CARD OF 'tannoylaw32.ChunkFlips'. -/
def chunkFlipsUptoCard : Claim7 := { stood := { row := chunkFlipsUptoRow, standIns := [], harness := (true, "102b59b2478a4246669fa94a1afd9b08f71bb2222198bd3684d1f2344aa2ee43"), looks := true }, kinds := [], alts := [], laidByText := true, laidKinds := [.data, .pinned], laidTests := true, laidLooks := .later }
def ChunkFlipsUptoCardSaid : Prop := Claim7.holds Tryz.pinned (.plain (OpenSpec.upto chunkFlipsSpec)) chunkFlipsUptoCard

/-- THE SECOND FORM's CARD OF 'tannoylaw32.ChunkGets'. -/
def chunkGetsUptoCard : Claim7 := { stood := { row := chunkGetsUptoRow, standIns := [], harness := (true, "102b59b2478a4246669fa94a1afd9b08f71bb2222198bd3684d1f2344aa2ee43"), looks := true }, kinds := [], alts := [], laidByText := true, laidKinds := [.data, .pinned], laidTests := true, laidLooks := .later }
def ChunkGetsUptoCardSaid : Prop := Claim7.holds Tryz.pinned (.plain (OpenSpec.upto chunkGetsSpec)) chunkGetsUptoCard

/-- THE SECOND FORM's CARD OF 'tannoylaw32.ChunkBack'. -/
def chunkBackUptoCard : Claim7 := { stood := { row := chunkBackUptoRow, standIns := [], harness := (true, "102b59b2478a4246669fa94a1afd9b08f71bb2222198bd3684d1f2344aa2ee43"), looks := true }, kinds := [], alts := [], laidByText := true, laidKinds := [.data, .pinned], laidTests := true, laidLooks := .later }
def ChunkBackUptoCardSaid : Prop := Claim7.holds Tryz.pinned (.plain (OpenSpec.upto chunkBackSpec)) chunkBackUptoCard

/-- THE SECOND FORM's CARD OF 'tannoylaw32.ChunkGot'. -/
def chunkGotUptoCard : Claim7 := { stood := { row := chunkGotUptoRow, standIns := [], harness := (true, "102b59b2478a4246669fa94a1afd9b08f71bb2222198bd3684d1f2344aa2ee43"), looks := true }, kinds := [], alts := [], laidByText := true, laidKinds := [.data, .pinned], laidTests := true, laidLooks := .later }
def ChunkGotUptoCardSaid : Prop := Claim7.holds Tryz.pinned (.plain (OpenSpec.upto chunkGotSpec)) chunkGotUptoCard

/-- THE SECOND FORM's CARD OF 'tannoylaw32.ChunkKnown'. -/
def chunkKnownUptoCard : Claim7 := { stood := { row := chunkKnownUptoRow, standIns := [], harness := (true, "102b59b2478a4246669fa94a1afd9b08f71bb2222198bd3684d1f2344aa2ee43"), looks := true }, kinds := [], alts := [], laidByText := true, laidKinds := [.data, .pinned], laidTests := true, laidLooks := .later }
def ChunkKnownUptoCardSaid : Prop := Claim7.holds Tryz.pinned (.plain (OpenSpec.upto chunkKnownSpec)) chunkKnownUptoCard
end Rows
end Go.Proofs.YtaacfnngodhecaaGreatDoor
