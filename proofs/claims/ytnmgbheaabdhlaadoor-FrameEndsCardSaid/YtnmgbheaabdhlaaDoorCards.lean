/-
  DERIVED. GIVEN WITH THE SEED: THE CARDS: each row of YtnmgbheaabdhlaaDoorRows.lean that lists a variable, with what it lists TIED to the program's text (the seventh form; the later family's looks); each row that meets fmt, with fmt's text TOLD by the authors' own Lean function (tested against real Go, not proved from fmt's source: count such statements apart). THE CARD IS WHAT COUNTS. Prove the row's statement (the work); the ties are given (YtnmgbheaabdhlaaDoorTie.lean); close each card by the builder's one call (the guide's Derived/Test/ToyasCard.lean, 'card_holds'). Laid BY PROGRAM, IN A SANDBOX (cutbox-door.mjs). By AI agents, Wed Nov 11 2026. No macro, syntax, notation, axiom, sorry.
-/
import Derived.Test.YtnmgbheaabdhlaaDoorRows
import GoSem.ClaimSeven
namespace Go.Proofs.YtnmgbheaabdhlaaDoor
namespace Rows

/-- THE TIED CARD OF 'consulatelaw03.FrameChunks'. -/
def frameChunksCard : Claim7 := { stood := { row := frameChunksRow, standIns := [], harness := (true, "5664ac3fd6ed4a538fe51796015234662b8d96b1e89e47068cdebeb5b5006bb5"), looks := false }, kinds := [], alts := [], laidByText := true, laidKinds := [.data], laidTests := true, laidLooks := .later }
def FrameChunksCardSaid : Prop := Claim7.holds Tryd.pinned (.plain (OpenSpec.ofChange frameChunksSpec)) frameChunksCard

/-- THE TIED CARD OF 'consulatelaw03.FrameEnds'. -/
def frameEndsCard : Claim7 := { stood := { row := frameEndsRow, standIns := [], harness := (true, "5664ac3fd6ed4a538fe51796015234662b8d96b1e89e47068cdebeb5b5006bb5"), looks := false }, kinds := [], alts := [], laidByText := true, laidKinds := [.data], laidTests := true, laidLooks := .later }
def FrameEndsCardSaid : Prop := Claim7.holds Tryd.pinned (.plain (OpenSpec.ofChange frameEndsSpec)) frameEndsCard

/-- THE TIED CARD OF 'consulatelaw03.FrameFeeds'. -/
def frameFeedsCard : Claim7 := { stood := { row := frameFeedsRow, standIns := [], harness := (true, "5664ac3fd6ed4a538fe51796015234662b8d96b1e89e47068cdebeb5b5006bb5"), looks := false }, kinds := [], alts := [], laidByText := true, laidKinds := [.data], laidTests := true, laidLooks := .later }
def FrameFeedsCardSaid : Prop := Claim7.holds Tryd.pinned (.plain (OpenSpec.ofChange frameFeedsSpec)) frameFeedsCard

/-- THE TIED CARD OF 'consulatelaw03.FrameLays'. -/
def frameLaysCard : Claim7 := { stood := { row := frameLaysRow, standIns := [], harness := (true, "5664ac3fd6ed4a538fe51796015234662b8d96b1e89e47068cdebeb5b5006bb5"), looks := false }, kinds := [], alts := [], laidByText := true, laidKinds := [.data], laidTests := true, laidLooks := .later }
def FrameLaysCardSaid : Prop := Claim7.holds Tryd.pinned (.plain (OpenSpec.ofChange frameLaysSpec)) frameLaysCard

/-- THE TIED CARD OF 'consulatelaw03.FrameKnown'. -/
def frameKnownCard : Claim7 := { stood := { row := frameKnownRow, standIns := [], harness := (true, "5664ac3fd6ed4a538fe51796015234662b8d96b1e89e47068cdebeb5b5006bb5"), looks := false }, kinds := [], alts := [], laidByText := true, laidKinds := [.data], laidTests := true, laidLooks := .later }
def FrameKnownCardSaid : Prop := Claim7.holds Tryd.pinned (.plain (OpenSpec.ofChange frameKnownSpec)) frameKnownCard

/-- THE TIED CARD OF 'consulatelaw03.FrameBack'. -/
def frameBackCard : Claim7 := { stood := { row := frameBackRow, standIns := [], harness := (true, "5664ac3fd6ed4a538fe51796015234662b8d96b1e89e47068cdebeb5b5006bb5"), looks := false }, kinds := [], alts := [], laidByText := true, laidKinds := [.data], laidTests := true, laidLooks := .later }
def FrameBackCardSaid : Prop := Claim7.holds Tryd.pinned (.plain (OpenSpec.ofChange frameBackSpec)) frameBackCard

/-- THE SECOND FORM's CARD OF 'consulatelaw03.FrameChunks'. -/
def frameChunksUptoCard : Claim7 := { stood := { row := frameChunksUptoRow, standIns := [], harness := (true, "5664ac3fd6ed4a538fe51796015234662b8d96b1e89e47068cdebeb5b5006bb5"), looks := false }, kinds := [], alts := [], laidByText := true, laidKinds := [.data], laidTests := true, laidLooks := .later }
def FrameChunksUptoCardSaid : Prop := Claim7.holds Tryd.pinned (.plain (OpenSpec.upto frameChunksSpec)) frameChunksUptoCard

/-- THE SECOND FORM's CARD OF 'consulatelaw03.FrameEnds'. -/
def frameEndsUptoCard : Claim7 := { stood := { row := frameEndsUptoRow, standIns := [], harness := (true, "5664ac3fd6ed4a538fe51796015234662b8d96b1e89e47068cdebeb5b5006bb5"), looks := false }, kinds := [], alts := [], laidByText := true, laidKinds := [.data], laidTests := true, laidLooks := .later }
def FrameEndsUptoCardSaid : Prop := Claim7.holds Tryd.pinned (.plain (OpenSpec.upto frameEndsSpec)) frameEndsUptoCard

/-- THE SECOND FORM's CARD OF 'consulatelaw03.FrameFeeds'. -/
def frameFeedsUptoCard : Claim7 := { stood := { row := frameFeedsUptoRow, standIns := [], harness := (true, "5664ac3fd6ed4a538fe51796015234662b8d96b1e89e47068cdebeb5b5006bb5"), looks := false }, kinds := [], alts := [], laidByText := true, laidKinds := [.data], laidTests := true, laidLooks := .later }
def FrameFeedsUptoCardSaid : Prop := Claim7.holds Tryd.pinned (.plain (OpenSpec.upto frameFeedsSpec)) frameFeedsUptoCard

/-- THE SECOND FORM's CARD OF 'consulatelaw03.FrameLays'. -/
def frameLaysUptoCard : Claim7 := { stood := { row := frameLaysUptoRow, standIns := [], harness := (true, "5664ac3fd6ed4a538fe51796015234662b8d96b1e89e47068cdebeb5b5006bb5"), looks := false }, kinds := [], alts := [], laidByText := true, laidKinds := [.data], laidTests := true, laidLooks := .later }
def FrameLaysUptoCardSaid : Prop := Claim7.holds Tryd.pinned (.plain (OpenSpec.upto frameLaysSpec)) frameLaysUptoCard

/-- THE SECOND FORM's CARD OF 'consulatelaw03.FrameKnown'. -/
def frameKnownUptoCard : Claim7 := { stood := { row := frameKnownUptoRow, standIns := [], harness := (true, "5664ac3fd6ed4a538fe51796015234662b8d96b1e89e47068cdebeb5b5006bb5"), looks := false }, kinds := [], alts := [], laidByText := true, laidKinds := [.data], laidTests := true, laidLooks := .later }
def FrameKnownUptoCardSaid : Prop := Claim7.holds Tryd.pinned (.plain (OpenSpec.upto frameKnownSpec)) frameKnownUptoCard

/-- THE SECOND FORM's CARD OF 'consulatelaw03.FrameBack'. -/
def frameBackUptoCard : Claim7 := { stood := { row := frameBackUptoRow, standIns := [], harness := (true, "5664ac3fd6ed4a538fe51796015234662b8d96b1e89e47068cdebeb5b5006bb5"), looks := false }, kinds := [], alts := [], laidByText := true, laidKinds := [.data], laidTests := true, laidLooks := .later }
def FrameBackUptoCardSaid : Prop := Claim7.holds Tryd.pinned (.plain (OpenSpec.upto frameBackSpec)) frameBackUptoCard
end Rows
end Go.Proofs.YtnmgbheaabdhlaaDoor
