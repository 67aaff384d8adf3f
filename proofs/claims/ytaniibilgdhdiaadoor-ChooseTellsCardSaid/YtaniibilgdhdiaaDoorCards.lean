/-
  DERIVED. GIVEN WITH THE SEED: THE CARDS: each row of YtaniibilgdhdiaaDoorRows.lean that lists a variable, with what it lists TIED to the program's text (the seventh form; the later family's looks); each row that meets fmt, with fmt's text TOLD by the authors' own Lean function (tested against real Go, not proved from fmt's source: count such statements apart). THE CARD IS WHAT COUNTS. Prove the row's statement (the work); the ties are given (YtaniibilgdhdiaaDoorTie.lean); close each card by the builder's one call (the guide's Derived/Test/ToyasCard.lean, 'card_holds'). Laid BY PROGRAM, IN A SANDBOX (cutbox-door.mjs). By AI agents, Wed Nov 11 2026. No macro, syntax, notation, axiom, sorry.
-/
import Derived.Test.YtaniibilgdhdiaaDoorRows
import GoSem.ClaimSeven
namespace Go.Proofs.YtaniibilgdhdiaaDoor
namespace Rows

/-- THE TIED CARD OF 'consulatelaw21.ChooseTotal'. -/
def chooseTotalCard : Claim7 := { stood := { row := chooseTotalRow, standIns := [], harness := (true, "b39718fccd0a7ed40aa55a3cf94d23e610920d4fba7c128e8c9084e954c169fd"), looks := false }, kinds := [], alts := [], laidByText := true, laidKinds := [.data], laidTests := true, laidLooks := .later }
def ChooseTotalCardSaid : Prop := Claim7.holds Tryd.pinned (.plain (OpenSpec.ofChange chooseTotalSpec)) chooseTotalCard

/-- THE TIED CARD OF 'consulatelaw21.ChooseKnown'. -/
def chooseKnownCard : Claim7 := { stood := { row := chooseKnownRow, standIns := [], harness := (true, "b39718fccd0a7ed40aa55a3cf94d23e610920d4fba7c128e8c9084e954c169fd"), looks := false }, kinds := [], alts := [], laidByText := true, laidKinds := [.data], laidTests := true, laidLooks := .later }
def ChooseKnownCardSaid : Prop := Claim7.holds Tryd.pinned (.plain (OpenSpec.ofChange chooseKnownSpec)) chooseKnownCard

/-- THE TIED CARD OF 'consulatelaw21.ChooseTells'. -/
def chooseTellsCard : Claim7 := { stood := { row := chooseTellsRow, standIns := [], harness := (true, "b39718fccd0a7ed40aa55a3cf94d23e610920d4fba7c128e8c9084e954c169fd"), looks := false }, kinds := [], alts := [], laidByText := true, laidKinds := [.data], laidTests := true, laidLooks := .later }
def ChooseTellsCardSaid : Prop := Claim7.holds Tryd.pinned (.plain (OpenSpec.ofChange chooseTellsSpec)) chooseTellsCard

/-- THE SECOND FORM's CARD OF 'consulatelaw21.ChooseTotal'. -/
def chooseTotalUptoCard : Claim7 := { stood := { row := chooseTotalUptoRow, standIns := [], harness := (true, "b39718fccd0a7ed40aa55a3cf94d23e610920d4fba7c128e8c9084e954c169fd"), looks := false }, kinds := [], alts := [], laidByText := true, laidKinds := [.data], laidTests := true, laidLooks := .later }
def ChooseTotalUptoCardSaid : Prop := Claim7.holds Tryd.pinned (.plain (OpenSpec.upto chooseTotalSpec)) chooseTotalUptoCard

/-- THE SECOND FORM's CARD OF 'consulatelaw21.ChooseKnown'. -/
def chooseKnownUptoCard : Claim7 := { stood := { row := chooseKnownUptoRow, standIns := [], harness := (true, "b39718fccd0a7ed40aa55a3cf94d23e610920d4fba7c128e8c9084e954c169fd"), looks := false }, kinds := [], alts := [], laidByText := true, laidKinds := [.data], laidTests := true, laidLooks := .later }
def ChooseKnownUptoCardSaid : Prop := Claim7.holds Tryd.pinned (.plain (OpenSpec.upto chooseKnownSpec)) chooseKnownUptoCard

/-- THE SECOND FORM's CARD OF 'consulatelaw21.ChooseTells'. -/
def chooseTellsUptoCard : Claim7 := { stood := { row := chooseTellsUptoRow, standIns := [], harness := (true, "b39718fccd0a7ed40aa55a3cf94d23e610920d4fba7c128e8c9084e954c169fd"), looks := false }, kinds := [], alts := [], laidByText := true, laidKinds := [.data], laidTests := true, laidLooks := .later }
def ChooseTellsUptoCardSaid : Prop := Claim7.holds Tryd.pinned (.plain (OpenSpec.upto chooseTellsSpec)) chooseTellsUptoCard
end Rows
end Go.Proofs.YtaniibilgdhdiaaDoor
