/-
  DERIVED. GIVEN WITH THE SEED: THE PROGRAM's TIES (one call each: nine closed facts by the kernel) AND EACH ROW's TIE, after the 31st guide's Derived/Test/Toyas{Tie, Card}.lean. No idea stands in it: it is a product of the set-up. Laid BY PROGRAM, IN A SANDBOX (cutbox-door.mjs). By AI agents, Wed Nov 11 2026. No macro, syntax, notation, axiom, sorry.
-/
import Derived.Test.YtpfbpcaehmhefaaDoorRows
import Derived.LaidByTextLater
import Derived.SevenTiedAt
import Derived.LaidSub
import Derived.LaidOnce
namespace Go.Proofs.YtpfbpcaehmhefaaDoor
open Go
set_option maxRecDepth 100000
theorem seatTie1 : Tryd.prog.laidByTextLater [("consulate/caps.unicast", Rows.laid_consulate_caps_unicast), ("consulate/number.spans", Rows.laid_consulate_number_spans), ("consulate/peer.texts", Rows.laid_consulate_peer_texts)] [.widerDeep, .data, .data] true :=
  Program.laidByTextLater_by_one 31 8 22 (by kernel_rfl) (by kernel_rfl) (by kernel_rfl) (by kernel_rfl) (by kernel_rfl) (by kernel_rfl) (fun _ _ => by kernel_rfl)
theorem noOwnUnsafe : Tryd.pinned.checked.prog.headLifts.contains "ownunsafe" = false := by kernel_rfl
theorem tie : Tryd.prog.laidByTextLater [("consulate/number.spans", Rows.laid_consulate_number_spans)] [.data] true :=
  Program.laidByTextLater.sub seatTie1 ["consulate/number.spans"] (by kernel_rfl) (by kernel_rfl)
theorem peerAgrees_row_tie : Rows.peerAgreesRow.laidByTextAt .later Tryd.pinned [.data] true :=
  OpenClaim.laidByTextAt_later rfl rfl tie noOwnUnsafe
theorem peerClass_row_tie : Rows.peerClassRow.laidByTextAt .later Tryd.pinned [.data] true :=
  OpenClaim.laidByTextAt_later rfl rfl tie noOwnUnsafe
theorem tie2 : Tryd.prog.laidByTextLater [("consulate/caps.unicast", Rows.laid_consulate_caps_unicast), ("consulate/number.spans", Rows.laid_consulate_number_spans), ("consulate/peer.texts", Rows.laid_consulate_peer_texts)] [.widerDeep, .data, .data] true :=
  Program.laidByTextLater.sub seatTie1 ["consulate/caps.unicast", "consulate/number.spans", "consulate/peer.texts"] (by kernel_rfl) (by kernel_rfl)
theorem peerKnown_row_tie : Rows.peerKnownRow.laidByTextAt .later Tryd.pinned [.widerDeep, .data, .data] true :=
  OpenClaim.laidByTextAt_later rfl rfl tie2 noOwnUnsafe
theorem peerTells_row_tie : Rows.peerTellsRow.laidByTextAt .later Tryd.pinned [.widerDeep, .data, .data] true :=
  OpenClaim.laidByTextAt_later rfl rfl tie2 noOwnUnsafe
theorem tie3 : Tryd.prog.laidByTextLater [("consulate/caps.unicast", Rows.laid_consulate_caps_unicast), ("consulate/number.spans", Rows.laid_consulate_number_spans)] [.widerDeep, .data] true :=
  Program.laidByTextLater.sub seatTie1 ["consulate/caps.unicast", "consulate/number.spans"] (by kernel_rfl) (by kernel_rfl)
theorem peerSides_row_tie : Rows.peerSidesRow.laidByTextAt .later Tryd.pinned [.widerDeep, .data] true :=
  OpenClaim.laidByTextAt_later rfl rfl tie3 noOwnUnsafe
theorem peerAgreesUpto_row_tie : Rows.peerAgreesUptoRow.laidByTextAt .later Tryd.pinned [.data] true :=
  OpenClaim.laidByTextAt_later rfl rfl tie noOwnUnsafe
theorem peerKnownUpto_row_tie : Rows.peerKnownUptoRow.laidByTextAt .later Tryd.pinned [.widerDeep, .data, .data] true :=
  OpenClaim.laidByTextAt_later rfl rfl tie2 noOwnUnsafe
theorem peerSidesUpto_row_tie : Rows.peerSidesUptoRow.laidByTextAt .later Tryd.pinned [.widerDeep, .data] true :=
  OpenClaim.laidByTextAt_later rfl rfl tie3 noOwnUnsafe
theorem peerClassUpto_row_tie : Rows.peerClassUptoRow.laidByTextAt .later Tryd.pinned [.data] true :=
  OpenClaim.laidByTextAt_later rfl rfl tie noOwnUnsafe
theorem peerTellsUpto_row_tie : Rows.peerTellsUptoRow.laidByTextAt .later Tryd.pinned [.widerDeep, .data, .data] true :=
  OpenClaim.laidByTextAt_later rfl rfl tie2 noOwnUnsafe
end Go.Proofs.YtpfbpcaehmhefaaDoor
