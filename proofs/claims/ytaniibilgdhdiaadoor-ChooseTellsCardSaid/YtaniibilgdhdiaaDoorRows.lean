/-
  NARROWER THAN 'FOR EVERY INPUT', by the rows' own cells (each row's printed sentence says how): ChooseTotal: laid · ChooseKnown: laid · ChooseTells: laid.
  DERIVED. THE GIVEN ROWS OF THIS SEAT. 3 by the template 'for every input the law returns true; each argument reads behind the call as it read before'; 0 by the template 'total and deterministic' (their statements: YtaniibilgdhdiaaDoorTotals.lean).
  GIVEN WITH THE SEED: the statements are not yours to turn. If you find one false, say at which input.
  Laid BY PROGRAM, IN A SANDBOX (cutbox-rows.mjs): the forced cells as the released guide's own fill.sh prints them over the translation 697987b1a49fe8a9… (all of the seat's roots in one cut). By AI agents, Wed Nov 11 2026. No macro, syntax, notation, axiom, sorry.
-/
import Derived.Test.YtaniibilgdhdiaaDoorChecked
import GoSem.Claim
import GoSem.ClaimJoined
import GoSem.ClaimMapViews
import Derived.JoinedTies
import Derived.KernelRfl
namespace Go.Proofs.YtaniibilgdhdiaaDoor
/- THE CELL 'sum', in the pinned program and in every row, IS THE sha256 OF THE DUMP (.gsa) THAT YtaniibilgdhdiaaDoorProg.lean LOADS. Nothing in Lean hashes anything: it is a label: what it is worth is what the hold of that sum in a sandbox is worth. -/
noncomputable def Tryd.pinned : Pinned := { name := "ytaniibilgdhdiaadoor", sum := "697987b1a49fe8a9f7ab0e0b58c53dc2b6e6781216bf65e02d394ad94c5d8d9a", checked := Tryd.checked }
namespace Rows
def none {H : Type} : Left H := { results := [], args := [] }

/- WHAT THE LISTED PACKAGE-LEVEL VARIABLES READ AS WHEN THE CALL BEGINS. Each datum BY PROGRAM (the guide's laid-datum.mjs) off the statement by which the dump's own 'gosem.cut.vars' lays the variable. In a bare row this is a premise. The card (YtaniibilgdhdiaaDoorCards.lean) ties it to the program's text. -/
def laid_consulate_choose_texts {H : Type} : DataW H := .agg [.lit (.string []), .lit (.string [112, 114, 101, 102]), .lit (.string [108, 101, 110, 103, 116, 104]), .lit (.string [111, 114, 105, 103, 105, 110]), .lit (.string [109, 101, 100]), .lit (.string [99, 108, 97, 115, 115]), .lit (.string [99, 111, 115, 116]), .lit (.string [105, 100]), .lit (.string [112, 101, 101, 114])]

/-- 'consulatelaw21.ChooseTotal': WHATEVER THE INPUT: true; the input reads as it did. -/
def chooseTotalSpec : ChangeSpec := { name := "chooseTotal", fn := fun _ => fun
  | [d1, d2, d3] => { results := [.lit (.bool true)], args := [d1, d2, d3] }
  | _ => none }
def chooseTotalRow : OpenClaim := { program := "ytaniibilgdhdiaadoor", sum := "697987b1a49fe8a9f7ab0e0b58c53dc2b6e6781216bf65e02d394ad94c5d8d9a", func := "consulate/consulatelaw21.ChooseTotal", spec := "chooseTotal", unfollowed := true, recurses := true, named := ["consulate/choose.texts"], apart := false, laid := [("consulate/choose.texts", laid_consulate_choose_texts)] }
def ChooseTotalSaid : Prop := chooseTotalRow.holds Tryd.pinned (OpenSpec.ofChange chooseTotalSpec)

/-- ITS FALSE NEIGHBOUR: 'it returns false'. Refute it at one input. -/
def chooseTotalWrong : ChangeSpec := { name := "chooseTotal", fn := fun _ => fun
  | [d1, d2, d3] => { results := [.lit (.bool false)], args := [d1, d2, d3] }
  | _ => none }
def ChooseTotalWrongFalsely : Prop := chooseTotalRow.holds Tryd.pinned (OpenSpec.ofChange chooseTotalWrong)

/-- 'consulatelaw21.ChooseKnown': WHATEVER THE INPUT: true; the input reads as it did. -/
def chooseKnownSpec : ChangeSpec := { name := "chooseKnown", fn := fun _ => fun
  | [] => { results := [.lit (.bool true)], args := [] }
  | _ => none }
def chooseKnownRow : OpenClaim := { program := "ytaniibilgdhdiaadoor", sum := "697987b1a49fe8a9f7ab0e0b58c53dc2b6e6781216bf65e02d394ad94c5d8d9a", func := "consulate/consulatelaw21.ChooseKnown", spec := "chooseKnown", unfollowed := true, recurses := true, named := ["consulate/choose.texts"], apart := false, laid := [("consulate/choose.texts", laid_consulate_choose_texts)] }
def ChooseKnownSaid : Prop := chooseKnownRow.holds Tryd.pinned (OpenSpec.ofChange chooseKnownSpec)

/-- ITS FALSE NEIGHBOUR: 'it returns false'. Refute it at one input. -/
def chooseKnownWrong : ChangeSpec := { name := "chooseKnown", fn := fun _ => fun
  | [] => { results := [.lit (.bool false)], args := [] }
  | _ => none }
def ChooseKnownWrongFalsely : Prop := chooseKnownRow.holds Tryd.pinned (OpenSpec.ofChange chooseKnownWrong)

/-- 'consulatelaw21.ChooseTells': WHATEVER THE INPUT: true; the input reads as it did. -/
def chooseTellsSpec : ChangeSpec := { name := "chooseTells", fn := fun _ => fun
  | [d1, d2, d3] => { results := [.lit (.bool true)], args := [d1, d2, d3] }
  | _ => none }
def chooseTellsRow : OpenClaim := { program := "ytaniibilgdhdiaadoor", sum := "697987b1a49fe8a9f7ab0e0b58c53dc2b6e6781216bf65e02d394ad94c5d8d9a", func := "consulate/consulatelaw21.ChooseTells", spec := "chooseTells", unfollowed := true, recurses := true, named := ["consulate/choose.texts"], apart := false, laid := [("consulate/choose.texts", laid_consulate_choose_texts)] }
def ChooseTellsSaid : Prop := chooseTellsRow.holds Tryd.pinned (OpenSpec.ofChange chooseTellsSpec)

/-- ITS FALSE NEIGHBOUR: 'it returns false'. Refute it at one input. -/
def chooseTellsWrong : ChangeSpec := { name := "chooseTells", fn := fun _ => fun
  | [d1, d2, d3] => { results := [.lit (.bool false)], args := [d1, d2, d3] }
  | _ => none }
def ChooseTellsWrongFalsely : Prop := chooseTellsRow.holds Tryd.pinned (OpenSpec.ofChange chooseTellsWrong)

/- THE SECOND FORM. 'bulk': how many values and letters a reading holds, each counted each time it is reached (what is shared counts as often as it is met; a slice's spare places count too). A statement '..UptoSaid' is the law's where the arguments, and the package variables that the reading takes, are together of bulk at most 1048576: NARROWER than '..Said'. Prove '..Said' where nothing that the law and all that it calls make is longer than what came in: it says more and counts as full. Else prove '..UptoSaid'. A law counts once. -/
mutual
def uptoBulk {H : Type} : DataW H → Nat
  | .lit (.string bytes) => bytes.length + 1
  | .lit _ => 1
  | .nil => 1
  | .ptr d => uptoBulk d + 1
  | .slice elems spare => uptoBulkAll elems + uptoBulkAll spare + 1
  | .agg parts => uptoBulkAll parts + 1
  | .iface _ d => uptoBulk d + 1
  | .map entries => uptoBulkEntries entries + 1
  | .held _ => 1
def uptoBulkAll {H : Type} : List (DataW H) → Nat
  | [] => 0
  | d :: r => uptoBulk d + uptoBulkAll r
def uptoBulkEntries {H : Type} : List (Lit × DataW H) → Nat
  | [] => 0
  | x :: r => uptoBulkEntry x + uptoBulkEntries r
def uptoBulkEntry {H : Type} : Lit × DataW H → Nat
  | (.string bytes, d) => bytes.length + uptoBulk d + 1
  | (_, d) => uptoBulk d + 1
 end
def uptoSmall : (H : Type) → List (DataW H) → Bool := fun _ ds => decide (uptoBulkAll ds ≤ 1048576)
def OpenSpec.upto (s : _root_.Go.ChangeSpec) : _root_.Go.OpenSpec := { _root_.Go.OpenSpec.ofChange s with cond := some uptoSmall }

/-- 'consulatelaw21.ChooseTotal', WHERE WHAT IT READS IS OF BULK AT MOST 1048576: true; the input reads as it did. -/
def chooseTotalUptoRow : OpenClaim := { program := "ytaniibilgdhdiaadoor", sum := "697987b1a49fe8a9f7ab0e0b58c53dc2b6e6781216bf65e02d394ad94c5d8d9a", func := "consulate/consulatelaw21.ChooseTotal", spec := "chooseTotal", unfollowed := true, recurses := true, named := ["consulate/choose.texts"], apart := false, laid := [("consulate/choose.texts", laid_consulate_choose_texts)], narrowed := true }
def ChooseTotalUptoSaid : Prop := chooseTotalUptoRow.holds Tryd.pinned (OpenSpec.upto chooseTotalSpec)

/-- 'consulatelaw21.ChooseKnown', WHERE WHAT IT READS IS OF BULK AT MOST 1048576: true; the input reads as it did. -/
def chooseKnownUptoRow : OpenClaim := { program := "ytaniibilgdhdiaadoor", sum := "697987b1a49fe8a9f7ab0e0b58c53dc2b6e6781216bf65e02d394ad94c5d8d9a", func := "consulate/consulatelaw21.ChooseKnown", spec := "chooseKnown", unfollowed := true, recurses := true, named := ["consulate/choose.texts"], apart := false, laid := [("consulate/choose.texts", laid_consulate_choose_texts)], narrowed := true }
def ChooseKnownUptoSaid : Prop := chooseKnownUptoRow.holds Tryd.pinned (OpenSpec.upto chooseKnownSpec)

/-- 'consulatelaw21.ChooseTells', WHERE WHAT IT READS IS OF BULK AT MOST 1048576: true; the input reads as it did. -/
def chooseTellsUptoRow : OpenClaim := { program := "ytaniibilgdhdiaadoor", sum := "697987b1a49fe8a9f7ab0e0b58c53dc2b6e6781216bf65e02d394ad94c5d8d9a", func := "consulate/consulatelaw21.ChooseTells", spec := "chooseTells", unfollowed := true, recurses := true, named := ["consulate/choose.texts"], apart := false, laid := [("consulate/choose.texts", laid_consulate_choose_texts)], narrowed := true }
def ChooseTellsUptoSaid : Prop := chooseTellsUptoRow.holds Tryd.pinned (OpenSpec.upto chooseTellsSpec)

end Rows
end Go.Proofs.YtaniibilgdhdiaaDoor
