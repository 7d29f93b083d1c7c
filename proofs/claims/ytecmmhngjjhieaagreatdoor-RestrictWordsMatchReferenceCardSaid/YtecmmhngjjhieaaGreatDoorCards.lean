/-
  DERIVED. GIVEN WITH THE SEED: THE CARDS: each row of YtecmmhngjjhieaaGreatDoorRows.lean that lists a variable, with what it lists TIED to the program's text (the seventh form; the later family's looks); each row that meets fmt, with fmt's text TOLD by the authors' own Lean function (tested against real Go, not proved from fmt's source: count such statements apart). THE CARD IS WHAT COUNTS. Prove the row's statement (the work); the ties are given (YtecmmhngjjhieaaGreatDoorTie.lean); close each card by the builder's one call (the guide's Derived/Test/ToyasCard.lean, 'card_holds'). Laid BY PROGRAM, IN A SANDBOX (cutbox-door.mjs). By AI agents, Wed Nov 11 2026. No macro, syntax, notation, axiom, sorry.
-/
import Derived.Test.YtecmmhngjjhieaaGreatDoorRows
import GoSem.ClaimSeven
namespace Go.Proofs.YtecmmhngjjhieaaGreatDoor
namespace Rows

/-- THE TIED CARD OF 'koinelaw14.RestrictConfigurations'. -/
def restrictConfigurationsCard : Claim7 := { stood := { row := restrictConfigurationsRow, standIns := [], harness := (true, "d5812eb2c962e1f3509e2d30fac14473e8934ef951b5568a913e005a667a718f"), looks := true }, kinds := [], alts := [], laidByText := true, laidKinds := [.data], laidTests := true, laidLooks := .later }
def RestrictConfigurationsCardSaid : Prop := Claim7.holds Tryz.pinned (.plain (OpenSpec.ofChange restrictConfigurationsSpec)) restrictConfigurationsCard

/-- THE TIED CARD OF 'koinelaw14.RestrictFilters'. -/
def restrictFiltersCard : Claim7 := { stood := { row := restrictFiltersRow, standIns := [], harness := (true, "d5812eb2c962e1f3509e2d30fac14473e8934ef951b5568a913e005a667a718f"), looks := true }, kinds := [], alts := [], laidByText := true, laidKinds := [.data], laidTests := true, laidLooks := .later }
def RestrictFiltersCardSaid : Prop := Claim7.holds Tryz.pinned (.plain (OpenSpec.ofChange restrictFiltersSpec)) restrictFiltersCard

/-- THE TIED CARD OF 'koinelaw14.RestrictMatchesReference'. -/
def restrictMatchesReferenceCard : Claim7 := { stood := { row := restrictMatchesReferenceRow, standIns := [], harness := (true, "d5812eb2c962e1f3509e2d30fac14473e8934ef951b5568a913e005a667a718f"), looks := true }, kinds := [], alts := [], laidByText := true, laidKinds := [.data], laidTests := true, laidLooks := .later }
def RestrictMatchesReferenceCardSaid : Prop := Claim7.holds Tryz.pinned (.plain (OpenSpec.ofChange restrictMatchesReferenceSpec)) restrictMatchesReferenceCard

/-- THE TIED CARD OF 'koinelaw14.RestrictNeighbors'. -/
def restrictNeighborsCard : Claim7 := { stood := { row := restrictNeighborsRow, standIns := [], harness := (true, "d5812eb2c962e1f3509e2d30fac14473e8934ef951b5568a913e005a667a718f"), looks := true }, kinds := [], alts := [], laidByText := true, laidKinds := [.data], laidTests := true, laidLooks := .later }
def RestrictNeighborsCardSaid : Prop := Claim7.holds Tryz.pinned (.plain (OpenSpec.ofChange restrictNeighborsSpec)) restrictNeighborsCard

/-- THE TIED CARD OF 'koinelaw14.RestrictNodes'. -/
def restrictNodesCard : Claim7 := { stood := { row := restrictNodesRow, standIns := [], harness := (true, "d5812eb2c962e1f3509e2d30fac14473e8934ef951b5568a913e005a667a718f"), looks := true }, kinds := [], alts := [], laidByText := true, laidKinds := [.data], laidTests := true, laidLooks := .later }
def RestrictNodesCardSaid : Prop := Claim7.holds Tryz.pinned (.plain (OpenSpec.ofChange restrictNodesSpec)) restrictNodesCard

/-- THE TIED CARD OF 'koinelaw14.RestrictOneLine'. -/
def restrictOneLineCard : Claim7 := { stood := { row := restrictOneLineRow, standIns := [], harness := (true, "d5812eb2c962e1f3509e2d30fac14473e8934ef951b5568a913e005a667a718f"), looks := true }, kinds := [], alts := [], laidByText := true, laidKinds := [.data], laidTests := true, laidLooks := .later }
def RestrictOneLineCardSaid : Prop := Claim7.holds Tryz.pinned (.plain (OpenSpec.ofChange restrictOneLineSpec)) restrictOneLineCard

/-- THE TIED CARD OF 'koinelaw14.RestrictShift'. -/
def restrictShiftCard : Claim7 := { stood := { row := restrictShiftRow, standIns := [], harness := (true, "d5812eb2c962e1f3509e2d30fac14473e8934ef951b5568a913e005a667a718f"), looks := true }, kinds := [], alts := [], laidByText := true, laidKinds := [.data], laidTests := true, laidLooks := .later }
def RestrictShiftCardSaid : Prop := Claim7.holds Tryz.pinned (.plain (OpenSpec.ofChange restrictShiftSpec)) restrictShiftCard

/-- THE TIED CARD OF 'koinelaw14.RestrictWordsMatchReference'. -/
def restrictWordsMatchReferenceCard : Claim7 := { stood := { row := restrictWordsMatchReferenceRow, standIns := [], harness := (true, "d5812eb2c962e1f3509e2d30fac14473e8934ef951b5568a913e005a667a718f"), looks := true }, kinds := [], alts := [], laidByText := true, laidKinds := [.data], laidTests := true, laidLooks := .later }
def RestrictWordsMatchReferenceCardSaid : Prop := Claim7.holds Tryz.pinned (.plain (OpenSpec.ofChange restrictWordsMatchReferenceSpec)) restrictWordsMatchReferenceCard

/-- THE SECOND FORM's CARD OF 'koinelaw14.RestrictConfigurations'. -/
def restrictConfigurationsUptoCard : Claim7 := { stood := { row := restrictConfigurationsUptoRow, standIns := [], harness := (true, "d5812eb2c962e1f3509e2d30fac14473e8934ef951b5568a913e005a667a718f"), looks := true }, kinds := [], alts := [], laidByText := true, laidKinds := [.data], laidTests := true, laidLooks := .later }
def RestrictConfigurationsUptoCardSaid : Prop := Claim7.holds Tryz.pinned (.plain (OpenSpec.upto restrictConfigurationsSpec)) restrictConfigurationsUptoCard

/-- THE SECOND FORM's CARD OF 'koinelaw14.RestrictFilters'. -/
def restrictFiltersUptoCard : Claim7 := { stood := { row := restrictFiltersUptoRow, standIns := [], harness := (true, "d5812eb2c962e1f3509e2d30fac14473e8934ef951b5568a913e005a667a718f"), looks := true }, kinds := [], alts := [], laidByText := true, laidKinds := [.data], laidTests := true, laidLooks := .later }
def RestrictFiltersUptoCardSaid : Prop := Claim7.holds Tryz.pinned (.plain (OpenSpec.upto restrictFiltersSpec)) restrictFiltersUptoCard

/-- THE SECOND FORM's CARD OF 'koinelaw14.RestrictMatchesReference'. -/
def restrictMatchesReferenceUptoCard : Claim7 := { stood := { row := restrictMatchesReferenceUptoRow, standIns := [], harness := (true, "d5812eb2c962e1f3509e2d30fac14473e8934ef951b5568a913e005a667a718f"), looks := true }, kinds := [], alts := [], laidByText := true, laidKinds := [.data], laidTests := true, laidLooks := .later }
def RestrictMatchesReferenceUptoCardSaid : Prop := Claim7.holds Tryz.pinned (.plain (OpenSpec.upto restrictMatchesReferenceSpec)) restrictMatchesReferenceUptoCard

/-- THE SECOND FORM's CARD OF 'koinelaw14.RestrictNeighbors'. -/
def restrictNeighborsUptoCard : Claim7 := { stood := { row := restrictNeighborsUptoRow, standIns := [], harness := (true, "d5812eb2c962e1f3509e2d30fac14473e8934ef951b5568a913e005a667a718f"), looks := true }, kinds := [], alts := [], laidByText := true, laidKinds := [.data], laidTests := true, laidLooks := .later }
def RestrictNeighborsUptoCardSaid : Prop := Claim7.holds Tryz.pinned (.plain (OpenSpec.upto restrictNeighborsSpec)) restrictNeighborsUptoCard

/-- THE SECOND FORM's CARD OF 'koinelaw14.RestrictNodes'. -/
def restrictNodesUptoCard : Claim7 := { stood := { row := restrictNodesUptoRow, standIns := [], harness := (true, "d5812eb2c962e1f3509e2d30fac14473e8934ef951b5568a913e005a667a718f"), looks := true }, kinds := [], alts := [], laidByText := true, laidKinds := [.data], laidTests := true, laidLooks := .later }
def RestrictNodesUptoCardSaid : Prop := Claim7.holds Tryz.pinned (.plain (OpenSpec.upto restrictNodesSpec)) restrictNodesUptoCard

/-- THE SECOND FORM's CARD OF 'koinelaw14.RestrictOneLine'. -/
def restrictOneLineUptoCard : Claim7 := { stood := { row := restrictOneLineUptoRow, standIns := [], harness := (true, "d5812eb2c962e1f3509e2d30fac14473e8934ef951b5568a913e005a667a718f"), looks := true }, kinds := [], alts := [], laidByText := true, laidKinds := [.data], laidTests := true, laidLooks := .later }
def RestrictOneLineUptoCardSaid : Prop := Claim7.holds Tryz.pinned (.plain (OpenSpec.upto restrictOneLineSpec)) restrictOneLineUptoCard

/-- THE SECOND FORM's CARD OF 'koinelaw14.RestrictShift'. -/
def restrictShiftUptoCard : Claim7 := { stood := { row := restrictShiftUptoRow, standIns := [], harness := (true, "d5812eb2c962e1f3509e2d30fac14473e8934ef951b5568a913e005a667a718f"), looks := true }, kinds := [], alts := [], laidByText := true, laidKinds := [.data], laidTests := true, laidLooks := .later }
def RestrictShiftUptoCardSaid : Prop := Claim7.holds Tryz.pinned (.plain (OpenSpec.upto restrictShiftSpec)) restrictShiftUptoCard

/-- THE SECOND FORM's CARD OF 'koinelaw14.RestrictWordsMatchReference'. -/
def restrictWordsMatchReferenceUptoCard : Claim7 := { stood := { row := restrictWordsMatchReferenceUptoRow, standIns := [], harness := (true, "d5812eb2c962e1f3509e2d30fac14473e8934ef951b5568a913e005a667a718f"), looks := true }, kinds := [], alts := [], laidByText := true, laidKinds := [.data], laidTests := true, laidLooks := .later }
def RestrictWordsMatchReferenceUptoCardSaid : Prop := Claim7.holds Tryz.pinned (.plain (OpenSpec.upto restrictWordsMatchReferenceSpec)) restrictWordsMatchReferenceUptoCard
end Rows
end Go.Proofs.YtecmmhngjjhieaaGreatDoor
