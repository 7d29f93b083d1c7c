/-
  NARROWER THAN 'FOR EVERY INPUT', by the rows' own cells (each row's printed sentence says how): RestrictConfigurations: laid · RestrictFilters: laid · RestrictMatchesReference: laid · RestrictNeighbors: laid · RestrictNodes: laid · RestrictOneLine: laid · RestrictShift: laid · RestrictWordsMatchReference: laid.
  DERIVED. THE GIVEN ROWS OF THIS SEAT. 8 by the template 'for every input the law returns true; each argument reads behind the call as it read before'; 0 by the template 'total and deterministic' (their statements: YtecmmhngjjhieaaGreatDoorTotals.lean).
  GIVEN WITH THE SEED: the statements are not yours to turn. If you find one false, say at which input.
  Laid BY PROGRAM, IN A SANDBOX (cutbox-rows.mjs): the forced cells as the released guide's own fill.sh prints them over the translation b60fc389db7d5a26… (all of the seat's roots in one cut). By AI agents, Wed Nov 11 2026. No macro, syntax, notation, axiom, sorry.
-/
import Derived.Test.YtecmmhngjjhieaaGreatDoorChecked
import GoSem.Claim
import GoSem.ClaimJoined
import GoSem.ClaimMapViews
import Derived.JoinedTies
import Derived.KernelRfl
namespace Go.Proofs.YtecmmhngjjhieaaGreatDoor
/- THE CELL 'sum', in the pinned program and in every row, IS THE sha256 OF THE DUMP (.gsa) THAT YtecmmhngjjhieaaGreatDoorProg.lean LOADS. Nothing in Lean hashes anything: it is a label: what it is worth is what the hold of that sum in a sandbox is worth. -/
noncomputable def Tryz.pinned : Pinned := { name := "ytecmmhngjjhieaagreatdoor", sum := "b60fc389db7d5a26177b65edae9cdc8aaa98b8ea566002f2b58f6abe1ea1c42c", checked := Tryz.checked }
namespace Rows
def none {H : Type} : Left H := { results := [], args := [] }

/- WHAT THE LISTED PACKAGE-LEVEL VARIABLES READ AS WHEN THE CALL BEGINS. Each datum BY PROGRAM (the guide's laid-datum.mjs) off the statement by which the dump's own 'gosem.cut.vars' lays the variable. In a bare row this is a premise. The card (YtecmmhngjjhieaaGreatDoorCards.lean) ties it to the program's text. -/
def laid_math_bits_deBruijn64tab {H : Type} : DataW H := .agg [.lit (.int .u8 0), .lit (.int .u8 1), .lit (.int .u8 56), .lit (.int .u8 2), .lit (.int .u8 57), .lit (.int .u8 49), .lit (.int .u8 28), .lit (.int .u8 3), .lit (.int .u8 61), .lit (.int .u8 58), .lit (.int .u8 42), .lit (.int .u8 50), .lit (.int .u8 38), .lit (.int .u8 29), .lit (.int .u8 17), .lit (.int .u8 4), .lit (.int .u8 62), .lit (.int .u8 47), .lit (.int .u8 59), .lit (.int .u8 36), .lit (.int .u8 45), .lit (.int .u8 43), .lit (.int .u8 51), .lit (.int .u8 22), .lit (.int .u8 53), .lit (.int .u8 39), .lit (.int .u8 33), .lit (.int .u8 30), .lit (.int .u8 24), .lit (.int .u8 18), .lit (.int .u8 12), .lit (.int .u8 5), .lit (.int .u8 63), .lit (.int .u8 55), .lit (.int .u8 48), .lit (.int .u8 27), .lit (.int .u8 60), .lit (.int .u8 41), .lit (.int .u8 37), .lit (.int .u8 16), .lit (.int .u8 46), .lit (.int .u8 35), .lit (.int .u8 44), .lit (.int .u8 21), .lit (.int .u8 52), .lit (.int .u8 32), .lit (.int .u8 23), .lit (.int .u8 11), .lit (.int .u8 54), .lit (.int .u8 26), .lit (.int .u8 40), .lit (.int .u8 15), .lit (.int .u8 34), .lit (.int .u8 20), .lit (.int .u8 31), .lit (.int .u8 10), .lit (.int .u8 25), .lit (.int .u8 14), .lit (.int .u8 19), .lit (.int .u8 9), .lit (.int .u8 13), .lit (.int .u8 8), .lit (.int .u8 7), .lit (.int .u8 6)]

/-- 'koinelaw14.RestrictConfigurations': WHATEVER THE INPUT: true; the input reads as it did. -/
def restrictConfigurationsSpec : ChangeSpec := { name := "restrictConfigurations", fn := fun _ => fun
  | [d1, d2] => { results := [.lit (.bool true)], args := [d1, d2] }
  | _ => none }
def restrictConfigurationsRow : OpenClaim := { program := "ytecmmhngjjhieaagreatdoor", sum := "b60fc389db7d5a26177b65edae9cdc8aaa98b8ea566002f2b58f6abe1ea1c42c", func := "koine/koinelaw14.RestrictConfigurations", spec := "restrictConfigurations", unfollowed := true, recurses := true, named := ["math/bits.deBruijn64tab"], plainKeys := false, apart := false, laid := [("math/bits.deBruijn64tab", laid_math_bits_deBruijn64tab)] }
def RestrictConfigurationsSaid : Prop := restrictConfigurationsRow.holds Tryz.pinned (OpenSpec.ofChange restrictConfigurationsSpec)

/-- ITS FALSE NEIGHBOUR: 'it returns false'. Refute it at one input. -/
def restrictConfigurationsWrong : ChangeSpec := { name := "restrictConfigurations", fn := fun _ => fun
  | [d1, d2] => { results := [.lit (.bool false)], args := [d1, d2] }
  | _ => none }
def RestrictConfigurationsWrongFalsely : Prop := restrictConfigurationsRow.holds Tryz.pinned (OpenSpec.ofChange restrictConfigurationsWrong)

/-- 'koinelaw14.RestrictFilters': WHATEVER THE INPUT: true; the input reads as it did. -/
def restrictFiltersSpec : ChangeSpec := { name := "restrictFilters", fn := fun _ => fun
  | [d1, d2] => { results := [.lit (.bool true)], args := [d1, d2] }
  | _ => none }
def restrictFiltersRow : OpenClaim := { program := "ytecmmhngjjhieaagreatdoor", sum := "b60fc389db7d5a26177b65edae9cdc8aaa98b8ea566002f2b58f6abe1ea1c42c", func := "koine/koinelaw14.RestrictFilters", spec := "restrictFilters", unfollowed := true, recurses := true, named := ["math/bits.deBruijn64tab"], plainKeys := false, apart := false, laid := [("math/bits.deBruijn64tab", laid_math_bits_deBruijn64tab)] }
def RestrictFiltersSaid : Prop := restrictFiltersRow.holds Tryz.pinned (OpenSpec.ofChange restrictFiltersSpec)

/-- ITS FALSE NEIGHBOUR: 'it returns false'. Refute it at one input. -/
def restrictFiltersWrong : ChangeSpec := { name := "restrictFilters", fn := fun _ => fun
  | [d1, d2] => { results := [.lit (.bool false)], args := [d1, d2] }
  | _ => none }
def RestrictFiltersWrongFalsely : Prop := restrictFiltersRow.holds Tryz.pinned (OpenSpec.ofChange restrictFiltersWrong)

/-- 'koinelaw14.RestrictMatchesReference': WHATEVER THE INPUT: true; the input reads as it did. -/
def restrictMatchesReferenceSpec : ChangeSpec := { name := "restrictMatchesReference", fn := fun _ => fun
  | [d1, d2, d3] => { results := [.lit (.bool true)], args := [d1, d2, d3] }
  | _ => none }
def restrictMatchesReferenceRow : OpenClaim := { program := "ytecmmhngjjhieaagreatdoor", sum := "b60fc389db7d5a26177b65edae9cdc8aaa98b8ea566002f2b58f6abe1ea1c42c", func := "koine/koinelaw14.RestrictMatchesReference", spec := "restrictMatchesReference", unfollowed := true, recurses := true, named := ["math/bits.deBruijn64tab"], plainKeys := false, apart := false, laid := [("math/bits.deBruijn64tab", laid_math_bits_deBruijn64tab)] }
def RestrictMatchesReferenceSaid : Prop := restrictMatchesReferenceRow.holds Tryz.pinned (OpenSpec.ofChange restrictMatchesReferenceSpec)

/-- ITS FALSE NEIGHBOUR: 'it returns false'. Refute it at one input. -/
def restrictMatchesReferenceWrong : ChangeSpec := { name := "restrictMatchesReference", fn := fun _ => fun
  | [d1, d2, d3] => { results := [.lit (.bool false)], args := [d1, d2, d3] }
  | _ => none }
def RestrictMatchesReferenceWrongFalsely : Prop := restrictMatchesReferenceRow.holds Tryz.pinned (OpenSpec.ofChange restrictMatchesReferenceWrong)

/-- 'koinelaw14.RestrictNeighbors': WHATEVER THE INPUT: true; the input reads as it did. -/
def restrictNeighborsSpec : ChangeSpec := { name := "restrictNeighbors", fn := fun _ => fun
  | [d1, d2, d3] => { results := [.lit (.bool true)], args := [d1, d2, d3] }
  | _ => none }
def restrictNeighborsRow : OpenClaim := { program := "ytecmmhngjjhieaagreatdoor", sum := "b60fc389db7d5a26177b65edae9cdc8aaa98b8ea566002f2b58f6abe1ea1c42c", func := "koine/koinelaw14.RestrictNeighbors", spec := "restrictNeighbors", unfollowed := true, recurses := true, named := ["math/bits.deBruijn64tab"], plainKeys := false, apart := false, laid := [("math/bits.deBruijn64tab", laid_math_bits_deBruijn64tab)] }
def RestrictNeighborsSaid : Prop := restrictNeighborsRow.holds Tryz.pinned (OpenSpec.ofChange restrictNeighborsSpec)

/-- ITS FALSE NEIGHBOUR: 'it returns false'. Refute it at one input. -/
def restrictNeighborsWrong : ChangeSpec := { name := "restrictNeighbors", fn := fun _ => fun
  | [d1, d2, d3] => { results := [.lit (.bool false)], args := [d1, d2, d3] }
  | _ => none }
def RestrictNeighborsWrongFalsely : Prop := restrictNeighborsRow.holds Tryz.pinned (OpenSpec.ofChange restrictNeighborsWrong)

/-- 'koinelaw14.RestrictNodes': WHATEVER THE INPUT: true; the input reads as it did. -/
def restrictNodesSpec : ChangeSpec := { name := "restrictNodes", fn := fun _ => fun
  | [d1, d2] => { results := [.lit (.bool true)], args := [d1, d2] }
  | _ => none }
def restrictNodesRow : OpenClaim := { program := "ytecmmhngjjhieaagreatdoor", sum := "b60fc389db7d5a26177b65edae9cdc8aaa98b8ea566002f2b58f6abe1ea1c42c", func := "koine/koinelaw14.RestrictNodes", spec := "restrictNodes", unfollowed := true, recurses := true, named := ["math/bits.deBruijn64tab"], plainKeys := false, apart := false, laid := [("math/bits.deBruijn64tab", laid_math_bits_deBruijn64tab)] }
def RestrictNodesSaid : Prop := restrictNodesRow.holds Tryz.pinned (OpenSpec.ofChange restrictNodesSpec)

/-- ITS FALSE NEIGHBOUR: 'it returns false'. Refute it at one input. -/
def restrictNodesWrong : ChangeSpec := { name := "restrictNodes", fn := fun _ => fun
  | [d1, d2] => { results := [.lit (.bool false)], args := [d1, d2] }
  | _ => none }
def RestrictNodesWrongFalsely : Prop := restrictNodesRow.holds Tryz.pinned (OpenSpec.ofChange restrictNodesWrong)

/-- 'koinelaw14.RestrictOneLine': WHATEVER THE INPUT: true; the input reads as it did. -/
def restrictOneLineSpec : ChangeSpec := { name := "restrictOneLine", fn := fun _ => fun
  | [d1, d2] => { results := [.lit (.bool true)], args := [d1, d2] }
  | _ => none }
def restrictOneLineRow : OpenClaim := { program := "ytecmmhngjjhieaagreatdoor", sum := "b60fc389db7d5a26177b65edae9cdc8aaa98b8ea566002f2b58f6abe1ea1c42c", func := "koine/koinelaw14.RestrictOneLine", spec := "restrictOneLine", unfollowed := true, recurses := true, named := ["math/bits.deBruijn64tab"], plainKeys := false, apart := false, laid := [("math/bits.deBruijn64tab", laid_math_bits_deBruijn64tab)] }
def RestrictOneLineSaid : Prop := restrictOneLineRow.holds Tryz.pinned (OpenSpec.ofChange restrictOneLineSpec)

/-- ITS FALSE NEIGHBOUR: 'it returns false'. Refute it at one input. -/
def restrictOneLineWrong : ChangeSpec := { name := "restrictOneLine", fn := fun _ => fun
  | [d1, d2] => { results := [.lit (.bool false)], args := [d1, d2] }
  | _ => none }
def RestrictOneLineWrongFalsely : Prop := restrictOneLineRow.holds Tryz.pinned (OpenSpec.ofChange restrictOneLineWrong)

/-- 'koinelaw14.RestrictShift': WHATEVER THE INPUT: true; the input reads as it did. -/
def restrictShiftSpec : ChangeSpec := { name := "restrictShift", fn := fun _ => fun
  | [d1, d2, d3] => { results := [.lit (.bool true)], args := [d1, d2, d3] }
  | _ => none }
def restrictShiftRow : OpenClaim := { program := "ytecmmhngjjhieaagreatdoor", sum := "b60fc389db7d5a26177b65edae9cdc8aaa98b8ea566002f2b58f6abe1ea1c42c", func := "koine/koinelaw14.RestrictShift", spec := "restrictShift", unfollowed := true, recurses := true, named := ["math/bits.deBruijn64tab"], plainKeys := false, apart := false, laid := [("math/bits.deBruijn64tab", laid_math_bits_deBruijn64tab)] }
def RestrictShiftSaid : Prop := restrictShiftRow.holds Tryz.pinned (OpenSpec.ofChange restrictShiftSpec)

/-- ITS FALSE NEIGHBOUR: 'it returns false'. Refute it at one input. -/
def restrictShiftWrong : ChangeSpec := { name := "restrictShift", fn := fun _ => fun
  | [d1, d2, d3] => { results := [.lit (.bool false)], args := [d1, d2, d3] }
  | _ => none }
def RestrictShiftWrongFalsely : Prop := restrictShiftRow.holds Tryz.pinned (OpenSpec.ofChange restrictShiftWrong)

/-- 'koinelaw14.RestrictWordsMatchReference': WHATEVER THE INPUT: true; the input reads as it did. -/
def restrictWordsMatchReferenceSpec : ChangeSpec := { name := "restrictWordsMatchReference", fn := fun _ => fun
  | [d1, d2, d3] => { results := [.lit (.bool true)], args := [d1, d2, d3] }
  | _ => none }
def restrictWordsMatchReferenceRow : OpenClaim := { program := "ytecmmhngjjhieaagreatdoor", sum := "b60fc389db7d5a26177b65edae9cdc8aaa98b8ea566002f2b58f6abe1ea1c42c", func := "koine/koinelaw14.RestrictWordsMatchReference", spec := "restrictWordsMatchReference", unfollowed := true, recurses := true, named := ["math/bits.deBruijn64tab"], plainKeys := false, apart := false, laid := [("math/bits.deBruijn64tab", laid_math_bits_deBruijn64tab)] }
def RestrictWordsMatchReferenceSaid : Prop := restrictWordsMatchReferenceRow.holds Tryz.pinned (OpenSpec.ofChange restrictWordsMatchReferenceSpec)

/-- ITS FALSE NEIGHBOUR: 'it returns false'. Refute it at one input. -/
def restrictWordsMatchReferenceWrong : ChangeSpec := { name := "restrictWordsMatchReference", fn := fun _ => fun
  | [d1, d2, d3] => { results := [.lit (.bool false)], args := [d1, d2, d3] }
  | _ => none }
def RestrictWordsMatchReferenceWrongFalsely : Prop := restrictWordsMatchReferenceRow.holds Tryz.pinned (OpenSpec.ofChange restrictWordsMatchReferenceWrong)

/- THE SECOND FORM. 'bulk': how many values and letters a reading holds, each counted each time it is reached (what is shared counts as often as it is met; a slice's spare places count too). A statement '..UptoSaid' is the law's where the arguments, and the package variables that the reading takes, are together of bulk at most 1048576: NARROWER than '..Said'. Prove '..Said' where nothing that the law and all that it calls make is longer than what came in: it says more and counts as full. Else prove '..UptoSaid'. A law counts once. -/
mutual
def uptoBulk {H : Type} : DataW H → Nat
  | .lit (.string bytes) => bytes.length + 1
  | .lit _ => 1
  | .nil => 1
  | .ptr d => uptoBulk d + 1
  | .slice elems spare => uptoBulkAll elems + uptoBulkAll spare + 1
  | .agg parts => uptoBulkAll parts + 1
  | .iface _ d => uptoBulk d + 1
  | .map entries => uptoBulkEntries entries + 1
  | .held _ => 1
def uptoBulkAll {H : Type} : List (DataW H) → Nat
  | [] => 0
  | d :: r => uptoBulk d + uptoBulkAll r
def uptoBulkEntries {H : Type} : List (Lit × DataW H) → Nat
  | [] => 0
  | x :: r => uptoBulkEntry x + uptoBulkEntries r
def uptoBulkEntry {H : Type} : Lit × DataW H → Nat
  | (.string bytes, d) => bytes.length + uptoBulk d + 1
  | (_, d) => uptoBulk d + 1
 end
def uptoSmall : (H : Type) → List (DataW H) → Bool := fun _ ds => decide (uptoBulkAll ds ≤ 1048576)
def OpenSpec.upto (s : _root_.Go.ChangeSpec) : _root_.Go.OpenSpec := { _root_.Go.OpenSpec.ofChange s with cond := some uptoSmall }

/-- 'koinelaw14.RestrictConfigurations', WHERE WHAT IT READS IS OF BULK AT MOST 1048576: true; the input reads as it did. -/
def restrictConfigurationsUptoRow : OpenClaim := { program := "ytecmmhngjjhieaagreatdoor", sum := "b60fc389db7d5a26177b65edae9cdc8aaa98b8ea566002f2b58f6abe1ea1c42c", func := "koine/koinelaw14.RestrictConfigurations", spec := "restrictConfigurations", unfollowed := true, recurses := true, named := ["math/bits.deBruijn64tab"], plainKeys := false, apart := false, laid := [("math/bits.deBruijn64tab", laid_math_bits_deBruijn64tab)], narrowed := true }
def RestrictConfigurationsUptoSaid : Prop := restrictConfigurationsUptoRow.holds Tryz.pinned (OpenSpec.upto restrictConfigurationsSpec)

/-- 'koinelaw14.RestrictFilters', WHERE WHAT IT READS IS OF BULK AT MOST 1048576: true; the input reads as it did. -/
def restrictFiltersUptoRow : OpenClaim := { program := "ytecmmhngjjhieaagreatdoor", sum := "b60fc389db7d5a26177b65edae9cdc8aaa98b8ea566002f2b58f6abe1ea1c42c", func := "koine/koinelaw14.RestrictFilters", spec := "restrictFilters", unfollowed := true, recurses := true, named := ["math/bits.deBruijn64tab"], plainKeys := false, apart := false, laid := [("math/bits.deBruijn64tab", laid_math_bits_deBruijn64tab)], narrowed := true }
def RestrictFiltersUptoSaid : Prop := restrictFiltersUptoRow.holds Tryz.pinned (OpenSpec.upto restrictFiltersSpec)

/-- 'koinelaw14.RestrictMatchesReference', WHERE WHAT IT READS IS OF BULK AT MOST 1048576: true; the input reads as it did. -/
def restrictMatchesReferenceUptoRow : OpenClaim := { program := "ytecmmhngjjhieaagreatdoor", sum := "b60fc389db7d5a26177b65edae9cdc8aaa98b8ea566002f2b58f6abe1ea1c42c", func := "koine/koinelaw14.RestrictMatchesReference", spec := "restrictMatchesReference", unfollowed := true, recurses := true, named := ["math/bits.deBruijn64tab"], plainKeys := false, apart := false, laid := [("math/bits.deBruijn64tab", laid_math_bits_deBruijn64tab)], narrowed := true }
def RestrictMatchesReferenceUptoSaid : Prop := restrictMatchesReferenceUptoRow.holds Tryz.pinned (OpenSpec.upto restrictMatchesReferenceSpec)

/-- 'koinelaw14.RestrictNeighbors', WHERE WHAT IT READS IS OF BULK AT MOST 1048576: true; the input reads as it did. -/
def restrictNeighborsUptoRow : OpenClaim := { program := "ytecmmhngjjhieaagreatdoor", sum := "b60fc389db7d5a26177b65edae9cdc8aaa98b8ea566002f2b58f6abe1ea1c42c", func := "koine/koinelaw14.RestrictNeighbors", spec := "restrictNeighbors", unfollowed := true, recurses := true, named := ["math/bits.deBruijn64tab"], plainKeys := false, apart := false, laid := [("math/bits.deBruijn64tab", laid_math_bits_deBruijn64tab)], narrowed := true }
def RestrictNeighborsUptoSaid : Prop := restrictNeighborsUptoRow.holds Tryz.pinned (OpenSpec.upto restrictNeighborsSpec)

/-- 'koinelaw14.RestrictNodes', WHERE WHAT IT READS IS OF BULK AT MOST 1048576: true; the input reads as it did. -/
def restrictNodesUptoRow : OpenClaim := { program := "ytecmmhngjjhieaagreatdoor", sum := "b60fc389db7d5a26177b65edae9cdc8aaa98b8ea566002f2b58f6abe1ea1c42c", func := "koine/koinelaw14.RestrictNodes", spec := "restrictNodes", unfollowed := true, recurses := true, named := ["math/bits.deBruijn64tab"], plainKeys := false, apart := false, laid := [("math/bits.deBruijn64tab", laid_math_bits_deBruijn64tab)], narrowed := true }
def RestrictNodesUptoSaid : Prop := restrictNodesUptoRow.holds Tryz.pinned (OpenSpec.upto restrictNodesSpec)

/-- 'koinelaw14.RestrictOneLine', WHERE WHAT IT READS IS OF BULK AT MOST 1048576: true; the input reads as it did. -/
def restrictOneLineUptoRow : OpenClaim := { program := "ytecmmhngjjhieaagreatdoor", sum := "b60fc389db7d5a26177b65edae9cdc8aaa98b8ea566002f2b58f6abe1ea1c42c", func := "koine/koinelaw14.RestrictOneLine", spec := "restrictOneLine", unfollowed := true, recurses := true, named := ["math/bits.deBruijn64tab"], plainKeys := false, apart := false, laid := [("math/bits.deBruijn64tab", laid_math_bits_deBruijn64tab)], narrowed := true }
def RestrictOneLineUptoSaid : Prop := restrictOneLineUptoRow.holds Tryz.pinned (OpenSpec.upto restrictOneLineSpec)

/-- 'koinelaw14.RestrictShift', WHERE WHAT IT READS IS OF BULK AT MOST 1048576: true; the input reads as it did. -/
def restrictShiftUptoRow : OpenClaim := { program := "ytecmmhngjjhieaagreatdoor", sum := "b60fc389db7d5a26177b65edae9cdc8aaa98b8ea566002f2b58f6abe1ea1c42c", func := "koine/koinelaw14.RestrictShift", spec := "restrictShift", unfollowed := true, recurses := true, named := ["math/bits.deBruijn64tab"], plainKeys := false, apart := false, laid := [("math/bits.deBruijn64tab", laid_math_bits_deBruijn64tab)], narrowed := true }
def RestrictShiftUptoSaid : Prop := restrictShiftUptoRow.holds Tryz.pinned (OpenSpec.upto restrictShiftSpec)

/-- 'koinelaw14.RestrictWordsMatchReference', WHERE WHAT IT READS IS OF BULK AT MOST 1048576: true; the input reads as it did. -/
def restrictWordsMatchReferenceUptoRow : OpenClaim := { program := "ytecmmhngjjhieaagreatdoor", sum := "b60fc389db7d5a26177b65edae9cdc8aaa98b8ea566002f2b58f6abe1ea1c42c", func := "koine/koinelaw14.RestrictWordsMatchReference", spec := "restrictWordsMatchReference", unfollowed := true, recurses := true, named := ["math/bits.deBruijn64tab"], plainKeys := false, apart := false, laid := [("math/bits.deBruijn64tab", laid_math_bits_deBruijn64tab)], narrowed := true }
def RestrictWordsMatchReferenceUptoSaid : Prop := restrictWordsMatchReferenceUptoRow.holds Tryz.pinned (OpenSpec.upto restrictWordsMatchReferenceSpec)

end Rows
end Go.Proofs.YtecmmhngjjhieaaGreatDoor
