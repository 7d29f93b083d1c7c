/- A layer of symbolic execution over the kit's weakest preconditions, part Z10m; no conditions. -/
import Derived.Test.YtecmmhngjjhieaaGreatDoorCards
import Derived.Test.YtecmmhngjjhieaaGreatDoorTie
import Derived.SevenTiedAt
import Derived.Deep.DeepHandedRow
set_option maxRecDepth 100000
set_option maxHeartbeats 4000000
set_option linter.unnecessarySimpa false
namespace Go.Proofs.YtecmmhngjjhieaaGreatDoor
open Go
/-! The card's closed facts, one by one. -/
theorem k_wf : Rows.restrictWordsMatchReferenceRow.wfByText (OpenSpec.ofChange Rows.restrictWordsMatchReferenceSpec) = true := by kernel_rfl
theorem k_main : Tryz.pinned.checked.prog.mainIs = some (true, "d5812eb2c962e1f3509e2d30fac14473e8934ef951b5568a913e005a667a718f".toList) := by kernel_rfl
theorem k_goes : false = Rows.restrictWordsMatchReferenceRow.goesBy Tryz.pinned.checked.prog := by kernel_rfl
theorem k_looks : true = Tryz.pinned.checked.prog.looks [] := by kernel_rfl
theorem k_s45 : Tryz.prog.wantsStandIn 45 = false := by kernel_rfl
theorem k_s3 : Tryz.prog.wantsStandIn 3 = false := by kernel_rfl
theorem k_f : Tryz.prog.funcNamed "koine/koinelaw14.RestrictWordsMatchReference" = some 10 := by kernel_rfl
theorem k_params : Tryz.f10.params.toList = [45, 3, 3] := by kernel_rfl
end Go.Proofs.YtecmmhngjjhieaaGreatDoor
