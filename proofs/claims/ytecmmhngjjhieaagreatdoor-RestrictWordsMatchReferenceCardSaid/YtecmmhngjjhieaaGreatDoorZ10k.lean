/- A layer of symbolic execution over the kit's weakest preconditions, part Z10k; no conditions. -/
import Derived.Test.YtecmmhngjjhieaaGreatDoorCards
import Derived.Test.YtecmmhngjjhieaaGreatDoorTie
import Derived.SevenTiedAt
import Derived.Deep.DeepHandedRow
set_option maxRecDepth 100000
set_option maxHeartbeats 4000000
set_option linter.unnecessarySimpa false
namespace Go.Proofs.YtecmmhngjjhieaaGreatDoor
open Go
/-! The closed facts of the row, one by one. -/
theorem q_laid : laidOutB Tryz.prog = true := by kernel_rfl
theorem q_maps : mapsRowed Tryz.prog = true := by kernel_rfl
theorem q_inPlace : Tryz.prog.inPlace 10 = Rows.restrictWordsMatchReferenceRow.inPlace := by kernel_rfl
theorem q_unf : Tryz.prog.unfollowed 10 = true := by kernel_rfl
theorem q_rec : Tryz.prog.recurses 10 = true := by kernel_rfl
theorem q_named : Tryz.prog.varsNamed 10 = ["math/bits.deBruijn64tab"] := by kernel_rfl
theorem closed10 : joinedFacts Tryz.prog 10 Tryz.f10 (OpenSpec.ofChange Rows.restrictWordsMatchReferenceSpec).bare Rows.restrictWordsMatchReferenceRow = true := by
  unfold joinedFacts
  rw [q_laid, q_maps, q_inPlace, q_unf, q_rec, q_named]
  kernel_rfl
theorem hfn10 : Tryz.pinned.checked.prog.funcNamed Rows.restrictWordsMatchReferenceRow.func = some 10 := by kernel_rfl
theorem inst10 : Tryz.f10.isInstance Tryz.pinned.checked.prog Rows.restrictWordsMatchReferenceRow.origin Rows.restrictWordsMatchReferenceRow.targs := of_decide_eq_true (by kernel_rfl)
theorem wrap10 : Tryz.f10.isWrapper Tryz.pinned.checked.prog Rows.restrictWordsMatchReferenceRow.wrapper Rows.restrictWordsMatchReferenceRow.mainSum := by
  unfold Func.isWrapper; first | (rw [if_pos (by decide +kernel)]; kernel_rfl) | (rw [if_neg (by decide +kernel)]; exact ⟨rfl, rfl⟩)
end Go.Proofs.YtecmmhngjjhieaaGreatDoor
