/- A layer of symbolic execution over the kit's weakest preconditions, part DA; no conditions. -/
import Derived.Test.YtecmmhngjjhieaaGreatDoorVD
import Derived.Test.YtecmmhngjjhieaaGreatDoorProg
import Derived.Tactics
import Derived.Tactics2
import Derived.Laws.Pointers
import Derived.RecoverIn
set_option maxRecDepth 100000
set_option linter.unusedSimpArgs false
set_option linter.unnecessarySimpa false
open Go Go.Proofs
namespace Go.KV
theorem dfrA : DfrOk Tryz.prog 182 := by
  intro caps w hcs
  obtain ⟨p, rfl⟩ : ∃ p, caps = #[p] := Array.size_eq_one_iff.1 hcs
  refine ⟨?_, ?_⟩
  · have h1 : (Tryz.f182.name == "runtime.NumGoroutine") = false := by kernel_rfl
    have h2 : Tryz.f182.body.isNone = false := by kernel_rfl
    have hp : (program).run Tryz.prog w = .ok Tryz.prog w := rfl
    simp only [invoke, callFunc, Sem.run_bind, hp, Result.andThen_ok, Tryz.func182, h1, h2, Bool.false_eq_true, if_false, Sem.run_pure]
    rfl
  refine callsDIn_of_wpSIn Tryz.func182 rfl trivial fun c₀ cs hu => ?_
  apply wpSIn_seq
  apply wpSIn_region
  simp [wpOpsSIn, go_sem, recoverD, hu, Tryz.ntmps182, Exit.thenS, Fence.wide]
  apply wpSIn_seq
  apply wpSIn_region
  simp [wpOpsSIn, go_sem, recoverD, hu, Tryz.ntmps182, Exit.thenS, Fence.wide]
  refine wpSIn_cond (t := false) (by simp [Act.eval, Array.replicate]) ?_
  simp only [Bool.false_eq_true, if_false]
  refine wpSIn_of_wpIn rfl (wpIn_skip ?_)
  cases c₀
  simp_all [bodyPostS, results, Tryz.results182]
end Go.KV
