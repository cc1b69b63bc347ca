/-
  CX: the closed function works() of this chapter's laws returns true, whatever the model draws: run in the kernel.
-/
import Derived.Test.YtmnaiddobipclaaCxFn
import Derived.Test.YtmnaiddobipclaaCxCode
import Derived.KernelRfl
namespace CX
open Go Go.Proofs

theorem names_ok : T.allB (fun fn : Func => fn.name != "runtime.NumGoroutine") fnT = true := by kernel_rfl
theorem types_ok : tabChk Try.prog env.T 184 = true := by kernel_rfl

theorem env_ok : EnvOk env Try.prog := by
  refine ⟨fun t ty h => ?_, fun f fn h => ?_, by kernel_rfl⟩
  · refine tabChk_ok 184 types_ok t ty ?_ h
    simp only [env] at h
    split at h
    · rename_i hb; simpa [Nat.blt_eq] using hb
    · cases h
  · refine ⟨T.All.get fnT id fnT_ok f fn h, ?_⟩
    have := T.All.get fnT id (T.allB_ok fnT id names_ok) f fn h
    simpa using this

theorem works_run : callF env (cx env 1000) 0 .e 0 13 [] (fun v _ _ => retV v .e 0) = some (.normal, ⟨0, 0, .n .e (some (.bool true)) .e, .e, 0, []⟩) := by kernel_rfl

/-- **works() returns true; what there was lies as it lay.** -/
theorem works_ok (w : World) : Calls Try.prog 13 #[] w fun e w' => e = .returned (.bool true) ∧ Kept w w' := by
  refine (cx_call env_ok (xs := []) (by simp [RvL]) works_run w).mono fun e w' he => ?_
  obtain ⟨u, ρ, n, rfl, h, rest⟩ := he
  simp only [Rv] at h
  subst h
  exact ⟨rfl, rest⟩
end CX
