/- math.Sqrt of a float64 whose root is no NaN. -/
import Derived.Test.YtffofpiejcolfaaXL
set_option linter.unusedVariables false
namespace Go.Proofs.Ytffofpiejcolfaa
open Go.RowKit Go.Proofs.YtffofpiejcolfaaW.PrintWords Go.Proofs.YtffofpiejcolfaaW.PrintLast
namespace XR
def Sqrt.f (a0 : Nat) : Option Nat := FloatKind.f64.format.sqrt a0
theorem run_sqrt (P : Program) (w : World) (x r : Nat) (h : FloatKind.f64.format.sqrt x = some r) : (Extern.MathSqrt.sqrt #[.float .f64 x]).run P w = .ok (.float .f64 r) w := by
  have key : ∀ o : Option Nat, o = some r → (match o with | some r => (pure (Value.float .f64 r) : Sem Value) | none => do pure (Value.float .f64 (← choose (.nanBits .f64 x x)))).run P w = .ok (.float .f64 r) w := by
    intro o ho
    subst ho
    rfl
  exact key _ h
set_option maxHeartbeats 4000000 in
set_option maxRecDepth 100000 in
theorem Sqrt.calls (a0 r : Nat) (w : World) (h : Sqrt.f a0 = some r) : Calls Try.prog 106 #[.float .f64 a0] w fun e w' => e = .returned (.float .f64 r) ∧ Drawn0 w w' := by
  unfold Sqrt.f at h
  go_enter Try.func106, Try.ntmps106
  go_wp2
  rw [run_callFunc_extern Try.func130 (by kernel_rfl) (by kernel_rfl) (by kernel_rfl) (e := Extern.MathSqrt.sqrt) (by kernel_rfl)]
  rw [run_sqrt _ _ _ _ h]
  simp only [Result.andThen]
  rw [Oper.upon_value]
  go_wp2
  go_ret
  exact ⟨rfl, Drawn0.refl _⟩
end XR
end Go.Proofs.Ytffofpiejcolfaa
