/- Floats out of bits: FromBits, l01From, as plain functions with their contracts. -/
import Derived.Test.YtifegijnfnjboaaDoorXL
set_option linter.unusedVariables false
set_option linter.unusedSimpArgs false
namespace Go.Proofs.YtifegijnfnjboaaDoor
open Go.RowKit Go.Proofs.YtifegijnfnjboaaDoorW.PrintWords Go.Proofs.YtifegijnfnjboaaDoorW.PrintLast
namespace XM
theorem run_frombits (P : Program) (w : World) (n : Int) : (Extern.MathFloatBits.float32frombits #[.int .u32 n]).run P w = .ok (.float .f32 n.toNat) w := rfl
/-- impl.FromBits. -/
def FromBits.f (a0 : Int) : Option (Nat × Bool) := if 0 ≤ a0 ∧ a0 ≤ 4294967295 then some ((a0 % 4294967296).toNat, true) else some (0, false)
set_option maxHeartbeats 4000000 in
set_option maxRecDepth 100000 in
theorem FromBits.calls (a0 : Int) (r1 : Nat) (r2 : Bool) (w : World) (h : FromBits.f a0 = some (r1, r2)) : Calls Tryd.prog 94 #[.int .i64 a0] w fun e w' => e = .returned (.tuple #[.float .f32 r1, .bool r2]) ∧ Drawn0 w w' := by
  unfold FromBits.f at h
  split at h
  · rename_i hc
    obtain ⟨rfl, rfl⟩ := Prod.mk.inj (Option.some.inj h)
    have c1 : decide (0 ≤ a0) = true := decide_eq_true hc.1
    have c2 : decide (a0 ≤ 4294967295) = true := decide_eq_true hc.2
    go_enter Tryd.func94, Tryd.ntmps94
    go_wp2
    rw [run_callFunc_extern Tryd.func109 (by kernel_rfl) (by kernel_rfl) (by kernel_rfl) (e := Extern.MathFloatBits.float32frombits) (by kernel_rfl)]
    rw [run_frombits]
    simp only [Result.andThen]
    rw [Oper.upon_value]
    go_wp2
    go_ret2
    exact ⟨by first | rfl | (simp; done) | (simp; rw [Int.emod_eq_of_lt hc.1 (by omega)]), Drawn0.refl _⟩
  · rename_i hc
    obtain ⟨rfl, rfl⟩ := Prod.mk.inj (Option.some.inj h)
    by_cases h1 : 0 ≤ a0
    · have c1 : decide (0 ≤ a0) = true := decide_eq_true h1
      have c2 : decide (a0 ≤ 4294967295) = false := decide_eq_false (fun h => hc ⟨h1, h⟩)
      go_enter Tryd.func94, Tryd.ntmps94
      go_wp2
      go_ret2
      exact ⟨by first | rfl | (simp; done), Drawn0.refl _⟩
    · have c1 : decide (0 ≤ a0) = false := decide_eq_false h1
      go_enter Tryd.func94, Tryd.ntmps94
      go_wp2
      go_ret2
      exact ⟨by first | rfl | (simp; done), Drawn0.refl _⟩
/-- spec.l01From. -/
def l01From.f (a0 : Int) : Option Nat := some ((a0 % 4294967296).toNat)
set_option maxHeartbeats 4000000 in
set_option maxRecDepth 100000 in
theorem l01From.calls (a0 : Int) (r : Nat) (w : World) (h : l01From.f a0 = some r) : Calls Tryd.prog 89 #[.int .i64 a0] w fun e w' => e = .returned (.float .f32 r) ∧ Drawn0 w w' := by
  obtain rfl := Option.some.inj h
  go_enter Tryd.func89, Tryd.ntmps89
  go_wp2
  rw [run_callFunc_extern Tryd.func109 (by kernel_rfl) (by kernel_rfl) (by kernel_rfl) (e := Extern.MathFloatBits.float32frombits) (by kernel_rfl)]
  rw [run_frombits]
  simp only [Result.andThen]
  rw [Oper.upon_value]
  go_wp2
  go_ret
  exact ⟨by first | rfl | (simp; done), Drawn0.refl _⟩
end XM
end Go.Proofs.YtifegijnfnjboaaDoor
