/- The plain law of FnExactFlowByThreads: both sides are one function of the list, the place and the core; it answers true everywhere. No memory in sight. -/
import Derived.Test.YtffofpiejcolfaaL33
import Derived.Test.YtffofpiejcolfaaPL3
set_option linter.unusedVariables false
set_option linter.unusedSimpArgs false
namespace Go.Proofs.Ytffofpiejcolfaa.PureFlow
open Go.RowKit Go.Proofs.Ytffofpiejcolfaa Go.Proofs.YtffofpiejcolfaaW.PrintWords Go.Proofs.YtffofpiejcolfaaW.PrintLast Go.Proofs.YtffofpiejcolfaaW.PrintMore
open XF XL XC XT XN XE XK L0 L3 XW PL3
theorem FnExactFlowByThreads (ls : List S25) (x y z core : Nat) (hlen : ls.length ≤ 9223372036854775807) (hs : ∀ t ∈ ls, t.f0.length ≤ 9223372036854775807) : ∃ k, L3.laws_FnExactFlowByThreads.f k ls x y z core = some true := by
  obtain ⟨K, hK⟩ : ∃ K : Nat, 20000000 < K := ⟨20000001, by omega⟩
  refine ⟨K + 1, ?_⟩
  obtain ⟨t, ht, h2⟩ := szTs_f ls (K + 1) (by omega) hlen hs
  unfold L3.laws_FnExactFlowByThreads.f
  rw [ht]
  simp only [Option.bind_some]
  by_cases h0 : t < 0
  · rw [if_pos h0]
  · rw [if_neg h0]
    obtain ⟨hl, htp⟩ := h2.resolve_left h0
    rw [toTs_f ls (K + 1) (by omega) (by omega) (by omega)]
    simp only [Option.bind_some, L3.laws_toVector.f]
    unfold impl_Flow.f
    obtain ⟨r, hr⟩ : ∃ r, spec_Flow.f (ls.map to31) x y z core = some r := ⟨_, rfl⟩
    rw [hr]
    simp only [Option.bind_some]
    have e : XL.eqVector.f r.1 r.2.1 r.2.2.1 r.1 r.2.1 r.2.2.1 = some true := by
      unfold XL.eqVector.f
      rw [sfc_self, sfc_self, sfc_self]
      rfl
    rw [e]
    simp only [Option.bind_some]
    rw [if_pos trivial, show (r.2.2.2 != r.2.2.2) = false by simp]
    simp only [L3.laws_FnExactFlowByThreads.j0]
    rw [if_neg (by simp), toTs_f ls K (by omega) (by omega) (by omega)]
    simp only [Option.bind_some]
    rw [eqTs_f ls K (by omega) (by omega) (by omega)]
    rfl
end Go.Proofs.Ytffofpiejcolfaa.PureFlow
