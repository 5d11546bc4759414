/- A thread handed in (a struct of a slice of three floats each and a float), opened: its points as a list, its spin as bits. -/
import Derived.Test.YtffofpiejcolfaaL00
import Derived.Laws.Cover2
import Derived.Deep.Strs
import Derived.Lib.SmallJoins
set_option linter.unusedVariables false
namespace Go.Proofs.Ytffofpiejcolfaa.OpenL
open Go.RowKit Go.ChangeShapes Go.WideShapes Go.Deep Go.Proofs.YtffofpiejcolfaaW.PrintWords Go.Proofs.Ytffofpiejcolfaa.L0
section
variable {H : Type} {enc : TypeId × Value → H} {P : Program} {w : World} {base : Nat} {spare : Nat → Bool} {held : Bool}
theorem trod_float {n : Nat} {t : TypeId} {k : FloatKind} {cs : List Value} {y : DataW H × List MemPlace} (ht : P.underlying t = some (.float k)) (h : DataW.trod enc P w base spare held n t cs = some y) : ∃ b, cs = [.float k b] := by
  cases n with
  | zero => simp [DataW.trod] at h
  | succ n =>
    cases cs with
    | nil => simp [DataW.trod, ht] at h
    | cons c rest =>
      cases rest with
      | cons c2 rest => cases c <;> simp [DataW.trod, ht] at h
      | nil =>
        cases c <;> simp [DataW.trod, ht] at h
        rename_i k' b
        by_cases hk : k' = k
        · subst hk
          exact ⟨b, rfl⟩
        · simp [hk] at h
end
instance : Inhabited S44 := ⟨z44⟩
variable {H : Type} {enc : TypeId × Value → H} {W : World} {spare : Nat → Bool} {held : Bool}
set_option maxRecDepth 100000 in
theorem thread {v : Value} {d : DataW H} {p : List MemPlace} {r : Reach} {b0 : Nat} (hv : Value.okWide Try.prog W r b0 25 v) (h : DataW.Trod enc Try.prog W 0 spare held 25 v d p) :
    ∃ (A : Option Addr) (c : Nat) (l : List S44) (a : Nat), v = .agg #[.slice A l.length c, .float .f32 a] ∧ l.length ≤ c ∧ l.length ≤ 9223372036854775807 ∧ Kd.C k44 W A l.length l := by
  obtain ⟨v0, v1, y0, y1, n, rfl, rfl, rfl, h0, h1⟩ := Go.Joins.open_agg2 Try.underlying25 (by kernel_rfl) (by kernel_rfl) hv h
  obtain ⟨b, hb⟩ := trod_float Try.underlying23 h1
  obtain rfl : v1 = .float .f32 b := by simpa using hb
  rcases open_slice Try.underlying22 h0 with ⟨hcs, _⟩ | ⟨a, len, cap, m, n', D, Pl, hcs, _, hl, hm, hmm, _, hx⟩
  · obtain rfl : v0 = .slice none 0 0 := by simpa using hcs
    exact ⟨none, 0, [], b, rfl, Nat.le_refl _, by decide, Kd.C_nil _ _⟩
  · obtain rfl : v0 = .slice (some a) len cap := by simpa using hcs
    have hlm : len ≤ m := by rw [hmm]; split <;> omega
    have c44 : Try.prog.cellsOf 44 = 3 := by kernel_rfl
    have c23 : Try.prog.cellsOf 23 = 1 := by kernel_rfl
    have each : ∀ i, i < m → ∃ x : S44, ∀ j u, [Value.float .f32 x.f0, .float .f32 x.f1, .float .f32 x.f2][j]? = some u → W.cell? (a.add (i * 3 + j)) = some u := by
      intro i hi
      obtain ⟨cs', hc, ht⟩ := hx i hi
      rw [c44] at hc
      obtain ⟨y0, y1, y2, n2, _, hlen, t0, t1, t2⟩ := trod_struct3 Try.underlying44 ht
      rw [c44] at hlen
      obtain ⟨_, _, hcell⟩ := World.cells?_some hc
      match cs', hlen with
      | [u0, u1, u2], _ =>
        simp only [c23] at t0 t1 t2
        obtain ⟨b0, e0⟩ := trod_float Try.underlying23 t0
        obtain ⟨b1, e1⟩ := trod_float Try.underlying23 t1
        obtain ⟨b2, e2⟩ := trod_float Try.underlying23 t2
        simp at e0 e1 e2
        subst e0 e1 e2
        refine ⟨⟨b0, b1, b2⟩, fun j u hj => ?_⟩
        have hj3 : j < 3 := (List.getElem?_eq_some_iff.1 hj).1
        have := hcell j hj3
        have ea : (a.add (i * 3)).add j = a.add (i * 3 + j) := by
          exact Go.Deep.add_add _ _ _
        rw [ea] at this
        rw [this]
        exact hj
    obtain ⟨V, hV⟩ := choose_lt each
    have hll : ((List.range len).map V).length = len := by simp
    refine ⟨some a, cap, (List.range len).map V, b, by rw [hll], by rw [hll]; exact hl, by rw [hll]; unfold Go.maxLen at hm; omega, ?_⟩
    refine ⟨rfl, by rw [hll]; unfold Go.maxLen at hm; omega, fun _ => ⟨a, rfl, fun j p hj => ?_⟩⟩
    have hjl : j < len := by have := (List.getElem?_eq_some_iff.1 hj).1; rwa [hll] at this
    have hp : V j = p := by
      rw [List.getElem?_map, List.getElem?_range hjl] at hj
      exact Option.some.inj hj
    subst hp
    exact ⟨[.float .f32 (V j).f0, .float .f32 (V j).f1, .float .f32 (V j).f2], rfl, k44_mk W (V j), fun i u hu => hV j (by omega) i u hu⟩
end Go.Proofs.Ytffofpiejcolfaa.OpenL
