/- A list of threads, and a vector, handed in, opened. -/
import Derived.Test.YtffofpiejcolfaaOpenL
import Derived.Test.YtffofpiejcolfaaL30
set_option linter.unusedVariables false
namespace Go.Proofs.Ytffofpiejcolfaa.OpenL
open Go.RowKit Go.ChangeShapes Go.WideShapes Go.Deep Go.Proofs.YtffofpiejcolfaaW.PrintWords Go.Proofs.Ytffofpiejcolfaa.L0 Go.Proofs.Ytffofpiejcolfaa.L3
variable {H : Type} {enc : TypeId × Value → H} {W : World} {spare : Nat → Bool} {held : Bool}
instance : Inhabited S25 := ⟨z25⟩

set_option maxRecDepth 100000 in
theorem points {n : Nat} {v0 : Value} {y0 : DataW H × List MemPlace} (h0 : DataW.trod enc Try.prog W 0 spare held n 22 [v0] = some y0) :
    ∃ (A : Option Addr) (c : Nat) (l : List S44), v0 = .slice A l.length c ∧ l.length ≤ c ∧ l.length ≤ 9223372036854775807 ∧ Kd.C k44 W A l.length l := by
  rcases open_slice Try.underlying22 h0 with ⟨hcs, _⟩ | ⟨a, len, cap, m, n', D, Pl, hcs, _, hl, hm, hmm, _, hx⟩
  · obtain rfl : v0 = .slice none 0 0 := by simpa using hcs
    exact ⟨none, 0, [], rfl, Nat.le_refl _, by decide, Kd.C_nil _ _⟩
  · obtain rfl : v0 = .slice (some a) len cap := by simpa using hcs
    have hlm : len ≤ m := by rw [hmm]; split <;> omega
    have c44 : Try.prog.cellsOf 44 = 3 := by kernel_rfl
    have c23 : Try.prog.cellsOf 23 = 1 := by kernel_rfl
    have each : ∀ i, i < m → ∃ x : S44, ∀ j u, [Value.float .f32 x.f0, .float .f32 x.f1, .float .f32 x.f2][j]? = some u → W.cell? (a.add (i * 3 + j)) = some u := by
      intro i hi
      obtain ⟨cs', hc, ht⟩ := hx i hi
      rw [c44] at hc
      obtain ⟨y0, y1, y2, n2, _, hlen, t0, t1, t2⟩ := trod_struct3 Try.underlying44 ht
      rw [c44] at hlen
      obtain ⟨_, _, hcell⟩ := World.cells?_some hc
      match cs', hlen with
      | [u0, u1, u2], _ =>
        simp only [c23] at t0 t1 t2
        obtain ⟨b0, e0⟩ := trod_float Try.underlying23 t0
        obtain ⟨b1, e1⟩ := trod_float Try.underlying23 t1
        obtain ⟨b2, e2⟩ := trod_float Try.underlying23 t2
        simp at e0 e1 e2
        subst e0 e1 e2
        refine ⟨⟨b0, b1, b2⟩, fun j u hj => ?_⟩
        have hj3 : j < 3 := (List.getElem?_eq_some_iff.1 hj).1
        have := hcell j hj3
        have ea : (a.add (i * 3)).add j = a.add (i * 3 + j) := Go.Deep.add_add _ _ _
        rw [ea] at this
        rw [this]
        exact hj
    obtain ⟨V, hV⟩ := choose_lt each
    have hll : ((List.range len).map V).length = len := by simp
    refine ⟨some a, cap, (List.range len).map V, by rw [hll], by rw [hll]; exact hl, by rw [hll]; unfold Go.maxLen at hm; omega, ?_⟩
    refine ⟨rfl, by rw [hll]; unfold Go.maxLen at hm; omega, fun _ => ⟨a, rfl, fun j p hj => ?_⟩⟩
    have hjl : j < len := by have := (List.getElem?_eq_some_iff.1 hj).1; rwa [hll] at this
    have hp : V j = p := by
      rw [List.getElem?_map, List.getElem?_range hjl] at hj
      exact Option.some.inj hj
    subst hp
    exact ⟨[.float .f32 (V j).f0, .float .f32 (V j).f1, .float .f32 (V j).f2], rfl, k44_mk W (V j), fun i u hu => hV j (by omega) i u hu⟩
set_option maxRecDepth 100000 in
theorem threads {v : Value} {d : DataW H} {p : List MemPlace} {r : Reach} {b0 : Nat} (hv : Value.okWide Try.prog W r b0 42 v) (h : DataW.Trod enc Try.prog W 0 spare held 42 v d p) :
    ∃ (A : Option Addr) (c : Nat) (l : List S25), v = .slice A l.length c ∧ l.length ≤ c ∧ l.length ≤ 9223372036854775807 ∧ (∀ t ∈ l, t.f0.length ≤ 9223372036854775807) ∧ Kd.C k25 W A l.length l := by
  obtain ⟨A0, len0, cap0, rfl⟩ := okWide_slice Try.underlying42 hv
  obtain ⟨fuel, hf⟩ := h
  rcases open_slice Try.underlying42 hf with ⟨hcs, _⟩ | ⟨a, len, cap, m, n', D, Pl, hcs, _, hl, hm, hmm, _, hx⟩
  · simp [Value.cells] at hcs
    obtain ⟨rfl, rfl, rfl⟩ := hcs
    exact ⟨none, 0, [], rfl, Nat.le_refl _, by decide, by simp, Kd.C_nil _ _⟩
  · simp [Value.cells] at hcs
    obtain ⟨rfl, rfl, rfl⟩ := hcs
    have hlm : len0 ≤ m := by rw [hmm]; split <;> omega
    have c25 : Try.prog.cellsOf 25 = 2 := by kernel_rfl
    have c22 : Try.prog.cellsOf 22 = 1 := by kernel_rfl
    have c23 : Try.prog.cellsOf 23 = 1 := by kernel_rfl
    have each : ∀ i, i < m → ∃ x : S25, ∃ (Ai : Option Addr) (ci : Nat), x.f0.length ≤ ci ∧ x.f0.length ≤ 9223372036854775807 ∧ Kd.C k44 W Ai x.f0.length x.f0 ∧ ∀ j u, [Value.slice Ai x.f0.length ci, .float .f32 x.f1][j]? = some u → W.cell? (a.add (i * 2 + j)) = some u := by
      intro i hi
      obtain ⟨cs', hc, ht⟩ := hx i hi
      rw [c25] at hc
      obtain ⟨y0, y1, n2, _, hlen, t0, t1⟩ := trod_struct2 Try.underlying25 ht
      rw [c25] at hlen
      obtain ⟨_, _, hcell⟩ := World.cells?_some hc
      match cs', hlen with
      | [u0, u1], _ =>
        simp only [c22] at t0
        simp only [c23] at t1
        obtain ⟨b1, e1⟩ := trod_float Try.underlying23 t1
        simp at e1
        subst e1
        obtain ⟨Ai, ci, l, e0, h1, h2, h3⟩ := points (v0 := u0) (by simpa using t0)
        subst e0
        refine ⟨⟨l, b1⟩, Ai, ci, h1, h2, h3, fun j u hj => ?_⟩
        have hj2 : j < 2 := (List.getElem?_eq_some_iff.1 hj).1
        have := hcell j hj2
        have ea : (a.add (i * 2)).add j = a.add (i * 2 + j) := Go.Deep.add_add _ _ _
        rw [ea] at this
        rw [this]
        exact hj
    obtain ⟨V, hV⟩ := choose_lt each
    have hll : ((List.range len0).map V).length = len0 := by simp
    refine ⟨some a, cap0, (List.range len0).map V, by rw [hll], by rw [hll]; exact hl, by rw [hll]; unfold Go.maxLen at hm; omega, ?_, ?_⟩
    · intro t ht
      obtain ⟨i, hi, rfl⟩ := List.mem_map.1 ht
      obtain ⟨_, _, _, h2, _⟩ := hV i (by have := List.mem_range.1 hi; omega)
      exact h2
    · refine ⟨rfl, by rw [hll]; unfold Go.maxLen at hm; omega, fun _ => ⟨a, rfl, fun j p hj => ?_⟩⟩
      have hjl : j < len0 := by have := (List.getElem?_eq_some_iff.1 hj).1; rwa [hll] at this
      have hp : V j = p := by
        rw [List.getElem?_map, List.getElem?_range hjl] at hj
        exact Option.some.inj hj
      subst hp
      obtain ⟨Ai, ci, h1, _, h3, h4⟩ := hV j (by omega)
      exact ⟨[.slice Ai (V j).f0.length ci, .float .f32 (V j).f1], rfl, k25_mk W (V j) h1 h3, fun i u hu => h4 i u hu⟩
set_option maxRecDepth 100000 in
theorem vector {v : Value} {d : DataW H} {p : List MemPlace} {r : Reach} {b0 : Nat} (hv : Value.okWide Try.prog W r b0 44 v) (h : DataW.Trod enc Try.prog W 0 spare held 44 v d p) :
    ∃ x y z : Nat, v = .agg #[.float .f32 x, .float .f32 y, .float .f32 z] := by
  obtain ⟨v0, v1, v2, y0, y1, y2, n, rfl, rfl, rfl, h0, h1, h2⟩ := Go.Joins.open_agg3 Try.underlying44 (by kernel_rfl) (by kernel_rfl) hv h
  obtain ⟨b0, e0⟩ := trod_float Try.underlying23 h0
  obtain ⟨b1, e1⟩ := trod_float Try.underlying23 h1
  obtain ⟨b2, e2⟩ := trod_float Try.underlying23 h2
  obtain rfl : v0 = .float .f32 b0 := by simpa using e0
  obtain rfl : v1 = .float .f32 b1 := by simpa using e1
  obtain rfl : v2 = .float .f32 b2 := by simpa using e2
  exact ⟨b0, b1, b2, rfl⟩
end Go.Proofs.Ytffofpiejcolfaa.OpenL
