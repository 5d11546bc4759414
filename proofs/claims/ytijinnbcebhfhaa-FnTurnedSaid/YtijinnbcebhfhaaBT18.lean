/- Words, walks and plain laws that a claim of this seat needs, one text after the other (part 18). -/
import Derived.Test.YtijinnbcebhfhaaBT17
import Derived.SizedLaws
import Derived.ChangeSlices
set_option linter.unusedVariables false
set_option linter.unusedSimpArgs false
section
set_option linter.unusedVariables false
set_option linter.unusedSimpArgs false
namespace Go.Proofs.Ytijinnbcebhfhaa.T1
open Go.RowKit Go.Proofs.YtijinnbcebhfhaaW.PrintWords Go.Proofs.YtijinnbcebhfhaaW.PrintLast Go.Proofs.YtijinnbcebhfhaaW.PrintMore
open Go.Proofs.Ytijinnbcebhfhaa.T0
set_option maxRecDepth 100000
theorem t_11_0 : rest 60 11 0 = some true := of_ok (by decide +kernel)
theorem t_11_1 : rest 60 11 1 = some true := of_ok (by decide +kernel)
theorem t_11_2 : rest 60 11 2 = some true := of_ok (by decide +kernel)
theorem t_11_3 : rest 60 11 3 = some true := of_ok (by decide +kernel)
theorem t_11_4 : rest 60 11 4 = some true := of_ok (by decide +kernel)
theorem t_11_5 : rest 60 11 5 = some true := of_ok (by decide +kernel)
theorem t_11_6 : rest 60 11 6 = some true := of_ok (by decide +kernel)
theorem t_11_7 : rest 60 11 7 = some true := of_ok (by decide +kernel)
end Go.Proofs.Ytijinnbcebhfhaa.T1
end
section
set_option linter.unusedVariables false
set_option linter.unusedSimpArgs false
namespace Go.Proofs.Ytijinnbcebhfhaa.T1
open Go.RowKit Go.Proofs.YtijinnbcebhfhaaW.PrintWords Go.Proofs.YtijinnbcebhfhaaW.PrintLast Go.Proofs.YtijinnbcebhfhaaW.PrintMore
open Go.Proofs.Ytijinnbcebhfhaa.T0
theorem row_0 (j : Int) (h0 : 0 ≤ j) (h1 : j < 8) : rest 60 0 j = some true := by
  have : j = 0 ∨ j = 1 ∨ j = 2 ∨ j = 3 ∨ j = 4 ∨ j = 5 ∨ j = 6 ∨ j = 7 := by omega
  rcases this with rfl | rfl | rfl | rfl | rfl | rfl | rfl | rfl
  · exact t_0_0
  · exact t_0_1
  · exact t_0_2
  · exact t_0_3
  · exact t_0_4
  · exact t_0_5
  · exact t_0_6
  · exact t_0_7
theorem row_1 (j : Int) (h0 : 0 ≤ j) (h1 : j < 8) : rest 60 1 j = some true := by
  have : j = 0 ∨ j = 1 ∨ j = 2 ∨ j = 3 ∨ j = 4 ∨ j = 5 ∨ j = 6 ∨ j = 7 := by omega
  rcases this with rfl | rfl | rfl | rfl | rfl | rfl | rfl | rfl
  · exact t_1_0
  · exact t_1_1
  · exact t_1_2
  · exact t_1_3
  · exact t_1_4
  · exact t_1_5
  · exact t_1_6
  · exact t_1_7
theorem row_2 (j : Int) (h0 : 0 ≤ j) (h1 : j < 8) : rest 60 2 j = some true := by
  have : j = 0 ∨ j = 1 ∨ j = 2 ∨ j = 3 ∨ j = 4 ∨ j = 5 ∨ j = 6 ∨ j = 7 := by omega
  rcases this with rfl | rfl | rfl | rfl | rfl | rfl | rfl | rfl
  · exact t_2_0
  · exact t_2_1
  · exact t_2_2
  · exact t_2_3
  · exact t_2_4
  · exact t_2_5
  · exact t_2_6
  · exact t_2_7
theorem row_3 (j : Int) (h0 : 0 ≤ j) (h1 : j < 8) : rest 60 3 j = some true := by
  have : j = 0 ∨ j = 1 ∨ j = 2 ∨ j = 3 ∨ j = 4 ∨ j = 5 ∨ j = 6 ∨ j = 7 := by omega
  rcases this with rfl | rfl | rfl | rfl | rfl | rfl | rfl | rfl
  · exact t_3_0
  · exact t_3_1
  · exact t_3_2
  · exact t_3_3
  · exact t_3_4
  · exact t_3_5
  · exact t_3_6
  · exact t_3_7
theorem row_4 (j : Int) (h0 : 0 ≤ j) (h1 : j < 8) : rest 60 4 j = some true := by
  have : j = 0 ∨ j = 1 ∨ j = 2 ∨ j = 3 ∨ j = 4 ∨ j = 5 ∨ j = 6 ∨ j = 7 := by omega
  rcases this with rfl | rfl | rfl | rfl | rfl | rfl | rfl | rfl
  · exact t_4_0
  · exact t_4_1
  · exact t_4_2
  · exact t_4_3
  · exact t_4_4
  · exact t_4_5
  · exact t_4_6
  · exact t_4_7
theorem row_5 (j : Int) (h0 : 0 ≤ j) (h1 : j < 8) : rest 60 5 j = some true := by
  have : j = 0 ∨ j = 1 ∨ j = 2 ∨ j = 3 ∨ j = 4 ∨ j = 5 ∨ j = 6 ∨ j = 7 := by omega
  rcases this with rfl | rfl | rfl | rfl | rfl | rfl | rfl | rfl
  · exact t_5_0
  · exact t_5_1
  · exact t_5_2
  · exact t_5_3
  · exact t_5_4
  · exact t_5_5
  · exact t_5_6
  · exact t_5_7
theorem row_6 (j : Int) (h0 : 0 ≤ j) (h1 : j < 8) : rest 60 6 j = some true := by
  have : j = 0 ∨ j = 1 ∨ j = 2 ∨ j = 3 ∨ j = 4 ∨ j = 5 ∨ j = 6 ∨ j = 7 := by omega
  rcases this with rfl | rfl | rfl | rfl | rfl | rfl | rfl | rfl
  · exact t_6_0
  · exact t_6_1
  · exact t_6_2
  · exact t_6_3
  · exact t_6_4
  · exact t_6_5
  · exact t_6_6
  · exact t_6_7
theorem row_7 (j : Int) (h0 : 0 ≤ j) (h1 : j < 8) : rest 60 7 j = some true := by
  have : j = 0 ∨ j = 1 ∨ j = 2 ∨ j = 3 ∨ j = 4 ∨ j = 5 ∨ j = 6 ∨ j = 7 := by omega
  rcases this with rfl | rfl | rfl | rfl | rfl | rfl | rfl | rfl
  · exact t_7_0
  · exact t_7_1
  · exact t_7_2
  · exact t_7_3
  · exact t_7_4
  · exact t_7_5
  · exact t_7_6
  · exact t_7_7
theorem row_8 (j : Int) (h0 : 0 ≤ j) (h1 : j < 8) : rest 60 8 j = some true := by
  have : j = 0 ∨ j = 1 ∨ j = 2 ∨ j = 3 ∨ j = 4 ∨ j = 5 ∨ j = 6 ∨ j = 7 := by omega
  rcases this with rfl | rfl | rfl | rfl | rfl | rfl | rfl | rfl
  · exact t_8_0
  · exact t_8_1
  · exact t_8_2
  · exact t_8_3
  · exact t_8_4
  · exact t_8_5
  · exact t_8_6
  · exact t_8_7
theorem row_9 (j : Int) (h0 : 0 ≤ j) (h1 : j < 8) : rest 60 9 j = some true := by
  have : j = 0 ∨ j = 1 ∨ j = 2 ∨ j = 3 ∨ j = 4 ∨ j = 5 ∨ j = 6 ∨ j = 7 := by omega
  rcases this with rfl | rfl | rfl | rfl | rfl | rfl | rfl | rfl
  · exact t_9_0
  · exact t_9_1
  · exact t_9_2
  · exact t_9_3
  · exact t_9_4
  · exact t_9_5
  · exact t_9_6
  · exact t_9_7
theorem row_10 (j : Int) (h0 : 0 ≤ j) (h1 : j < 8) : rest 60 10 j = some true := by
  have : j = 0 ∨ j = 1 ∨ j = 2 ∨ j = 3 ∨ j = 4 ∨ j = 5 ∨ j = 6 ∨ j = 7 := by omega
  rcases this with rfl | rfl | rfl | rfl | rfl | rfl | rfl | rfl
  · exact t_10_0
  · exact t_10_1
  · exact t_10_2
  · exact t_10_3
  · exact t_10_4
  · exact t_10_5
  · exact t_10_6
  · exact t_10_7
theorem row_11 (j : Int) (h0 : 0 ≤ j) (h1 : j < 8) : rest 60 11 j = some true := by
  have : j = 0 ∨ j = 1 ∨ j = 2 ∨ j = 3 ∨ j = 4 ∨ j = 5 ∨ j = 6 ∨ j = 7 := by omega
  rcases this with rfl | rfl | rfl | rfl | rfl | rfl | rfl | rfl
  · exact t_11_0
  · exact t_11_1
  · exact t_11_2
  · exact t_11_3
  · exact t_11_4
  · exact t_11_5
  · exact t_11_6
  · exact t_11_7
theorem rest_ok (i j : Int) (h0 : 0 ≤ i) (h1 : i < 12) (h2 : 0 ≤ j) (h3 : j < 8) : rest 60 i j = some true := by
  have : i = 0 ∨ i = 1 ∨ i = 2 ∨ i = 3 ∨ i = 4 ∨ i = 5 ∨ i = 6 ∨ i = 7 ∨ i = 8 ∨ i = 9 ∨ i = 10 ∨ i = 11 := by omega
  rcases this with rfl | rfl | rfl | rfl | rfl | rfl | rfl | rfl | rfl | rfl | rfl | rfl
  · exact row_0 j h2 h3
  · exact row_1 j h2 h3
  · exact row_2 j h2 h3
  · exact row_3 j h2 h3
  · exact row_4 j h2 h3
  · exact row_5 j h2 h3
  · exact row_6 j h2 h3
  · exact row_7 j h2 h3
  · exact row_8 j h2 h3
  · exact row_9 j h2 h3
  · exact row_10 j h2 h3
  · exact row_11 j h2 h3
def laws_FnTurned.Pure : Prop := ∀ (l0 : List Int) (l1 : List Int), l0.length ≤ maxLen → l0.length * 1 ≤ 140737488351232 → (∀ x ∈ l0, (Lit.int .u8 x).wf = true) → l1.length ≤ maxLen → l1.length * 1 ≤ 140737488351232 → (∀ x ∈ l1, (Lit.int .u8 x).wf = true) → ∃ k, laws_FnTurned.f k l0 l1 = some true
theorem laws_FnTurned.walk (P : laws_FnTurned.Pure) (a0 : Option Addr) (len0 cap0 : Nat) (z0 : List Int) (a1 : Option Addr) (len1 cap1 : Nat) (z1 : List Int) (w : World) (w0 : (a0 = none ∧ len0 = 0 ∧ cap0 = 0 ∧ z0 = []) ∨ ∃ x, a0 = some x ∧ len0 ≤ cap0 ∧ cap0 ≤ maxLen ∧ z0.length = cap0 ∧ (∀ i, i < z0.length → w.cell? (x.add i) = some (.int .u8 (z0.getD i 0))) ∧ ∀ n ∈ z0, (Lit.int .u8 n).wf = true) (y0 : len0 * 1 ≤ 140737488351232) (w1 : (a1 = none ∧ len1 = 0 ∧ cap1 = 0 ∧ z1 = []) ∨ ∃ x, a1 = some x ∧ len1 ≤ cap1 ∧ cap1 ≤ maxLen ∧ z1.length = cap1 ∧ (∀ i, i < z1.length → w.cell? (x.add i) = some (.int .u8 (z1.getD i 0))) ∧ ∀ n ∈ z1, (Lit.int .u8 n).wf = true) (y1 : len1 * 1 ≤ 140737488351232) :
    Calls Try.prog 3 #[.slice a0 len0 cap0, .slice a1 len1 cap1] w fun e w' => e = .returned (.bool true) ∧ Below w.heap.size w w' := by
  obtain ⟨l0, rfl, hr0, hm0, hw0, hc0⟩ := ReadsInt.ofRowC w0
  obtain ⟨l1, rfl, hr1, hm1, hw1, hc1⟩ := ReadsInt.ofRowC w1
  obtain ⟨k, h⟩ := P l0 l1 hm0 y0 hw0 hm1 y1 hw1
  refine (laws_FnTurned.calls k _ _ l0 _ _ l1 w (Kd.C_of_reads (d := (0 : Int)) (h1 := fun _ => rfl) hr0) hc0 (Kd.C_of_reads (d := (0 : Int)) (h1 := fun _ => rfl) hr1) hc1 h).mono ?_
  rintro e w' ⟨rfl, hd⟩
  exact ⟨rfl, hd⟩
theorem pure : laws_FnTurned.Pure := by
  intro l0 l1 _ _ g0 _ _ g1
  refine ⟨60, ?_⟩
  obtain ⟨i, hi0, hi1, ei⟩ := at_ok l0 g0 0 12 (by omega) (by omega) (by omega)
  obtain ⟨j, hj0, hj1, ej⟩ := at_ok l0 g0 1 8 (by omega) (by omega) (by omega)
  have e : laws_FnTurned.f 60 l0 l1 = (T0.laws_b10Long.f l0 l1).bind fun t145 => (if t145 = true then (some true) else ((T0.laws_b10At.f l0 0 12).bind fun t146 => ((T0.laws_b10At.f l0 1 8).bind fun t147 => rest 60 t146 t147))) := rfl
  have eb : ∃ b, T0.laws_b10Long.f l0 l1 = some b := by
    unfold T0.laws_b10Long.f
    split
    · exact ⟨_, rfl⟩
    · exact ⟨_, rfl⟩
  obtain ⟨b, eb⟩ := eb
  rw [e, eb, Option.bind_some]
  cases b with
  | true => rw [if_pos rfl]
  | false =>
    have ei' : T0.laws_b10At.f l0 0 12 = some i := ei
    have ej' : T0.laws_b10At.f l0 1 8 = some j := ej
    rw [if_neg (by decide), ei', Option.bind_some, ej', Option.bind_some]
    exact rest_ok i j hi0 hi1 hj0 hj1
end Go.Proofs.Ytijinnbcebhfhaa.T1
end
section
namespace Go.Proofs.YtijinnbcebhfhaaW.PrintWords
open Go.ChangeShapes Go.WideShapes
theorem sized_ints {H : Type} {enc : TypeId × Value → H} {P : Program} {W : World} {base : Nat} {spare : Nat → Bool} {held : Bool} {t e : TypeId} {k : IntKind} {a : Option Addr} {len cap : Nat} {d : DataW H} {ps : List MemPlace} {ts : List TypeId} {ds : List (DataW H)} {j : Nat}
    (hsz : (DataW.weightsEach P ts ds).all (· ≤ reachBytes) = true) (ht : ts[j]? = some t) (hd : ds[j]? = some d) (hu : P.underlying t = some (.slice e)) (he : P.underlying e = some (.int k)) (hc : P.cellsOf e = 1) {B : Nat} (hB : P.bytesOf e = B)
    (h : DataW.Trod enc P W base spare held t (.slice a len cap) d ps) : len * B ≤ 140737488351232 := by
  obtain ⟨fuel, hf⟩ := h
  rcases open_ints hu he hc hf with ⟨hcs, _⟩ | ⟨x, l, c, zs, hcs, _, hl, _, hz, hx, _, _⟩
  · simp [Value.cells] at hcs
    obtain ⟨rfl, rfl, rfl⟩ := hcs
    simp
  · simp [Value.cells] at hcs
    obtain ⟨rfl, rfl, rfl⟩ := hcs
    obtain ⟨hx, _⟩ := Prod.mk.inj hx
    subst hx
    have z := sized_slice hsz ht hd hu
    rw [hB] at z
    have hl2 : len ≤ zs.length := by
      rw [hz]
      split
      · exact hl
      · exact Nat.le_refl _
    have h1 : (lits (H := H) k (zs.take len)).length + (lits (H := H) k (zs.drop len)).length = zs.length := by
      simp [lits]
      omega
    rw [h1] at z
    exact Nat.le_trans (Nat.mul_le_mul_right _ hl2) z
end Go.Proofs.YtijinnbcebhfhaaW.PrintWords
end
