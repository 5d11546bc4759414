/- The plain law of FnExactThreadText: what its functions compute answers true at every thread. No memory in sight. -/
import Derived.Test.YtffofpiejcolfaaPT
set_option linter.unusedVariables false
namespace Go.Proofs.Ytffofpiejcolfaa.PureThreadText
open Go.RowKit Go.Proofs.Ytffofpiejcolfaa Go.Proofs.YtffofpiejcolfaaW.PrintWords Go.Proofs.YtffofpiejcolfaaW.PrintLast Go.Proofs.YtffofpiejcolfaaW.PrintMore
open T XF XL XC XT F0 PT

def to46 (v : S44) : S46 := ⟨v.f0, v.f1, v.f2⟩
theorem toV_l0 : ∀ (rest pre : List S44) (k : Nat), rest.length < k → pre.length + rest.length ≤ 1073741824 →
    F2.laws_toVectorS.l0 k (pre ++ rest) (pre.map to46 ++ List.replicate rest.length z46) (pre.length : Int) = some ((pre ++ rest).map to46) := by
  intro rest
  induction rest with
  | nil =>
    intro pre k hk hp
    obtain ⟨k, rfl⟩ : ∃ m, k = m + 1 := ⟨k - 1, by omega⟩
    simp only [F2.laws_toVectorS.l0]
    rw [if_neg (by simp)]
    simp
  | cons L rest ih =>
    intro pre k hk hp
    simp only [List.length_cons] at hk hp
    obtain ⟨k, rfl⟩ : ∃ m, k = m + 1 := ⟨k - 1, by omega⟩
    have hrd : rd_T44 (pre ++ L :: rest) (pre.length : Int) = L := by simp [rd_T44]
    simp only [F2.laws_toVectorS.l0, F2.laws_toVector.f, Option.bind_some]
    rw [if_pos (by simp; omega), if_pos (by omega), if_pos (by simp; omega), hrd, w1 pre.length (by omega)]
    have e : pre ++ L :: rest = (pre ++ [L]) ++ rest := by simp
    have e2 : pre.length + 1 = (pre ++ [L]).length := by simp
    have e3 : (pre.map to46 ++ List.replicate (L :: rest).length z46).set (pre.length : Int).toNat (⟨L.f0, L.f1, L.f2⟩ : S46) = (pre ++ [L]).map to46 ++ List.replicate rest.length z46 := by
      simp only [Int.toNat_natCast, List.length_cons, List.replicate_succ]
      rw [List.set_append_right _ _ (by simp)]
      simp [to46]
    rw [e3, e, e2]
    exact ih (pre ++ [L]) k (by omega) (by simp; omega)
theorem toT_f (l : List S44) (a k : Nat) (hk : l.length < k) (hlen : l.length ≤ 1073741824) : F2.laws_toThread.f k l a = some (l.map to46, a) := by
  unfold F2.laws_toThread.f F2.laws_toVectorS.f
  rw [if_pos (by omega), if_pos (by simp; omega), Int.toNat_natCast]
  have := toV_l0 l [] k hk (by simp; omega)
  simp only [List.map_nil, List.nil_append, List.length_nil] at this
  rw [show ((0 : Nat) : Int) = 0 from rfl] at this
  rw [this]
  rfl
theorem eqV_l0 : ∀ (rest pre : List S46) (k : Nat), rest.length < k → pre.length + rest.length ≤ 1073741824 → F0.laws_eqVectorS.l0 k (pre ++ rest) (pre ++ rest) (pre.length : Int) = some true := by
  intro rest
  induction rest with
  | nil =>
    intro pre k hk hp
    obtain ⟨k, rfl⟩ : ∃ m, k = m + 1 := ⟨k - 1, by omega⟩
    simp only [F0.laws_eqVectorS.l0]
    rw [if_neg (by simp)]
  | cons L rest ih =>
    intro pre k hk hp
    simp only [List.length_cons] at hk hp
    obtain ⟨k, rfl⟩ : ∃ m, k = m + 1 := ⟨k - 1, by omega⟩
    have hrd : rd_T46 (pre ++ L :: rest) (pre.length : Int) = L := by simp [rd_T46]
    simp only [F0.laws_eqVectorS.l0, XL.eqVector.f, hrd, sfc_self]
    have e : pre ++ L :: rest = (pre ++ [L]) ++ rest := by simp
    have e2 : pre.length + 1 = (pre ++ [L]).length := by simp
    have hlt : (pre.length : Int) < (((pre ++ L :: rest).length : Nat) : Int) := by simp; omega
    rw [if_pos hlt, if_pos (by omega), if_pos hlt]
    simp only [Option.bind_some]
    rw [if_pos (by rfl), w1 pre.length (by omega), e, e2]
    exact ih (pre ++ [L]) k (by omega) (by simp; omega)
theorem eqT_f (l : List S46) (a : Nat) (h : l.length ≤ 1000000000) : XT.eqThread.f l a l a = some true := by
  unfold XT.eqThread.f F0.laws_eqVectorS.f
  rw [if_pos rfl]
  have := eqV_l0 l [] (l.length + 1) (by omega) (by simp; omega)
  simp only [List.nil_append, List.length_nil] at this
  rw [show ((0 : Nat) : Int) = 0 from rfl] at this
  rw [this]
  simp only [Option.bind_some, sfc_self]
  rfl
theorem vf (v : S46) : F0.spec_l01VFinite.f v.f0 v.f1 v.f2 = some (vfin v) := by
  unfold F0.spec_l01VFinite.f XL.l01Finite.f vfin
  cases h0 : fin v.f0 <;> cases h1 : fin v.f1 <;> cases h2 : fin v.f2 <;> simp
theorem is_l0 (a : Nat) : ∀ (rest pre : List S46) (k : Nat), rest.length < k → pre.length + rest.length ≤ 1000 → F0.spec_l06Is.l0 k (pre.length : Int) (pre ++ rest) a = some (!(rest.any fun x => !vfin x), a) := by
  intro rest
  induction rest with
  | nil =>
    intro pre k hk hp
    obtain ⟨k, rfl⟩ : ∃ m, k = m + 1 := ⟨k - 1, by omega⟩
    simp only [F0.spec_l06Is.l0]
    rw [if_neg (by simp)]
    rfl
  | cons v rest ih =>
    intro pre k hk hp
    simp only [List.length_cons] at hk hp
    obtain ⟨k, rfl⟩ : ∃ m, k = m + 1 := ⟨k - 1, by omega⟩
    have hrd : rd_T46 (pre ++ v :: rest) (pre.length : Int) = v := by simp [rd_T46]
    have e : pre ++ v :: rest = (pre ++ [v]) ++ rest := by simp
    have e2 : pre.length + 1 = (pre ++ [v]).length := by simp
    simp only [F0.spec_l06Is.l0]
    rw [if_pos (by simp; omega), if_pos (by omega), hrd, vf]
    simp only [Option.bind_some]
    cases hv : vfin v with
    | false =>
      rw [if_neg (by decide)]
      simp [hv]
    | true =>
      rw [if_pos rfl, w1 pre.length (by omega), e, e2, ih (pre ++ [v]) k (by omega) (by simp; omega)]
      simp [hv]
theorem is_f (l : List S46) (a k : Nat) (hk : l.length + 2 < k ∨ 32 < l.length ∧ 40 < k) : F0.spec_l06Is.f k l a = some (isThread l a, a) := by
  obtain ⟨k, rfl⟩ : ∃ m, k = m + 1 := ⟨k - 1, by omega⟩
  unfold F0.spec_l06Is.f isThread XL.l01Finite.f
  by_cases h1 : (l.length : Int) < 3
  · rw [if_pos h1]
    simp only [F0.spec_l06Is.j0]
    rw [if_pos trivial, decide_eq_false (by omega), Bool.false_and]
  · rw [if_neg h1, decide_eq_true (by omega : 3 ≤ l.length), Bool.true_and]
    by_cases h2 : (l.length : Int) > 32
    · rw [if_pos h2]
      simp only [F0.spec_l06Is.j0]
      rw [if_pos trivial, decide_eq_false (by omega), Bool.false_and]
    · rw [if_neg h2, decide_eq_true (by omega : l.length ≤ 32), Bool.true_and]
      simp only [Option.bind_some, F0.spec_l06Is.j0]
      cases hf : fin a with
      | false =>
        rw [if_pos (by rfl), Bool.and_false]
      | true =>
        rw [if_neg (by decide), Bool.and_true]
        have := is_l0 a l [] k (by omega) (by simp; omega)
        simp only [List.nil_append, List.length_nil] at this
        exact this
theorem sz_f (l : List S44) (a : Nat) (hl : l.length ≤ 9223372036854775807) : ∃ t, F2.laws_szThread.f l a 1048576 = some t ∧ (t < 0 ∨ l.length ≤ 1048576) := by
  unfold F2.laws_szThread.f F2.laws_szVectorS.f
  rw [wrap_id (i := 1048576 - (l.length : Int)) (by omega) (by omega)]
  by_cases h : 1048576 - (l.length : Int) < 0
  · rw [if_pos h]
    simp only [Option.bind_some]
    rw [if_pos (by decide)]
    exact ⟨_, rfl, .inl (by decide)⟩
  · rw [if_neg h]
    simp only [Option.bind_some]
    rw [if_neg h]
    exact ⟨_, rfl, .inr (by omega)⟩
theorem FnExactThreadText (l : List S44) (a : Nat) (hl : l.length ≤ 9223372036854775807) : ∃ k, F2.laws_FnExactThreadText.f k l a = some true := by
  obtain ⟨K, hK⟩ : ∃ K : Nat, 2000000 < K := ⟨2000001, by omega⟩
  refine ⟨K + 1, ?_⟩
  obtain ⟨t, ht, h2⟩ := sz_f l a hl
  unfold F2.laws_FnExactThreadText.f
  rw [ht]
  simp only [Option.bind_some]
  by_cases h0 : t < 0
  · rw [if_pos h0]
  · rw [if_neg h0]
    have hll := h2.resolve_left h0
    rw [toT_f l a (K + 1) (by omega) (by omega)]
    simp only [Option.bind_some]
    have hm : (l.map to46).length = l.length := by simp
    generalize hL : l.map to46 = L at hm
    have hs : ∃ r, XT.spec_ThreadText.f (K + 1) L a = some r ∧ F2.impl_ThreadText.f (K + 1) L a = some r := by
      unfold XT.spec_ThreadText.f F2.impl_ThreadText.f XC.IsThread.f
      rw [is_f L a (K + 1) (.inl (by omega))]
      simp only [Option.bind_some]
      cases hi : isThread L a with
      | false => exact ⟨_, by rw [if_neg (by decide)], by rw [if_neg (by decide)]⟩
      | true =>
        have h3 : 3 ≤ L.length ∧ L.length ≤ 32 := by
          unfold isThread at hi
          simp only [Bool.and_eq_true, decide_eq_true_eq] at hi
          exact ⟨hi.1, hi.2.1⟩
        have hne : L ≠ [] := by
          intro h
          rw [h] at h3
          simp at h3
        rw [if_pos rfl, if_pos rfl, spec_T L a hne h3.2 (K + 1) (by omega)]
        have := impl_T0 L a hne h3.2 L [] (K + 1) rfl (by omega)
        simp only [List.map_nil, List.length_nil] at this
        exact ⟨_, rfl, this⟩
    obtain ⟨r, hr1, hr2⟩ := hs
    rw [hr1]
    simp only [Option.bind_some]
    rw [hr2]
    simp only [Option.bind_some]
    rw [if_pos trivial, show (r.2 != r.2) = false by simp]
    simp only [F2.laws_FnExactThreadText.j0]
    rw [if_neg (by simp), toT_f l a K (by omega) (by omega), hL]
    simp only [Option.bind_some]
    rw [eqT_f L a (by omega)]
    rfl
end Go.Proofs.Ytffofpiejcolfaa.PureThreadText
