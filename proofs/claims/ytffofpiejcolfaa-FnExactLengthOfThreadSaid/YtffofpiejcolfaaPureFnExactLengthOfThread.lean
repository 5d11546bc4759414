/- The plain law of FnExactLengthOfThread: no NaN comes up in the length of a thread, both lengths are the same. No memory in sight. -/
import Derived.Test.YtffofpiejcolfaaXN
import Derived.Test.YtffofpiejcolfaaL11
set_option linter.unusedVariables false
set_option linter.unusedSimpArgs false
namespace Go.Proofs.Ytffofpiejcolfaa.PureLength
open Go.RowKit Go.Proofs.Ytffofpiejcolfaa Go.Proofs.YtffofpiejcolfaaW.PrintWords Go.Proofs.YtffofpiejcolfaaW.PrintLast Go.Proofs.YtffofpiejcolfaaW.PrintMore
open XF XL XC XT XY XN L0
theorem wrap_id {i : Int} (h0 : -9223372036854775808 ≤ i) (h1 : i ≤ 9223372036854775807) : wrap64 i = i := by unfold wrap64; omega
theorem w1 (n : Nat) (h : n < 9223372036854775807) : wrap64 ((n : Int) + 1) = ((n + 1 : Nat) : Int) := by unfold wrap64; omega
def to46 (v : S44) : S46 := ⟨v.f0, v.f1, v.f2⟩
theorem toV_l0 : ∀ (rest pre : List S44) (k : Nat), rest.length < k → pre.length + rest.length ≤ 1073741824 →
    L1.laws_toVectorS.l0 k (pre ++ rest) (pre.map to46 ++ List.replicate rest.length z46) (pre.length : Int) = some ((pre ++ rest).map to46) := by
  intro rest
  induction rest with
  | nil =>
    intro pre k hk hp
    obtain ⟨k, rfl⟩ : ∃ m, k = m + 1 := ⟨k - 1, by omega⟩
    simp only [L1.laws_toVectorS.l0]
    rw [if_neg (by simp)]
    simp
  | cons L rest ih =>
    intro pre k hk hp
    simp only [List.length_cons] at hk hp
    obtain ⟨k, rfl⟩ : ∃ m, k = m + 1 := ⟨k - 1, by omega⟩
    have hrd : rd_T44 (pre ++ L :: rest) (pre.length : Int) = L := by simp [rd_T44]
    simp only [L1.laws_toVectorS.l0, L1.laws_toVector.f, Option.bind_some]
    rw [if_pos (by simp; omega), if_pos (by omega), if_pos (by simp; omega), hrd, w1 pre.length (by omega)]
    have e : pre ++ L :: rest = (pre ++ [L]) ++ rest := by simp
    have e2 : pre.length + 1 = (pre ++ [L]).length := by simp
    have e3 : (pre.map to46 ++ List.replicate (L :: rest).length z46).set (pre.length : Int).toNat (⟨L.f0, L.f1, L.f2⟩ : S46) = (pre ++ [L]).map to46 ++ List.replicate rest.length z46 := by
      simp only [Int.toNat_natCast, List.length_cons, List.replicate_succ]
      rw [List.set_append_right _ _ (by simp)]
      simp [to46]
    rw [e3, e, e2]
    exact ih (pre ++ [L]) k (by omega) (by simp; omega)
theorem toT_f (l : List S44) (a k : Nat) (hk : l.length < k) (hlen : l.length ≤ 1073741824) : L1.laws_toThread.f k l a = some (l.map to46, a) := by
  unfold L1.laws_toThread.f L1.laws_toVectorS.f
  rw [if_pos (by omega), if_pos (by simp; omega), Int.toNat_natCast]
  have := toV_l0 l [] k hk (by simp; omega)
  simp only [List.map_nil, List.nil_append, List.length_nil] at this
  rw [show ((0 : Nat) : Int) = 0 from rfl] at this
  rw [this]
  rfl
theorem eqV_l0 : ∀ (rest pre : List S46) (k : Nat), rest.length < k → pre.length + rest.length ≤ 1073741824 → L0.laws_eqVectorS.l0 k (pre ++ rest) (pre ++ rest) (pre.length : Int) = some true := by
  intro rest
  induction rest with
  | nil =>
    intro pre k hk hp
    obtain ⟨k, rfl⟩ : ∃ m, k = m + 1 := ⟨k - 1, by omega⟩
    simp only [L0.laws_eqVectorS.l0]
    rw [if_neg (by simp)]
  | cons L rest ih =>
    intro pre k hk hp
    simp only [List.length_cons] at hk hp
    obtain ⟨k, rfl⟩ : ∃ m, k = m + 1 := ⟨k - 1, by omega⟩
    have hrd : rd_T46 (pre ++ L :: rest) (pre.length : Int) = L := by simp [rd_T46]
    simp only [L0.laws_eqVectorS.l0, XL.eqVector.f, hrd, sfc_self]
    have e : pre ++ L :: rest = (pre ++ [L]) ++ rest := by simp
    have e2 : pre.length + 1 = (pre ++ [L]).length := by simp
    have hlt : (pre.length : Int) < (((pre ++ L :: rest).length : Nat) : Int) := by simp; omega
    rw [if_pos hlt, if_pos (by omega), if_pos hlt]
    simp only [Option.bind_some]
    rw [if_pos (by rfl), w1 pre.length (by omega), e, e2]
    exact ih (pre ++ [L]) k (by omega) (by simp; omega)
theorem eqT_f (l : List S46) (a : Nat) (h : l.length ≤ 1000000000) : XT.eqThread.f l a l a = some true := by
  unfold XT.eqThread.f L0.laws_eqVectorS.f
  rw [if_pos rfl]
  have := eqV_l0 l [] (l.length + 1) (by omega) (by simp; omega)
  simp only [List.nil_append, List.length_nil] at this
  rw [show ((0 : Nat) : Int) = 0 from rfl] at this
  rw [this]
  simp only [Option.bind_some, sfc_self]
  rfl
theorem sz_f (l : List S44) (a : Nat) (hl : l.length ≤ 9223372036854775807) : ∃ t, L1.laws_szThread.f l a 1048576 = some t ∧ (t < 0 ∨ l.length ≤ 1048576) := by
  unfold L1.laws_szThread.f L1.laws_szVectorS.f
  rw [wrap_id (i := 1048576 - (l.length : Int)) (by omega) (by omega)]
  by_cases h : 1048576 - (l.length : Int) < 0
  · rw [if_pos h]
    simp only [Option.bind_some]
    rw [if_pos (by decide)]
    exact ⟨_, rfl, .inl (by decide)⟩
  · rw [if_neg h]
    simp only [Option.bind_some]
    rw [if_neg h]
    exact ⟨_, rfl, .inr (by omega)⟩
theorem fok_of {op : BinOp} {k : FloatKind} {x y r : Nat} (h : floatBits op k x y = some r) : fok op k x y = true ∧ fop op k x y = r := by
  unfold fok fop
  rw [h]
  exact ⟨rfl, rfl⟩
theorem cok_of {s k : FloatKind} {x r : Nat} (h : floatToFloatBits s x k = some r) : cok s x k = true ∧ cvt s x k = r := by
  unfold cok cvt
  rw [h]
  exact ⟨rfl, rfl⟩
theorem nf {x : Nat} (h : fin x = true) : Num x := num_of_fin h
theorem less_ok {x y : S46} (hx : vfin x = true) (hy : vfin y = true) : ∃ r1 r2 r3 s1 s2 s3, impl_LessVectors.f y.f0 y.f1 y.f2 x.f0 x.f1 x.f2 = some (r1, r2, r3) ∧ Is s1 (FloatKind.f32.format.read r1) ∧ Is s2 (FloatKind.f32.format.read r2) ∧ Is s3 (FloatKind.f32.format.read r3) := by
  unfold vfin at hx hy
  simp only [Bool.and_eq_true] at hx hy
  obtain ⟨r1, h1, s1, k1⟩ := sub_ok (nf hy.1) (nf hx.1)
  obtain ⟨r2, h2, s2, k2⟩ := sub_ok (nf hy.2.1) (nf hx.2.1)
  obtain ⟨r3, h3, s3, k3⟩ := sub_ok (nf hy.2.2) (nf hx.2.2)
  refine ⟨r1, r2, r3, s1, s2, s3, ?_, k1, k2, k3⟩
  unfold impl_LessVectors.f
  rw [if_pos (fok_of h1).1, if_pos (fok_of h2).1, if_pos (fok_of h3).1, (fok_of h1).2, (fok_of h2).2, (fok_of h3).2]
theorem inner_ok {a b c : Nat} {s1 s2 s3 : Bool} (h1 : Is s1 (FloatKind.f32.format.read a)) (h2 : Is s2 (FloatKind.f32.format.read b)) (h3 : Is s3 (FloatKind.f32.format.read c)) : ∃ r, impl_InnerOf.f a b c a b c = some r ∧ Is false (FloatKind.f32.format.read r) := by
  obtain ⟨p1, g1, i1⟩ := mul_sq h1
  obtain ⟨p2, g2, i2⟩ := mul_sq h2
  obtain ⟨p3, g3, i3⟩ := mul_sq h3
  obtain ⟨q1, g4, i4⟩ := add_nn i1 i2
  obtain ⟨q2, g5, i5⟩ := add_nn i4 i3
  refine ⟨q2, ?_, i5⟩
  unfold impl_InnerOf.f
  rw [if_pos (fok_of g1).1, if_pos (fok_of g2).1, (fok_of g1).2, (fok_of g2).2, if_pos (fok_of g4).1, if_pos (fok_of g3).1, (fok_of g3).2, (fok_of g4).2, if_pos (fok_of g5).1, (fok_of g5).2]
theorem root_both {a : Nat} (h : Is false (FloatKind.f32.format.read a)) : ∃ r, impl_RootNumber.f a = some r ∧ spec_l01Sqrt.f a = some r ∧ Is false (FloatKind.f32.format.read r) := by
  obtain ⟨b, h1, h2⟩ := wide h
  obtain ⟨c, h3, h4⟩ := root_ok h2
  obtain ⟨r, h5, h6⟩ := narrow_ok h4
  refine ⟨r, ?_, ?_, h6⟩
  · unfold impl_RootNumber.f XR.Sqrt.f
    rw [if_pos (cok_of h1).1, (cok_of h1).2, h3]
    simp only [Option.bind_some]
    rw [if_pos (cok_of h5).1, (cok_of h5).2]
  · unfold spec_l01Sqrt.f XR.Sqrt.f spec_l01Narrow.f
    rw [if_pos (cok_of h1).1, (cok_of h1).2, h3]
    simp only [Option.bind_some]
    rw [if_pos (cok_of h5).1, (cok_of h5).2]
    rfl
theorem step_ok {l : List S46} {i : Nat} (hx : vfin (rd_T46 l (i : Int)) = true) (hy : vfin (rd_T46 l (((i + 1) % l.length : Nat) : Int)) = true) : ∃ s, sizeI l i = some s ∧ sizeS l i = some s ∧ Is false (FloatKind.f32.format.read s) := by
  obtain ⟨r1, r2, r3, s1, s2, s3, h, k1, k2, k3⟩ := less_ok hx hy
  obtain ⟨p, g, k4⟩ := inner_ok k1 k2 k3
  obtain ⟨q, g1, g2, k5⟩ := root_both k4
  refine ⟨q, ?_, ?_, k5⟩
  · unfold sizeI
    rw [h]
    simp only [Option.bind_some]
    unfold impl_SizeOfVector.f
    rw [g]
    simp only [Option.bind_some]
    rw [g1]
    rfl
  · unfold sizeS
    rw [show @spec_l01VLess.f = @impl_LessVectors.f from rfl, h]
    simp only [Option.bind_some]
    unfold spec_l01VLong.f
    rw [show @spec_l01VInner.f = @impl_InnerOf.f from rfl, g]
    simp only [Option.bind_some]
    rw [g2]
    rfl
theorem rd_fin {l : List S46} (h : (!(l.any fun x => !vfin x)) = true) (i : Nat) (hi : i < l.length) : vfin (rd_T46 l (i : Int)) = true := by
  have e : rd_T46 l (i : Int) = l[i] := by simp [rd_T46, hi]
  rw [e]
  simp only [Bool.not_eq_true', List.any_eq_false, Bool.not_eq_true] at h
  simpa using h l[i] (List.getElem_mem hi)
theorem sum_ok {l : List S46} (h : (!(l.any fun x => !vfin x)) = true) : ∀ (k i acc : Nat), i + k = l.length → Is false (FloatKind.f32.format.read acc) → ∃ s, sumF (sizeI l) k i acc = some s ∧ sumF (sizeS l) k i acc = some s ∧ Is false (FloatKind.f32.format.read s)
  | 0, i, acc, _, ha => ⟨acc, rfl, rfl, ha⟩
  | k + 1, i, acc, hi, ha => by
    obtain ⟨s, h1, h2, h3⟩ := step_ok (rd_fin h i (by omega)) (rd_fin h ((i + 1) % l.length) (Nat.mod_lt _ (by omega)))
    obtain ⟨r, h4, h5⟩ := add_nn ha h3
    obtain ⟨q, h6, h7, h8⟩ := sum_ok h k (i + 1) r (by omega) h5
    refine ⟨q, ?_, ?_, h8⟩
    · unfold sumF
      rw [h1]
      simp only [Option.bind_some]
      rw [if_pos (fok_of h4).1, (fok_of h4).2, h6]
    · unfold sumF
      rw [h2]
      simp only [Option.bind_some]
      rw [if_pos (fok_of h4).1, (fok_of h4).2, h7]
theorem zero_is : Is false (FloatKind.f32.format.read 0) := .inl ⟨0, -149, by decide⟩
theorem length_ok (L : List S46) (a : Nat) : ∃ r b, spec_Length.f L a = some (r, b) ∧ impl_Length.f L a = some (r, b) ∧ Is false (FloatKind.f32.format.read r) := by
  unfold spec_Length.f impl_Length.f
  cases hi : isThread L a with
  | false => exact ⟨0, false, by rw [if_neg (by decide)], by rw [if_neg (by decide)], zero_is⟩
  | true =>
    rw [if_pos rfl, if_pos rfl]
    unfold isThread at hi
    simp only [Bool.and_eq_true] at hi
    obtain ⟨s, h1, h2, h3⟩ := sum_ok hi.2.2.1 L.length 0 0 (by omega) zero_is
    rw [h1, h2]
    simp only [Option.bind_some]
    unfold spec_l02Number.f impl_toldNumber.f XL.l01Finite.f XL.IsFinite.f
    simp only [Option.bind_some]
    cases fin s with
    | false => exact ⟨0, false, by rw [if_neg (by decide)], by rw [if_neg (by decide)], zero_is⟩
    | true => exact ⟨s, true, by rw [if_pos rfl], by rw [if_pos rfl], h3⟩
theorem FnExactLengthOfThread (l : List S44) (a : Nat) (hl : l.length ≤ 9223372036854775807) : ∃ k, L1.laws_FnExactLengthOfThread.f k l a = some true := by
  obtain ⟨K, hK⟩ : ∃ K : Nat, 2000000 < K := ⟨2000001, by omega⟩
  refine ⟨K + 1, ?_⟩
  obtain ⟨t, ht, h2⟩ := sz_f l a hl
  unfold L1.laws_FnExactLengthOfThread.f
  rw [ht]
  simp only [Option.bind_some]
  by_cases h0 : t < 0
  · rw [if_pos h0]
  · rw [if_neg h0]
    have hll := h2.resolve_left h0
    rw [toT_f l a (K + 1) (by omega) (by omega)]
    simp only [Option.bind_some]
    have hm : (l.map to46).length = l.length := by simp
    generalize hL : l.map to46 = L at hm
    obtain ⟨r, b, hr1, hr2, hr3⟩ := length_ok L a
    rw [hr1]
    simp only [Option.bind_some]
    rw [hr2]
    simp only [Option.bind_some]
    obtain ⟨c, hc, _⟩ := wide hr3
    rw [if_pos (cok_of hc).1, if_pos (cok_of hc).1]
    unfold XT.sameFloat.f
    rw [sfd_self]
    simp only [Option.bind_some]
    rw [if_pos trivial, show (b != b) = false by simp]
    simp only [L1.laws_FnExactLengthOfThread.j0]
    rw [if_neg (by simp), toT_f l a K (by omega) (by omega), hL]
    simp only [Option.bind_some]
    rw [eqT_f L a (by omega)]
    rfl
end Go.Proofs.Ytffofpiejcolfaa.PureLength
