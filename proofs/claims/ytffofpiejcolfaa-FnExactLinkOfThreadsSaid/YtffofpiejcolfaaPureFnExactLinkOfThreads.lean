/- The plain law of FnExactLinkOfThreads: both tails come to the same; what is made whole lies in its range. No memory in sight. -/
import Derived.Test.YtffofpiejcolfaaL22
set_option linter.unusedVariables false
set_option linter.unusedSimpArgs false
namespace Go.Proofs.Ytffofpiejcolfaa.PureLink
open Go.RowKit Go.Proofs.Ytffofpiejcolfaa Go.Proofs.YtffofpiejcolfaaW.PrintWords Go.Proofs.YtffofpiejcolfaaW.PrintLast Go.Proofs.YtffofpiejcolfaaW.PrintMore
open XF XL XC XT XN XE XK L0
theorem wrap_id {i : Int} (h0 : -9223372036854775808 ≤ i) (h1 : i ≤ 9223372036854775807) : wrap64 i = i := by unfold wrap64; omega
theorem w1 (n : Nat) (h : n < 9223372036854775807) : wrap64 ((n : Int) + 1) = ((n + 1 : Nat) : Int) := by unfold wrap64; omega
def to46 (v : S44) : S46 := ⟨v.f0, v.f1, v.f2⟩
theorem toV_l0 : ∀ (rest pre : List S44) (k : Nat), rest.length < k → pre.length + rest.length ≤ 1073741824 →
    L2.laws_toVectorS.l0 k (pre ++ rest) (pre.map to46 ++ List.replicate rest.length z46) (pre.length : Int) = some ((pre ++ rest).map to46) := by
  intro rest
  induction rest with
  | nil =>
    intro pre k hk hp
    obtain ⟨k, rfl⟩ : ∃ m, k = m + 1 := ⟨k - 1, by omega⟩
    simp only [L2.laws_toVectorS.l0]
    rw [if_neg (by simp)]
    simp
  | cons L rest ih =>
    intro pre k hk hp
    simp only [List.length_cons] at hk hp
    obtain ⟨k, rfl⟩ : ∃ m, k = m + 1 := ⟨k - 1, by omega⟩
    have hrd : rd_T44 (pre ++ L :: rest) (pre.length : Int) = L := by simp [rd_T44]
    simp only [L2.laws_toVectorS.l0, L2.laws_toVector.f, Option.bind_some]
    rw [if_pos (by simp; omega), if_pos (by omega), if_pos (by simp; omega), hrd, w1 pre.length (by omega)]
    have e : pre ++ L :: rest = (pre ++ [L]) ++ rest := by simp
    have e2 : pre.length + 1 = (pre ++ [L]).length := by simp
    have e3 : (pre.map to46 ++ List.replicate (L :: rest).length z46).set (pre.length : Int).toNat (⟨L.f0, L.f1, L.f2⟩ : S46) = (pre ++ [L]).map to46 ++ List.replicate rest.length z46 := by
      simp only [Int.toNat_natCast, List.length_cons, List.replicate_succ]
      rw [List.set_append_right _ _ (by simp)]
      simp [to46]
    rw [e3, e, e2]
    exact ih (pre ++ [L]) k (by omega) (by simp; omega)
theorem toT_f (l : List S44) (a k : Nat) (hk : l.length < k) (hlen : l.length ≤ 1073741824) : L2.laws_toThread.f k l a = some (l.map to46, a) := by
  unfold L2.laws_toThread.f L2.laws_toVectorS.f
  rw [if_pos (by omega), if_pos (by simp; omega), Int.toNat_natCast]
  have := toV_l0 l [] k hk (by simp; omega)
  simp only [List.map_nil, List.nil_append, List.length_nil] at this
  rw [show ((0 : Nat) : Int) = 0 from rfl] at this
  rw [this]
  rfl
theorem eqV_l0 : ∀ (rest pre : List S46) (k : Nat), rest.length < k → pre.length + rest.length ≤ 1073741824 → L0.laws_eqVectorS.l0 k (pre ++ rest) (pre ++ rest) (pre.length : Int) = some true := by
  intro rest
  induction rest with
  | nil =>
    intro pre k hk hp
    obtain ⟨k, rfl⟩ : ∃ m, k = m + 1 := ⟨k - 1, by omega⟩
    simp only [L0.laws_eqVectorS.l0]
    rw [if_neg (by simp)]
  | cons L rest ih =>
    intro pre k hk hp
    simp only [List.length_cons] at hk hp
    obtain ⟨k, rfl⟩ : ∃ m, k = m + 1 := ⟨k - 1, by omega⟩
    have hrd : rd_T46 (pre ++ L :: rest) (pre.length : Int) = L := by simp [rd_T46]
    simp only [L0.laws_eqVectorS.l0, XL.eqVector.f, hrd, sfc_self]
    have e : pre ++ L :: rest = (pre ++ [L]) ++ rest := by simp
    have e2 : pre.length + 1 = (pre ++ [L]).length := by simp
    have hlt : (pre.length : Int) < (((pre ++ L :: rest).length : Nat) : Int) := by simp; omega
    rw [if_pos hlt, if_pos (by omega), if_pos hlt]
    simp only [Option.bind_some]
    rw [if_pos (by rfl), w1 pre.length (by omega), e, e2]
    exact ih (pre ++ [L]) k (by omega) (by simp; omega)
theorem eqT_f (l : List S46) (a : Nat) (h : l.length ≤ 1000000000) : XT.eqThread.f l a l a = some true := by
  unfold XT.eqThread.f L0.laws_eqVectorS.f
  rw [if_pos rfl]
  have := eqV_l0 l [] (l.length + 1) (by omega) (by simp; omega)
  simp only [List.nil_append, List.length_nil] at this
  rw [show ((0 : Nat) : Int) = 0 from rfl] at this
  rw [this]
  simp only [Option.bind_some, sfc_self]
  rfl
theorem sz_f (l : List S44) (a : Nat) (left : Int) (h0 : 0 ≤ left) (h1 : left ≤ 1048576) (hl : l.length ≤ 9223372036854775807) : ∃ t, L2.laws_szThread.f l a left = some t ∧ (t < 0 ∨ (l.length ≤ 1048576 ∧ 0 ≤ t ∧ t ≤ 1048576)) := by
  unfold L2.laws_szThread.f L2.laws_szVectorS.f
  rw [wrap_id (i := left - (l.length : Int)) (by omega) (by omega)]
  by_cases h : left - (l.length : Int) < 0
  · rw [if_pos h]
    simp only [Option.bind_some]
    rw [if_pos (by decide)]
    exact ⟨_, rfl, .inl (by decide)⟩
  · rw [if_neg h]
    simp only [Option.bind_some]
    rw [if_neg h]
    exact ⟨_, rfl, .inr ⟨by omega, by omega, by omega⟩⟩
theorem cut_le' (way : Ieee.Toward) (neg : Bool) (n drop : Nat) : way.cut neg n drop ≤ n / 2 ^ drop + 1 := by
  unfold Ieee.Toward.cut
  simp only [Nat.one_shiftLeft]
  have hm (b : Bool) : b.toNat ≤ 1 := by cases b <;> decide
  refine Nat.add_le_add ?_ (hm _)
  by_cases h : drop ≤ n.log2 + 2
  · rw [Nat.min_eq_left h]
    exact Nat.le_refl _
  · rw [Nat.min_eq_right (by omega)]
    have : n < 2 ^ (n.log2 + 2) := Nat.lt_trans Nat.lt_log2_self (Nat.pow_lt_pow_right (by decide) (by omega))
    rw [Nat.div_eq_of_lt this]
    exact Nat.zero_le _
theorem read_abs {x : Nat} {s : Bool} {m : Nat} {e : Int} (h : FloatKind.f32.format.read x = .number s m e) : FloatKind.f32.format.read (absB x) = .number false m e := by
  unfold absB
  unfold Ieee.Format.read at h ⊢
  simp only [XN.f32s, XN.f32i, XN.f32b, XN.f32l] at h ⊢
  have e1 : x % 2147483648 % 2147483648 = x % 2147483648 := Nat.mod_mod _ _
  have e2 : x % 2147483648 / 2147483648 = 0 := Nat.div_eq_of_lt (Nat.mod_lt _ (by decide))
  simp only [e1, e2]
  split at h
  · rename_i c
    rw [if_pos c]
    injection h with h1 h2 h3
    rw [← h2, ← h3]
    rfl
  · split at h
    · rename_i c1 c2
      rw [if_neg c1, if_pos c2]
      injection h with h1 h2 h3
      rw [← h2, ← h3]
      rfl
    · split at h <;> cases h
theorem mil : FloatKind.f32.format.read 1232348160 = .number false 16000000 (-4) := by decide
theorem nmil : FloatKind.f32.format.read 3379831808 = .number true 16000000 (-4) := by decide
theorem sig_neg (m k : Nat) : Ieee.signed true m k = -Ieee.signed false m k := rfl
theorem sig_pos (m k : Nat) : 0 ≤ Ieee.signed false m k := Int.natCast_nonneg _
/-- The reference's two comparisons and the program's one. -/
theorem conds {x : Nat} {s : Bool} {m : Nat} {e : Int} (h : FloatKind.f32.format.read x = .number s m e) :
    (FloatKind.f32.format.order (absB x) 1232348160 == some .gt) = ((FloatKind.f32.format.order x 1232348160 == some .gt) || (FloatKind.f32.format.order x 3379831808 == some .lt)) := by
  have ha := read_abs h
  unfold Ieee.Format.order
  rw [ha, h, mil, nmil]
  have p1 := sig_pos m (e - min e (-4)).toNat
  have p2 : 0 < Ieee.signed false 16000000 (-4 - min e (-4)).toNat := by
    show (0 : Int) < ((16000000 <<< (-4 - min e (-4)).toNat : Nat) : Int)
    rw [Nat.shiftLeft_eq]
    have := Nat.two_pow_pos (-4 - min e (-4)).toNat
    have : 0 < 16000000 * 2 ^ (-4 - min e (-4)).toNat := by omega
    exact_mod_cast this
  cases s
  · simp only [Ieee.Datum.order, sig_neg]
    generalize Ieee.signed false m (e - min e (-4)).toNat = A at p1
    generalize Ieee.signed false 16000000 (-4 - min e (-4)).toNat = B at p2
    have : compare A (-B) = .gt := by rw [Int.compare_eq_gt]; omega
    rw [this]
    simp
  · simp only [Ieee.Datum.order, sig_neg]
    generalize Ieee.signed false m (e - min e (-4)).toNat = A at p1
    generalize Ieee.signed false 16000000 (-4 - min e (-4)).toNat = B at p2
    have : compare (-A) B = .lt := by rw [Int.compare_eq_lt]; omega
    rw [this]
    by_cases hc : A > B
    · have h1 : compare A B = .gt := by rw [Int.compare_eq_gt]; omega
      have h2 : compare (-A) (-B) = .lt := by rw [Int.compare_eq_lt]; omega
      rw [h1, h2]
      rfl
    · have h1 : compare A B ≠ .gt := by rw [ne_eq, Int.compare_eq_gt]; omega
      have h2 : compare (-A) (-B) ≠ .lt := by rw [ne_eq, Int.compare_eq_lt]; omega
      have e1 : (some (compare A B) == some Ordering.gt) = false := by simpa using h1
      have e2 : (some (compare (-A) (-B)) == some Ordering.lt) = false := by simpa using h2
      rw [e1, e2]
      rfl
theorem small {x : Nat} {s : Bool} {m : Nat} {e : Int} (h : FloatKind.f32.format.read x = .number s m e) (hg : (FloatKind.f32.format.order (absB x) 1232348160 == some .gt) = false) (h0 : m ≠ 0) : (m.log2 : Int) + e ≤ 20 := by
  have ha := read_abs h
  unfold Ieee.Format.order at hg
  rw [ha, mil] at hg
  simp only [Ieee.Datum.order] at hg
  have hg2 : ¬ compare (Ieee.signed false m (e - min e (-4)).toNat) (Ieee.signed false 16000000 (-4 - min e (-4)).toNat) = .gt := by
    intro hc
    rw [hc] at hg
    cases hg
  rw [Int.compare_eq_gt] at hg2
  have hle : (m <<< (e - min e (-4)).toNat : Nat) ≤ (16000000 <<< (-4 - min e (-4)).toNat : Nat) := by
    have : ((m <<< (e - min e (-4)).toNat : Nat) : Int) ≤ ((16000000 <<< (-4 - min e (-4)).toNat : Nat) : Int) := Int.not_lt.1 hg2
    exact_mod_cast this
  rw [Nat.shiftLeft_eq, Nat.shiftLeft_eq] at hle
  have hL := Nat.log2_self_le h0
  have hp : 2 ^ (m.log2 + (e - min e (-4)).toNat) < 2 ^ (24 + (-4 - min e (-4)).toNat) := by
    calc 2 ^ (m.log2 + (e - min e (-4)).toNat) = 2 ^ m.log2 * 2 ^ (e - min e (-4)).toNat := Nat.pow_add _ _ _
      _ ≤ m * 2 ^ (e - min e (-4)).toNat := Nat.mul_le_mul_right _ hL
      _ ≤ 16000000 * 2 ^ (-4 - min e (-4)).toNat := hle
      _ < 2 ^ 24 * 2 ^ (-4 - min e (-4)).toNat := Nat.mul_lt_mul_of_pos_right (by decide) (Nat.two_pow_pos _)
      _ = 2 ^ (24 + (-4 - min e (-4)).toNat) := (Nat.pow_add _ _ _).symm
  have := (Nat.pow_lt_pow_iff_right (by decide : 1 < 2)).1 hp
  omega
theorem cut_b (way : Ieee.Toward) (neg : Bool) (m : Nat) (e : Int) (d : Nat) (hm : m < 9007199254740992) (he : e ≤ -(d : Int)) (hd : d ≤ 53) : way.cut neg (m <<< e.toNat) (-e).toNat ≤ 2 ^ (53 - d) + 1 := by
  have e0 : e.toNat = 0 := by omega
  rw [e0, Nat.shiftLeft_zero]
  refine Nat.le_trans (cut_le' _ _ _ _) ?_
  refine Nat.add_le_add_right ?_ 1
  have hd2 : d ≤ (-e).toNat := by omega
  calc m / 2 ^ (-e).toNat ≤ m / 2 ^ d := Nat.div_le_div_left (Nat.pow_le_pow_right (by decide) hd2) (Nat.two_pow_pos _)
    _ ≤ 2 ^ (53 - d) := by
      have : m < 2 ^ d * 2 ^ (53 - d) := by
        rw [← Nat.pow_add, show d + (53 - d) = 53 by omega]
        exact hm
      exact Nat.le_of_lt (Nat.div_lt_of_lt_mul this)
theorem toI_ok {x : Nat} {s : Bool} {m : Nat} {e : Int} (h : FloatKind.f32.format.read x = .number s m e) (hb : m ≠ 0 → (m.log2 : Int) + e ≤ 20) : ∃ n, toI x = some n := by
  obtain ⟨m1, e1, h1, h2, h3⟩ := near64 s m e 20 hb (by decide) (by decide)
  have hw : FloatKind.f64.encode (.number s m e) = FloatKind.f64.format.nearest s m e := rfl
  have hf : floatToFloatBits .f32 x .f64 = some (FloatKind.f64.format.nearest s m e) := by
    unfold floatToFloatBits
    rw [if_neg (by decide)]
    have hd : FloatKind.f32.decode x = .number s m e := h
    rw [hd]
    simp only
    rw [hw]
    have hd2 : FloatKind.f64.decode (FloatKind.f64.format.nearest s m e) = .number s m1 e1 := h1
    rw [hd2, if_neg (by simp [Ieee.Datum.isInfinity])]
  unfold toI
  rw [hf]
  simp only [Option.bind_some]
  have hr : rnd (FloatKind.f64.format.nearest s m e) = FloatKind.f64.format.nearest s (Ieee.Toward.even.cut s (m1 <<< e1.toNat) (-e1).toNat) 0 := by
    unfold rnd
    have hd2 : FloatKind.f64.decode (FloatKind.f64.format.nearest s m e) = .number s m1 e1 := h1
    rw [hd2]
    rfl
  rw [hr]
  have hK := cut_b .even s m1 e1 30 h2 (by omega) (by decide)
  generalize Ieee.Toward.even.cut s (m1 <<< e1.toNat) (-e1).toNat = K at hK
  obtain ⟨m2, e2, h4, h5, h6⟩ := near64 s K 0 25 (fun h0 => by
    have := log_le (k := 25) h0 (by omega)
    omega) (by decide) (by decide)
  unfold floatToIntVal
  have hd3 : FloatKind.f64.decode (FloatKind.f64.format.nearest s K 0) = .number s m2 e2 := h4
  rw [hd3]
  have hZ := cut_b .zero s m2 e2 25 h5 (by omega) (by decide)
  simp only [Ieee.Datum.toInt, Ieee.Datum.integral]
  generalize Ieee.Toward.zero.cut s (m2 <<< e2.toNat) (-e2).toNat = Z at hZ
  have p0 : Ieee.signed false Z 0 = (Z : Int) := by simp [Ieee.signed]
  have hz : -1000000000 ≤ Ieee.signed s Z 0 ∧ Ieee.signed s Z 0 ≤ 1000000000 := by
    cases s
    · rw [p0]; omega
    · rw [sig_neg, p0]; omega
  have b1 : IntKind.i64.min = -9223372036854775808 := by decide
  have b2 : IntKind.i64.max = 9223372036854775807 := by decide
  rw [if_pos (by rw [b1, b2]; omega)]
  exact ⟨_, rfl⟩
theorem isn_num {x : Nat} {s : Bool} {m : Nat} {e : Int} (h : FloatKind.f32.format.read x = .number s m e) : isn .f32 x = false := by
  unfold isn
  rw [h]
  rfl
theorem tail_ok (x : Nat) : ∃ r1 r2 r3, tailI x = some (r1, r2, r3) ∧ tailS x = some (r1, r2, r3) ∧ isn .f32 r1 = false := by
  unfold tailI tailS
  cases hf : fin x with
  | false => exact ⟨0, 0, false, by rw [if_neg (by decide)], by rw [if_neg (by decide)], by decide⟩
  | true =>
    rw [if_pos rfl, if_pos rfl]
    obtain ⟨s, m, e, hx⟩ := num_of_fin hf
    have hc := conds hx
    cases hg : (FloatKind.f32.format.order (absB x) 1232348160 == some .gt) with
    | true =>
      rw [hg] at hc
      refine ⟨0, 0, false, by rw [if_pos rfl], ?_, by decide⟩
      cases h1 : (FloatKind.f32.format.order x 1232348160 == some .gt) with
      | true => rw [if_pos rfl]
      | false =>
        rw [h1, Bool.false_or] at hc
        rw [if_neg (by decide), ← hc, if_pos rfl]
    | false =>
      rw [hg] at hc
      obtain ⟨h1, h2⟩ := Bool.or_eq_false_iff.1 hc.symm
      obtain ⟨n, hn⟩ := toI_ok hx (small hx hg)
      rw [h1, h2, hn]
      exact ⟨x, n, true, by rw [if_neg (by decide)]; rfl, by rw [if_neg (by decide), if_neg (by decide)]; rfl, isn_num hx⟩
theorem link_ok (L1 : List S46) (a1 : Nat) (L2 : List S46) (a2 : Nat) : ∃ r1 r2 r3, spec_Link.f L1 a1 L2 a2 = some (r1, r2, r3) ∧ impl_Link.f L1 a1 L2 a2 = some (r1, r2, r3) ∧ isn .f32 r1 = false := by
  unfold spec_Link.f impl_Link.f
  cases isThread L1 a1 with
  | false => exact ⟨0, 0, false, by rw [if_neg (by decide)], by rw [if_neg (by decide)], by decide⟩
  | true =>
    rw [if_pos rfl, if_pos rfl]
    cases isThread L2 a2 with
    | false => exact ⟨0, 0, false, by rw [if_neg (by decide)], by rw [if_neg (by decide)], by decide⟩
    | true =>
      rw [if_pos rfl, if_pos rfl]
      obtain ⟨r1, r2, r3, h1, h2, h3⟩ := tail_ok (linkX L1 L2)
      exact ⟨r1, r2, r3, h2, h1, h3⟩
theorem FnExactLinkOfThreads (l : List S44) (a : Nat) (q : List S44) (b : Nat) (hl : l.length ≤ 9223372036854775807) (hq : q.length ≤ 9223372036854775807) : ∃ k, L2.laws_FnExactLinkOfThreads.f k l a q b = some true := by
  obtain ⟨K, hK⟩ : ∃ K : Nat, 2000000 < K := ⟨2000001, by omega⟩
  refine ⟨K + 1, ?_⟩
  obtain ⟨t, ht, h2⟩ := sz_f l a 1048576 (by decide) (by decide) hl
  unfold L2.laws_FnExactLinkOfThreads.f
  rw [ht]
  simp only [Option.bind_some]
  by_cases h0 : t < 0
  · rw [if_pos h0]
  · rw [if_neg h0]
    obtain ⟨hll, ht0, ht1⟩ := h2.resolve_left h0
    obtain ⟨u, hu, h3⟩ := sz_f q b t ht0 ht1 hq
    rw [hu]
    simp only [Option.bind_some]
    by_cases h4 : u < 0
    · rw [if_pos h4]
    · rw [if_neg h4]
      obtain ⟨hqq, _, _⟩ := h3.resolve_left h4
      rw [toT_f l a (K + 1) (by omega) (by omega), toT_f q b (K + 1) (by omega) (by omega)]
      simp only [Option.bind_some]
      have hm : (l.map to46).length = l.length := by simp
      have hn : (q.map to46).length = q.length := by simp
      generalize hL : l.map to46 = L at hm
      generalize hM : q.map to46 = M at hn
      obtain ⟨r1, r2, r3, hr1, hr2, hr3⟩ := link_ok L a M b
      rw [hr1]
      simp only [Option.bind_some]
      rw [hr2]
      simp only [Option.bind_some]
      obtain ⟨c, hc⟩ := cv_some hr3
      rw [if_pos (cok_of hc).1, if_pos (cok_of hc).1]
      unfold XT.sameFloat.f
      rw [sfd_self]
      simp only [Option.bind_some]
      rw [if_pos trivial, if_pos trivial, show (r3 != r3) = false by simp]
      simp only [L2.laws_FnExactLinkOfThreads.j0]
      rw [if_neg (by simp), toT_f l a K (by omega) (by omega), hL]
      simp only [Option.bind_some]
      rw [eqT_f L a (by omega)]
      simp only [Option.bind_some]
      rw [if_pos trivial, toT_f q b K (by omega) (by omega), hM]
      simp only [Option.bind_some]
      rw [eqT_f M b (by omega)]
      rfl
end Go.Proofs.Ytffofpiejcolfaa.PureLink
