/- The plain law of FnExactBasinText: what its functions compute answers true at every basin. No memory in sight. -/
import Derived.Test.YtifegijnfnjboaaDoorF42
import Derived.Test.YtifegijnfnjboaaDoorPQ
set_option linter.unusedVariables false
namespace Go.Proofs.YtifegijnfnjboaaDoor.PureBasinText
open Go.RowKit Go.Proofs.YtifegijnfnjboaaDoor Go.Proofs.YtifegijnfnjboaaDoorW.PrintWords Go.Proofs.YtifegijnfnjboaaDoorW.PrintLast Go.Proofs.YtifegijnfnjboaaDoorW.PrintMore
open T XF XL XW XV XB FA F4 PQ

theorem hex_impl (x : Nat) : ∀ (d k : Nat) (acc : List UInt8), d ≤ 8 → d < k → acc.length + d ≤ 100 → F4.impl_hexText.l0 k x (codes acc) (4 * (d : Int) - 4) = some (B (acc ++ hexd (XL.bits x) d)) := by
  intro d
  induction d with
  | zero =>
    intro k acc hd hk ha
    obtain ⟨k, rfl⟩ : ∃ m, k = m + 1 := ⟨k - 1, by omega⟩
    simp only [F4.impl_hexText.l0]
    rw [if_neg (by omega), strOf_codes, hexd, List.append_nil]
  | succ d ih =>
    intro k acc hd hk ha
    obtain ⟨k, rfl⟩ : ∃ m, k = m + 1 := ⟨k - 1, by omega⟩
    have e : 4 * ((d + 1 : Nat) : Int) - 4 = 4 * (d : Int) := by omega
    rw [e]
    simp only [F4.impl_hexText.l0, XL.BitsOf.f, Option.bind_some, i64_and15]
    have h0 : 0 ≤ (shr .i64 (XL.bits x) (4 * (d : Int))) % 16 := Int.emod_nonneg _ (by decide)
    have h1 : (shr .i64 (XL.bits x) (4 * (d : Int))) % 16 < 16 := Int.emod_lt_of_pos _ (by decide)
    have hw : wrap64 (4 * (d : Int) - 4) = 4 * (d : Int) - 4 := wrap_id (by omega) (by omega)
    have hc : codes acc ++ [bt dg ((shr .i64 (XL.bits x) (4 * (d : Int))) % 16)] = codes (acc ++ [dig (XL.bits x) (4 * (d : Int))]) := by
      rw [dig_bt]; simp [codes]
    have hl : (codes acc).length < 140737488355328 := by simp [codes]; omega
    have g : 4 * (d : Int) ≥ 0 := by omega
    rw [if_pos g, if_pos g, if_pos h0, if_pos h1, if_pos hl, hw, hc, ih k _ (by omega) (by omega) (by simp; omega)]
    simp [hexd]
theorem hexText_f (x k : Nat) (hk : 8 < k) : F4.impl_hexText.f k x = some (B (H x)) := hex_impl x 8 k [] (by omega) hk (by simp)
theorem join_f (l : List (List UInt8)) (sep : UInt8) (h1 : l.length ≤ 1000000) (h2 : (Lib.join l [sep]).length ≤ 1000000000) : XQ.strings_Join.f (l.map B) (⟨#[sep]⟩ : ByteArray) = some (B (Lib.join l [sep])) := by
  unfold XQ.strings_Join.f
  have e : (l.map B).map (·.data.toList) = l := by
    rw [List.map_map]
    have : ((fun (x : ByteArray) => x.data.toList) ∘ B) = id := by funext x; exact B_toList x
    rw [this, List.map_id]
  have e2 : (⟨#[sep]⟩ : ByteArray).data.toList = [sep] := rfl
  rw [e, e2, if_pos ⟨by rw [List.length_map]; omega, by omega⟩]
  rfl
theorem joined_f (l : List (List UInt8)) (h0 : l ≠ []) (h1 : l.length ≤ 1000000) (h2 : (Lib.join l [44]).length ≤ 1000000000) : F4.impl_joined.f (l.map B) = some (B (Lib.join l [44])) := by
  unfold F4.impl_joined.f
  have : l.length ≠ 0 := by simpa using h0
  rw [if_neg (by rw [List.length_map]; omega), join_f l 44 h1 h2]
  rfl
theorem N_l0 : ∀ (rest pre : List Nat) (k : Nat), rest.length + 9 < k → pre.length + rest.length ≤ 1000 →
    F4.impl_NumbersText.l0 k ((pre.map H).map B) (pre ++ rest) (((pre ++ rest).length : Nat) : Int) (pre.length : Int) = (F4.impl_joined.f (((pre ++ rest).map H).map B)).bind fun t => some (t, true) := by
  intro rest
  induction rest with
  | nil =>
    intro pre k hk hp
    obtain ⟨k, rfl⟩ : ∃ m, k = m + 1 := ⟨k - 1, by omega⟩
    simp only [F4.impl_NumbersText.l0]
    rw [if_neg (by simp)]
    simp only [List.append_nil]
  | cons x rest ih =>
    intro pre k hk hp
    simp only [List.length_cons] at hk hp
    obtain ⟨k, rfl⟩ : ∃ m, k = m + 1 := ⟨k - 1, by omega⟩
    have hrd : rdOf (0 : Nat) (pre ++ x :: rest) (pre.length : Int) = x := by simp [rdOf]
    have hlt : (pre.length : Int) < (((pre ++ x :: rest).length : Nat) : Int) := by simp; omega
    simp only [F4.impl_NumbersText.l0]
    rw [if_pos hlt, if_pos (by omega), if_pos hlt, hrd, hexText_f x k (by omega)]
    simp only [Option.bind_some]
    have e : pre ++ x :: rest = (pre ++ [x]) ++ rest := by simp
    have e2 : pre.length + 1 = (pre ++ [x]).length := by simp
    have e3 : (pre.map H).map B ++ [B (H x)] = ((pre ++ [x]).map H).map B := by simp
    rw [if_pos (by simp only [List.length_map]; omega), w1 pre.length (by omega), e, e2, e3]
    exact ih (pre ++ [x]) k (by omega) (by simp; omega)
theorem impl_Ns (xs : List Nat) (h0 : xs ≠ []) (h1 : xs.length ≤ 256) (k : Nat) (hk : xs.length + 9 < k) (h2 : (Lib.join (xs.map H) [44]).length ≤ 1000000000) : F4.impl_NumbersText.f k xs = some (B (Lib.join (xs.map H) [44]), true) := by
  unfold F4.impl_NumbersText.f F4.impl_listOk.f
  simp only [Option.bind_some]
  rw [if_pos (by simp; omega)]
  have := N_l0 xs [] k hk (by simp; omega)
  simp only [List.nil_append, List.map_nil, List.length_nil] at this
  refine Eq.trans this ?_
  rw [joined_f (xs.map H) (by simpa using h0) (by simp; omega) h2]
  simp only [Option.bind_some]
theorem join_NT (l : List Nat) (h : l ≠ []) : Lib.join (l.map H) [44] = NT l := by
  cases l with
  | nil => exact absurd rfl h
  | cons x r =>
    rw [List.map_cons, Lib.join_cons, NT]
    congr 1
    clear h
    induction r with
    | nil => rfl
    | cons y r ih =>
      simp only [Lib.joinTail, List.map_cons, List.flatten_cons, tailH] at ih ⊢
      rw [ih]
theorem impl_NT (l : List Nat) (h0 : l ≠ []) (hl : l.length ≤ 256) (k : Nat) (hk : l.length + 20 < k) : F4.impl_numbersText.f k l = some (B (NT l)) := by
  unfold F4.impl_numbersText.f
  have hz : (NT l).length ≤ 3000 := by
    cases l with
    | nil => simp [NT]
    | cons x r =>
      simp only [List.length_cons] at hl
      simp only [NT, List.length_append, H_len, tailH_len]
      omega
  rw [impl_Ns l h0 hl k (by omega) (by rw [join_NT l h0]; omega), join_NT l h0]
  rfl
theorem impl_T2 (a b : Int) (ha : 0 ≤ a ∧ a ≤ 99) (hb : 0 ≤ b ∧ b ≤ 99) (k : Nat) (hk : 10 < k) : F4.impl_ListText.f k [a, b] = some (B (T2 a b), true) := by
  obtain ⟨k, rfl⟩ : ∃ m, k = m + 3 := ⟨k - 3, by omega⟩
  have hin (x : Int) (h0 : 0 ≤ x) (h9 : x ≤ 99) : F4.impl_in.f x (-1000000000000000) 1000000000000000 = some true := by
    unfold F4.impl_in.f
    rw [if_pos (by omega), decide_eq_true (by omega)]
  have hd (x : Int) (h0 : 0 ≤ x) (h9 : x ≤ 99) : F4.impl_Decimal.f x = some (B (Lib.itoa x)) := by
    unfold F4.impl_Decimal.f XQ.FormatInt.f
    rw [if_pos ⟨h0, h9, rfl⟩]
    rfl
  have la := itoa_small a ha.1 ha.2
  have lb := itoa_small b hb.1 hb.2
  have hj : Lib.join [Lib.itoa a, Lib.itoa b] [44] = T2 a b := by
    rw [Lib.join_cons]
    simp [Lib.joinTail, T2]
  unfold F4.impl_ListText.f
  simp only [F4.impl_ListText.l0]
  rw [if_pos (by simp), if_pos (by decide), if_pos (by simp), show rd [a, b] 0 = a from rfl, hin a ha.1 ha.2]
  simp only [Option.bind_some]
  rw [if_pos trivial, if_neg (by simp), hd a ha.1 ha.2]
  simp only [Option.bind_some]
  rw [if_pos (by simp), show wrap64 (0 + 1) = 1 from wrap_id (by decide) (by decide)]
  rw [if_pos (by simp), if_pos (by decide), if_pos (by simp), show rd [a, b] 1 = b from rfl, hin b hb.1 hb.2]
  simp only [Option.bind_some]
  rw [if_pos trivial, if_neg (by simp), hd b hb.1 hb.2]
  simp only [Option.bind_some]
  rw [if_pos (by simp), show wrap64 (1 + 1) = 2 from wrap_id (by decide) (by decide), if_neg (by simp)]
  have := joined_f [Lib.itoa a, Lib.itoa b] (by simp) (by simp) (by rw [hj]; simp [T2]; omega)
  rw [hj] at this
  simp only [List.map_cons, List.map_nil] at this
  simp only [List.nil_append, List.cons_append]
  rw [this]
  rfl
theorem valid_b {a b : Int} {l : List Nat} (h : validB a b l = true) : (0 ≤ a ∧ a ≤ 99) ∧ (0 ≤ b ∧ b ≤ 99) ∧ l ≠ [] ∧ l.length ≤ 256 := by
  unfold validB at h
  simp only [Bool.and_eq_true, decide_eq_true_eq] at h
  have hm := mul_b h.1.1 h.1.2
  have ha := side_b h.1.1
  have hb := side_b h.1.2
  have hl := h.2.1
  refine ⟨by omega, by omega, ?_, by omega⟩
  rintro rfl
  simp only [List.length_nil] at hl
  have h1 : 0 < a * b := Int.mul_pos (by omega) (by omega)
  omega
theorem impl_B (a b : Int) (l : List Nat) (k : Nat) (hk : 300 < k) : F4.impl_BasinText.f k a b l = XQ.spec_BasinText.f a b l := by
  unfold F4.impl_BasinText.f XQ.spec_BasinText.f XB.ValidBasin.f
  simp only [Option.bind_some]
  cases h : validB a b l with
  | false =>
    rw [if_neg (by decide), if_neg (by decide)]
  | true =>
    obtain ⟨ha, hb, h0, hl⟩ := valid_b h
    rw [if_pos rfl, if_pos rfl, impl_T2 a b ha hb k (by omega)]
    simp only [Option.bind_some]
    have z1 : (T2 a b).length ≤ 5 := by
      have := itoa_small a ha.1 ha.2
      have := itoa_small b hb.1 hb.2
      simp only [T2, List.length_append, List.length_cons, List.length_nil]
      omega
    have z2 : (NT l).length ≤ 3000 := by
      cases l with
      | nil => simp [NT]
      | cons x r =>
        simp only [List.length_cons] at hl
        simp only [NT, List.length_append, H_len, tailH_len]
        omega
    rw [if_pos (by rw [B_size]; omega), impl_NT l h0 hl k (by omega)]
    simp only [Option.bind_some]
    rw [if_pos (by rw [ByteArray.size_append, B_size, B_size, show (⟨#[59]⟩ : ByteArray).size = 1 from rfl]; omega), show (⟨#[59]⟩ : ByteArray) = B [59] from rfl, B_append, B_append, BT, List.append_assoc]
theorem to_l0 : ∀ (rest pre : List Nat) (k : Nat), rest.length < k → pre.length + rest.length ≤ 1073741824 →
    F4.laws_toFloat32S.l0 k (pre ++ rest) (pre ++ List.replicate rest.length 0) (pre.length : Int) = some (pre ++ rest) := by
  intro rest
  induction rest with
  | nil =>
    intro pre k hk hp
    obtain ⟨k, rfl⟩ : ∃ m, k = m + 1 := ⟨k - 1, by omega⟩
    simp only [F4.laws_toFloat32S.l0]
    rw [if_neg (by simp)]
    simp
  | cons L rest ih =>
    intro pre k hk hp
    simp only [List.length_cons] at hk hp
    obtain ⟨k, rfl⟩ : ∃ m, k = m + 1 := ⟨k - 1, by omega⟩
    have hrd : rdOf (0 : Nat) (pre ++ L :: rest) (pre.length : Int) = L := by simp [rdOf]
    simp only [F4.laws_toFloat32S.l0]
    rw [if_pos (by simp; omega), if_pos (by omega), if_pos (by simp; omega), hrd, w1 pre.length (by omega)]
    have e : pre ++ L :: rest = (pre ++ [L]) ++ rest := by simp
    have e2 : pre.length + 1 = (pre ++ [L]).length := by simp
    have e3 : (pre ++ List.replicate (L :: rest).length 0).set (pre.length : Int).toNat L = (pre ++ [L]) ++ List.replicate rest.length 0 := by
      simp only [Int.toNat_natCast, List.length_cons, List.replicate_succ]
      rw [List.set_append_right _ _ (by simp)]
      simp
    rw [e3, e, e2]
    exact ih (pre ++ [L]) k (by omega) (by simp; omega)
theorem to_f (a b : Int) (l : List Nat) (k : Nat) (hk : l.length < k) (hlen : l.length ≤ 1073741824) : F4.laws_toBasin.f k a b l = some (a, b, l) := by
  unfold F4.laws_toBasin.f F4.laws_toFloat32S.f
  rw [if_pos (by omega), if_pos (by simp; omega), Int.toNat_natCast]
  have := to_l0 l [] k hk (by simp; omega)
  simp only [List.nil_append, List.length_nil, Int.ofNat_zero] at this
  refine Eq.trans (congrArg (fun o => Option.bind o _) this) ?_
  rfl
theorem eqfs_self : ∀ l : List Nat, eqfs l l = true
  | [] => rfl
  | x :: l => by simp [eqfs, sfc_self, eqfs_self l]
theorem FnExactBasinText (a b : Int) (l : List Nat) (hlen : l.length ≤ 9223372036854775807) : ∃ k, F4.laws_FnExactBasinText.f k a b l = some true := by
  obtain ⟨K, hK⟩ : ∃ K : Nat, 20000000 < K := ⟨20000001, by omega⟩
  refine ⟨K + 1, ?_⟩
  unfold F4.laws_FnExactBasinText.f F4.laws_szBasin.f F4.laws_szFloat32S.f
  rw [wrap_id (i := 1048576 - (l.length : Int)) (by omega) (by omega)]
  by_cases h : 1048576 - (l.length : Int) < 0
  · rw [if_pos h]
    rfl
  · rw [if_neg h]
    simp only [Option.bind_some]
    rw [if_neg h]
    simp only [Option.bind_some]
    rw [if_neg h, to_f a b l (K + 1) (by omega) (by omega)]
    simp only [Option.bind_some]
    rw [impl_B a b l (K + 1) (by omega)]
    obtain ⟨r, hr⟩ : ∃ r, XQ.spec_BasinText.f a b l = some r := ⟨_, rfl⟩
    rw [hr]
    simp only [Option.bind_some, if_true]
    rw [show (r.2 != r.2) = false by simp]
    simp only [F4.laws_FnExactBasinText.j0]
    rw [if_neg (by decide), to_f a b l K (by omega) (by omega)]
    simp only [Option.bind_some]
    unfold F4.laws_eqBasin.f XV.eqFloat32S.f
    simp [eqfs_self]
end Go.Proofs.YtifegijnfnjboaaDoor.PureBasinText
