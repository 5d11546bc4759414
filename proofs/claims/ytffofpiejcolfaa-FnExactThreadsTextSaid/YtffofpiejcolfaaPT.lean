/- Plain laws on the texts of numbers, vectors and threads: what the reference's loops and the program's come to. No memory in sight. -/
import Derived.Test.YtffofpiejcolfaaF22
import Derived.Test.YtffofpiejcolfaaT
set_option linter.unusedVariables false
namespace Go.Proofs.Ytffofpiejcolfaa.PT
open Go.RowKit Go.Proofs.Ytffofpiejcolfaa Go.Proofs.YtffofpiejcolfaaW.PrintWords Go.Proofs.YtffofpiejcolfaaW.PrintLast Go.Proofs.YtffofpiejcolfaaW.PrintMore
open T XF XL XC XT F0

theorem w1 (i : Nat) (h : i ≤ 9223372036854775806) : wrap64 ((i : Int) + 1) = ((i + 1 : Nat) : Int) := by rw [wrap_id (by omega) (by omega)]; rfl
theorem bt_nat (s : ByteArray) (i : Nat) (h : i < s.size) : bt s (i : Int) = ((s.data.toList[i]'(by rw [← size_list]; exact h)).toNat : Int) := by
  unfold bt
  rw [dif_pos (by simpa using h)]
  simp only [Int.toNat_natCast]
  rfl
def codes (l : List UInt8) : List Int := l.map fun b => (b.toNat : Int)
theorem strOf_codes (l : List UInt8) : strOfNums (codes l) = B l := by
  unfold strOfNums codes B
  rw [List.map_map]
  congr 2
  conv => rhs; rw [← List.map_id l]
  apply List.map_congr_left
  intro b _
  simp
theorem i64_and15 (n : Int) : Go.bits .and .i64 n 15 = n % 16 := by
  have h15 : (BitVec.ofInt 64 15).toNat = 2 ^ 4 - 1 := by decide
  have key : (BitVec.ofInt 64 n &&& BitVec.ofInt 64 15).toNat = (n % ((2 ^ 64 : Nat) : Int)).toNat % 2 ^ 4 := by
    rw [BitVec.toNat_and, BitVec.toNat_ofInt, h15, Nat.and_two_pow_sub_one_eq_mod]
  show IntKind.i64.wrap ((BitVec.ofInt 64 n &&& BitVec.ofInt 64 15).toNat : Nat) = n % 16
  rw [key, IntKind.wrap_i64]
  omega
abbrev dg : ByteArray := ⟨#[48, 49, 50, 51, 52, 53, 54, 55, 56, 57, 97, 98, 99, 100, 101, 102]⟩
/-- The digit of n at the shift s. -/
def dig (n s : Int) : UInt8 := dg.data.toList.getD ((shr .i64 n s) % 16).toNat 0
theorem dig_bt (n s : Int) : bt dg ((shr .i64 n s) % 16) = ((dig n s).toNat : Int) := by
  have h0 : 0 ≤ (shr .i64 n s) % 16 := Int.emod_nonneg _ (by decide)
  have h1 : (shr .i64 n s) % 16 < 16 := Int.emod_lt_of_pos _ (by decide)
  obtain ⟨m, hm⟩ := Int.eq_ofNat_of_zero_le h0
  unfold dig
  rw [hm] at h1 ⊢
  rw [bt_nat dg m (by have : dg.size = 16 := rfl; omega)]
  simp only [Int.toNat_natCast]
  congr 1
  rw [List.getD_eq_getElem?_getD, List.getElem?_eq_getElem (by show m < 16; omega), Option.getD_some]
/-- The digits from the d-th on. -/
def hexd (n : Int) : Nat → List UInt8
  | 0 => []
  | d + 1 => dig n (4 * (d : Int)) :: hexd n d
theorem hexd_len (n : Int) : ∀ d, (hexd n d).length = d
  | 0 => rfl
  | d + 1 => by simp [hexd, hexd_len n d]
theorem hex_impl (x : Nat) : ∀ (d k : Nat) (acc : List UInt8), d ≤ 8 → d < k → acc.length + d ≤ 100 → F2.impl_hexText.l0 k x (codes acc) (4 * (d : Int) - 4) = some (B (acc ++ hexd (XL.bits x) d)) := by
  intro d
  induction d with
  | zero =>
    intro k acc hd hk ha
    obtain ⟨k, rfl⟩ : ∃ m, k = m + 1 := ⟨k - 1, by omega⟩
    simp only [F2.impl_hexText.l0]
    rw [if_neg (by omega), strOf_codes, hexd, List.append_nil]
  | succ d ih =>
    intro k acc hd hk ha
    obtain ⟨k, rfl⟩ : ∃ m, k = m + 1 := ⟨k - 1, by omega⟩
    have e : 4 * ((d + 1 : Nat) : Int) - 4 = 4 * (d : Int) := by omega
    rw [e]
    simp only [F2.impl_hexText.l0, XL.BitsOf.f, Option.bind_some, i64_and15]
    have h0 : 0 ≤ (shr .i64 (XL.bits x) (4 * (d : Int))) % 16 := Int.emod_nonneg _ (by decide)
    have h1 : (shr .i64 (XL.bits x) (4 * (d : Int))) % 16 < 16 := Int.emod_lt_of_pos _ (by decide)
    have hw : wrap64 (4 * (d : Int) - 4) = 4 * (d : Int) - 4 := wrap_id (by omega) (by omega)
    have hc : codes acc ++ [bt dg ((shr .i64 (XL.bits x) (4 * (d : Int))) % 16)] = codes (acc ++ [dig (XL.bits x) (4 * (d : Int))]) := by
      rw [dig_bt]; simp [codes]
    have hl : (codes acc).length < 140737488355328 := by simp [codes]; omega
    have g : 4 * (d : Int) ≥ 0 := by omega
    rw [if_pos g, if_pos g, if_pos h0, if_pos h1, if_pos hl, hw, hc, ih k _ (by omega) (by omega) (by simp; omega)]
    simp [hexd]
def H (x : Nat) : List UInt8 := hexd (XL.bits x) 8
theorem H_len (x : Nat) : (H x).length = 8 := hexd_len _ _
theorem hexText_f (x k : Nat) (hk : 8 < k) : F2.impl_hexText.f k x = some (B (H x)) := hex_impl x 8 k [] (by omega) hk (by simp)
theorem wu (z : Int) (h0 : 0 ≤ z) (h1 : z ≤ 100) : IntKind.u64.wrap z = z := by
  simp [IntKind.wrap, IntKind.bits, IntKind.signed]
  omega
theorem hex_spec (n : Int) : ∀ (d k : Nat) (acc : List UInt8), d ≤ 8 → d < k → acc.length + d ≤ 100 → F0.spec_l01Hex.l0 k n (codes acc) (4 * (d : Int) - 4) = some (B (acc ++ hexd n d)) := by
  intro d
  induction d with
  | zero =>
    intro k acc hd hk ha
    obtain ⟨k, rfl⟩ : ∃ m, k = m + 1 := ⟨k - 1, by omega⟩
    simp only [F0.spec_l01Hex.l0]
    rw [if_neg (by omega), strOf_codes, hexd, List.append_nil]
  | succ d ih =>
    intro k acc hd hk ha
    obtain ⟨k, rfl⟩ : ∃ m, k = m + 1 := ⟨k - 1, by omega⟩
    have e : 4 * ((d + 1 : Nat) : Int) - 4 = 4 * (d : Int) := by omega
    rw [e]
    have hu : IntKind.u64.wrap (4 * (d : Int)) = 4 * (d : Int) := wu _ (by omega) (by omega)
    simp only [F0.spec_l01Hex.l0, i64_and15, hu]
    have h0 : 0 ≤ (shr .i64 n (4 * (d : Int))) % 16 := Int.emod_nonneg _ (by decide)
    have h1 : (shr .i64 n (4 * (d : Int))) % 16 < 16 := Int.emod_lt_of_pos _ (by decide)
    have hw : wrap64 (4 * (d : Int) - 4) = 4 * (d : Int) - 4 := wrap_id (by clear hu; omega) (by clear hu; omega)
    have hc : codes acc ++ [bt dg ((shr .i64 n (4 * (d : Int))) % 16)] = codes (acc ++ [dig n (4 * (d : Int))]) := by
      rw [dig_bt]; simp [codes]
    have hl : (codes acc).length < 140737488355328 := by simp [codes]; omega
    have g : 4 * (d : Int) ≥ 0 := by omega
    rw [if_pos g, if_pos g, if_pos h0, if_pos h1, if_pos hl, hw, hc, ih k _ (by omega) (by omega) (by simp; omega)]
    simp [hexd]
theorem l01Hex_f (x k : Nat) (hk : 8 < k) : F0.spec_l01Hex.f k x = some (B (H x)) := by
  unfold F0.spec_l01Hex.f XL.l01Bits.f
  exact hex_spec (XL.bits x) 8 k [] (by omega) hk (by simp)
theorem wa01 : wrap64 (0 + 1) = 1 := wrap_id (by decide) (by decide)
theorem wa12 : wrap64 (1 + 1) = 2 := wrap_id (by decide) (by decide)
theorem wa23 : wrap64 (2 + 1) = 3 := wrap_id (by decide) (by decide)
theorem sz1 (b : UInt8) : (⟨#[b]⟩ : ByteArray).size = 1 := rfl
theorem c44 : (⟨#[44]⟩ : ByteArray) = B [44] := rfl
/-- A vector's text. -/
def VT (x y z : Nat) : List UInt8 := H x ++ ([44] ++ H y) ++ ([44] ++ H z)
theorem VT_len (x y z : Nat) : (VT x y z).length = 26 := by simp [VT, H_len]
theorem spec_N1 (x k : Nat) (hk : 12 < k) : F0.spec_l01NText.f k [x] = some (B (H x)) := by
  obtain ⟨k, rfl⟩ : ∃ m, k = m + 1 := ⟨k - 1, by omega⟩
  unfold F0.spec_l01NText.f
  rw [if_neg (by simp), if_pos (by simp)]
  rw [show rdOf (0 : Nat) [x] 0 = x from rfl, l01Hex_f x (k + 1) (by omega)]
  simp only [Option.bind_some, F0.spec_l01NText.l0]
  rw [if_neg (by simp)]
theorem spec_V (x y z k : Nat) (hk : 12 < k) : F0.spec_l01VText.f k x y z = some (B (VT x y z)) := by
  obtain ⟨k, rfl⟩ : ∃ m, k = m + 3 := ⟨k - 3, by omega⟩
  unfold F0.spec_l01VText.f F0.spec_l01NText.f
  rw [if_neg (by simp), if_pos (by simp)]
  rw [show rdOf (0 : Nat) [x, y, z] 0 = x from rfl, l01Hex_f x (k + 3) (by omega)]
  simp only [Option.bind_some, F0.spec_l01NText.l0]
  have hs (a : Nat) : (B (H a)).size = 8 := by rw [B_size, H_len]
  rw [if_pos (by simp), if_pos (by decide), show rdOf (0 : Nat) [x, y, z] 1 = y from rfl, l01Hex_f y (k + 2) (by omega)]
  simp only [Option.bind_some]
  rw [if_pos (by rw [hs]; decide), if_pos (by rw [ByteArray.size_append, hs, hs, sz1]; decide), wa12]
  rw [if_pos (by simp), if_pos (by decide), show rdOf (0 : Nat) [x, y, z] 2 = z from rfl, l01Hex_f z (k + 1) (by omega)]
  simp only [Option.bind_some]
  rw [if_pos (by rw [hs]; decide), if_pos (by rw [ByteArray.size_append, ByteArray.size_append, ByteArray.size_append, hs, hs, hs, sz1]; decide), wa23, if_neg (by simp)]
  simp only [Option.bind_some, c44, B_append]
  rfl
theorem join_f (l : List (List UInt8)) (sep : UInt8) (h1 : l.length ≤ 1000000) (h2 : (Lib.join l [sep]).length ≤ 1000000000) : XT.strings_Join.f (l.map B) (⟨#[sep]⟩ : ByteArray) = some (B (Lib.join l [sep])) := by
  unfold XT.strings_Join.f
  have e : (l.map B).map (·.data.toList) = l := by
    rw [List.map_map]
    have : ((fun (x : ByteArray) => x.data.toList) ∘ B) = id := by funext x; exact B_toList x
    rw [this, List.map_id]
  have e2 : (⟨#[sep]⟩ : ByteArray).data.toList = [sep] := rfl
  rw [e, e2, if_pos ⟨by rw [List.length_map]; omega, by omega⟩]
  rfl
theorem joined_f (l : List (List UInt8)) (h0 : l ≠ []) (h1 : l.length ≤ 1000000) (h2 : (Lib.join l [44]).length ≤ 1000000000) : F2.impl_joined.f (l.map B) = some (B (Lib.join l [44])) := by
  unfold F2.impl_joined.f
  have : l.length ≠ 0 := by simpa using h0
  rw [if_neg (by rw [List.length_map]; omega), join_f l 44 h1 h2]
  rfl
theorem N_l0 : ∀ (rest pre : List Nat) (k : Nat), rest.length + 9 < k → pre.length + rest.length ≤ 1000 →
    F2.impl_NumbersText.l0 k ((pre.map H).map B) (pre ++ rest) (((pre ++ rest).length : Nat) : Int) (pre.length : Int) = (F2.impl_joined.f (((pre ++ rest).map H).map B)).bind fun t => some (t, true) := by
  intro rest
  induction rest with
  | nil =>
    intro pre k hk hp
    obtain ⟨k, rfl⟩ : ∃ m, k = m + 1 := ⟨k - 1, by omega⟩
    simp only [F2.impl_NumbersText.l0]
    rw [if_neg (by simp)]
    simp only [List.append_nil]
  | cons x rest ih =>
    intro pre k hk hp
    simp only [List.length_cons] at hk hp
    obtain ⟨k, rfl⟩ : ∃ m, k = m + 1 := ⟨k - 1, by omega⟩
    have hrd : rdOf (0 : Nat) (pre ++ x :: rest) (pre.length : Int) = x := by simp [rdOf]
    have hlt : (pre.length : Int) < (((pre ++ x :: rest).length : Nat) : Int) := by simp; omega
    simp only [F2.impl_NumbersText.l0]
    rw [if_pos hlt, if_pos (by omega), if_pos hlt, hrd, hexText_f x k (by omega)]
    simp only [Option.bind_some]
    have e : pre ++ x :: rest = (pre ++ [x]) ++ rest := by simp
    have e2 : pre.length + 1 = (pre ++ [x]).length := by simp
    have e3 : (pre.map H).map B ++ [B (H x)] = ((pre ++ [x]).map H).map B := by simp
    rw [if_pos (by simp only [List.length_map]; omega), w1 pre.length (by omega), e, e2, e3]
    exact ih (pre ++ [x]) k (by omega) (by simp; omega)
theorem impl_Ns (xs : List Nat) (h0 : xs ≠ []) (h1 : xs.length ≤ 256) (k : Nat) (hk : xs.length + 9 < k) (h2 : (Lib.join (xs.map H) [44]).length ≤ 1000000000) : F2.impl_NumbersText.f k xs = some (B (Lib.join (xs.map H) [44]), true) := by
  unfold F2.impl_NumbersText.f F2.impl_listOk.f
  simp only [Option.bind_some]
  rw [if_pos (by simp; omega)]
  have := N_l0 xs [] k hk (by simp; omega)
  simp only [List.nil_append, List.map_nil, List.length_nil] at this
  refine Eq.trans this ?_
  rw [joined_f (xs.map H) (by simpa using h0) (by simp; omega) h2]
  simp only [Option.bind_some]
theorem impl_N1 (x k : Nat) (hk : 12 < k) : F2.impl_numbersText.f k [x] = some (B (H x)) := by
  unfold F2.impl_numbersText.f
  rw [impl_Ns [x] (by simp) (by simp) k (by simp; omega) (by simp [Lib.join_one, H_len])]
  simp [Lib.join_one]
theorem impl_V (x y z k : Nat) (hk : 12 < k) : F2.impl_VectorText.f k x y z = some (B (VT x y z)) := by
  have hj : Lib.join ([x, y, z].map H) [44] = VT x y z := by
    simp only [List.map_cons, List.map_nil]
    rw [Lib.join_cons]
    simp [Lib.joinTail, VT]
  unfold F2.impl_VectorText.f F2.impl_Vector_numbers.f
  simp only [Option.bind_some]
  rw [impl_Ns [x, y, z] (by simp) (by simp) k (by simp; omega) (by rw [hj, VT_len]; omega), hj]
  simp only [Option.bind_some]
/-- A thread's text. -/
def VTs (v : S46) : List UInt8 := VT v.f0 v.f1 v.f2
def TT (l : List S46) (a : Nat) : List UInt8 := Lib.join (l.map VTs) [47] ++ ([59] ++ H a)
theorem joinTail_len (l : List S46) : (Lib.joinTail [47] (l.map VTs)).length = 27 * l.length := by
  induction l with
  | nil => rfl
  | cons v l ih =>
    simp only [Lib.joinTail, List.map_cons, List.flatten_cons, List.length_append] at ih ⊢
    rw [ih]
    simp only [VTs, VT_len, List.length_cons, List.length_nil]
    omega
theorem c47 : (⟨#[47]⟩ : ByteArray) = B [47] := rfl
theorem c59 : (⟨#[59]⟩ : ByteArray) = B [59] := rfl
theorem spec_T0 (l : List S46) (a : Nat) (h0 : l ≠ []) (hl : l.length ≤ 32) : ∀ (rest pre : List S46) (k : Nat) (acc : List UInt8), l = pre ++ rest → rest.length + 20 < k → pre ≠ [] → acc = Lib.join (pre.map VTs) [47] →
    F0.spec_l08Thread.l0 k (B acc) (pre.length : Int) l a = some (B (TT l a), a) := by
  have jl (p : List S46) (hp : p.length ≤ 32) : (Lib.join (p.map VTs) [47]).length ≤ 1000 := by
    cases p with
    | nil => simp [Lib.join_nil]
    | cons v p =>
      simp only [List.length_cons] at hp
      rw [List.map_cons, Lib.join_cons, List.length_append, joinTail_len]
      simp only [VTs, VT_len]
      omega
  intro rest
  induction rest with
  | nil =>
    intro pre k acc hp hk hne hacc
    rw [List.append_nil] at hp
    subst hp
    obtain ⟨k, rfl⟩ : ∃ m, k = m + 1 := ⟨k - 1, by omega⟩
    have ha := jl l hl
    rw [← hacc] at ha
    simp only [F0.spec_l08Thread.l0]
    rw [if_neg (by simp), if_pos (by rw [B_size]; omega), spec_N1 a k (by simp at hk; omega)]
    simp only [Option.bind_some]
    rw [if_pos (by rw [ByteArray.size_append, B_size, sz1, B_size, H_len]; omega), c59, B_append, B_append, hacc, TT, List.append_assoc]
  | cons v rest ih =>
    intro pre k acc hp hk hne hacc
    simp only [List.length_cons] at hk
    obtain ⟨k, rfl⟩ : ∃ m, k = m + 1 := ⟨k - 1, by omega⟩
    have hpl : pre.length < l.length := by rw [hp]; simp
    have hp0 : 0 < pre.length := List.length_pos_iff.2 hne
    have hrd : rd_T46 l (pre.length : Int) = v := by rw [hp]; simp [rd_T46]
    have ha := jl pre (by omega)
    rw [← hacc] at ha
    simp only [F0.spec_l08Thread.l0]
    rw [if_pos (by omega), if_pos (by omega), if_pos (by rw [B_size]; omega), if_pos (by omega), hrd, spec_V _ _ _ k (by omega)]
    simp only [Option.bind_some]
    have e2 : pre.length + 1 = (pre ++ [v]).length := by simp
    rw [if_pos (by rw [ByteArray.size_append, B_size, sz1, B_size, VT_len]; omega), c47, B_append, B_append, w1 pre.length (by omega), e2]
    refine ih (pre ++ [v]) k _ (by rw [hp]; simp) (by omega) (by simp) ?_
    rw [hacc]
    cases pre with
    | nil => exact absurd rfl hne
    | cons u p =>
      simp only [List.cons_append, List.map_cons, List.map_append, List.map_nil]
      rw [Lib.join_cons, Lib.join_cons]
      simp [Lib.joinTail, VTs]
theorem spec_T (l : List S46) (a : Nat) (h0 : l ≠ []) (hl : l.length ≤ 32) (k : Nat) (hk : l.length + 30 < k) : F0.spec_l08Thread.f k l a = some (B (TT l a), a) := by
  cases l with
  | nil => exact absurd rfl h0
  | cons v l =>
    simp only [List.length_cons] at hl hk
    obtain ⟨k, rfl⟩ : ∃ m, k = m + 1 := ⟨k - 1, by omega⟩
    unfold F0.spec_l08Thread.f
    simp only [F0.spec_l08Thread.l0]
    rw [if_pos (by simp), if_neg (by decide), if_pos (by decide), show rd_T46 (v :: l) 0 = v from rfl, spec_V _ _ _ k (by omega)]
    simp only [Option.bind_some]
    rw [if_pos (by rw [B_size, VT_len]; decide), wa01]
    have := spec_T0 (v :: l) a h0 (by simp; omega) l [v] k (VTs v) rfl (by omega) (by simp) (by simp [Lib.join_one])
    exact this
theorem impl_T0 (l : List S46) (a : Nat) (h0 : l ≠ []) (hl : l.length ≤ 32) : ∀ (rest pre : List S46) (k : Nat), l = pre ++ rest → rest.length + 20 < k →
    F2.impl_ThreadText.l0 k ((pre.map VTs).map B) l (l.length : Int) (pre.length : Int) l a = some (B (TT l a), true) := by
  intro rest
  induction rest with
  | nil =>
    intro pre k hp hk
    rw [List.append_nil] at hp
    subst hp
    obtain ⟨k, rfl⟩ : ∃ m, k = m + 1 := ⟨k - 1, by omega⟩
    have ha : (Lib.join (l.map VTs) [47]).length ≤ 1000 := by
      cases l with
      | nil => exact absurd rfl h0
      | cons v p =>
        simp only [List.length_cons] at hl
        rw [List.map_cons, Lib.join_cons, List.length_append, joinTail_len]
        simp only [VTs, VT_len]
        omega
    simp only [F2.impl_ThreadText.l0]
    rw [if_neg (by omega), join_f (l.map VTs) 47 (by simp; omega) (by omega)]
    simp only [Option.bind_some]
    rw [if_pos (by rw [B_size]; omega), impl_N1 a k (by simp at hk; omega)]
    simp only [Option.bind_some]
    rw [if_pos (by rw [ByteArray.size_append, B_size, sz1, B_size, H_len]; omega), c59, B_append, B_append, TT, List.append_assoc]
  | cons v rest ih =>
    intro pre k hp hk
    simp only [List.length_cons] at hk
    obtain ⟨k, rfl⟩ : ∃ m, k = m + 1 := ⟨k - 1, by omega⟩
    have hpl : pre.length < l.length := by rw [hp]; simp
    have hrd : rd_T46 l (pre.length : Int) = v := by rw [hp]; simp [rd_T46]
    simp only [F2.impl_ThreadText.l0]
    rw [if_pos (by omega), if_pos (by omega), if_pos (by omega), hrd, impl_V _ _ _ k (by omega)]
    simp only [Option.bind_some]
    have e2 : pre.length + 1 = (pre ++ [v]).length := by simp
    have e3 : (pre.map VTs).map B ++ [B (VT v.f0 v.f1 v.f2)] = ((pre ++ [v]).map VTs).map B := by simp [VTs]
    rw [if_pos (by simp only [List.length_map]; omega), w1 pre.length (by omega), e2, e3]
    exact ih (pre ++ [v]) k (by rw [hp]; simp) (by omega)
end Go.Proofs.Ytffofpiejcolfaa.PT
