/- Plain laws on the reference's texts of whole numbers and of floats. No memory in sight. -/
import Derived.Test.YtifegijnfnjboaaDoorF51
import Derived.Test.YtifegijnfnjboaaDoorT
import Derived.Lib.ItoaMem
set_option linter.unusedVariables false
namespace Go.Proofs.YtifegijnfnjboaaDoor.PQ
open Go.RowKit Go.Proofs.YtifegijnfnjboaaDoor Go.Proofs.YtifegijnfnjboaaDoorW.PrintWords Go.Proofs.YtifegijnfnjboaaDoorW.PrintLast Go.Proofs.YtifegijnfnjboaaDoorW.PrintMore
open T XF XL FA

theorem w1 (i : Nat) (h : i ≤ 9223372036854775806) : wrap64 ((i : Int) + 1) = ((i + 1 : Nat) : Int) := by rw [wrap_id (by omega) (by omega)]; rfl
theorem bt_nat (s : ByteArray) (i : Nat) (h : i < s.size) : bt s (i : Int) = ((s.data.toList[i]'(by rw [← size_list]; exact h)).toNat : Int) := by
  unfold bt
  rw [dif_pos (by simpa using h)]
  simp only [Int.toNat_natCast]
  rfl
def codes (l : List UInt8) : List Int := l.map fun b => (b.toNat : Int)
theorem strOf_codes (l : List UInt8) : strOfNums (codes l) = B l := by
  unfold strOfNums codes B
  rw [List.map_map]
  congr 2
  conv => rhs; rw [← List.map_id l]
  apply List.map_congr_left
  intro b _
  simp
theorem i64_and15 (n : Int) : Go.bits .and .i64 n 15 = n % 16 := by
  have h15 : (BitVec.ofInt 64 15).toNat = 2 ^ 4 - 1 := by decide
  have key : (BitVec.ofInt 64 n &&& BitVec.ofInt 64 15).toNat = (n % ((2 ^ 64 : Nat) : Int)).toNat % 2 ^ 4 := by
    rw [BitVec.toNat_and, BitVec.toNat_ofInt, h15, Nat.and_two_pow_sub_one_eq_mod]
  show IntKind.i64.wrap ((BitVec.ofInt 64 n &&& BitVec.ofInt 64 15).toNat : Nat) = n % 16
  rw [key, IntKind.wrap_i64]
  omega
abbrev dg : ByteArray := ⟨#[48, 49, 50, 51, 52, 53, 54, 55, 56, 57, 97, 98, 99, 100, 101, 102]⟩
/-- The digit of n at the shift s. -/
def dig (n s : Int) : UInt8 := dg.data.toList.getD ((shr .i64 n s) % 16).toNat 0
theorem dig_bt (n s : Int) : bt dg ((shr .i64 n s) % 16) = ((dig n s).toNat : Int) := by
  have h0 : 0 ≤ (shr .i64 n s) % 16 := Int.emod_nonneg _ (by decide)
  have h1 : (shr .i64 n s) % 16 < 16 := Int.emod_lt_of_pos _ (by decide)
  obtain ⟨m, hm⟩ := Int.eq_ofNat_of_zero_le h0
  unfold dig
  rw [hm] at h1 ⊢
  rw [bt_nat dg m (by have : dg.size = 16 := rfl; omega)]
  simp only [Int.toNat_natCast]
  congr 1
  rw [List.getD_eq_getElem?_getD, List.getElem?_eq_getElem (by show m < 16; omega), Option.getD_some]
/-- The digits from the d-th on. -/
def hexd (n : Int) : Nat → List UInt8
  | 0 => []
  | d + 1 => dig n (4 * (d : Int)) :: hexd n d
theorem hexd_len (n : Int) : ∀ d, (hexd n d).length = d
  | 0 => rfl
  | d + 1 => by simp [hexd, hexd_len n d]
def H (x : Nat) : List UInt8 := hexd (XL.bits x) 8
theorem H_len (x : Nat) : (H x).length = 8 := hexd_len _ _
theorem wu (z : Int) (h0 : 0 ≤ z) (h1 : z ≤ 100) : IntKind.u64.wrap z = z := by
  simp [IntKind.wrap, IntKind.bits, IntKind.signed]
  omega
theorem hex_spec (n : Int) : ∀ (d k : Nat) (acc : List UInt8), d ≤ 8 → d < k → acc.length + d ≤ 100 → F5.spec_l01Hex.l0 k n (codes acc) (4 * (d : Int) - 4) = some (B (acc ++ hexd n d)) := by
  intro d
  induction d with
  | zero =>
    intro k acc hd hk ha
    obtain ⟨k, rfl⟩ : ∃ m, k = m + 1 := ⟨k - 1, by omega⟩
    simp only [F5.spec_l01Hex.l0]
    rw [if_neg (by omega), strOf_codes, hexd, List.append_nil]
  | succ d ih =>
    intro k acc hd hk ha
    obtain ⟨k, rfl⟩ : ∃ m, k = m + 1 := ⟨k - 1, by omega⟩
    have e : 4 * ((d + 1 : Nat) : Int) - 4 = 4 * (d : Int) := by omega
    rw [e]
    have hu : IntKind.u64.wrap (4 * (d : Int)) = 4 * (d : Int) := wu _ (by omega) (by omega)
    simp only [F5.spec_l01Hex.l0, i64_and15, hu]
    have h0 : 0 ≤ (shr .i64 n (4 * (d : Int))) % 16 := Int.emod_nonneg _ (by decide)
    have h1 : (shr .i64 n (4 * (d : Int))) % 16 < 16 := Int.emod_lt_of_pos _ (by decide)
    have hw : wrap64 (4 * (d : Int) - 4) = 4 * (d : Int) - 4 := wrap_id (by clear hu; omega) (by clear hu; omega)
    have hc : codes acc ++ [bt dg ((shr .i64 n (4 * (d : Int))) % 16)] = codes (acc ++ [dig n (4 * (d : Int))]) := by
      rw [dig_bt]; simp [codes]
    have hl : (codes acc).length < 140737488355328 := by simp [codes]; omega
    have g : 4 * (d : Int) ≥ 0 := by omega
    rw [if_pos g, if_pos g, if_pos h0, if_pos h1, if_pos hl, hw, hc, ih k _ (by omega) (by omega) (by simp; omega)]
    simp [hexd]
theorem l01Hex_f (x k : Nat) (hk : 8 < k) : F5.spec_l01Hex.f k x = some (B (H x)) := by
  unfold F5.spec_l01Hex.f XL.l01Bits.f
  exact hex_spec (XL.bits x) 8 k [] (by omega) hk (by simp)
def finB (x0 : Int) (D : List UInt8) : ByteArray := if x0 < 0 then B (45 :: D) else B D
theorem digit_code (m : Nat) : ((wrap64 (48 + ((m % 10 : Nat) : Int))) % 256) = ((UInt8.ofNat (48 + m % 10)).toNat : Int) := by
  rw [wrap_id (by omega) (by omega), UInt8.toNat_ofNat_of_lt' (show 48 + m % 10 < 256 by omega)]
  omega
theorem dec_step (x0 : Int) (neg : Bool) (k m : Nat) (D : List UInt8) (hm : m ≤ 9223372036854775807) (hD : D.length ≤ 1000) :
    F5.spec_l01Dec.j1 (k + 1) x0 (codes D) (if neg then -(m : Int) else m) true = F5.spec_l01Dec.l0 k x0 (codes (UInt8.ofNat (48 + m % 10) :: D)) (if neg then -((m / 10 : Nat) : Int) else ((m / 10 : Nat) : Int)) := by
  simp only [F5.spec_l01Dec.j1, if_true]
  have hl : (codes D).length = D.length := by simp [codes]
  cases neg with
  | false =>
    simp only [Bool.false_eq_true, if_false]
    have e1 : Int.tmod (m : Int) 10 = ((m % 10 : Nat) : Int) := by rw [Int.tmod_eq_emod_of_nonneg (by omega)]; omega
    have e2 : Int.tdiv (m : Int) 10 = ((m / 10 : Nat) : Int) := by rw [Int.tdiv_eq_ediv_of_nonneg (by omega)]; omega
    rw [e1, e2, if_neg (by omega)]
    simp only [Option.bind_some, List.length_cons, List.length_nil]
    rw [if_pos (by omega), digit_code m, wrap_id (by omega) (by omega)]
    rfl
  | true =>
    simp only [if_true]
    have e1 : Int.tmod (-(m : Int)) 10 = -((m % 10 : Nat) : Int) := by rw [Int.neg_tmod, Int.tmod_eq_emod_of_nonneg (by omega)]; omega
    have e2 : Int.tdiv (-(m : Int)) 10 = -((m / 10 : Nat) : Int) := by rw [Int.neg_tdiv, Int.tdiv_eq_ediv_of_nonneg (by omega)]; omega
    rw [e1, e2]
    by_cases h0 : m % 10 = 0
    · rw [if_neg (by omega)]
      simp only [Option.bind_some, List.length_cons, List.length_nil]
      have e3 : (48 : Int) + -((m % 10 : Nat) : Int) = 48 + ((m % 10 : Nat) : Int) := by omega
      rw [if_pos (by omega), e3, digit_code m, wrap_id (by omega) (by omega)]
      rfl
    · rw [if_pos (by omega)]
      simp only [Option.bind_some, List.length_cons, List.length_nil]
      have e3 : wrap64 (-(-((m % 10 : Nat) : Int))) = ((m % 10 : Nat) : Int) := by rw [wrap_id (by omega) (by omega)]; omega
      rw [if_pos (by omega), e3, digit_code m, wrap_id (by omega) (by omega)]
      rfl
theorem dec_l0 (x0 : Int) (neg : Bool) : ∀ (e k m : Nat) (D : List UInt8), m < 10 ^ e → 2 * e + 3 < k → m ≤ 9223372036854775807 → D.length + e ≤ 1000 → D ≠ [] →
    F5.spec_l01Dec.l0 k x0 (codes D) (if neg then -(m : Int) else m) = some (finB x0 (if m = 0 then D else Lib.decDigits m ++ D)) := by
  intro e
  induction e with
  | zero =>
    intro k m D hm hk _ hl hD
    have : m = 0 := by simpa using hm
    subst this
    obtain ⟨k, rfl⟩ : ∃ j, k = j + 2 := ⟨k - 2, by omega⟩
    have hDl : 0 < D.length := List.length_pos_iff.2 hD
    have hl : (codes D).length = D.length := by simp [codes]
    have e0 : (if neg then -((0 : Nat) : Int) else ((0 : Nat) : Int)) = 0 := by cases neg <;> rfl
    rw [e0]
    simp only [F5.spec_l01Dec.l0]
    rw [if_neg (by omega)]
    simp only [F5.spec_l01Dec.j1, bne_self_eq_false, Bool.false_eq_true, if_false, if_true]
    unfold finB
    by_cases hx : x0 < 0
    · rw [if_pos hx, if_pos hx]
      simp only [Option.bind_some, List.length_cons, List.length_nil]
      rw [if_pos (by omega)]
      exact congrArg some (strOf_codes (45 :: D))
    · rw [if_neg hx, if_neg hx, strOf_codes]
  | succ e ih =>
    intro k m D hm hk hb hl hD
    by_cases h0 : m = 0
    · subst h0
      exact (ih k 0 D (Nat.pow_pos (by decide)) (by omega) (by omega) (by omega) hD)
    obtain ⟨k, rfl⟩ : ∃ j, k = j + 2 := ⟨k - 2, by omega⟩
    have hDl : 0 < D.length := List.length_pos_iff.2 hD
    have hcl : (codes D).length = D.length := by simp [codes]
    have hne : ((if neg then -(m : Int) else (m : Int)) != 0) = true := by
      cases neg <;> simp [h0]
    conv => lhs; simp only [F5.spec_l01Dec.l0]
    rw [if_neg (by omega), hne, dec_step x0 neg k m D hb (by omega)]
    rw [ih k (m / 10) _ (by rw [Nat.pow_succ] at hm; omega) (by omega) (by omega) (by simp only [List.length_cons]; omega) (by simp)]
    rw [if_neg h0]
    congr 2
    conv => rhs; rw [Lib.decDigits]
    by_cases h10 : m < 10
    · rw [if_pos (by omega), dif_pos h10, Nat.mod_eq_of_lt h10]; rfl
    · rw [if_neg (by omega), dif_neg h10]; simp
theorem dec_f (n : Int) (k : Nat) (hk : 60 < k) (h0 : -9223372036854775807 ≤ n) (h1 : n ≤ 9223372036854775807) : F5.spec_l01Dec.f k n = some (B (Lib.itoa n)) := by
  obtain ⟨k, rfl⟩ : ∃ j, k = j + 2 := ⟨k - 2, by omega⟩
  unfold F5.spec_l01Dec.f
  have e : n = if decide (n < 0) then -((n.natAbs : Nat) : Int) else ((n.natAbs : Nat) : Int) := by
    by_cases h : n < 0
    · rw [if_pos (decide_eq_true h)]; omega
    · rw [if_neg (by simpa using h)]; omega
  conv => lhs; simp only [F5.spec_l01Dec.l0, List.length_nil]
  rw [if_pos (show ((0 : Nat) : Int) = 0 from rfl)]
  have h2 := dec_step n (decide (n < 0)) k n.natAbs [] (by omega) (by simp)
  rw [← e] at h2
  rw [show (([] : List Int)) = codes [] from rfl, h2]
  rw [dec_l0 n (decide (n < 0)) 19 k (n.natAbs / 10) _ (by omega) (by omega) (by omega) (by simp) (by simp)]
  congr 1
  unfold finB Lib.itoa
  have e3 : (if n.natAbs / 10 = 0 then [UInt8.ofNat (48 + n.natAbs % 10)] else Lib.decDigits (n.natAbs / 10) ++ [UInt8.ofNat (48 + n.natAbs % 10)]) = Lib.decDigits n.natAbs := by
    conv => rhs; rw [Lib.decDigits]
    by_cases h10 : n.natAbs < 10
    · rw [if_pos (by omega), dif_pos h10, Nat.mod_eq_of_lt h10]
    · rw [if_neg (by omega), dif_neg h10]
  rw [e3]
  by_cases h : n < 0
  · rw [if_pos h, if_pos h]
  · rw [if_neg h, if_neg h]
    congr 2
    omega
theorem dec_len : ∀ (e u : Nat), u < 10 ^ (e + 1) → (Lib.decDigits u).length ≤ e + 1 := by
  intro e
  induction e with
  | zero =>
    intro u h
    rw [Lib.decDigits, dif_pos (by simpa using h)]
    simp
  | succ e ih =>
    intro u h
    rw [Lib.decDigits]
    split
    · simp
    · have := ih (u / 10) (by rw [Nat.pow_succ] at h; omega)
      simp only [List.length_append, List.length_cons, List.length_nil]
      omega
theorem w1' (i : Nat) (h : i ≤ 9223372036854775806) : wrap64 ((i : Int) + 1) = ((i + 1 : Nat) : Int) := w1 i h
theorem sz1' (b : UInt8) : (⟨#[b]⟩ : ByteArray).size = 1 := rfl
theorem c44' : (⟨#[44]⟩ : ByteArray) = B [44] := rfl
/-- Behind the first: each with a comma before it. -/
def tailH : List Nat → List UInt8
  | [] => []
  | x :: r => [44] ++ H x ++ tailH r
def NT : List Nat → List UInt8
  | [] => [110, 111, 110, 101]
  | x :: r => H x ++ tailH r
theorem tailH_len : ∀ l, (tailH l).length = 9 * l.length
  | [] => rfl
  | x :: r => by simp [tailH, H_len, tailH_len r]; omega
theorem spec_NT0 (all : List Nat) (hall : all.length ≤ 1000) : ∀ (rest pre : List Nat) (k : Nat) (acc : List UInt8), all = pre ++ rest → rest.length + 20 < k → acc.length ≤ 9 * pre.length + 9 →
    F5.spec_l01NText.l0 k all (B acc) (pre.length : Int) = some (B (acc ++ tailH rest)) := by
  intro rest
  induction rest with
  | nil =>
    intro pre k acc hp hk ha
    obtain ⟨k, rfl⟩ : ∃ m, k = m + 1 := ⟨k - 1, by omega⟩
    rw [List.append_nil] at hp
    subst hp
    simp only [F5.spec_l01NText.l0]
    rw [if_neg (by omega)]
    simp [tailH]
  | cons x rest ih =>
    intro pre k acc hp hk ha
    simp only [List.length_cons] at hk
    obtain ⟨k, rfl⟩ : ∃ m, k = m + 1 := ⟨k - 1, by omega⟩
    have hpl : pre.length < all.length := by rw [hp]; simp
    have hrd : rdOf (0 : Nat) all (pre.length : Int) = x := by rw [hp]; simp [rdOf]
    simp only [F5.spec_l01NText.l0]
    rw [if_pos (by omega), if_pos (by omega), hrd, l01Hex_f x k (by omega)]
    simp only [Option.bind_some]
    have hz : (B (H x)).size = 8 := by rw [B_size, H_len]
    rw [if_pos (by rw [hz]; decide), if_pos (by rw [ByteArray.size_append, B_size, sz1', hz]; omega), c44', B_append, B_append, w1' pre.length (by omega)]
    have e2 : pre.length + 1 = (pre ++ [x]).length := by simp
    rw [e2, ih (pre ++ [x]) k _ (by rw [hp]; simp) (by omega) (by simp [H_len]; omega)]
    simp [tailH]
theorem spec_NT (l : List Nat) (hl : l.length ≤ 1000) (k : Nat) (hk : l.length + 30 < k) : F5.spec_l01NText.f k l = some (B (NT l)) := by
  unfold F5.spec_l01NText.f
  cases l with
  | nil =>
    rw [if_pos (by simp)]
    rfl
  | cons x r =>
    rw [if_neg (by simp; omega), if_pos (by simp), show rdOf (0 : Nat) (x :: r) 0 = x from rfl, l01Hex_f x k (by omega)]
    simp only [Option.bind_some]
    have := spec_NT0 (x :: r) hl r [x] k (H x) rfl (by simp at hk; omega) (by simp [H_len])
    exact this
/-- The text of two whole numbers. -/
def T2 (a b : Int) : List UInt8 := Lib.itoa a ++ ([44] ++ Lib.itoa b)
theorem itoa_small (a : Int) (h0 : 0 ≤ a) (h1 : a ≤ 99) : (Lib.itoa a).length ≤ 2 := by
  obtain ⟨u, rfl⟩ : ∃ u : Nat, a = u := ⟨a.toNat, by omega⟩
  rw [Lib.itoa_nonneg]
  exact dec_len 1 u (by omega)
theorem spec_T2 (a b : Int) (ha : 0 ≤ a ∧ a ≤ 99) (hb : 0 ≤ b ∧ b ≤ 99) (k : Nat) (hk : 80 < k) : F5.spec_l01Text.f k [a, b] = some (B (T2 a b)) := by
  obtain ⟨k, rfl⟩ : ∃ m, k = m + 2 := ⟨k - 2, by omega⟩
  have la := itoa_small a ha.1 ha.2
  have lb := itoa_small b hb.1 hb.2
  unfold F5.spec_l01Text.f
  rw [if_neg (by simp), if_pos (by simp), show rd [a, b] 0 = a from rfl, dec_f a (k + 2) (by omega) (by omega) (by omega)]
  simp only [Option.bind_some, F5.spec_l01Text.l0]
  rw [if_pos (by simp), if_pos (by decide), show rd [a, b] 1 = b from rfl, dec_f b (k + 1) (by omega) (by omega) (by omega)]
  simp only [Option.bind_some]
  have hz : (B (Lib.itoa b)).size ≤ 2 := by rw [B_size]; exact lb
  rw [if_pos (by omega), if_pos (by rw [ByteArray.size_append, B_size, sz1']; omega), c44', B_append, B_append]
  rw [show wrap64 (1 + 1) = 2 from wrap_id (by decide) (by decide), if_neg (by simp)]
  rfl
/-- A basin's text. -/
def BT (a b : Int) (l : List Nat) : List UInt8 := T2 a b ++ ([59] ++ NT l)
end Go.Proofs.YtifegijnfnjboaaDoor.PQ
