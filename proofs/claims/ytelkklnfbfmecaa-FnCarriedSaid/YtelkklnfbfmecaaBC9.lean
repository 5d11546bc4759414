/- Words, walks and plain laws that a claim of this seat needs, one text after the other (part 9). -/
import Derived.Test.YtelkklnfbfmecaaBC8
set_option linter.unusedVariables false
set_option linter.unusedSectionVars false
set_option linter.unusedSimpArgs false
section
namespace Go.Proofs.Ytelkklnfbfmecaa
open Go.RowKit YtelkklnfbfmecaaW.PrintWords YtelkklnfbfmecaaW.PrintLast Ieee
namespace PA
open FR PU
def E (j : Nat) (x : Nat) (n : Int) : Prop := Fk .f32 x ((n : Rat) * (2 : Rat) ^ (-(j : Int)))
theorem E_rep {j : Nat} (hj : j ≤ 100) {n : Int} (h : n.natAbs < 16777216) : Rep single ((n : Rat) * (2 : Rat) ^ (-(j : Int))) := by
  have a1 : single.leastPlace = -149 := by decide
  have a3 : single.binade = 8388608 := by decide
  exact ⟨n, -(j : Int), rfl, by omega, by omega⟩
theorem E_bd {j : Nat} {n : Int} (h : n.natAbs < 16777216) : Bd 24 ((n : Rat) * (2 : Rat) ^ (-(j : Int))) := by
  have hp := pw_pos (-(j : Int))
  have h1 : (2 : Rat) ^ (-(j : Int)) ≤ 1 := by
    have := pw_mono (show -(j : Int) ≤ 0 by omega)
    rwa [show (2 : Rat) ^ (0 : Int) = 1 from rfl] at this
  have e : (2 : Rat) ^ (24 : Int) = 16777216 := by decide +kernel
  have a : (n : Rat) < 16777216 := by
    have : ((n : Int) : Rat) < ((16777216 : Int) : Rat) := Rat.intCast_lt_intCast.2 (by omega)
    exact this
  have b : -16777216 < (n : Rat) := by
    have : ((-16777216 : Int) : Rat) < ((n : Int) : Rat) := Rat.intCast_lt_intCast.2 (by omega)
    exact this
  unfold Bd
  rw [e]
  generalize (2 : Rat) ^ (-(j : Int)) = p at *
  have k1 := Rat.mul_lt_mul_of_pos_right a hp
  have k2 := Rat.mul_lt_mul_of_pos_right b hp
  constructor <;> grind
theorem E_add {j : Nat} (hj : j ≤ 100) {x y : Nat} {n m : Int} (hx : E j x n) (hy : E j y m) (h : (n + m).natAbs < 16777216) : fok .add .f32 x y = true ∧ E j (fop .add .f32 x y) (n + m) := by
  have e : (n : Rat) * (2 : Rat) ^ (-(j : Int)) + (m : Rat) * (2 : Rat) ^ (-(j : Int)) = ((n + m : Int) : Rat) * (2 : Rat) ^ (-(j : Int)) := by rw [Rat.intCast_add, Rat.add_mul]
  obtain ⟨r, c, h1, h2, -, h4⟩ := add_val (.inl rfl) hx hy (J := 24) (by rw [e]; exact E_bd h) (by decide)
  rw [e] at h4
  have := h4 (E_rep hj h)
  subst this
  obtain ⟨g1, g2⟩ := fok_of (op := .add) (k := .f32) h1
  rw [g2]
  exact ⟨g1, h2⟩
theorem E_sub {j : Nat} (hj : j ≤ 100) {x y : Nat} {n m : Int} (hx : E j x n) (hy : E j y m) (h : (n - m).natAbs < 16777216) : fok .sub .f32 x y = true ∧ E j (fop .sub .f32 x y) (n - m) := by
  have e : (n : Rat) * (2 : Rat) ^ (-(j : Int)) - (m : Rat) * (2 : Rat) ^ (-(j : Int)) = ((n - m : Int) : Rat) * (2 : Rat) ^ (-(j : Int)) := by rw [Rat.intCast_sub]; grind
  obtain ⟨r, c, h1, h2, -, h4⟩ := sub_val (.inl rfl) hx hy (J := 24) (by rw [e]; exact E_bd h) (by decide)
  rw [e] at h4
  have := h4 (E_rep hj h)
  subst this
  obtain ⟨g1, g2⟩ := fok_of (op := .sub) (k := .f32) h1
  rw [g2]
  exact ⟨g1, h2⟩
theorem E_mul {i j : Nat} (hij : i + j ≤ 100) {x y : Nat} {n m : Int} (hx : E i x n) (hy : E j y m) (h : (n * m).natAbs < 16777216) : fok .mul .f32 x y = true ∧ E (i + j) (fop .mul .f32 x y) (n * m) := by
  have e : (n : Rat) * (2 : Rat) ^ (-(i : Int)) * ((m : Rat) * (2 : Rat) ^ (-(j : Int))) = ((n * m : Int) : Rat) * (2 : Rat) ^ (-((i + j : Nat) : Int)) := by
    rw [Rat.intCast_mul, show (-((i + j : Nat) : Int)) = -(i : Int) + -(j : Int) by omega, pw_add]
    grind
  obtain ⟨r, c, h1, h2, -, h4⟩ := mul_val (.inl rfl) hx hy (J := 24) (by rw [e]; exact E_bd h) (by decide)
  rw [e] at h4
  have := h4 (E_rep hij h)
  subst this
  obtain ⟨g1, g2⟩ := fok_of (op := .mul) (k := .f32) h1
  rw [g2]
  exact ⟨g1, h2⟩
theorem E_up {j : Nat} {x : Nat} {n : Int} (h : E j x n) (k : Nat) : E (j + k) x (n * 2 ^ k) := by
  have e : ((n * 2 ^ k : Int) : Rat) * (2 : Rat) ^ (-((j + k : Nat) : Int)) = (n : Rat) * (2 : Rat) ^ (-(j : Int)) := by
    have p : ((2 ^ k : Int) : Rat) = (2 : Rat) ^ (k : Int) := by rw [pw_nat]; push_cast; rfl
    rw [Rat.intCast_mul, p, Rat.mul_assoc, ← pw_add, show (k : Int) + -((j + k : Nat) : Int) = -(j : Int) by omega]
  unfold E at *
  rw [e]
  exact h
theorem E_int {x : Nat} {n : Int} : E 0 x n ↔ Fk .f32 x (n : Rat) := by
  unfold E
  rw [show (2 : Rat) ^ (-((0 : Nat) : Int)) = 1 from rfl, Rat.mul_one]
theorem E_floatOfInt {n : Int} (h : n.natAbs < 16777216) : E 0 (floatOfInt .f32 n) n := E_int.2 (int_k n (by rw [show FloatKind.f32.format.binade = 8388608 by decide]; omega))
theorem E_down {j k : Nat} {x : Nat} {n : Int} (h : E (j + k) x (n * 2 ^ k)) : E j x n := by
  have e : ((n * 2 ^ k : Int) : Rat) * (2 : Rat) ^ (-((j + k : Nat) : Int)) = (n : Rat) * (2 : Rat) ^ (-(j : Int)) := by
    have p : ((2 ^ k : Int) : Rat) = (2 : Rat) ^ (k : Int) := by rw [pw_nat]; push_cast; rfl
    rw [Rat.intCast_mul, p, Rat.mul_assoc, ← pw_add, show (k : Int) + -((j + k : Nat) : Int) = -(j : Int) by omega]
  unfold E at *
  rwa [e] at h
end PA
end Go.Proofs.Ytelkklnfbfmecaa
end
section
namespace Go.Proofs.Ytelkklnfbfmecaa
open Go.RowKit YtelkklnfbfmecaaW.PrintWords YtelkklnfbfmecaaW.PrintLast Ieee
namespace PA
open FR PU XA
theorem cut_gap (n d : Nat) : (min d (n.log2 + 2) = d) ∨ (n < 1 <<< min d (n.log2 + 2) ∧ min d (n.log2 + 2) < d) := by
  by_cases h : d ≤ n.log2 + 2
  · exact .inl (Nat.min_eq_left h)
  · refine .inr ?_
    rw [Nat.min_eq_right (by omega), Nat.one_shiftLeft]
    refine ⟨?_, by omega⟩
    have h1 : n < 2 ^ (n.log2 + 1) := Nat.lt_log2_self
    have h2 : 2 ^ (n.log2 + 1) ≤ 2 ^ (n.log2 + 2) := Nat.pow_le_pow_right (by decide) (by omega)
    omega
theorem cut_down (neg : Bool) (n d : Nat) : (neg = false → Toward.down.cut neg n d * 2 ^ d ≤ n ∧ n < (Toward.down.cut neg n d + 1) * 2 ^ d) ∧ (neg = true → n ≤ Toward.down.cut neg n d * 2 ^ d ∧ Toward.down.cut neg n d * 2 ^ d < n + 2 ^ d) := by
 unfold Toward.cut
 have pd : 0 < 2 ^ d := Nat.two_pow_pos d
 rcases cut_gap n d with e | ⟨e1, e2⟩
 ·simp only [e, Nat.one_shiftLeft]
  have hm := Nat.div_add_mod n (2 ^ d)
  have hl := Nat.mod_lt n pd
  constructor
  ·rintro rfl
   simp only [Bool.false_and, Bool.toNat_false, Nat.add_zero]
   rw [Nat.mul_comm, Nat.add_mul, Nat.mul_comm (n / 2 ^ d)]
   omega
  rintro rfl
  simp only [Bool.true_and]
  by_cases c : n % 2 ^ d = 0
  ·rw [c]
   simp only [bne_self_eq_false, Bool.toNat_false, Nat.add_zero]
   rw [Nat.mul_comm]
   omega
  have : (n % 2 ^ d != 0) = true := by simpa using c
  rw [this]
  simp only [Bool.toNat_true]
  rw [Nat.add_mul, Nat.mul_comm (n / 2 ^ d)]
  omega
 have hg : 1 <<< min d (n.log2 + 2) ≤ 2 ^ d := by
  rw [Nat.one_shiftLeft]
  exact Nat.pow_le_pow_right (by decide) (by omega)
 simp only []
 rw [Nat.div_eq_of_lt e1, Nat.mod_eq_of_lt e1]
 constructor
 ·rintro rfl
  simp only [Bool.false_and, Bool.toNat_false, Nat.add_zero, Nat.zero_mul, Nat.zero_add, Nat.one_mul]
  omega
 rintro rfl
 simp only [Bool.true_and, Nat.zero_add]
 by_cases c : n = 0
 ·subst c
  simp
  exact pd
 have : (n != 0) = true := by simpa using c
 rw [this]
 simp only [Bool.toNat_true, Nat.one_mul]
 omega
theorem cut_zero' (neg : Bool) (n d : Nat) : Toward.zero.cut neg n d = n / 2 ^ d := by
  unfold Toward.cut
  rcases cut_gap n d with e | ⟨e1, e2⟩
  · simp only [e, Nat.one_shiftLeft, Bool.toNat_false, Nat.add_zero]
  · have hg : 1 <<< min d (n.log2 + 2) ≤ 2 ^ d := by
      rw [Nat.one_shiftLeft]
      exact Nat.pow_le_pow_right (by decide) (by omega)
    simp only [Bool.toNat_false, Nat.add_zero]
    rw [Nat.div_eq_of_lt e1, Nat.div_eq_of_lt (by omega)]
theorem write_int {s : Bool} {q : Nat} (h : q < 9007199254740992) : Fk .f64 (FloatKind.f64.encode (.number s q 0)) (sv s q 0) := by
  have e : sv s q 0 = ((if s = true then -(q : Int) else (q : Int) : Int) : Rat) * (2 : Rat) ^ (0 : Int) := by
    unfold sv
    cases s <;> simp [Rat.intCast_neg, Rat.intCast_natCast]
  have hbi : double.binade = 4503599627370496 := by decide
  have rp : Rep double (sv s q 0) := ⟨if s = true then -(q : Int) else (q : Int), 0, e, by cases s <;> simp <;> omega, by decide⟩
  have bd : Bd 53 (sv s q 0) := by
    have hq : (q : Rat) < 9007199254740992 := by
      have : ((q : Nat) : Rat) < ((9007199254740992 : Nat) : Rat) := Rat.natCast_lt_natCast.2 h
      exact this
    have h0 : (0 : Rat) ≤ (q : Rat) := Rat.natCast_nonneg
    have p53 : (2 : Rat) ^ (53 : Int) = 9007199254740992 := by decide +kernel
    unfold Bd sv
    rw [p53, show (2 : Rat) ^ (0 : Int) = 1 from rfl, Rat.mul_one]
    cases s
    · simp only [Bool.false_eq_true, if_false]
      constructor <;> grind
    · simp only [if_true]
      constructor <;> grind
  obtain ⟨v, h1, -, h3⟩ := near (f := double) (.inr rfl) (s := s) (m := q) (e := 0) bd (by decide)
  have := h3 rp
  rw [this] at h1
  exact h1
theorem nan64_of {x : Nat} {v : Rat} (h : Fk .f64 x v) : XF.isn .f64 x = false := by
  obtain ⟨s, m, e, h1, -⟩ := h
  unfold XF.isn
  rw [h1]
  rfl
theorem sv_whole (s : Bool) (q : Nat) : sv s q 0 = ((if s = true then -(q : Int) else (q : Int) : Int) : Rat) := by
  unfold sv
  rw [show (2 : Rat) ^ (0 : Int) = 1 from rfl, Rat.mul_one]
  cases s <;> simp [Rat.intCast_neg, Rat.intCast_natCast]
theorem floor_of {x : Nat} {v : Rat} (h : Fk .f64 x v) (hb : -1000000 ≤ v) (hb2 : v ≤ 1000000) : ∃ (r : Nat) (n : Int), XA.Floor.f x = some r ∧ Fk .f64 r (n : Rat) ∧ (n : Rat) ≤ v ∧ v < (n : Rat) + 1 := by
 have hn := nan64_of h
 obtain ⟨s, m, e, h1, h2⟩ := h
 have hf : XA.Floor.f x = some (XA.fl x) := by
  unfold XA.Floor.f
  rw [hn]
  rfl
 have hfl : XA.fl x = FloatKind.f64.encode (.number s (Toward.down.cut s (m <<< e.toNat) (-e).toNat) 0) := by
  unfold XA.fl FloatKind.decode
  rw [show FloatKind.f64.format.read x = Datum.number s m e from h1]
  rfl
 obtain ⟨q, hq⟩ : ∃ q, q = Toward.down.cut s (m <<< e.toNat) (-e).toNat := ⟨_, rfl⟩
 rw [← hq] at hfl
 have key : (((if s = true then -(q : Int) else (q : Int) : Int) : Rat)) ≤ v ∧ v < (((if s = true then -(q : Int) else (q : Int) : Int) : Rat)) + 1 := by
  have cd := cut_down s (m <<< e.toNat) (-e).toNat
  rw [← hq] at cd
  rw [Nat.shiftLeft_eq] at cd
  obtain ⟨d, hd⟩ : ∃ d, d = (-e).toNat := ⟨_, rfl⟩
  obtain ⟨u, hu⟩ : ∃ u, u = e.toNat := ⟨_, rfl⟩
  rw [← hd, ← hu] at cd
  have hp := pw_pos (-(d : Int))
  have pd : ((2 ^ d : Nat) : Rat) * (2 : Rat) ^ (-(d : Int)) = 1 := by
   rw [← pw_nat, ← pw_add, show (d : Int) + -(d : Int) = 0 by omega]
   rfl
  have ve : v = (if s = true then -((m * 2 ^ u : Nat) : Rat) else ((m * 2 ^ u : Nat) : Rat)) * (2 : Rat) ^ (-(d : Int)) := by
   rw [← h2]
   have e1 : e = (u : Int) + -(d : Int) := by omega
   unfold sv
   rw [e1, pw_add, pw_nat, Rat.natCast_mul]
   cases s <;> simp <;> grind
  rw [ve]
  generalize (2 : Rat) ^ (-(d : Int)) = p at *
  cases s with
  | false =>
   obtain ⟨c1, c2⟩ := cd.1 rfl
   have c1' : ((q * 2 ^ d : Nat) : Rat) ≤ ((m * 2 ^ u : Nat) : Rat) := Rat.natCast_le_natCast.2 c1
   have c2' : ((m * 2 ^ u : Nat) : Rat) < (((q + 1) * 2 ^ d : Nat) : Rat) := Rat.natCast_lt_natCast.2 c2
   have k1 := Rat.mul_le_mul_of_nonneg_right c1' (Rat.le_of_lt hp)
   have k2 := Rat.mul_lt_mul_of_pos_right c2' hp
   rw [Rat.natCast_mul, Rat.mul_assoc, pd] at k1
   rw [Rat.natCast_mul (q + 1), Rat.mul_assoc ((q + 1 : Nat) : Rat), pd] at k2
   rw [show ((q + 1 : Nat) : Rat) = (q : Rat) + 1 by push_cast; rfl] at k2
   simp only [Bool.false_eq_true, if_false]
   rw [Rat.intCast_natCast]
   constructor <;> grind
  | true =>
   obtain ⟨c1, c2⟩ := cd.2 rfl
   have c1' : ((m * 2 ^ u : Nat) : Rat) ≤ ((q * 2 ^ d : Nat) : Rat) := Rat.natCast_le_natCast.2 c1
   have c2' : ((q * 2 ^ d : Nat) : Rat) < ((m * 2 ^ u + 2 ^ d : Nat) : Rat) := Rat.natCast_lt_natCast.2 c2
   have k1 := Rat.mul_le_mul_of_nonneg_right c1' (Rat.le_of_lt hp)
   have k2 := Rat.mul_lt_mul_of_pos_right c2' hp
   rw [Rat.natCast_mul q, Rat.mul_assoc (q : Rat), pd] at k1
   rw [Rat.natCast_mul q, Rat.mul_assoc (q : Rat), pd, Rat.natCast_add, Rat.add_mul, pd] at k2
   simp only [if_true]
   rw [Rat.intCast_neg, Rat.intCast_natCast]
   constructor <;> grind
 have qb : q < 9007199254740992 := by
  have hqq : (q : Rat) < 2000000 := by
   obtain ⟨k1, k2⟩ := key
   cases s with
   | false => simp only [Bool.false_eq_true, if_false] at k1 k2; rw [Rat.intCast_natCast] at k1 k2; grind
   | true => simp only [if_true] at k1 k2; rw [Rat.intCast_neg, Rat.intCast_natCast] at k1 k2; grind
  have : ((q : Nat) : Rat) < ((2000000 : Nat) : Rat) := hqq
  have := Rat.natCast_lt_natCast.1 this
  omega
 refine ⟨XA.fl x, if s = true then -(q : Int) else (q : Int), hf, ?_, key.1, key.2⟩
 rw [hfl, ← sv_whole]
 exact write_int qb
theorem fiv_of {x : Nat} {n : Int} (h : Fk .f32 x (n : Rat)) (hb : n.natAbs < 16777216) : fik .f32 x .i64 = true ∧ fiv .f32 x .i64 = n := by
 obtain ⟨s, m, e, h1, h2⟩ := h
 have hq : Toward.zero.cut s (m <<< e.toNat) (-e).toNat = n.natAbs ∧ n = if s = true then -(n.natAbs : Int) else (n.natAbs : Int) := by
  rw [cut_zero', Nat.shiftLeft_eq]
  obtain ⟨d, hd⟩ : ∃ d, d = (-e).toNat := ⟨_, rfl⟩
  obtain ⟨u, hu⟩ : ∃ u, u = e.toNat := ⟨_, rfl⟩
  rw [← hd, ← hu]
  have hp := pw_pos (-(d : Int))
  have e1 : e = (u : Int) + -(d : Int) := by omega
  have pd : ((2 ^ d : Nat) : Rat) * (2 : Rat) ^ (-(d : Int)) = 1 := by
   rw [← pw_nat, ← pw_add, show (d : Int) + -(d : Int) = 0 by omega]
   rfl
  have ve : (n : Rat) * ((2 ^ d : Nat) : Rat) = (if s = true then -((m * 2 ^ u : Nat) : Rat) else ((m * 2 ^ u : Nat) : Rat)) := by
   rw [← h2]
   unfold sv
   rw [e1, pw_add, pw_nat, Rat.natCast_mul]
   generalize (2 : Rat) ^ (-(d : Int)) = p at *
   cases s <;> simp <;> grind
  have pos : 0 < 2 ^ d := Nat.two_pow_pos d
  cases s with
  | false =>
   simp only [Bool.false_eq_true, if_false] at ve ⊢
   have : ((n * ((2 ^ d : Nat) : Int) : Int) : Rat) = (((m * 2 ^ u : Nat) : Int) : Rat) := by rw [Rat.intCast_mul, Rat.intCast_natCast, Rat.intCast_natCast]; exact ve
   have i1 := Rat.intCast_inj.1 this
   have n0 : 0 ≤ n := by
    rcases Int.lt_or_le n 0 with c | c
    ·have := Int.mul_neg_of_neg_of_pos c (show (0 : Int) < ((2 ^ d : Nat) : Int) by omega)
     omega
    exact c
   obtain ⟨k, rfl⟩ := Int.eq_ofNat_of_zero_le n0
   have i2 : k * 2 ^ d = m * 2 ^ u := by exact_mod_cast i1
   rw [← i2, Nat.mul_div_cancel _ pos]
   exact ⟨by omega, by omega⟩
  | true =>
   simp only [if_true] at ve ⊢
   have : ((n * ((2 ^ d : Nat) : Int) : Int) : Rat) = ((-((m * 2 ^ u : Nat) : Int) : Int) : Rat) := by rw [Rat.intCast_mul, Rat.intCast_neg, Rat.intCast_natCast, Rat.intCast_natCast]; exact ve
   have i1 := Rat.intCast_inj.1 this
   have n0 : n ≤ 0 := by
    rcases Int.lt_or_le 0 n with c | c
    ·have := Int.mul_pos c (show (0 : Int) < ((2 ^ d : Nat) : Int) by omega)
     omega
    exact c
   obtain ⟨k, hk⟩ := Int.eq_ofNat_of_zero_le (show 0 ≤ -n by omega)
   have hn : n = -(k : Int) := by omega
   subst hn
   have i3 : (k : Int) * ((2 ^ d : Nat) : Int) = ((m * 2 ^ u : Nat) : Int) := by rw [Int.neg_mul] at i1; omega
   have i2 : k * 2 ^ d = m * 2 ^ u := by exact_mod_cast i3
   rw [← i2, Nat.mul_div_cancel _ pos]
   exact ⟨by omega, by omega⟩
 have t : floatToIntVal .f32 x .i64 = some n := by
  unfold floatToIntVal FloatKind.decode
  rw [show FloatKind.f32.format.read x = Datum.number s m e from h1]
  have t2 : (Datum.number s m e).toInt .zero = some n := by
   unfold Datum.toInt Datum.integral
   simp only [hq.1]
   unfold signed
   rw [Nat.shiftLeft_zero]
   congr 1
   exact hq.2.symm
  rw [t2]
  simp only
  have hb2 : IntKind.i64.min = -9223372036854775808 ∧ IntKind.i64.max = 9223372036854775807 := by decide
  rw [hb2.1, hb2.2, if_pos (by omega)]
 unfold fik fiv
 rw [t]
 exact ⟨rfl, rfl⟩
theorem ab_mod (x : Nat) : XA.ab32 x = x % 2147483648 := by
  unfold XA.ab32
  have e : Go.bits .andNot .u32 (x : Int) 2147483648 = IntKind.u32.wrap ((BitVec.ofInt 32 (x : Int) &&& ~~~(BitVec.ofInt 32 2147483648)).toNat : Nat) := rfl
  have key : (BitVec.ofInt 32 (x : Int) &&& ~~~(BitVec.ofInt 32 2147483648)).toNat = x % 2147483648 := by
    have h1 : (~~~(BitVec.ofInt 32 2147483648)).toNat = 2 ^ 31 - 1 := by decide
    rw [BitVec.toNat_and, h1, BitVec.toNat_ofInt, Nat.and_two_pow_sub_one_eq_mod]
    have : ((x : Int) % ((2 ^ 32 : Nat) : Int)).toNat = x % 2 ^ 32 := by omega
    rw [this]
    omega
  rw [e, key]
  have : IntKind.u32.wrap ((x % 2147483648 : Nat) : Int) = ((x % 2147483648 : Nat) : Int) := by
    simp [IntKind.wrap, IntKind.bits, IntKind.signed]
    omega
  rw [this, Int.toNat_natCast]
theorem ab_of {x : Nat} {v : Rat} (h : Fk .f32 x v) : Fk .f32 (XA.ab32 x) v ∧ 0 ≤ v ∨ Fk .f32 (XA.ab32 x) (-v) ∧ v ≤ 0 := by
  rw [ab_mod]
  obtain ⟨s, m, e, h1, h2⟩ := h
  have r1 : FloatKind.f32.format.read (x % 2147483648) = .number false m e := by
    have h1' : FloatKind.f32.format.read x = .number s m e := h1
    unfold Ieee.Format.read at h1' ⊢
    have a1 : FloatKind.f32.format.signWeight = 2147483648 := by decide
    simp only [a1] at h1' ⊢
    have m1 : x % 2147483648 % 2147483648 = x % 2147483648 := Nat.mod_mod _ _
    rw [m1]
    have d1 : x % 2147483648 / 2147483648 = 0 := by omega
    simp only [d1]
    split at h1'
    · rename_i c
      rw [if_pos c]
      simp only [Datum.number.injEq] at h1' ⊢
      exact ⟨by decide, h1'.2⟩
    · rename_i c
      rw [if_neg c]
      split at h1'
      · rename_i c2
        rw [if_pos c2]
        simp only [Datum.number.injEq] at h1' ⊢
        exact ⟨by decide, h1'.2⟩
      · split at h1' <;> cases h1'
  have p0 : (0 : Rat) ≤ sv false m e := by
    unfold sv
    simp only [Bool.false_eq_true, if_false]
    exact Rat.mul_nonneg Rat.natCast_nonneg (Rat.le_of_lt (pw_pos e))
  have v1 : Fk .f32 (x % 2147483648) (sv false m e) := ⟨false, m, e, r1, rfl⟩
  cases s with
  | false => rw [← h2]; exact .inl ⟨v1, p0⟩
  | true =>
    have : v = -sv false m e := by rw [← h2]; exact sv_opp false m e
    rw [this, Rat.neg_neg]
    exact .inr ⟨v1, by grind⟩
end PA
end Go.Proofs.Ytelkklnfbfmecaa
end
section
namespace Go.Proofs.Ytelkklnfbfmecaa
open Go.RowKit YtelkklnfbfmecaaW.PrintWords YtelkklnfbfmecaaW.PrintLast Ieee
namespace PA
open FR PU XA
def B (M : Rat) (x : Nat) : Prop := ∃ v, Fk .f32 x v ∧ -M ≤ v ∧ v ≤ M
theorem B.mono {M K : Rat} {x : Nat} (h : B M x) (hk : M ≤ K) : B K x := by
  obtain ⟨v, h1, h2, h3⟩ := h
  exact ⟨v, h1, by grind, by grind⟩
theorem p13 : (2 : Rat) ^ (15 : Int) = 32768 := by decide +kernel
theorem p50 : (2 : Rat) ^ (50 : Int) = 1125899906842624 := by decide +kernel
theorem h13 : hu single 15 ≤ 1 / 1000 := by decide +kernel
theorem q13 : 2 * hu single 15 ≤ 1 / 500 := by decide +kernel
theorem h50 : hu single 50 ≤ 100000000 := by decide +kernel
theorem bound {P M K v : Rat} {J : Int} (hp : (2 : Rat) ^ J = P) (h1 : -M ≤ v) (h2 : v ≤ M) (h : M < P) : Bd J v := by
  unfold Bd
  rw [hp]
  constructor <;> grind
theorem B_add {M K : Rat} {x y : Nat} (hx : B M x) (hy : B K y) (h : M + K ≤ 32000) : fok .add .f32 x y = true ∧ B (M + K + 1 / 1000) (fop .add .f32 x y) := by
  obtain ⟨a, a1, a2, a3⟩ := hx
  obtain ⟨b, b1, b2, b3⟩ := hy
  obtain ⟨r, c, h1, h2, h3, -⟩ := add_val (f := single) (.inl rfl) a1 b1 (J := 15) (bound (M := M + K) (K := 0) p13 (by grind) (by grind) (by grind)) (by decide)
  obtain ⟨g1, g2⟩ := fok_of (op := .add) (k := .f32) h1
  have := h13
  unfold Nr at h3
  rw [g2]
  exact ⟨g1, c, h2, by grind, by grind⟩
theorem B_sub {M K : Rat} {x y : Nat} (hx : B M x) (hy : B K y) (h : M + K ≤ 32000) : fok .sub .f32 x y = true ∧ B (M + K + 1 / 1000) (fop .sub .f32 x y) := by
  obtain ⟨a, a1, a2, a3⟩ := hx
  obtain ⟨b, b1, b2, b3⟩ := hy
  obtain ⟨r, c, h1, h2, h3, -⟩ := sub_val (f := single) (.inl rfl) a1 b1 (J := 15) (bound (M := M + K) (K := 0) p13 (by grind) (by grind) (by grind)) (by decide)
  obtain ⟨g1, g2⟩ := fok_of (op := .sub) (k := .f32) h1
  have := h13
  unfold Nr at h3
  rw [g2]
  exact ⟨g1, c, h2, by grind, by grind⟩
theorem mul_bd {M K a b : Rat} (a2 : -M ≤ a) (a3 : a ≤ M) (b2 : -K ≤ b) (b3 : b ≤ K) : -(M * K) ≤ a * b ∧ a * b ≤ M * K := by
  have hM : 0 ≤ M := by grind
  have hK : 0 ≤ K := by grind
  rcases Rat.le_total (a := 0) (b := a) with c | c
  · have k1 := Rat.mul_le_mul_of_nonneg_left b3 c
    have k2 := Rat.mul_le_mul_of_nonneg_left b2 c
    have k3 := Rat.mul_le_mul_of_nonneg_right a3 hK
    constructor <;> grind
  · have c' : 0 ≤ -a := by grind
    have k1 := Rat.mul_le_mul_of_nonneg_left b3 c'
    have k2 := Rat.mul_le_mul_of_nonneg_left b2 c'
    have k3 := Rat.mul_le_mul_of_nonneg_right (show -a ≤ M by grind) hK
    constructor <;> grind
theorem B_mul {M K : Rat} {x y : Nat} (hx : B M x) (hy : B K y) (h : M * K ≤ 32000) : fok .mul .f32 x y = true ∧ B (M * K + 1 / 1000) (fop .mul .f32 x y) := by
  obtain ⟨a, a1, a2, a3⟩ := hx
  obtain ⟨b, b1, b2, b3⟩ := hy
  obtain ⟨m1, m2⟩ := mul_bd a2 a3 b2 b3
  obtain ⟨r, c, h1, h2, h3, -⟩ := mul_val (f := single) (.inl rfl) a1 b1 (J := 15) (bound (M := M * K) (K := 0) p13 m1 m2 (by grind)) (by decide)
  obtain ⟨g1, g2⟩ := fok_of (op := .mul) (k := .f32) h1
  have := h13
  unfold Nr at h3
  rw [g2]
  exact ⟨g1, c, h2, by grind, by grind⟩
theorem B_add' {M K : Rat} {x y : Nat} (hx : B M x) (hy : B K y) (h : M + K ≤ 1000000000000000) : fok .add .f32 x y = true ∧ B (M + K + 100000000) (fop .add .f32 x y) := by
  obtain ⟨a, a1, a2, a3⟩ := hx
  obtain ⟨b, b1, b2, b3⟩ := hy
  obtain ⟨r, c, h1, h2, h3, -⟩ := add_val (f := single) (.inl rfl) a1 b1 (J := 50) (bound (M := M + K) (K := 0) p50 (by grind) (by grind) (by grind)) (by decide)
  obtain ⟨g1, g2⟩ := fok_of (op := .add) (k := .f32) h1
  have := h50
  unfold Nr at h3
  rw [g2]
  exact ⟨g1, c, h2, by grind, by grind⟩
theorem B_mul' {M K : Rat} {x y : Nat} (hx : B M x) (hy : B K y) (h : M * K ≤ 1000000000000000) : fok .mul .f32 x y = true ∧ B (M * K + 100000000) (fop .mul .f32 x y) := by
  obtain ⟨a, a1, a2, a3⟩ := hx
  obtain ⟨b, b1, b2, b3⟩ := hy
  obtain ⟨m1, m2⟩ := mul_bd a2 a3 b2 b3
  obtain ⟨r, c, h1, h2, h3, -⟩ := mul_val (f := single) (.inl rfl) a1 b1 (J := 50) (bound (M := M * K) (K := 0) p50 m1 m2 (by grind)) (by decide)
  obtain ⟨g1, g2⟩ := fok_of (op := .mul) (k := .f32) h1
  have := h50
  unfold Nr at h3
  rw [g2]
  exact ⟨g1, c, h2, by grind, by grind⟩
theorem B_quo {M : Rat} {x y : Nat} {d : Rat} (hx : B M x) (hy : Fk .f32 y d) (hd : 1 ≤ d) (h : M ≤ 32000 * d) : fok .quo .f32 x y = true ∧ B (M / d + 1 / 500) (fop .quo .f32 x y) := by
  obtain ⟨a, a1, a2, a3⟩ := hx
  have d0 : 0 < d := by grind
  have dn : d ≠ 0 := by grind
  obtain ⟨q, hq⟩ : ∃ q, q = a / d := ⟨_, rfl⟩
  have e : q * d = a := by rw [hq]; exact Rat.div_mul_cancel dn
  obtain ⟨K, hK⟩ : ∃ K, K = M / d := ⟨_, rfl⟩
  have eK : K * d = M := by rw [hK]; exact Rat.div_mul_cancel dn
  have b1 : q ≤ K := Rat.le_of_mul_le_mul_right (by rw [e, eK]; exact a3) d0
  have b2 : -K ≤ q := Rat.le_of_mul_le_mul_right (by rw [e, Rat.neg_mul, eK]; exact a2) d0
  have b3 : K ≤ 32000 := Rat.le_of_mul_le_mul_right (by rw [eK]; exact h) d0
  obtain ⟨r, c, h1, h2, h3, -⟩ := quo_val (f := single) (.inl rfl) a1 hy dn e (J := 15) (bound (M := K) (K := 0) p13 b2 b1 (by grind)) (by decide)
  obtain ⟨g1, g2⟩ := fok_of (op := .quo) (k := .f32) h1
  have := q13
  unfold Nr at h3
  rw [g2, ← hK]
  exact ⟨g1, c, h2, by grind, by grind⟩
theorem B.fin {M : Rat} {x : Nat} (h : B M x) : ∃ v, Fk .f32 x v := by
  obtain ⟨v, h1, -⟩ := h
  exact ⟨v, h1⟩
theorem f_1000 : Fk .f32 1148846080 (1000 : Rat) := ⟨false, 16384000, -14, by decide, by decide +kernel⟩
theorem narrow_int {x : Nat} {n : Int} (h : Fk .f64 x (n : Rat)) (hb : n.natAbs < 16777216) : cok .f64 x .f32 = true ∧ Fk .f32 (cvt .f64 x .f32) (n : Rat) := by
  have hbi : single.binade = 8388608 := by decide
  have rp : Rep single (n : Rat) := ⟨n, 0, by rw [show (2 : Rat) ^ (0 : Int) = 1 from rfl, Rat.mul_one], by omega, by decide⟩
  have bd : Bd 24 (n : Rat) := by
    have := E_bd (j := 0) hb
    rwa [show (2 : Rat) ^ (-((0 : Nat) : Int)) = 1 from rfl, Rat.mul_one] at this
  obtain ⟨r, c, h1, h2, -, h4⟩ := narrow_val h bd (by decide)
  have := h4 rp
  subst this
  unfold cok cvt
  rw [h1]
  exact ⟨rfl, h2⟩
theorem wide' {x : Nat} {v : Rat} (h : Fk .f32 x v) : cok .f32 x .f64 = true ∧ Fk .f64 (cvt .f32 x .f64) v := by
  obtain ⟨r, h1, h2⟩ := wide_val h
  unfold cok cvt
  rw [h1]
  exact ⟨rfl, h2⟩
theorem below_of {x : Nat} {v : Rat} (h : Fk .f32 x v) (hb : -900 ≤ v) (hb2 : v ≤ 900) : ∃ (r : Nat) (n : Int), fle .f32 (XA.ab32 x) 1148846080 = true ∧ cok .f32 x .f64 = true ∧ XA.Floor.f (cvt .f32 x .f64) = some r ∧ cok .f64 r .f32 = true ∧ Fk .f32 (cvt .f64 r .f32) (n : Rat) ∧ fik .f32 (cvt .f64 r .f32) .i64 = true ∧ fiv .f32 (cvt .f64 r .f32) .i64 = n ∧ (n : Rat) ≤ v ∧ v < (n : Rat) + 1 ∧ -901 ≤ n ∧ n ≤ 900 := by
  obtain ⟨c1, c2⟩ := wide' h
  obtain ⟨r, n, f1, f2, f3, f4⟩ := floor_of c2 (by grind) (by grind)
  have n1 : n ≤ 900 := by
    have e : ((900 : Int) : Rat) = 900 := rfl
    have : (n : Rat) ≤ ((900 : Int) : Rat) := by rw [e]; grind
    exact Rat.intCast_le_intCast.1 this
  have n2 : -901 ≤ n := by
    have e : ((-901 : Int) : Rat) = -901 := rfl
    have : ((-901 : Int) : Rat) ≤ (n : Rat) := by rw [e]; grind
    exact Rat.intCast_le_intCast.1 this
  obtain ⟨g1, g2⟩ := narrow_int f2 (by omega)
  obtain ⟨k1, k2⟩ := fiv_of g2 (by omega)
  refine ⟨r, n, ?_, c1, f1, g1, g2, k1, k2, f3, f4, n2, n1⟩
  have key : ∃ a, Fk .f32 (XA.ab32 x) a ∧ a < 1000 := by
    rcases ab_of h with ⟨a1, -⟩ | ⟨a1, -⟩
    · exact ⟨_, a1, by grind⟩
    · exact ⟨_, a1, by grind⟩
  obtain ⟨a, a1, a2⟩ := key
  unfold fle
  rw [show FloatKind.f32.format.order (XA.ab32 x) 1148846080 = some (FR.cmp a 1000) from order_val a1 f_1000]
  unfold FR.cmp
  rw [if_pos a2]
  rfl
end PA
end Go.Proofs.Ytelkklnfbfmecaa
end
section
namespace Go.Proofs.Ytelkklnfbfmecaa.BA
open B0
open Go.RowKit YtelkklnfbfmecaaW.PrintWords YtelkklnfbfmecaaW.PrintLast YtelkklnfbfmecaaW.PrintMore
attribute [local go_sem] max2_int min2_int max_two min_two max_three min_three max_four min_four
attribute [local go_sem high] binOp_fge binOp_fle
def errW : Option Int → Value
  | none => .nilIface
  | some c => .iface 0 (.int .i64 c)
theorem errW_none : errW none = .nilIface := rfl
theorem errW_some (c : Int) : errW (some c) = .iface 0 (.int .i64 c) := rfl
end Go.Proofs.Ytelkklnfbfmecaa.BA
end
section
namespace Go.Proofs.Ytelkklnfbfmecaa.BA
open B0
open Go.RowKit YtelkklnfbfmecaaW.PrintWords YtelkklnfbfmecaaW.PrintLast YtelkklnfbfmecaaW.PrintMore
attribute [local go_sem] max2_int min2_int max_two min_two max_three min_three max_four min_four
attribute [local go_sem high] binOp_fge binOp_fle
def impl_AddBasins_1.f (a0 : Int) (a1 : Int) (a2_0 : Int) (a2_1 : Int) (l2_2 : List Nat) (a3_0 : Int) (a3_1 : Int) (l3_2 : List Nat) : Option (Nat) := (B0.impl_Basin_at.f a2_0 a2_1 l2_2 a0 a1).bind fun t101 => ((B0.impl_Basin_at.f a3_0 a3_1 l3_2 a0 a1).bind fun t102 => (if fok .add .f32 t101 t102 = true then (some (fop .add .f32 t101 t102)) else (none)))
mutual
def impl_cells.l0 : Nat → Int → Int → Int → Int → Int → List Nat → Int → Int → List Nat → Int → Int → List Nat → Option (Int × Int × List Nat)
  | 0, _, _, _, _, _, _, _, _, _, _, _, _ => none
  | k + 1, x0, x13, x14, x4000, x4001, x4002, x5000, x5001, x5002, x105000, x105001, x105002 => if x14 < x13 then (impl_cells.l1 k x0 x14 x13 x14 x0 0 x4000 x4001 x4002 x5000 x5001 x5002 x105000 x105001 x105002) else (some (x105000, x105001, x105002))
def impl_cells.l1 : Nat → Int → Int → Int → Int → Int → Int → Int → Int → List Nat → Int → Int → List Nat → Int → Int → List Nat → Option (Int × Int × List Nat)
  | 0, _, _, _, _, _, _, _, _, _, _, _, _, _, _, _ => none
  | k + 1, x0, x8, x13, x14, x17, x18, x4000, x4001, x4002, x5000, x5001, x5002, x105000, x105001, x105002 => if x18 < x17 then ((impl_AddBasins_1.f x18 x8 x4000 x4001 x4002 x5000 x5001 x5002).bind fun t105 => (if x105002.length < 35184372088832 then (impl_cells.l1 k x0 x8 x13 x14 x17 (wrap64 (x18 + 1)) x4000 x4001 x4002 x5000 x5001 x5002 x105000 x105001 (x105002 ++ [t105])) else (none))) else (impl_cells.l0 k x0 x13 (wrap64 (x14 + 1)) x4000 x4001 x4002 x5000 x5001 x5002 x105000 x105001 x105002)
end
def impl_cells.f (k : Nat) (a0 : Int) (a1 : Int)  (a3_0 : Int) (a3_1 : Int) (l3_2 : List Nat) (a4_0 : Int) (a4_1 : Int) (l4_2 : List Nat) : Option (Int × Int × List Nat) := impl_cells.l0 k a0 a1 0 a3_0 a3_1 l3_2 a4_0 a4_1 l4_2 a0 a1 ([] : List Nat)
def impl_rebuilt.f (k : Nat) (a0_0 : Int) (a0_1 : Int) (l0_2 : List Nat)  (a2_0 : Int) (a2_1 : Int) (l2_2 : List Nat) (a3_0 : Int) (a3_1 : Int) (l3_2 : List Nat) : Option (Int × Int × List Nat × Bool) := (B0.impl_ValidBasin.f a0_0 a0_1 l0_2).bind fun t111 => (if t111 = true then ((impl_cells.f k a0_0 a0_1 a2_0 a2_1 l2_2 a3_0 a3_1 l3_2).bind fun bt112 => ((B0.impl_toldBasin.f bt112.1 bt112.2.1 bt112.2.2).bind fun bt117 => (some (bt117.1, bt117.2.1, bt117.2.2.1, bt117.2.2.2)))) else (some (0, 0, ([] : List Nat), false)))
end Go.Proofs.Ytelkklnfbfmecaa.BA
end
section
namespace Go.Proofs.Ytelkklnfbfmecaa.BM
open B0
open Go.RowKit YtelkklnfbfmecaaW.PrintWords YtelkklnfbfmecaaW.PrintLast YtelkklnfbfmecaaW.PrintMore
attribute [local go_sem] max2_int min2_int max_two min_two max_three min_three max_four min_four
attribute [local go_sem high] binOp_fge binOp_fle
def errW : Option Int → Value
  | none => .nilIface
  | some c => .iface 0 (.int .i64 c)
theorem errW_none : errW none = .nilIface := rfl
theorem errW_some (c : Int) : errW (some c) = .iface 0 (.int .i64 c) := rfl
end Go.Proofs.Ytelkklnfbfmecaa.BM
end
section
namespace Go.Proofs.Ytelkklnfbfmecaa.BM
open B0
open Go.RowKit YtelkklnfbfmecaaW.PrintWords YtelkklnfbfmecaaW.PrintLast YtelkklnfbfmecaaW.PrintMore
attribute [local go_sem] max2_int min2_int max_two min_two max_three min_three max_four min_four
attribute [local go_sem high] binOp_fge binOp_fle
def impl_MirrorBasin_1.f (a0 : Int) (a1 : Int) (a2_0 : Int) (a2_1 : Int) (l2_2 : List Nat) : Option (Nat) := (B0.impl_Basin_at.f a2_0 a2_1 l2_2 (wrap64 ((wrap64 (a2_0 - 1)) - a0)) a1).bind fun t101 => (some (Op.negFloat .f32 t101))
mutual
def impl_cells.l0 : Nat → Int → Int → Int → Int → Int → List Nat → Int → Int → List Nat → Option (Int × Int × List Nat)
  | 0, _, _, _, _, _, _, _, _, _ => none
  | k + 1, x0, x13, x14, x4000, x4001, x4002, x104000, x104001, x104002 => if x14 < x13 then (impl_cells.l1 k x0 x14 x13 x14 x0 0 x4000 x4001 x4002 x104000 x104001 x104002) else (some (x104000, x104001, x104002))
def impl_cells.l1 : Nat → Int → Int → Int → Int → Int → Int → Int → Int → List Nat → Int → Int → List Nat → Option (Int × Int × List Nat)
  | 0, _, _, _, _, _, _, _, _, _, _, _, _ => none
  | k + 1, x0, x8, x13, x14, x17, x18, x4000, x4001, x4002, x104000, x104001, x104002 => if x18 < x17 then ((impl_MirrorBasin_1.f x18 x8 x4000 x4001 x4002).bind fun t104 => (if x104002.length < 35184372088832 then (impl_cells.l1 k x0 x8 x13 x14 x17 (wrap64 (x18 + 1)) x4000 x4001 x4002 x104000 x104001 (x104002 ++ [t104])) else (none))) else (impl_cells.l0 k x0 x13 (wrap64 (x14 + 1)) x4000 x4001 x4002 x104000 x104001 x104002)
end
def impl_cells.f (k : Nat) (a0 : Int) (a1 : Int)  (a3_0 : Int) (a3_1 : Int) (l3_2 : List Nat) : Option (Int × Int × List Nat) := impl_cells.l0 k a0 a1 0 a3_0 a3_1 l3_2 a0 a1 ([] : List Nat)
def impl_rebuilt.f (k : Nat) (a0_0 : Int) (a0_1 : Int) (l0_2 : List Nat)  (a2_0 : Int) (a2_1 : Int) (l2_2 : List Nat) : Option (Int × Int × List Nat × Bool) := (B0.impl_ValidBasin.f a0_0 a0_1 l0_2).bind fun t110 => (if t110 = true then ((impl_cells.f k a0_0 a0_1 a2_0 a2_1 l2_2).bind fun bt111 => ((B0.impl_toldBasin.f bt111.1 bt111.2.1 bt111.2.2).bind fun bt116 => (some (bt116.1, bt116.2.1, bt116.2.2.1, bt116.2.2.2)))) else (some (0, 0, ([] : List Nat), false)))
end Go.Proofs.Ytelkklnfbfmecaa.BM
end
section
namespace Go.Proofs.Ytelkklnfbfmecaa.BS
open B0
open Go.RowKit YtelkklnfbfmecaaW.PrintWords YtelkklnfbfmecaaW.PrintLast YtelkklnfbfmecaaW.PrintMore
attribute [local go_sem] max2_int min2_int max_two min_two max_three min_three max_four min_four
attribute [local go_sem high] binOp_fge binOp_fle
def errW : Option Int → Value
  | none => .nilIface
  | some c => .iface 0 (.int .i64 c)
theorem errW_none : errW none = .nilIface := rfl
theorem errW_some (c : Int) : errW (some c) = .iface 0 (.int .i64 c) := rfl
end Go.Proofs.Ytelkklnfbfmecaa.BS
end
section
namespace Go.Proofs.Ytelkklnfbfmecaa.BS
open B0
open Go.RowKit YtelkklnfbfmecaaW.PrintWords YtelkklnfbfmecaaW.PrintLast YtelkklnfbfmecaaW.PrintMore
attribute [local go_sem] max2_int min2_int max_two min_two max_three min_three max_four min_four
attribute [local go_sem high] binOp_fge binOp_fle
def impl_ScaleBasin_1.f (a0 : Int) (a1 : Int) (a2_0 : Int) (a2_1 : Int) (l2_2 : List Nat) (a3 : Nat) : Option (Nat) := (B0.impl_Basin_at.f a2_0 a2_1 l2_2 a0 a1).bind fun t101 => (if fok .mul .f32 t101 a3 = true then (some (fop .mul .f32 t101 a3)) else (none))
mutual
def impl_cells.l0 : Nat → Int → Int → Int → Int → Int → List Nat → Nat → Int → Int → List Nat → Option (Int × Int × List Nat)
  | 0, _, _, _, _, _, _, _, _, _, _ => none
  | k + 1, x0, x13, x14, x4000, x4001, x4002, x5000, x104000, x104001, x104002 => if x14 < x13 then (impl_cells.l1 k x0 x14 x13 x14 x0 0 x4000 x4001 x4002 x5000 x104000 x104001 x104002) else (some (x104000, x104001, x104002))
def impl_cells.l1 : Nat → Int → Int → Int → Int → Int → Int → Int → Int → List Nat → Nat → Int → Int → List Nat → Option (Int × Int × List Nat)
  | 0, _, _, _, _, _, _, _, _, _, _, _, _, _ => none
  | k + 1, x0, x8, x13, x14, x17, x18, x4000, x4001, x4002, x5000, x104000, x104001, x104002 => if x18 < x17 then ((impl_ScaleBasin_1.f x18 x8 x4000 x4001 x4002 x5000).bind fun t104 => (if x104002.length < 35184372088832 then (impl_cells.l1 k x0 x8 x13 x14 x17 (wrap64 (x18 + 1)) x4000 x4001 x4002 x5000 x104000 x104001 (x104002 ++ [t104])) else (none))) else (impl_cells.l0 k x0 x13 (wrap64 (x14 + 1)) x4000 x4001 x4002 x5000 x104000 x104001 x104002)
end
def impl_cells.f (k : Nat) (a0 : Int) (a1 : Int)  (a3_0 : Int) (a3_1 : Int) (l3_2 : List Nat) (a4 : Nat) : Option (Int × Int × List Nat) := impl_cells.l0 k a0 a1 0 a3_0 a3_1 l3_2 a4 a0 a1 ([] : List Nat)
def impl_rebuilt.f (k : Nat) (a0_0 : Int) (a0_1 : Int) (l0_2 : List Nat)  (a2_0 : Int) (a2_1 : Int) (l2_2 : List Nat) (a3 : Nat) : Option (Int × Int × List Nat × Bool) := (B0.impl_ValidBasin.f a0_0 a0_1 l0_2).bind fun t110 => (if t110 = true then ((impl_cells.f k a0_0 a0_1 a2_0 a2_1 l2_2 a3).bind fun bt111 => ((B0.impl_toldBasin.f bt111.1 bt111.2.1 bt111.2.2).bind fun bt116 => (some (bt116.1, bt116.2.1, bt116.2.2.1, bt116.2.2.2)))) else (some (0, 0, ([] : List Nat), false)))
end Go.Proofs.Ytelkklnfbfmecaa.BS
end
section
namespace Go.Proofs.Ytelkklnfbfmecaa.BL
open B0
open Go.RowKit YtelkklnfbfmecaaW.PrintWords YtelkklnfbfmecaaW.PrintLast YtelkklnfbfmecaaW.PrintMore
attribute [local go_sem] max2_int min2_int max_two min_two max_three min_three max_four min_four
attribute [local go_sem high] binOp_fge binOp_fle
def errW : Option Int → Value
  | none => .nilIface
  | some c => .iface 0 (.int .i64 c)
theorem errW_none : errW none = .nilIface := rfl
theorem errW_some (c : Int) : errW (some c) = .iface 0 (.int .i64 c) := rfl
end Go.Proofs.Ytelkklnfbfmecaa.BL
end
section
namespace Go.Proofs.Ytelkklnfbfmecaa.BL
open B0
open Go.RowKit YtelkklnfbfmecaaW.PrintWords YtelkklnfbfmecaaW.PrintLast YtelkklnfbfmecaaW.PrintMore
attribute [local go_sem] max2_int min2_int max_two min_two max_three min_three max_four min_four
attribute [local go_sem high] binOp_fge binOp_fle
mutual
def impl_cells.l0 : Nat → Int → Int → Int → Int → Int → List Nat → Int → Int → List Nat → Option (Int × Int × List Nat)
  | 0, _, _, _, _, _, _, _, _, _ => none
  | k + 1, x0, x13, x14, x4000, x4001, x4002, x103000, x103001, x103002 => if x14 < x13 then (impl_cells.l1 k x0 x14 x13 x14 x0 0 x4000 x4001 x4002 x103000 x103001 x103002) else (some (x103000, x103001, x103002))
def impl_cells.l1 : Nat → Int → Int → Int → Int → Int → Int → Int → Int → List Nat → Int → Int → List Nat → Option (Int × Int × List Nat)
  | 0, _, _, _, _, _, _, _, _, _, _, _, _ => none
  | k + 1, x0, x8, x13, x14, x17, x18, x4000, x4001, x4002, x103000, x103001, x103002 => if x18 < x17 then ((B0.impl_Basin_laplace.f x4000 x4001 x4002 x18 x8).bind fun t103 => (if x103002.length < 35184372088832 then (impl_cells.l1 k x0 x8 x13 x14 x17 (wrap64 (x18 + 1)) x4000 x4001 x4002 x103000 x103001 (x103002 ++ [t103])) else (none))) else (impl_cells.l0 k x0 x13 (wrap64 (x14 + 1)) x4000 x4001 x4002 x103000 x103001 x103002)
end
def impl_cells.f (k : Nat) (a0 : Int) (a1 : Int)  (a3_0 : Int) (a3_1 : Int) (l3_2 : List Nat) : Option (Int × Int × List Nat) := impl_cells.l0 k a0 a1 0 a3_0 a3_1 l3_2 a0 a1 ([] : List Nat)
def impl_rebuilt.f (k : Nat) (a0_0 : Int) (a0_1 : Int) (l0_2 : List Nat)  (a2_0 : Int) (a2_1 : Int) (l2_2 : List Nat) : Option (Int × Int × List Nat × Bool) := (B0.impl_ValidBasin.f a0_0 a0_1 l0_2).bind fun t109 => (if t109 = true then ((impl_cells.f k a0_0 a0_1 a2_0 a2_1 l2_2).bind fun bt110 => ((B0.impl_toldBasin.f bt110.1 bt110.2.1 bt110.2.2).bind fun bt115 => (some (bt115.1, bt115.2.1, bt115.2.2.1, bt115.2.2.2)))) else (some (0, 0, ([] : List Nat), false)))
end Go.Proofs.Ytelkklnfbfmecaa.BL
end
section
namespace Go.Proofs.Ytelkklnfbfmecaa
open Go.RowKit YtelkklnfbfmecaaW.PrintWords YtelkklnfbfmecaaW.PrintLast Ieee
namespace PA
open FR PU XL
def Ret {α : Type} (o : Option α) (P : α → Prop) : Prop := ∃ a, o = some a ∧ P a
theorem Ret.bind {α β : Type} {o : Option α} {g : α → Option β} {P : α → Prop} {Q : β → Prop} (h : Ret o P) (k : ∀ a, P a → Ret (g a) Q) : Ret (o.bind g) Q := by
  obtain ⟨a, rfl, ha⟩ := h
  exact k a ha
theorem Ret.of {α : Type} {a : α} {P : α → Prop} (h : P a) : Ret (some a) P := ⟨a, rfl, h⟩
theorem Ret.mono {α : Type} {o : Option α} {P Q : α → Prop} (h : Ret o P) (k : ∀ a, P a → Q a) : Ret o Q := by
  obtain ⟨a, e, ha⟩ := h
  exact ⟨a, e, k a ha⟩
theorem w64 {n : Int} (h : -9223372036854775808 ≤ n) (h2 : n ≤ 9223372036854775807) : wrap64 n = n := by unfold wrap64; omega
theorem fin_of {x : Nat} {v : Rat} (h : Fk .f32 x v) : fin x = true := by
  have e : v - v = 0 := by grind
  obtain ⟨r, c, h1, h2, -, h4⟩ := sub_val (f := single) (.inl rfl) h h (J := 1) (by rw [e]; exact ⟨by decide +kernel, by decide +kernel⟩) (by decide)
  have : c = v - v := h4 (by rw [e]; exact ⟨0, 0, by rw [Rat.intCast_zero, Rat.zero_mul], by decide, by decide⟩)
  subst this
  rw [e] at h2
  unfold fin
  have h1' : floatBits .sub .f32 x x = some r := h1
  rw [h1']
  have := order_val (f := single) h2 (show Fv single 0 0 from ⟨false, 0, -149, by decide, sv_zero _ _⟩)
  have e2 : FloatKind.f32.format.order r 0 = some (FR.cmp 0 0) := this
  show (FloatKind.f32.format.order r 0 == some .eq) = true
  rw [e2]
  rfl
def Fin (x : Nat) : Prop := ∃ v, Fk .f32 x v
theorem U.fin {x : Nat} {n : Int} (h : U x n) : Fin x := ⟨_, h⟩
theorem finite_of {l : List Nat} (h : ∀ x ∈ l, Fin x) : XW.finite.f l = some true := by
  unfold XW.finite.f
  rw [Option.some.injEq, Bool.not_eq_true', List.any_eq_false]
  intro x hx
  obtain ⟨v, hv⟩ := h x hx
  rw [fin_of hv]
  decide
def mk (w h : Nat) (v : Int → Int → Nat) : List Nat := (List.range (w * h)).map fun i => v ((i % w : Nat) : Int) ((i / w : Nat) : Int)
theorem mk_len (w h : Nat) (v : Int → Int → Nat) : (mk w h v).length = w * h := by simp [mk]
theorem mk_get {w h : Nat} {v : Int → Int → Nat} {x y : Nat} (hx : x < w) (hy : y < h) : rdOf (0 : Nat) (mk w h v) ((x : Int) + (w : Int) * (y : Int)) = v x y := by
  have e : ((x : Int) + (w : Int) * (y : Int)) = ((x + w * y : Nat) : Int) := by push_cast; rfl
  have lt : x + w * y < w * h := by
    have := Nat.mul_le_mul_left w (show y + 1 ≤ h by omega)
    rw [Nat.mul_add, Nat.mul_one] at this
    omega
  unfold rdOf
  rw [e, Int.toNat_natCast]
  rw [List.getD_eq_getElem?_getD, List.getElem?_eq_getElem (by rw [mk_len]; exact lt)]
  simp only [mk, List.getElem_map, List.getElem_range, Option.getD_some]
  rw [Nat.add_mul_mod_self_left, Nat.mod_eq_of_lt hx, Nat.add_mul_div_left _ _ (by omega), Nat.div_eq_of_lt hx, Nat.zero_add]
def Per (w h : Nat) (v : Int → Int → Nat) : Prop := ∀ x y, v (x % (w : Int)) (y % (h : Int)) = v x y
structure Side (w : Nat) : Prop where
  lo : 3 ≤ w
  hi : w ≤ 6
theorem tmod_emod {a w : Int} (hw : 0 < w) (ha : -1000 ≤ a) (h2 : a ≤ 1000) (h3 : w ≤ 1000) : Int.tmod (wrap64 (Int.tmod a w + w)) w = a % w := by
  have h0 : -w < Int.tmod a w := Int.lt_tmod_of_pos a hw
  have h1 : Int.tmod a w < w := Int.tmod_lt_of_pos a hw
  rw [w64 (by omega) (by omega), Int.tmod_eq_emod_of_nonneg (by omega)]
  rw [Int.add_emod_right]
  have := Int.tmod_add_mul_tdiv a w
  have e : Int.tmod a w = a + w * (-(Int.tdiv a w)) := by rw [Int.mul_neg]; omega
  rw [e, Int.add_mul_emod_self_left]
theorem at_of {w h : Nat} (hw : Side w) (hh : Side h) {v : Int → Int → Nat} (hv : Per w h v) {x y : Int} (hx : -1000 ≤ x) (hx2 : x ≤ 1000) (hy : -1000 ≤ y) (hy2 : y ≤ 1000) :
    B0.impl_Basin_at.f w h (mk w h v) x y = some (v x y) := by
  obtain ⟨w1, w2⟩ := hw
  obtain ⟨h1, h2⟩ := hh
  unfold B0.impl_Basin_at.f B0.impl_Basin_place.f
  rw [if_neg (by omega), if_neg (by omega)]
  simp only [Option.bind_some]
  rw [tmod_emod (by omega) hx hx2 (by omega), tmod_emod (by omega) hy hy2 (by omega)]
  have a1 := Int.emod_nonneg x (show (w : Int) ≠ 0 by omega)
  have a2 := Int.emod_lt_of_pos x (show (0 : Int) < w by omega)
  have b1 := Int.emod_nonneg y (show (h : Int) ≠ 0 by omega)
  have b2 := Int.emod_lt_of_pos y (show (0 : Int) < h by omega)
  have hv' := hv x y
  obtain ⟨p, hp⟩ := Int.eq_ofNat_of_zero_le a1
  obtain ⟨q, hq⟩ := Int.eq_ofNat_of_zero_le b1
  rw [hp, hq] at hv' ⊢
  have m1 : w * q ≤ 6 * 5 := Nat.mul_le_mul w2 (by omega)
  have m2 : (w : Int) * (q : Int) ≤ 30 := by exact_mod_cast m1
  have m3 : 0 ≤ (w : Int) * (q : Int) := Int.mul_nonneg (by omega) (by omega)
  rw [w64 (n := (w : Int) * (q : Int)) (by omega) (by omega), w64 (by omega) (by omega), if_pos (by omega), mk_len]
  have lt : p + w * q < w * h := by
    have := Nat.mul_le_mul_left w (show q + 1 ≤ h by omega)
    rw [Nat.mul_add, Nat.mul_one] at this
    omega
  have lt' : (p : Int) + (w : Int) * (q : Int) < ((w * h : Nat) : Int) := by exact_mod_cast lt
  rw [if_pos lt', mk_get (by omega) (by omega), hv']
theorem in_of {a b c : Int} (h1 : b ≤ a) (h2 : a ≤ c) : B0.impl_in.f a b c = some true := by
  unfold B0.impl_in.f
  rw [if_pos h1, decide_eq_true h2]
theorem finite_mk {w h : Nat} {v : Int → Int → Nat} (hf : ∀ x y, Fin (v x y)) : XW.finite.f (mk w h v) = some true := by
  refine finite_of fun x hx => ?_
  unfold mk at hx
  obtain ⟨i, -, rfl⟩ := List.mem_map.1 hx
  exact hf _ _
theorem valid_l {w h : Int} {l : List Nat} (hw : 3 ≤ w) (hw2 : w ≤ 16) (hh : 3 ≤ h) (hh2 : h ≤ 16) (hl : (l.length : Int) = wrap64 (w * h)) (hf : XW.finite.f l = some true) : B0.impl_ValidBasin.f w h l = some true := by
  unfold B0.impl_ValidBasin.f B0.impl_sideOk.f
  rw [in_of hw hw2, in_of hh hh2]
  simp only [Option.bind_some, if_true]
  rw [if_pos hl, hf]
  simp only [Option.bind_some]
theorem size_of {w h : Nat} (hw : Side w) (hh : Side h) : ((w * h : Nat) : Int) = wrap64 ((w : Int) * (h : Int)) := by
  have m1 : w * h ≤ 6 * 6 := Nat.mul_le_mul hw.2 hh.2
  rw [← Int.natCast_mul, w64 (by omega) (by omega)]
theorem valid_of {w h : Nat} (hw : Side w) (hh : Side h) {v : Int → Int → Nat} (hf : ∀ x y, Fin (v x y)) : B0.impl_ValidBasin.f w h (mk w h v) = some true := by
  have a := hw.1
  have b := hw.2
  have c := hh.1
  have d := hh.2
  exact valid_l (by omega) (by omega) (by omega) (by omega) (by rw [mk_len]; exact size_of hw hh) (finite_mk hf)
theorem told_of {w h : Nat} (hw : Side w) (hh : Side h) {v : Int → Int → Nat} (hf : ∀ x y, Fin (v x y)) : B0.impl_toldBasin.f w h (mk w h v) = some ((w : Int), (h : Int), mk w h v, true) := by
  unfold B0.impl_toldBasin.f
  rw [valid_of hw hh hf]
  simp only [Option.bind_some, if_true]
end PA
end Go.Proofs.Ytelkklnfbfmecaa
end
section
namespace Go.Proofs.Ytelkklnfbfmecaa
open Go.RowKit YtelkklnfbfmecaaW.PrintWords YtelkklnfbfmecaaW.PrintLast Ieee
namespace PA
open FR PU XL
def pre (w : Nat) (v : Int → Int → Nat) (n : Nat) : List Nat := (List.range n).map fun i => v ((i % w : Nat) : Int) ((i / w : Nat) : Int)
theorem pre_lt {w h x y : Nat} {v : Int → Int → Nat} (hw : Side w) (hh : Side h) (hx : x < w) (hy : y < h) : (pre w v (w * y + x)).length < 35184372088832 := by
  have a := hw.2
  have b := hh.2
  have : w * y ≤ 6 * 6 := Nat.mul_le_mul a (by omega)
  simp only [pre, List.length_map, List.length_range]
  omega
theorem pre_snoc {w x y : Nat} {v : Int → Int → Nat} (hw : Side w) (hx : x < w) : pre w v (w * y + x) ++ [v x y] = pre w v (w * y + (x + 1)) := by
  have a := hw.1
  rw [show w * y + (x + 1) = (w * y + x) + 1 by omega]
  unfold pre
  rw [List.range_succ, List.map_append, Nat.add_comm (w * y) x]
  simp only [List.map_cons, List.map_nil]
  rw [Nat.add_mul_mod_self_left, Nat.mod_eq_of_lt hx, Nat.add_mul_div_left _ _ (by omega), Nat.div_eq_of_lt hx, Nat.zero_add]
theorem row_BR {w h : Nat} (hw : Side w) (hh : Side h) (v : Int → Int → Nat) (a : List Nat) (p q : Int) (of : ∀ x y : Nat, x < w → y < h → BR.impl_RollBasin_1.f x y w h a p q = some (v x y)) :
    ∀ n x y m : Nat, x + n = w → y < h → BR.impl_cells.l1 (n + 1 + m) w y h y w x w h a p q w h (pre w v (w * y + x)) = BR.impl_cells.l0 m w h ((y + 1 : Nat) : Int) w h a p q w h (pre w v (w * (y + 1))) := by
  have a1 := hw.2
  have a2 := hh.2
  intro n
  induction n with
  | zero =>
    intro x y m hx hy
    rw [show 0 + 1 + m = m + 1 by omega]
    unfold BR.impl_cells.l1
    rw [if_neg (by omega), w64 (by omega) (by omega), show w * y + x = w * (y + 1) by rw [Nat.mul_add]; omega]
    rfl
  | succ n ih =>
    intro x y m hx hy
    rw [show n + 1 + 1 + m = (n + 1 + m) + 1 by omega]
    unfold BR.impl_cells.l1
    rw [if_pos (by omega), of x y (by omega) hy]
    simp only [Option.bind_some]
    rw [if_pos (pre_lt hw hh (by omega) hy), pre_snoc hw (by omega), w64 (by omega) (by omega)]
    exact ih (x + 1) y m (by omega) hy
theorem all_BR {w h : Nat} (hw : Side w) (hh : Side h) (v : Int → Int → Nat) (a : List Nat) (p q : Int) (of : ∀ x y : Nat, x < w → y < h → BR.impl_RollBasin_1.f x y w h a p q = some (v x y)) :
    ∀ n y m : Nat, y + n = h → BR.impl_cells.l0 (n * (w + 2) + 1 + m) w h y w h a p q w h (pre w v (w * y)) = some ((w : Int), (h : Int), mk w h v) := by
  have a2 := hh.2
  intro n
  induction n with
  | zero =>
    intro y m hy
    rw [show 0 * (w + 2) + 1 + m = m + 1 by omega]
    unfold BR.impl_cells.l0
    rw [if_neg (by omega), show y = h by omega]
    rfl
  | succ n ih =>
    intro y m hy
    rw [show (n + 1) * (w + 2) + 1 + m = (w + 1 + (n * (w + 2) + 1 + m)) + 1 by rw [Nat.add_mul]; omega]
    unfold BR.impl_cells.l0
    rw [if_pos (by omega)]
    have := row_BR hw hh v a p q of w 0 y (n * (w + 2) + 1 + m) (by omega) (by omega)
    rw [Nat.add_zero] at this
    exact this.trans (ih (y + 1) m (by omega))
theorem cells_BR {w h : Nat} (hw : Side w) (hh : Side h) (v : Int → Int → Nat) (a : List Nat) (p q : Int) (of : ∀ x y : Nat, x < w → y < h → BR.impl_RollBasin_1.f x y w h a p q = some (v x y)) {k : Nat} (hk : 60 ≤ k) :
    BR.impl_cells.f k w h w h a p q = some ((w : Int), (h : Int), mk w h v) := by
  have a2 := hh.2
  have m1 : h * (w + 2) ≤ 6 * 8 := Nat.mul_le_mul a2 (by have := hw.2; omega)
  have := all_BR hw hh v a p q of h 0 (k - (h * (w + 2) + 1)) (by omega)
  rw [show h * (w + 2) + 1 + (k - (h * (w + 2) + 1)) = k by omega] at this
  exact this
theorem built_BR {w h : Nat} (hw : Side w) (hh : Side h) (v : Int → Int → Nat) (l : List Nat) (a : List Nat) (p q : Int) (of : ∀ x y : Nat, x < w → y < h → BR.impl_RollBasin_1.f x y w h a p q = some (v x y)) (hv : ∀ x y, Fin (v x y)) (hl : B0.impl_ValidBasin.f w h l = some true) {k : Nat} (hk : 60 ≤ k) :
    BR.impl_rebuilt.f k w h l w h a p q = some ((w : Int), (h : Int), mk w h v, true) := by
  unfold BR.impl_rebuilt.f
  rw [hl]
  simp only [Option.bind_some, if_true]
  rw [cells_BR hw hh v a p q of hk]
  simp only [Option.bind_some]
  rw [told_of hw hh hv]
  simp only [Option.bind_some]
theorem row_BE {w h : Nat} (hw : Side w) (hh : Side h) (v : Int → Int → Nat) (a : List Nat) (e : Nat) (of : ∀ x y : Nat, x < w → y < h → BE.impl_EvenOut_1.f x y w h a e = some (v x y)) :
    ∀ n x y m : Nat, x + n = w → y < h → BE.impl_cells.l1 (n + 1 + m) w y h y w x w h a e w h (pre w v (w * y + x)) = BE.impl_cells.l0 m w h ((y + 1 : Nat) : Int) w h a e w h (pre w v (w * (y + 1))) := by
  have a1 := hw.2
  have a2 := hh.2
  intro n
  induction n with
  | zero =>
    intro x y m hx hy
    rw [show 0 + 1 + m = m + 1 by omega]
    unfold BE.impl_cells.l1
    rw [if_neg (by omega), w64 (by omega) (by omega), show w * y + x = w * (y + 1) by rw [Nat.mul_add]; omega]
    rfl
  | succ n ih =>
    intro x y m hx hy
    rw [show n + 1 + 1 + m = (n + 1 + m) + 1 by omega]
    unfold BE.impl_cells.l1
    rw [if_pos (by omega), of x y (by omega) hy]
    simp only [Option.bind_some]
    rw [if_pos (pre_lt hw hh (by omega) hy), pre_snoc hw (by omega), w64 (by omega) (by omega)]
    exact ih (x + 1) y m (by omega) hy
theorem all_BE {w h : Nat} (hw : Side w) (hh : Side h) (v : Int → Int → Nat) (a : List Nat) (e : Nat) (of : ∀ x y : Nat, x < w → y < h → BE.impl_EvenOut_1.f x y w h a e = some (v x y)) :
    ∀ n y m : Nat, y + n = h → BE.impl_cells.l0 (n * (w + 2) + 1 + m) w h y w h a e w h (pre w v (w * y)) = some ((w : Int), (h : Int), mk w h v) := by
  have a2 := hh.2
  intro n
  induction n with
  | zero =>
    intro y m hy
    rw [show 0 * (w + 2) + 1 + m = m + 1 by omega]
    unfold BE.impl_cells.l0
    rw [if_neg (by omega), show y = h by omega]
    rfl
  | succ n ih =>
    intro y m hy
    rw [show (n + 1) * (w + 2) + 1 + m = (w + 1 + (n * (w + 2) + 1 + m)) + 1 by rw [Nat.add_mul]; omega]
    unfold BE.impl_cells.l0
    rw [if_pos (by omega)]
    have := row_BE hw hh v a e of w 0 y (n * (w + 2) + 1 + m) (by omega) (by omega)
    rw [Nat.add_zero] at this
    exact this.trans (ih (y + 1) m (by omega))
theorem cells_BE {w h : Nat} (hw : Side w) (hh : Side h) (v : Int → Int → Nat) (a : List Nat) (e : Nat) (of : ∀ x y : Nat, x < w → y < h → BE.impl_EvenOut_1.f x y w h a e = some (v x y)) {k : Nat} (hk : 60 ≤ k) :
    BE.impl_cells.f k w h w h a e = some ((w : Int), (h : Int), mk w h v) := by
  have a2 := hh.2
  have m1 : h * (w + 2) ≤ 6 * 8 := Nat.mul_le_mul a2 (by have := hw.2; omega)
  have := all_BE hw hh v a e of h 0 (k - (h * (w + 2) + 1)) (by omega)
  rw [show h * (w + 2) + 1 + (k - (h * (w + 2) + 1)) = k by omega] at this
  exact this
theorem built_BE {w h : Nat} (hw : Side w) (hh : Side h) (v : Int → Int → Nat) (l : List Nat) (a : List Nat) (e : Nat) (of : ∀ x y : Nat, x < w → y < h → BE.impl_EvenOut_1.f x y w h a e = some (v x y)) (hv : ∀ x y, Fin (v x y)) (hl : B0.impl_ValidBasin.f w h l = some true) {k : Nat} (hk : 60 ≤ k) :
    BE.impl_rebuilt.f k w h l w h a e = some ((w : Int), (h : Int), mk w h v, true) := by
  unfold BE.impl_rebuilt.f
  rw [hl]
  simp only [Option.bind_some, if_true]
  rw [cells_BE hw hh v a e of hk]
  simp only [Option.bind_some]
  rw [told_of hw hh hv]
  simp only [Option.bind_some]
end PA
end Go.Proofs.Ytelkklnfbfmecaa
end
section
namespace Go.Proofs.Ytelkklnfbfmecaa
open Go.RowKit YtelkklnfbfmecaaW.PrintWords YtelkklnfbfmecaaW.PrintLast Ieee
namespace PA
open FR PU XL
def okS (l : List Int) : Prop := ∀ b ∈ l, 0 ≤ b ∧ b ≤ 255
theorem wid {i : Int} (h0 : -9223372036854775808 ≤ i) (h : i ≤ 9223372036854775807) : wrap64 i = i := by unfold wrap64; omega
theorem rd_ok {l : List Int} (h : okS l) (i : Int) : 0 ≤ rd l i ∧ rd l i ≤ 255 := by
  unfold rd
  by_cases c : i.toNat < l.length
  · rw [List.getD_eq_getElem?_getD, List.getElem?_eq_getElem c, Option.getD_some]
    exact h _ (List.getElem_mem c)
  · rw [List.getD_eq_getElem?_getD, List.getElem?_eq_none (by omega), Option.getD_none]
    omega
theorem and255 (n : Int) : 0 ≤ Go.bits .and .u64 n 255 ∧ Go.bits .and .u64 n 255 ≤ 255 := by
  have h255 : (BitVec.ofInt 64 255).toNat = 2 ^ 8 - 1 := by decide
  have key : (BitVec.ofInt 64 n &&& BitVec.ofInt 64 255).toNat = (n % ((2 ^ 64 : Nat) : Int)).toNat % 2 ^ 8 := by
    rw [BitVec.toNat_and, BitVec.toNat_ofInt, h255, Nat.and_two_pow_sub_one_eq_mod]
  have e : Go.bits .and .u64 n 255 = IntKind.u64.wrap ((BitVec.ofInt 64 n &&& BitVec.ofInt 64 255).toNat : Nat) := rfl
  rw [e, key]
  have hb : (n % ((2 ^ 64 : Nat) : Int)).toNat % 2 ^ 8 < 256 := Nat.mod_lt _ (by decide)
  generalize (n % ((2 ^ 64 : Nat) : Int)).toNat % 2 ^ 8 = q at hb
  have e2 : IntKind.u64.wrap (q : Int) = q := by
    simp [IntKind.wrap, IntKind.bits, IntKind.signed]
    omega
  rw [e2]
  omega
theorem next_ok {l : List Int} (hl : okS l) (a s : Int) (h0 : 0 ≤ a) (h1 : a ≤ 1000000) : ∃ x s', B0.spec_l00Src_next.f l a s = some (x, a + 1, s') ∧ 0 ≤ x ∧ x ≤ 255 := by
  have hr := rd_ok hl a
  have hw1 : wrap64 (rd l a) = rd l a := wid (by omega) (by omega)
  have hw2 : wrap64 (a + 1) = a + 1 := wid (by omega) (by omega)
  have ha (n : Int) : wrap64 (Go.bits .and .u64 n 255) = Go.bits .and .u64 n 255 := by
    have := and255 n
    exact wid (by omega) (by omega)
  unfold B0.spec_l00Src_next.f
  rw [hw1, hw2]
  by_cases c : a < (l.length : Int)
  · rw [if_pos c, if_pos h0]
    by_cases c2 : a + 1 ≤ (l.length : Int)
    · rw [if_pos c2]
      exact ⟨_, _, rfl, hr.1, hr.2⟩
    · rw [if_neg c2, ha]
      exact ⟨_, _, rfl, (and255 _).1, (and255 _).2⟩
  · rw [if_neg c]
    by_cases c2 : a + 1 ≤ (l.length : Int)
    · rw [if_pos c2]
      exact ⟨_, _, rfl, by omega, by omega⟩
    · rw [if_neg c2, ha]
      exact ⟨_, _, rfl, (and255 _).1, (and255 _).2⟩
theorem tmod_ok {x n : Int} (h0 : 0 ≤ x) (hn : 0 < n) : 0 ≤ Int.tmod x n ∧ Int.tmod x n < n := by
  rw [Int.tmod_eq_emod_of_nonneg h0]
  exact ⟨Int.emod_nonneg _ (by omega), Int.emod_lt_of_pos _ hn⟩
theorem pick_ok {l : List Int} (hl : okS l) (a s n : Int) (h0 : 0 ≤ a) (h1 : a ≤ 100000) (hn : 1 < n) : ∃ v a' s', B0.spec_l00Src_pick.f l a s n = some (v, a', s') ∧ 0 ≤ v ∧ v < n ∧ 0 ≤ a' ∧ a' ≤ a + 2 := by
  unfold B0.spec_l00Src_pick.f
  rw [if_neg (by omega)]
  obtain ⟨x, s1, e1, hx0, hx1⟩ := next_ok hl a s h0 (by omega)
  rw [e1]
  simp only [Option.bind_some]
  by_cases c : n > 200
  · rw [if_pos c]
    obtain ⟨y, s2, e2, hy0, hy1⟩ := next_ok hl (a + 1) s1 (by omega) (by omega)
    rw [e2]
    simp only [Option.bind_some]
    rw [if_neg (by omega), wid (i := x * 256) (by omega) (by omega), wid (by omega) (by omega)]
    have := tmod_ok (x := x * 256 + y) (by omega) (by omega : 0 < n)
    exact ⟨_, _, _, rfl, this.1, this.2, by omega, by omega⟩
  · rw [if_neg c, if_neg (by omega)]
    have := tmod_ok hx0 (by omega : 0 < n)
    exact ⟨_, _, _, rfl, this.1, this.2, by omega, by omega⟩
theorem at_ok {l : List Int} (hl : okS l) (i n : Int) (h0 : 0 ≤ i) (h1 : 1 < n) (h2 : n ≤ 1000) : ∃ t, B0.laws_r8At.f l i n = some t ∧ 0 ≤ t ∧ t < n := by
  unfold B0.laws_r8At.f
  rw [if_neg (by omega)]
  by_cases c : i < (l.length : Int)
  · rw [if_neg (by omega), if_pos h0, if_pos c, if_neg (by omega)]
    have hr := rd_ok hl i
    rw [wid (by omega) (by omega)]
    have := tmod_ok hr.1 (by omega : 0 < n)
    exact ⟨_, rfl, this.1, this.2⟩
  · rw [if_pos (by omega)]
    exact ⟨0, rfl, by omega, by omega⟩
theorem f_four : Fk .f32 1082130432 ((4 : Int) : Rat) := ⟨false, 8388608, -21, by decide, by decide +kernel⟩
theorem f_four' : Fk .f32 1082130432 ((2 : Rat) ^ ((2 : Nat) : Int)) := ⟨false, 8388608, -21, by decide, by decide +kernel⟩
theorem f_eight' : Fk .f32 1090519040 ((2 : Rat) ^ ((3 : Nat) : Int)) := ⟨false, 8388608, -20, by decide, by decide +kernel⟩
def UB (v : Int → Int → Nat) (n : Int → Int → Int) (M : Int) : Prop := ∀ x y, U (v x y) (n x y) ∧ -M ≤ n x y ∧ n x y ≤ M
theorem UB.fin {v : Int → Int → Nat} {n : Int → Int → Int} {M : Int} (h : UB v n M) : ∀ x y, Fin (v x y) := fun x y => ⟨_, (h x y).1⟩
def lapV (a : Int → Int → Nat) : Int → Int → Nat := fun x y => fop .sub .f32 (fop .add .f32 (fop .add .f32 (a (x - 1) y) (a (x + 1) y)) (fop .add .f32 (a x (y - 1)) (a x (y + 1)))) (fop .mul .f32 1082130432 (a x y))
def rolV (a : Int → Int → Nat) (p q : Int) : Int → Int → Nat := fun x y => a (x - p) (y - q)
def lapN (n : Int → Int → Int) : Int → Int → Int := fun x y => n (x - 1) y + n (x + 1) y + (n x (y - 1) + n x (y + 1)) - 4 * n x y
theorem emod_off (x p w : Int) : (x % w - p) % w = (x - p) % w := by
  have := Int.emod_def x w
  rw [show x % w - p = x - p + w * (-(x / w)) by rw [Int.mul_neg]; omega, Int.add_mul_emod_self_left]
theorem Per.to {w h : Nat} {v : Int → Int → Nat} (hv : Per w h v) {x y x' y' : Int} (hx : x % w = x' % w) (hy : y % h = y' % h) : v x y = v x' y' := by rw [← hv x y, ← hv x' y', hx, hy]
theorem per_lap {w h : Nat} {a : Int → Int → Nat} (ha : Per w h a) : Per w h (lapV a) := fun x y => by
  have e1 := ha.to (x := x % w - 1) (y := y % h) (x' := x - 1) (y' := y) (emod_off _ _ _) (Int.emod_emod _ _)
  have e2 := ha.to (x := x % w + 1) (y := y % h) (x' := x + 1) (y' := y) (by have := emod_off x (-1) w; rwa [Int.sub_neg, Int.sub_neg] at this) (Int.emod_emod _ _)
  have e3 := ha.to (x := x % w) (y := y % h - 1) (x' := x) (y' := y - 1) (Int.emod_emod _ _) (emod_off _ _ _)
  have e4 := ha.to (x := x % w) (y := y % h + 1) (x' := x) (y' := y + 1) (Int.emod_emod _ _) (by have := emod_off y (-1) h; rwa [Int.sub_neg, Int.sub_neg] at this)
  unfold lapV
  rw [e1, e2, e3, e4, ha]
end PA
end Go.Proofs.Ytelkklnfbfmecaa
end
section
namespace Go.Proofs.Ytelkklnfbfmecaa
open Go.RowKit YtelkklnfbfmecaaW.PrintWords YtelkklnfbfmecaaW.PrintLast Ieee
namespace PA
open FR PU XL
theorem alike_of {w h : Nat} {a b : List Nat} (ha : B0.impl_ValidBasin.f w h a = some true) (hb : B0.impl_ValidBasin.f w h b = some true) {k : Nat} (hk : 10 ≤ k) :
  B0.impl_alike.f k [(⟨w, h, a⟩ : B0.S26), (⟨w, h, b⟩ : B0.S26)] = some true := by
 obtain ⟨j, rfl⟩ : ∃ j, k = j + 3 := ⟨k - 3, by omega⟩
 have hn : ((h : Int) != (h : Int)) = false := by simp
 have A (l : List Nat) (hl : B0.impl_ValidBasin.f w h l = some true) : B0.impl_alike_1.f w h l [(⟨w, h, a⟩ : B0.S26), (⟨w, h, b⟩ : B0.S26)] = some false := by
  unfold B0.impl_alike_1.f
  rw [hl]
  simp only [Option.bind_some, if_true]
  rw [if_pos (show (0 : Int) < (([(⟨w, h, a⟩ : B0.S26), (⟨w, h, b⟩ : B0.S26)] : List B0.S26).length : Int) by simp only [List.length_cons, List.length_nil]; omega)]
  rw [if_pos (show (w : Int) = (B0.rd_T26 [(⟨w, h, a⟩ : B0.S26), (⟨w, h, b⟩ : B0.S26)] 0).f0 from rfl)]
  exact congrArg some hn
 have B : B0.impl_Basin_74.l0 (j + 3) [(⟨w, h, a⟩ : B0.S26), (⟨w, h, b⟩ : B0.S26)] (([(⟨w, h, a⟩ : B0.S26), (⟨w, h, b⟩ : B0.S26)] : List B0.S26).length : Int) 0 [(⟨w, h, a⟩ : B0.S26), (⟨w, h, b⟩ : B0.S26)] = some (-1) := by
  have len : ((([(⟨w, h, a⟩ : B0.S26), (⟨w, h, b⟩ : B0.S26)] : List B0.S26).length : Nat) : Int) = 2 := rfl
  unfold B0.impl_Basin_74.l0
  rw [len, if_pos (by omega), if_pos (by omega), if_pos (by omega)]
  have e0 : B0.rd_T26 [(⟨w, h, a⟩ : B0.S26), (⟨w, h, b⟩ : B0.S26)] 0 = ⟨w, h, a⟩ := rfl
  have e1 : B0.rd_T26 [(⟨w, h, a⟩ : B0.S26), (⟨w, h, b⟩ : B0.S26)] 1 = ⟨w, h, b⟩ := rfl
  rw [e0, A a ha]
  simp only [Option.bind_some]
  rw [if_neg (by decide), w64 (by omega) (by omega)]
  unfold B0.impl_Basin_74.l0
  rw [show (0 : Int) + 1 = 1 from rfl, if_pos (by omega), if_pos (by omega), len, if_pos (by omega), e1, A b hb]
  simp only [Option.bind_some]
  rw [if_neg (by decide), w64 (by omega) (by omega)]
  unfold B0.impl_Basin_74.l0
  rw [show (1 : Int) + 1 = 2 from rfl, if_neg (by omega)]
 unfold B0.impl_alike.f B0.impl_Basin_61.f B0.impl_Basin_74.f
 rw [B]
 rfl
theorem rol_of {w h : Nat} (hw : Side w) (hh : Side h) {a : Int → Int → Nat} (hp : Per w h a) (ha : ∀ x y, Fin (a x y)) {p q : Int} (hp1 : -16 ≤ p) (hp2 : p ≤ 16) (hq1 : -16 ≤ q) (hq2 : q ≤ 16) {k : Nat} (hk : 60 ≤ k) :
    BR.impl_RollBasin.f k w h (mk w h a) p q = some ((w : Int), (h : Int), mk w h (rolV a p q), true) := by
  unfold BR.impl_RollBasin.f
  rw [in_of hp1 hp2, in_of hq1 hq2]
  simp only [Option.bind_some, if_true]
  rw [built_BR hw hh (rolV a p q) (mk w h a) (mk w h a) p q ?_ (fun x y => ha _ _) (valid_of hw hh ha) hk]
  · simp only [Option.bind_some]
  · intro x y hx hy
    have := hw.2
    have := hh.2
    unfold BR.impl_RollBasin_1.f
    rw [w64 (by omega) (by omega), w64 (by omega) (by omega), at_of hw hh hp (by omega) (by omega) (by omega) (by omega)]
    rfl
def S1 (f : Nat → Int) : Nat → Int
  | 0 => 0
  | r + 1 => S1 f r + f r
theorem S1_bd {f : Nat → Int} {M : Int} : ∀ r : Nat, (∀ i, i < r → -M ≤ f i ∧ f i ≤ M) → -(r * M) ≤ S1 f r ∧ S1 f r ≤ r * M
  | 0, _ => by simp [S1]
  | r + 1, h => by
    have ih := S1_bd r (fun i hi => h i (by omega))
    have := h r (by omega)
    simp only [S1]
    have e : ((r + 1 : Nat) : Int) * M = r * M + M := by rw [Int.natCast_add, Int.add_mul]; simp
    rw [e]
    omega
theorem S1_add (f g : Nat → Int) : ∀ r, S1 (fun i => f i + g i) r = S1 f r + S1 g r
  | 0 => rfl
  | r + 1 => by simp only [S1]; rw [S1_add f g r]; omega
theorem S1_mul (c : Int) (f : Nat → Int) : ∀ r, S1 (fun i => c * f i) r = c * S1 f r
  | 0 => by simp [S1]
  | r + 1 => by simp only [S1]; rw [S1_mul c f r, Int.mul_add]
theorem S1_congr {f g : Nat → Int} : ∀ r, (∀ i, i < r → f i = g i) → S1 f r = S1 g r
  | 0, _ => rfl
  | r + 1, h => by simp only [S1]; rw [S1_congr r (fun i hi => h i (by omega)), h r (by omega)]
theorem S1_shift (f : Nat → Int) : ∀ r, S1 (fun i => f (i + 1)) r = S1 f r + f r - f 0
  | 0 => by simp [S1]
  | r + 1 => by simp only [S1]; rw [S1_shift f r]; omega
theorem S1_cat (f : Nat → Int) (a : Nat) : ∀ r, S1 f (a + r) = S1 f a + S1 (fun j => f (a + j)) r
  | 0 => by simp [S1]
  | r + 1 => by rw [← Nat.add_assoc]; simp only [S1]; rw [S1_cat f a r]; omega
def S2 (w h : Nat) (n : Int → Int → Int) : Int := S1 (fun y => S1 (fun x => n x y) w) h
theorem S1_rows {w : Nat} (hw : 0 < w) (n : Int → Int → Int) : ∀ h, S1 (fun i => n ((i % w : Nat) : Int) ((i / w : Nat) : Int)) (w * h) = S2 w h n
  | 0 => rfl
  | h + 1 => by
    rw [Nat.mul_add, Nat.mul_one, S1_cat, S1_rows hw n h]
    unfold S2
    simp only [S1]
    congr 1
    refine S1_congr w fun j hj => ?_
    rw [Nat.add_comm (w * h) j, Nat.add_mul_mod_self_left, Nat.mod_eq_of_lt hj, Nat.add_mul_div_left _ _ hw, Nat.div_eq_of_lt hj, Nat.zero_add]
theorem S2_lap {w h : Nat} (n : Int → Int → Int) (hx : ∀ x y, n (x + w) y = n x y) (hy : ∀ x y, n x (y + h) = n x y) : S2 w h (lapN n) = 0 := by
 have r1 : ∀ y, S1 (fun x => n ((x : Int) + 1) y) w = S1 (fun x => n x y) w := fun y => by
  have := S1_shift (fun x => n x y) w
  have e := hx 0 y
  rw [Int.zero_add] at e
  rw [show (n ((0 : Nat) : Int) y) = n 0 y from rfl] at this
  have e2 : S1 (fun i => n ((i + 1 : Nat) : Int) y) w = S1 (fun x => n ((x : Int) + 1) y) w := S1_congr w fun i _ => by push_cast; rfl
  rw [← e2, this, e]
  omega
 have r2 : ∀ y, S1 (fun x => n ((x : Int) - 1) y) w = S1 (fun x => n x y) w := fun y => by
  have := S1_shift (fun x => n ((x : Int) - 1) y) w
  have e := hx (-1) y
  rw [show (-1 + (w : Int)) = (w : Int) - 1 by omega] at e
  have e2 : S1 (fun i => n (((i + 1 : Nat) : Int) - 1) y) w = S1 (fun x => n x y) w := S1_congr w fun i _ => by rw [show (((i + 1 : Nat) : Int) - 1) = (i : Int) by omega]
  have e3 : n (((0 : Nat) : Int) - 1) y = n (-1) y := rfl
  rw [e2, e, e3] at this
  omega
 have c1 : S1 (fun y => S1 (fun x => n x ((y : Int) + 1)) w) h = S2 w h n := by
  have := S1_shift (fun y => S1 (fun x => n x y) w) h
  have e : S1 (fun x => n x (h : Int)) w = S1 (fun x => n x 0) w := S1_congr w fun i _ => by have := hy i 0; rwa [Int.zero_add] at this
  have e2 : S1 (fun i => S1 (fun x => n x ((i + 1 : Nat) : Int)) w) h = S1 (fun y => S1 (fun x => n x ((y : Int) + 1)) w) h := S1_congr h fun i _ => by push_cast; rfl
  have e3 : S1 (fun x => n x ((0 : Nat) : Int)) w = S1 (fun x => n x 0) w := rfl
  rw [e2, e, e3] at this
  unfold S2
  omega
 have c2 : S1 (fun y => S1 (fun x => n x ((y : Int) - 1)) w) h = S2 w h n := by
  have := S1_shift (fun y => S1 (fun x => n x ((y : Int) - 1)) w) h
  have e : S1 (fun x => n x ((h : Int) - 1)) w = S1 (fun x => n x (-1)) w := S1_congr w fun i _ => by have := hy i (-1); rwa [show (-1 + (h : Int)) = (h : Int) - 1 by omega] at this
  have e2 : S1 (fun i => S1 (fun x => n x (((i + 1 : Nat) : Int) - 1)) w) h = S2 w h n := S1_congr h fun i _ => by rw [show (((i + 1 : Nat) : Int) - 1) = (i : Int) by omega]
  have e3 : S1 (fun x => n x (((0 : Nat) : Int) - 1)) w = S1 (fun x => n x (-1)) w := rfl
  rw [e2, e, e3] at this
  omega
 have row : ∀ y : Int, S1 (fun x => lapN n x y) w = S1 (fun x => n ((x : Int) - 1) y) w + S1 (fun x => n ((x : Int) + 1) y) w + (S1 (fun x => n x (y - 1)) w + S1 (fun x => n x (y + 1)) w) - 4 * S1 (fun x => n x y) w := by
  intro y
  have : (fun x : Nat => lapN n x y) = fun x : Nat => (n ((x : Int) - 1) y + n ((x : Int) + 1) y) + ((n x (y - 1) + n x (y + 1)) + (-4) * n x y) := by
   funext x
   unfold lapN
   omega
  rw [this, S1_add, S1_add, S1_add, S1_add, S1_mul]
  omega
 have : S2 w h (lapN n) = S1 (fun y => S1 (fun x => n x y) w + S1 (fun x => n x y) w + (S1 (fun x => n x ((y : Int) - 1)) w + S1 (fun x => n x ((y : Int) + 1)) w) + (-4) * S1 (fun x => n x y) w) h := by
  unfold S2
  refine S1_congr h fun y _ => ?_
  rw [row, r1, r2]
  omega
 rw [this, S1_add, S1_add, S1_add, S1_add, S1_mul, c1, c2]
 unfold S2
 omega
end PA
end Go.Proofs.Ytelkklnfbfmecaa
end
section
namespace Go.Proofs.Ytelkklnfbfmecaa
open Go.RowKit YtelkklnfbfmecaaW.PrintWords YtelkklnfbfmecaaW.PrintLast Ieee
namespace PA
open FR PU XL
theorem rdOf_lt {l : List Nat} {i : Nat} (h : i < l.length) : rdOf (0 : Nat) l (i : Int) = l[i] := by
  unfold rdOf
  rw [Int.toNat_natCast, List.getD_eq_getElem?_getD, List.getElem?_eq_getElem h]
  rfl
theorem mk_i {w h i : Nat} {v : Int → Int → Nat} (hi : i < w * h) : rdOf (0 : Nat) (mk w h v) (i : Int) = v ((i % w : Nat) : Int) ((i / w : Nat) : Int) := by
  rw [rdOf_lt (by rw [mk_len]; exact hi)]
  simp [mk]
theorem sum_u {l : List Nat} {g : Nat → Int} {M : Int} (hM : 0 ≤ M) (hl : l.length ≤ 36) (hM2 : 36 * M < 16777216) (hg : ∀ i, i < l.length → U (rdOf (0 : Nat) l (i : Int)) (g i) ∧ -M ≤ g i ∧ g i ≤ M) :
    ∀ (r i s m : Nat), i + r = l.length → U s (S1 g i) → Ret (B0.impl_sum.l0 (r + 1 + m) s l (l.length : Int) (i : Int)) (fun t => U t (S1 g l.length)) := by
  intro r
  induction r with
  | zero =>
    intro i s m hi hs
    rw [show 0 + 1 + m = m + 1 by omega]
    unfold B0.impl_sum.l0
    rw [if_neg (by omega)]
    refine Ret.of ?_
    rwa [← hi, Nat.add_zero]
  | succ r ih =>
    intro i s m hi hs
    rw [show r + 1 + 1 + m = (r + 1 + m) + 1 by omega]
    unfold B0.impl_sum.l0
    obtain ⟨g1, g2, g3⟩ := hg i (by omega)
    have b := S1_bd (M := M) (i + 1) (f := g) (fun j hj => (hg j (by omega)).2)
    have b3 : ((i + 1 : Nat) : Int) * M ≤ 36 * M := Int.mul_le_mul_of_nonneg_right (by omega) hM
    have e : S1 g (i + 1) = S1 g i + g i := rfl
    obtain ⟨a1, a2⟩ := U_add hs g1 (by rw [← e]; omega)
    rw [if_pos (by omega), if_pos (by omega), if_pos (by omega), if_pos a1, w64 (by omega) (by omega)]
    exact ih (i + 1) _ m (by omega) a2
theorem sum_mk {w h : Nat} (hw : Side w) (hh : Side h) {v : Int → Int → Nat} {n : Int → Int → Int} {M : Int} (hv : UB v n M) (hM2 : 36 * M < 16777216) {k : Nat} (hk : 60 ≤ k) : Ret (B0.impl_sum.f k (mk w h v)) (fun t => U t (S2 w h n)) := by
  have hM : 0 ≤ M := by have := hv 0 0; omega
  have m1 : w * h ≤ 6 * 6 := Nat.mul_le_mul hw.2 hh.2
  have := sum_u (l := mk w h v) (g := fun i => n ((i % w : Nat) : Int) ((i / w : Nat) : Int)) hM (by rw [mk_len]; omega) hM2 (fun i hi => by rw [mk_len] at hi; rw [mk_i hi]; exact hv _ _) (w * h) 0 0 (k - (w * h + 1)) (by rw [mk_len]; omega) U_zero
  rw [show w * h + 1 + (k - (w * h + 1)) = k by omega] at this
  unfold B0.impl_sum.f
  refine this.mono fun t ht => ?_
  rwa [mk_len, S1_rows (by have := hw.1; omega)] at ht
theorem toldN_of {x : Nat} (h : Fin x) : B0.impl_toldNumber.f x = some (x, true) := by
  obtain ⟨v, hv⟩ := h
  unfold B0.impl_toldNumber.f XL.IsFinite.f
  rw [fin_of hv]
  rfl
theorem total_mk {w h : Nat} (hw : Side w) (hh : Side h) {v : Int → Int → Nat} {n : Int → Int → Int} {M : Int} (hv : UB v n M) (hM2 : 36 * M < 16777216) {k : Nat} (hk : 60 ≤ k) :
    Ret (B0.impl_TotalInBasin.f k w h (mk w h v)) (fun t => U t.1 (S2 w h n) ∧ t.2 = true) := by
  unfold B0.impl_TotalInBasin.f
  rw [valid_of hw hh hv.fin]
  simp only [Option.bind_some, if_true]
  refine (sum_mk hw hh hv hM2 hk).bind fun t ht => ?_
  rw [toldN_of ⟨_, ht⟩]
  exact Ret.of ⟨ht, rfl⟩
theorem wide {x : Nat} {v : Rat} (h : Fk .f32 x v) : cok .f32 x .f64 = true ∧ Fk .f64 (cvt .f32 x .f64) v := by
  obtain ⟨r, h1, h2⟩ := wide_val h
  unfold cok cvt
  rw [h1]
  exact ⟨rfl, h2⟩
theorem gap_of {x y : Nat} {a b : Rat} (hx : Fk .f64 x a) (hy : Fk .f64 y b) (hr : Rep double (a - b)) (hb : Bd 100 (a - b)) : Ret (B0.laws_r8Gap.f x y) (fun r => Fk .f64 r (if a - b < 0 then b - a else a - b)) := by
  have e : b - a = -(a - b) := by grind
  have hr2 : Rep double (b - a) := by
    obtain ⟨n, t, h1, h2, h3⟩ := hr
    exact ⟨-n, t, by rw [e, h1, Rat.intCast_neg, Rat.neg_mul], by rwa [Int.natAbs_neg], h3⟩
  have hb2 : Bd 100 (b - a) := by
    unfold Bd at hb ⊢
    rw [e]
    grind
  obtain ⟨r, c, h1, h2, -, h4⟩ := sub_val (f := double) (.inr rfl) hx hy hb (by decide)
  obtain ⟨r', c', h1', h2', -, h4'⟩ := sub_val (f := double) (.inr rfl) hy hx hb2 (by decide)
  have := h4 hr
  subst this
  have := h4' hr2
  subst this
  obtain ⟨g1, g2⟩ := fok_of (op := .sub) (k := .f64) h1
  obtain ⟨g1', g2'⟩ := fok_of (op := .sub) (k := .f64) h1'
  unfold B0.laws_r8Gap.f
  rw [if_pos g1, if_pos g1', g2, g2']
  have ho : FloatKind.f64.format.order r r' = some (FR.cmp (a - b) (b - a)) := order_val h2 h2'
  have hm : fmok .f64 r r' = true := by unfold fmok; rw [ho]; rfl
  rw [if_pos hm]
  refine Ret.of ?_
  unfold fmx
  rw [ho]
  unfold FR.cmp
  by_cases c1 : a - b < 0
  · rw [if_pos c1, if_pos (show a - b < b - a by grind)]
    exact h2'
  · rw [if_neg c1, if_neg (show ¬ a - b < b - a by grind)]
    by_cases c2 : a - b = b - a
    · rw [if_pos c2]
      show Fk .f64 (if _ then r' else r) _
      split
      · rw [c2]; exact h2'
      · exact h2
    · rw [if_neg c2]
      exact h2
def kap : Rat := (4611686018427388 : Rat) * (2 : Rat) ^ (-62 : Int)
theorem f_kap : Fk .f64 4562254508917369340 kap := ⟨false, 4611686018427388, -62, by decide, by decide +kernel⟩
end PA
end Go.Proofs.Ytelkklnfbfmecaa
end
section
namespace Go.Proofs.Ytelkklnfbfmecaa
open Go.RowKit YtelkklnfbfmecaaW.PrintWords YtelkklnfbfmecaaW.PrintLast Ieee
namespace PA
open FR PU XL
theorem nan_of {x : Nat} {v : Rat} (h : Fk .f32 x v) : XF.isn .f32 x = false := by
  obtain ⟨s, m, e, h1, -⟩ := h
  unfold XF.isn
  rw [h1]
  rfl
theorem same_of {l : List Nat} (hl : l.length ≤ 36) (hf : ∀ i, i < l.length → Fin (rdOf (0 : Nat) l (i : Int))) :
    ∀ (r i m : Nat), i + r = l.length → B0.slices_EqualFunc_float32_float32_float32_float32.l0 (r + 1 + m) l l (l.length : Int) (i : Int) = some true := by
  intro r
  induction r with
  | zero =>
    intro i m hi
    rw [show 0 + 1 + m = m + 1 by omega]
    unfold B0.slices_EqualFunc_float32_float32_float32_float32.l0
    rw [if_neg (by omega)]
  | succ r ih =>
    intro i m hi
    rw [show r + 1 + 1 + m = (r + 1 + m) + 1 by omega]
    unfold B0.slices_EqualFunc_float32_float32_float32_float32.l0
    obtain ⟨v, hv⟩ := hf i (by omega)
    have e : XM.SameNumber.f (rdOf (0 : Nat) l (i : Int)) (rdOf (0 : Nat) l (i : Int)) = some true := by
      unfold XM.SameNumber.f XM.smn
      rw [nan_of hv]
      simp
    rw [if_pos (by omega), if_pos (by omega), if_pos (by omega), if_pos (by omega), e]
    simp only [Option.bind_some, if_true]
    rw [w64 (by omega) (by omega)]
    exact ih (i + 1) m (by omega)
theorem sameB_of {w h : Nat} (hw : Side w) (hh : Side h) {v : Int → Int → Nat} (hf : ∀ x y, Fin (v x y)) {k : Nat} (hk : 60 ≤ k) : B0.impl_SameBasin.f k w h (mk w h v) w h (mk w h v) = some true := by
  have m1 : w * h ≤ 6 * 6 := Nat.mul_le_mul hw.2 hh.2
  have := same_of (l := mk w h v) (by rw [mk_len]; omega) (fun i hi => by rw [mk_len] at hi; rw [mk_i hi]; exact hf _ _) (w * h) 0 (k - (w * h + 1)) (by rw [mk_len]; omega)
  rw [show w * h + 1 + (k - (w * h + 1)) = k by omega] at this
  unfold B0.impl_SameBasin.f B0.impl_sameList.f B0.slices_EqualFunc_float32_float32_float32_float32.f
  rw [if_pos rfl, if_pos rfl, if_pos rfl]
  have e0 : ((0 : Nat) : Int) = 0 := rfl
  rw [e0] at this
  rw [this]
  rfl
theorem mk_of {w h : Nat} (hw : Side w) (hh : Side h) {l : List Nat} (hl : l.length = w * h) : ∃ v, Per w h v ∧ l = mk w h v ∧ ∀ x y, v x y ∈ l := by
  have w1 := hw.1
  have h1 := hh.1
  have lt : ∀ x y : Int, ((x % (w : Int)).toNat + w * (y % (h : Int)).toNat) < l.length := by
    intro x y
    have a2 := Int.emod_lt_of_pos x (show (0 : Int) < w by omega)
    have b2 := Int.emod_lt_of_pos y (show (0 : Int) < h by omega)
    have a1 := Int.emod_nonneg x (show (w : Int) ≠ 0 by omega)
    have b1 := Int.emod_nonneg y (show (h : Int) ≠ 0 by omega)
    have := Nat.mul_le_mul_left w (show (y % (h : Int)).toNat + 1 ≤ h by omega)
    rw [Nat.mul_add, Nat.mul_one] at this
    omega
  refine ⟨fun x y => l[(x % (w : Int)).toNat + w * (y % (h : Int)).toNat]'(lt x y), ?_, ?_, fun x y => List.getElem_mem _⟩
  · intro x y
    simp only [Int.emod_emod]
  · refine List.ext_getElem (by rw [mk_len, hl]) fun i hi hi2 => ?_
    simp only [mk, List.getElem_map, List.getElem_range]
    congr 1
    have d : i / w < h := Nat.div_lt_of_lt_mul (by rw [← hl]; exact hi)
    have m : i % w < w := Nat.mod_lt _ (by omega)
    rw [Int.emod_eq_of_lt (Int.natCast_nonneg _) (Int.ofNat_lt.2 m), Int.emod_eq_of_lt (Int.natCast_nonneg _) (Int.ofNat_lt.2 d), Int.toNat_natCast, Int.toNat_natCast]
    exact (Nat.mod_add_div i w).symm
def Qs (j : Nat) (l : List Nat) : Prop := ∀ x ∈ l, ∃ m : Int, U x (m * 2 ^ (6 - j)) ∧ -8 ≤ m ∧ m ≤ 8
theorem draw_ok {b : List Int} (hb : okS b) {w h : Nat} (hw : Side w) (hh : Side h) :
    ∀ (r i m : Nat) (p s : Int) (l : List Nat), i + r = w * h → l.length = i → 0 ≤ p → p ≤ 1000 + 2 * i → Qs 2 l →
      Ret (B0.spec_l04DrawOk.l0 (r + 1 + m) i b p s w h l) (fun t => t.1 = w ∧ t.2.1 = h ∧ t.2.2.1.length = w * h ∧ Qs 2 t.2.2.1) := by
  have m1 : w * h ≤ 6 * 6 := Nat.mul_le_mul hw.2 hh.2
  have e : wrap64 ((w : Int) * (h : Int)) = ((w * h : Nat) : Int) := (size_of hw hh).symm
  intro r
  induction r with
  | zero =>
    intro i m p s l hi hl hp hp2 hq
    rw [show 0 + 1 + m = m + 1 by omega]
    unfold B0.spec_l04DrawOk.l0
    rw [e, if_neg (by omega)]
    exact Ret.of ⟨rfl, rfl, by show l.length = w * h; omega, hq⟩
  | succ r ih =>
    intro i m p s l hi hl hp hp2 hq
    rw [show r + 1 + 1 + m = (r + 1 + m) + 1 by omega]
    unfold B0.spec_l04DrawOk.l0
    obtain ⟨v, p', s', e1, v0, v1, p0, p1⟩ := pick_ok hb p s 17 hp (by omega) (by omega)
    rw [e, if_pos (by omega), e1]
    simp only [Option.bind_some]
    rw [w64 (n := v - 8) (by omega) (by omega)]
    obtain ⟨q1, q2⟩ := U_quo (j := 2) (n := v - 8) (by decide) f_four' (by omega)
    rw [if_pos q1, if_pos (by omega), w64 (by omega) (by omega)]
    refine ih (i + 1) m p' s' _ (by omega) (by rw [List.length_append, hl]; rfl) p0 (by push_cast; omega) fun x hx => ?_
    rcases List.mem_append.1 hx with c | c
    · exact hq x c
    · rw [List.mem_singleton.1 c]
      exact ⟨_, q2, by omega, by omega⟩
theorem basin_ok {b : List Int} (hb : okS b) {k : Nat} (hk : 60 ≤ k) : ∃ (w h : Nat) (l : List Nat), B0.spec_R8Basin.f k b = some ((w : Int), (h : Int), l) ∧ Side w ∧ Side h ∧ l.length = w * h ∧ Qs 2 l := by
  unfold B0.spec_R8Basin.f B0.spec_l00From.f B0.spec_l04DrawOk.f
  simp only [Option.bind_some]
  obtain ⟨v, p, s, e1, v0, v1, p0, p1⟩ := pick_ok hb 0 0 4 (by omega) (by omega) (by omega)
  rw [e1]
  simp only [Option.bind_some]
  obtain ⟨u, p', s', e2, u0, u1, p0', p1'⟩ := pick_ok hb p s 4 (by omega) (by omega) (by omega)
  rw [e2]
  unfold B0.spec_l04New.f
  simp only [Option.bind_some]
  rw [w64 (n := 3 + v) (by omega) (by omega), w64 (n := 3 + u) (by omega) (by omega)]
  obtain ⟨w, hw⟩ := Int.eq_ofNat_of_zero_le (show 0 ≤ 3 + v by omega)
  obtain ⟨h, hh⟩ := Int.eq_ofNat_of_zero_le (show 0 ≤ 3 + u by omega)
  rw [hw, hh]
  have sw : Side w := ⟨by omega, by omega⟩
  have sh : Side h := ⟨by omega, by omega⟩
  have m1 : w * h ≤ 6 * 6 := Nat.mul_le_mul sw.2 sh.2
  obtain ⟨t, ht, t1, t2, t3, t4⟩ := draw_ok hb sw sh (w * h) 0 (k - (w * h + 1)) p' s' [] (by omega) rfl (by omega) (by omega) (fun x hx => by cases hx)
  rw [show w * h + 1 + (k - (w * h + 1)) = k by omega] at ht
  have e0 : ((0 : Nat) : Int) = 0 := rfl
  rw [e0] at ht
  rw [ht]
  exact ⟨w, h, t.2.2.1, by simp only [Option.bind_some]; rw [t1, t2], sw, sh, t3, t4⟩
theorem like_loop {b : List Int} (hb : okS b) {w h : Nat} (hw : Side w) (hh : Side h) {a : List Nat} (ha : a.length = w * h) :
    ∀ (r i m : Nat) (p s : Int) (l : List Nat), i + r = w * h → l.length = i → 0 ≤ p → p ≤ 1000 + 2 * i → Qs 3 l →
      Ret (BK.spec_l04DrawLike.l0 (r + 1 + m) i b p s w h a w h l) (fun t => t.1 = w ∧ t.2.1 = h ∧ t.2.2.1.length = w * h ∧ Qs 3 t.2.2.1) := by
  have m1 : w * h ≤ 6 * 6 := Nat.mul_le_mul hw.2 hh.2
  intro r
  induction r with
  | zero =>
    intro i m p s l hi hl hp hp2 hq
    rw [show 0 + 1 + m = m + 1 by omega]
    unfold BK.spec_l04DrawLike.l0
    rw [ha, if_neg (by omega)]
    exact Ret.of ⟨rfl, rfl, by show l.length = w * h; omega, hq⟩
  | succ r ih =>
    intro i m p s l hi hl hp hp2 hq
    rw [show r + 1 + 1 + m = (r + 1 + m) + 1 by omega]
    unfold BK.spec_l04DrawLike.l0
    obtain ⟨v, p', s', e1, v0, v1, p0, p1⟩ := pick_ok hb p s 17 hp (by omega) (by omega)
    rw [ha, if_pos (by omega), e1]
    simp only [Option.bind_some]
    rw [w64 (n := v - 8) (by omega) (by omega)]
    obtain ⟨q1, q2⟩ := U_quo (j := 3) (n := v - 8) (by decide) f_eight' (by omega)
    rw [if_pos q1, if_pos (by omega), w64 (by omega) (by omega)]
    refine ih (i + 1) m p' s' _ (by omega) (by rw [List.length_append, hl]; rfl) p0 (by push_cast; omega) fun x hx => ?_
    rcases List.mem_append.1 hx with c | c
    · exact hq x c
    · rw [List.mem_singleton.1 c]
      exact ⟨_, q2, by omega, by omega⟩
theorem like_ok {b : List Int} (hb : okS b) {w h : Nat} (hw : Side w) (hh : Side h) {a : List Nat} (ha : a.length = w * h) {k : Nat} (hk : 60 ≤ k) : ∃ l, BK.spec_R8Like.f k b w h a = some ((w : Int), (h : Int), l) ∧ l.length = w * h ∧ Qs 3 l := by
  have m1 : w * h ≤ 6 * 6 := Nat.mul_le_mul hw.2 hh.2
  unfold BK.spec_R8Like.f B0.spec_l00From.f BK.spec_l04DrawLike.f B0.spec_l04New.f
  simp only [Option.bind_some]
  obtain ⟨t, ht, t1, t2, t3, t4⟩ := like_loop hb hw hh ha (w * h) 0 (k - (w * h + 1)) 0 0 [] (by omega) rfl (by omega) (by omega) (fun x hx => by cases hx)
  rw [show w * h + 1 + (k - (w * h + 1)) = k by omega] at ht
  have e0 : ((0 : Nat) : Int) = 0 := rfl
  rw [e0] at ht
  rw [ht]
  exact ⟨t.2.2.1, by simp only [Option.bind_some]; rw [t1, t2], t3, t4⟩
theorem qs_ub {w h : Nat} {j : Nat} {v : Int → Int → Nat} (hq : Qs j (mk w h v)) (hm : ∀ x y, v x y ∈ mk w h v) : ∃ n : Int → Int → Int, ∀ x y, U (v x y) (n x y * 2 ^ (6 - j)) ∧ -8 ≤ n x y ∧ n x y ≤ 8 :=
  ⟨fun x y => (hq _ (hm x y)).choose, fun x y => (hq _ (hm x y)).choose_spec⟩
end PA
end Go.Proofs.Ytelkklnfbfmecaa
end
section
namespace Go.Proofs.Ytelkklnfbfmecaa
open Go.RowKit YtelkklnfbfmecaaW.PrintWords YtelkklnfbfmecaaW.PrintLast Ieee
namespace PA
open FR PU XA XAB
theorem f01 {xv n : Rat} {x u : Nat} (hx : Fk .f32 x xv) (hu : Fk .f32 u n) (h1 : n ≤ xv) (h2 : xv < n + 1) : fok .sub .f32 x u = true ∧ B (101 / 100) (fop .sub .f32 x u) := by
  obtain ⟨r, c, a1, a2, a3, -⟩ := sub_val (f := single) (.inl rfl) hx hu (J := 1) (bound (P := 2) (M := 1) (K := 0) (by decide +kernel) (by grind) (by grind) (by decide +kernel)) (by decide)
  obtain ⟨g1, g2⟩ := fok_of (op := .sub) (k := .f32) a1
  have hh : FR.hu single 1 ≤ 1 / 100 := by decide +kernel
  unfold Nr at a3
  rw [g2]
  exact ⟨g1, c, a2, by grind, by grind⟩
theorem place16 {x : Nat} {α : Int} (h : E 4 x α) (h1 : -800 ≤ α) (h2 : α ≤ 800) : ∃ r : Nat, fle .f32 (XA.ab32 x) 1148846080 = true ∧ cok .f32 x .f64 = true ∧ XA.Floor.f (cvt .f32 x .f64) = some r ∧ cok .f64 r .f32 = true ∧ fik .f32 (cvt .f64 r .f32) .i64 = true ∧ fiv .f32 (cvt .f64 r .f32) .i64 = α / 16 ∧ fok .sub .f32 x (cvt .f64 r .f32) = true ∧ E 4 (fop .sub .f32 x (cvt .f64 r .f32)) (α % 16) := by
 have p4 : (2 : Rat) ^ (-((4 : Nat) : Int)) = 1 / 16 := by decide +kernel
 have hx := h
 unfold E at hx
 rw [p4] at hx
 have c1 : ((-800 : Int) : Rat) ≤ (α : Rat) := Rat.intCast_le_intCast.2 h1
 have c2 : (α : Rat) ≤ ((800 : Int) : Rat) := Rat.intCast_le_intCast.2 h2
 have e1 : ((-800 : Int) : Rat) = -800 := rfl
 have e2 : ((800 : Int) : Rat) = 800 := rfl
 rw [e1] at c1
 rw [e2] at c2
 obtain ⟨r, n, a1, a2, a3, a4, a5, a6, a7, a8, a9, a10, a11⟩ := below_of hx (by grind) (by grind)
 have hn : n = α / 16 := by
  have k1 : ((n * 16 : Int) : Rat) ≤ (α : Rat) := by rw [Rat.intCast_mul]; have : ((16 : Int) : Rat) = 16 := rfl; rw [this]; grind
  have k2 : (α : Rat) < ((n * 16 + 16 : Int) : Rat) := by rw [Rat.intCast_add, Rat.intCast_mul]; have : ((16 : Int) : Rat) = 16 := rfl; rw [this]; grind
  have k1' := Rat.intCast_le_intCast.1 k1
  have k2' := Rat.intCast_lt_intCast.1 k2
  omega
 have u4 : E 4 (cvt .f64 r .f32) (n * 2 ^ 4) := E_up (E_int.2 a5) 4
 obtain ⟨s1, s2⟩ := E_sub (by decide) h u4 (by omega)
 refine ⟨r, a1, a2, a3, a4, a6, by rw [a7, hn], s1, ?_⟩
 rwa [show α - n * 2 ^ 4 = α % 16 by omega] at s2
def rowN (n : Int → Int → Int) (f i j : Int) : Int := 16 * n i j + f * (n (i + 1) j - n i j)
theorem prod_bd {p q P Q : Int} (h1 : 0 ≤ p) (h2 : p ≤ P) (h3 : -Q ≤ q) (h4 : q ≤ Q) : -(P * Q) ≤ p * q ∧ p * q ≤ P * Q := by
  have hQ : 0 ≤ Q := by omega
  have k1 := Int.mul_le_mul_of_nonneg_left h4 h1
  have k2 := Int.mul_le_mul_of_nonneg_left h3 h1
  have k3 := Int.mul_le_mul_of_nonneg_right h2 hQ
  rw [Int.mul_neg] at k2
  constructor <;> omega
def cellN (n : Int → Int → Int) (α β : Int) : Int := 16 * rowN n (α % 16) (α / 16) (β / 16) + β % 16 * (rowN n (α % 16) (α / 16) (β / 16 + 1) - rowN n (α % 16) (α / 16) (β / 16))
section
variable {w h : Nat} (hw : Side w) (hh : Side h) {a : Int → Int → Nat} (hp : Per w h a)
include hw hh hp
theorem row_bd {M : Rat} (hM0 : 0 ≤ M) (hM : M ≤ 1000) (ha : ∀ x y, B M (a x y)) {i j : Int} (hi : -1000 ≤ i) (hi2 : i ≤ 998) (hj : -1000 ≤ j) (hj2 : j ≤ 1000) {f : Nat} (hf : B (101 / 100) f) :
    Ret (row.f j w h (mk w h a) i f) (fun t => B (31 / 10 * M + 1 / 10) t) := by
  unfold row.f
  rw [w64 (n := i + 1) (by omega) (by omega), at_of hw hh hp (by omega) (by omega) (by omega) (by omega), at_of hw hh hp (by omega) (by omega) (by omega) (by omega)]
  simp only [Option.bind_some]
  obtain ⟨s1, s2⟩ := B_sub (ha (i + 1) j) (ha i j) (by grind)
  obtain ⟨m1, m2⟩ := B_mul hf s2 (by grind)
  obtain ⟨t1, t2⟩ := B_add (ha i j) m2 (by grind)
  rw [if_pos s1, if_pos m1, if_pos t1]
  exact Ret.of (t2.mono (by grind))
theorem about_bd {M : Rat} (hM0 : 0 ≤ M) (hM : M ≤ 100) (ha : ∀ x y, B M (a x y)) {X Y : Nat} (hX : B 900 X) (hY : B 900 Y) :
    Ret (about.f w h (mk w h a) X Y) (fun t => t.2 = true ∧ B (10 * M + 1) t.1) := by
  obtain ⟨xv, x1, x2, x3⟩ := hX
  obtain ⟨yv, y1, y2, y3⟩ := hY
  obtain ⟨fx, n, a1, a2, a3, a4, a5, a6, a7, a8, a9, a10, a11⟩ := below_of x1 x2 x3
  obtain ⟨fy, m, b1, b2, b3, b4, b5, b6, b7, b8, b9, b10, b11⟩ := below_of y1 y2 y3
  obtain ⟨f1, f2⟩ := f01 x1 a5 a8 a9
  obtain ⟨g1, g2⟩ := f01 y1 b5 b8 b9
  unfold about.f
  rw [if_pos a1, if_pos b1, if_pos a2, a3]
  simp only [Option.bind_some]
  rw [if_pos a4, if_pos b2, b3]
  simp only [Option.bind_some]
  rw [if_pos b4, if_pos a6, if_pos b6, if_pos f1, if_pos g1, a7, b7]
  obtain ⟨p, p1, p2⟩ := row_bd hw hh hp hM0 (by grind) ha (i := n) (j := m) (by omega) (by omega) (by omega) (by omega) f2
  obtain ⟨q, q1, q2⟩ := row_bd hw hh hp hM0 (by grind) ha (i := n) (j := m + 1) (by omega) (by omega) (by omega) (by omega) f2
  rw [p1, w64 (n := m + 1) (by omega) (by omega)]
  simp only [Option.bind_some]
  rw [q1]
  simp only [Option.bind_some]
  obtain ⟨s1, s2⟩ := B_sub q2 p2 (by grind)
  obtain ⟨m1, m2⟩ := B_mul g2 s2 (by grind)
  obtain ⟨t1, t2⟩ := B_add p2 m2 (by grind)
  rw [if_pos s1, if_pos m1, if_pos t1]
  exact Ret.of ⟨rfl, t2.mono (by grind)⟩
theorem row_ex {n : Int → Int → Int} (ha : ∀ x y, U (a x y) (16 * n x y) ∧ -8 ≤ n x y ∧ n x y ≤ 8) {i j : Int} (hi : -1000 ≤ i) (hi2 : i ≤ 998) (hj : -1000 ≤ j) (hj2 : j ≤ 1000) {f : Nat} {φ : Int} (hf : E 4 f φ) (h0 : 0 ≤ φ) (h1 : φ ≤ 15) :
    Ret (row.f j w h (mk w h a) i f) (fun t => U t (rowN n φ i j) ∧ -512 ≤ rowN n φ i j ∧ rowN n φ i j ≤ 512) := by
  unfold row.f
  rw [w64 (n := i + 1) (by omega) (by omega), at_of hw hh hp (by omega) (by omega) (by omega) (by omega), at_of hw hh hp (by omega) (by omega) (by omega) (by omega)]
  simp only [Option.bind_some]
  obtain ⟨u1, u2, u3⟩ := ha i j
  obtain ⟨v1, v2, v3⟩ := ha (i + 1) j
  have e1 : E 2 (a i j) (n i j) := E_down (j := 2) (k := 4) (by rw [show n i j * 2 ^ 4 = 16 * n i j by omega]; exact u1)
  have e2 : E 2 (a (i + 1) j) (n (i + 1) j) := E_down (j := 2) (k := 4) (by rw [show n (i + 1) j * 2 ^ 4 = 16 * n (i + 1) j by omega]; exact v1)
  obtain ⟨s1, s2⟩ := E_sub (by decide) e2 e1 (by omega)
  obtain ⟨pb1, pb2⟩ := prod_bd (p := φ) (q := n (i + 1) j - n i j) (P := 15) (Q := 16) h0 h1 (by omega) (by omega)
  obtain ⟨m1, m2⟩ := E_mul (by decide) hf s2 (by omega)
  have e3 : E 6 (a i j) (16 * n i j) := u1
  obtain ⟨t1, t2⟩ := E_add (by decide) e3 m2 (by omega)
  rw [if_pos s1, if_pos m1, if_pos t1]
  exact Ret.of ⟨t2, by unfold rowN; omega, by unfold rowN; omega⟩
theorem about_ex {n : Int → Int → Int} (ha : ∀ x y, U (a x y) (16 * n x y) ∧ -8 ≤ n x y ∧ n x y ≤ 8) {X Y : Nat} {α β : Int} (hX : E 4 X α) (hY : E 4 Y β) (x1 : -800 ≤ α) (x2 : α ≤ 800) (y1 : -800 ≤ β) (y2 : β ≤ 800) :
  Ret (about.f w h (mk w h a) X Y) (fun t => t.2 = true ∧ E 10 t.1 (cellN n α β)) := by
 obtain ⟨fx, a1, a2, a3, a4, a6, a7, f1, f2⟩ := place16 hX x1 x2
 obtain ⟨fy, b1, b2, b3, b4, b6, b7, g1, g2⟩ := place16 hY y1 y2
 unfold about.f
 rw [if_pos a1, if_pos b1, if_pos a2, a3]
 simp only [Option.bind_some]
 rw [if_pos a4, if_pos b2, b3]
 simp only [Option.bind_some]
 rw [if_pos b4, if_pos a6, if_pos b6, if_pos f1, if_pos g1, a7, b7]
 obtain ⟨p, p1, p2, p3, p4⟩ := row_ex hw hh hp ha (i := α / 16) (j := β / 16) (by omega) (by omega) (by omega) (by omega) f2 (by omega) (by omega)
 obtain ⟨q, q1, q2, q3, q4⟩ := row_ex hw hh hp ha (i := α / 16) (j := β / 16 + 1) (by omega) (by omega) (by omega) (by omega) f2 (by omega) (by omega)
 rw [p1, w64 (n := β / 16 + 1) (by omega) (by omega)]
 simp only [Option.bind_some]
 rw [q1]
 simp only [Option.bind_some]
 have p2' : E 6 p _ := p2
 have q2' : E 6 q _ := q2
 obtain ⟨s1, s2⟩ := E_sub (by decide) q2' p2' (by omega)
 obtain ⟨pb1, pb2⟩ := prod_bd (p := β % 16) (q := rowN n (α % 16) (α / 16) (β / 16 + 1) - rowN n (α % 16) (α / 16) (β / 16)) (P := 15) (Q := 1024) (by omega) (by omega) (by omega) (by omega)
 obtain ⟨m1, m2⟩ := E_mul (by decide) g2 s2 (by omega)
 have p10 : E 10 p (rowN n (α % 16) (α / 16) (β / 16) * 2 ^ 4) := E_up p2' 4
 obtain ⟨t1, t2⟩ := E_add (by decide) p10 m2 (by omega)
 rw [if_pos s1, if_pos m1, if_pos t1]
 refine Ret.of ⟨rfl, ?_⟩
 rwa [show rowN n (α % 16) (α / 16) (β / 16) * 2 ^ 4 + β % 16 * (rowN n (α % 16) (α / 16) (β / 16 + 1) - rowN n (α % 16) (α / 16) (β / 16)) = cellN n α β by unfold cellN; omega] at t2
end
theorem row_in {n : Int → Int → Int} {l u : Int} (h : ∀ x y, l ≤ n x y ∧ n x y ≤ u) {f i j : Int} (h0 : 0 ≤ f) (h1 : f ≤ 16) : 16 * l ≤ rowN n f i j ∧ rowN n f i j ≤ 16 * u := by
  have a := h i j
  have b := h (i + 1) j
  have e : rowN n f i j = (16 - f) * n i j + f * n (i + 1) j := by unfold rowN; grind
  have k1 := Int.mul_le_mul_of_nonneg_left a.1 (show 0 ≤ 16 - f by omega)
  have k2 := Int.mul_le_mul_of_nonneg_left a.2 (show 0 ≤ 16 - f by omega)
  have k3 := Int.mul_le_mul_of_nonneg_left b.1 h0
  have k4 := Int.mul_le_mul_of_nonneg_left b.2 h0
  have e1 : (16 - f) * l + f * l = 16 * l := by grind
  have e2 : (16 - f) * u + f * u = 16 * u := by grind
  rw [e]
  constructor <;> omega
theorem cell_in {n : Int → Int → Int} {l u : Int} (h : ∀ x y, l ≤ n x y ∧ n x y ≤ u) (α β : Int) : 256 * l ≤ cellN n α β ∧ cellN n α β ≤ 256 * u := by
  have a := row_in h (f := α % 16) (i := α / 16) (j := β / 16) (by omega) (by omega)
  have b := row_in h (f := α % 16) (i := α / 16) (j := β / 16 + 1) (by omega) (by omega)
  generalize hp : rowN n (α % 16) (α / 16) (β / 16) = p at *
  generalize hq : rowN n (α % 16) (α / 16) (β / 16 + 1) = q at *
  have e : cellN n α β = (16 - β % 16) * p + β % 16 * q := by unfold cellN; rw [hp, hq]; grind
  have h0 : 0 ≤ β % 16 := by omega
  have h1 : β % 16 ≤ 16 := by omega
  generalize β % 16 = f at *
  have k1 := Int.mul_le_mul_of_nonneg_left a.1 (show 0 ≤ 16 - f by omega)
  have k2 := Int.mul_le_mul_of_nonneg_left a.2 (show 0 ≤ 16 - f by omega)
  have k3 := Int.mul_le_mul_of_nonneg_left b.1 h0
  have k4 := Int.mul_le_mul_of_nonneg_left b.2 h0
  have e1 : (16 - f) * (16 * l) + f * (16 * l) = 256 * l := by grind
  have e2 : (16 - f) * (16 * u) + f * (16 * u) = 256 * u := by grind
  rw [e]
  constructor <;> omega
theorem cell_whole {n : Int → Int → Int} (i j : Int) : cellN n (16 * i) (16 * j) = 256 * n i j := by
  unfold cellN rowN
  rw [show 16 * i % 16 = 0 by omega, show 16 * i / 16 = i by omega, show 16 * j % 16 = 0 by omega, show 16 * j / 16 = j by omega]
  grind
end PA
end Go.Proofs.Ytelkklnfbfmecaa
end
section
namespace Go.Proofs.Ytelkklnfbfmecaa
open Go.RowKit YtelkklnfbfmecaaW.PrintWords YtelkklnfbfmecaaW.PrintLast Ieee
namespace PA
open FR PU XL
def ulp : Rat := (2 : Rat) ^ (-17 : Int)
theorem ulp_pos : 0 < ulp := pw_pos _
theorem hu8 : hu single 8 = ulp := by decide +kernel
theorem hu3 : hu single 3 = ulp * (1 / 32) := by decide +kernel
theorem ulp_le : ulp ≤ 1 / 131072 := by decide +kernel
def evnV (a : Int → Int → Nat) (e : Nat) : Int → Int → Nat := fun x y => fop .sub .f32 (a x y) e
end PA
end Go.Proofs.Ytelkklnfbfmecaa
end
section
namespace Go.Proofs.Ytelkklnfbfmecaa
open Go.RowKit YtelkklnfbfmecaaW.PrintWords YtelkklnfbfmecaaW.PrintLast Ieee
namespace PA
open FR PU XA
def EB (j : Nat) (v : Int → Int → Nat) (n : Int → Int → Int) (M : Int) : Prop := ∀ x y, E j (v x y) (n x y) ∧ -M ≤ n x y ∧ n x y ≤ M
theorem EB.fin {j : Nat} {v : Int → Int → Nat} {n : Int → Int → Int} {M : Int} (h : EB j v n M) : ∀ x y, Fin (v x y) := fun x y => ⟨_, (h x y).1⟩
theorem e_four : E 0 1082130432 4 := E_int.2 f_four
theorem e_lap {w h : Nat} (hw : Side w) (hh : Side h) {j : Nat} (hj : j ≤ 50) {a : Int → Int → Nat} {n : Int → Int → Int} {M : Int} (hp : Per w h a) (ha : EB j a n M) (hM : 8 * M < 16777216) : EB j (lapV a) (lapN n) (8 * M) ∧
  ∀ x y : Nat, x < w → y < h → B0.impl_Basin_laplace.f w h (mk w h a) x y = some (lapV a x y) := by
 have key : ∀ x y : Int, (fok .add .f32 (a (x - 1) y) (a (x + 1) y) = true) ∧ (fok .add .f32 (a x (y - 1)) (a x (y + 1)) = true) ∧ (fok .add .f32 (fop .add .f32 (a (x - 1) y) (a (x + 1) y)) (fop .add .f32 (a x (y - 1)) (a x (y + 1))) = true) ∧ (fok .mul .f32 1082130432 (a x y) = true) ∧
   (fok .sub .f32 (fop .add .f32 (fop .add .f32 (a (x - 1) y) (a (x + 1) y)) (fop .add .f32 (a x (y - 1)) (a x (y + 1)))) (fop .mul .f32 1082130432 (a x y)) = true) ∧ E j (lapV a x y) (lapN n x y) ∧ -(8 * M) ≤ lapN n x y ∧ lapN n x y ≤ 8 * M := by
  intro x y
  obtain ⟨a1, a2, a3⟩ := ha (x - 1) y
  obtain ⟨b1, b2, b3⟩ := ha (x + 1) y
  obtain ⟨c1, c2, c3⟩ := ha x (y - 1)
  obtain ⟨d1, d2, d3⟩ := ha x (y + 1)
  obtain ⟨e1, e2, e3⟩ := ha x y
  obtain ⟨p1, p2⟩ := E_add (by omega) a1 b1 (by omega)
  obtain ⟨q1, q2⟩ := E_add (by omega) c1 d1 (by omega)
  obtain ⟨r1, r2⟩ := E_add (by omega) p2 q2 (by omega)
  obtain ⟨s1, s2⟩ := E_mul (by omega) e_four e1 (by omega)
  rw [Nat.zero_add] at s2
  obtain ⟨t1, t2⟩ := E_sub (by omega) r2 s2 (by omega)
  refine ⟨p1, q1, r1, s1, t1, t2, ?_, ?_⟩ <;> unfold lapN <;> omega
 refine ⟨fun x y => (key x y).2.2.2.2.2, fun x y hx hy => ?_⟩
 obtain ⟨k1, k2, k3, k4, k5, -⟩ := key x y
 have := hw.2
 have := hh.2
 unfold B0.impl_Basin_laplace.f B0.impl_Basin_around.f
 rw [w64 (n := (x : Int) - 1) (by omega) (by omega), w64 (n := (x : Int) + 1) (by omega) (by omega), w64 (n := (y : Int) - 1) (by omega) (by omega), w64 (n := (y : Int) + 1) (by omega) (by omega)]
 rw [at_of hw hh hp (by omega) (by omega) (by omega) (by omega), at_of hw hh hp (by omega) (by omega) (by omega) (by omega), at_of hw hh hp (by omega) (by omega) (by omega) (by omega), at_of hw hh hp (by omega) (by omega) (by omega) (by omega), at_of hw hh hp (by omega) (by omega) (by omega) (by omega)]
 simp only [Option.bind_some]
 rw [if_pos k1, if_pos k2, if_pos k3]
 simp only [Option.bind_some]
 rw [if_pos k4, if_pos k5]
 rfl
def sprV (r : Nat) (a : Int → Int → Nat) : Int → Int → Nat := fun x y => fop .add .f32 (a x y) (fop .mul .f32 r (lapV a x y))
def sprN (n : Int → Int → Int) : Int → Int → Int := fun x y => 8 * n x y + lapN n x y
theorem per_spr {w h : Nat} {r : Nat} {a : Int → Int → Nat} (ha : Per w h a) : Per w h (sprV r a) := fun x y => by
  unfold sprV
  rw [ha, per_lap ha]
theorem e_eighth : E 3 1040187392 1 := ⟨false, 8388608, -26, by decide, by decide +kernel⟩
theorem e_spr {w h : Nat} (hw : Side w) (hh : Side h) {j : Nat} (hj : j ≤ 40) {a : Int → Int → Nat} {n : Int → Int → Int} {M : Int} (hp : Per w h a) (ha : EB j a n M) (hM : 16 * M < 16777216) :
    EB (j + 3) (sprV 1040187392 a) (sprN n) (8 * M) ∧ ∀ x y, fok .mul .f32 1040187392 (lapV a x y) = true ∧ fok .add .f32 (a x y) (fop .mul .f32 1040187392 (lapV a x y)) = true := by
  have L := e_lap hw hh (by omega) hp ha (by omega)
  have key : ∀ x y, (fok .mul .f32 1040187392 (lapV a x y) = true ∧ fok .add .f32 (a x y) (fop .mul .f32 1040187392 (lapV a x y)) = true) ∧ E (j + 3) (sprV 1040187392 a x y) (sprN n x y) ∧ -(8 * M) ≤ sprN n x y ∧ sprN n x y ≤ 8 * M := by
    intro x y
    obtain ⟨a1, a2, a3⟩ := ha x y
    obtain ⟨l1, l2, l3⟩ := L.1 x y
    obtain ⟨m1, m2⟩ := E_mul (by omega) e_eighth l1 (by omega)
    rw [Nat.add_comm 3 j, Int.one_mul] at m2
    have u := E_up a1 3
    obtain ⟨b1, b2⟩ := ha (x - 1) y
    obtain ⟨c1, c2⟩ := ha (x + 1) y
    obtain ⟨d1, d2⟩ := ha x (y - 1)
    obtain ⟨f1, f2⟩ := ha x (y + 1)
    have bd : -(8 * M) ≤ sprN n x y ∧ sprN n x y ≤ 8 * M := by unfold sprN lapN; omega
    have e : sprN n x y = n x y * 2 ^ 3 + lapN n x y := by unfold sprN; omega
    obtain ⟨s1, s2⟩ := E_add (by omega) u m2 (by omega)
    refine ⟨⟨m1, s1⟩, ?_, bd⟩
    rw [e]
    exact s2
  exact ⟨fun x y => (key x y).2, fun x y => (key x y).1⟩
theorem S2_add (w h : Nat) (f g : Int → Int → Int) : S2 w h (fun x y => f x y + g x y) = S2 w h f + S2 w h g := by
  unfold S2
  rw [← S1_add]
  exact S1_congr h fun y _ => S1_add _ _ w
theorem S2_mul (w h : Nat) (c : Int) (f : Int → Int → Int) : S2 w h (fun x y => c * f x y) = c * S2 w h f := by
  unfold S2
  rw [← S1_mul]
  exact S1_congr h fun y _ => S1_mul c _ w
theorem S1_le {f g : Nat → Int} : ∀ r, (∀ i, i < r → f i ≤ g i) → S1 f r ≤ S1 g r
  | 0, _ => Int.le_refl _
  | r + 1, h => by
    have := S1_le r (fun i hi => h i (by omega))
    have := h r (by omega)
    simp only [S1]
    omega
theorem S2_le {w h : Nat} {f g : Int → Int → Int} (hfg : ∀ x y, f x y ≤ g x y) : S2 w h f ≤ S2 w h g := S1_le h fun y _ => S1_le w fun x _ => hfg _ _
theorem spr_total {w h : Nat} {n : Int → Int → Int} (hx : ∀ x y, n (x + w) y = n x y) (hy : ∀ x y, n x (y + h) = n x y) : S2 w h (sprN n) = 8 * S2 w h n := by
  have : S2 w h (sprN n) = S2 w h (fun x y => 8 * n x y) + S2 w h (lapN n) := S2_add w h (fun x y => 8 * n x y) (lapN n)
  rw [this, S2_mul, S2_lap n hx hy]
  omega
theorem sq_nonneg (a : Int) : 0 ≤ a * a := by
  rcases Int.le_total 0 a with c | c
  · exact Int.mul_nonneg c c
  · exact Int.mul_nonneg_of_nonpos_of_nonpos c c
theorem spr_sq {w h : Nat} {n : Int → Int → Int} (hx : ∀ x y, n (x + w) y = n x y) (hy : ∀ x y, n x (y + h) = n x y) : S2 w h (fun x y => sprN n x y * sprN n x y) ≤ 64 * S2 w h (fun x y => n x y * n x y) := by
 have pt : ∀ x y, sprN n x y * sprN n x y ≤ 64 * (n x y * n x y) + 8 * lapN (fun x y => n x y * n x y) x y := by
  intro x y
  simp only [sprN, lapN]
  generalize n x y = a
  generalize n (x - 1) y = b
  generalize n (x + 1) y = c
  generalize n x (y - 1) = d
  generalize n x (y + 1) = e
  have h1 := sq_nonneg (a - b)
  have h2 := sq_nonneg (a - c)
  have h3 := sq_nonneg (a - d)
  have h4 := sq_nonneg (a - e)
  have h5 := sq_nonneg (b - c)
  have h6 := sq_nonneg (b - d)
  have h7 := sq_nonneg (b - e)
  have h8 := sq_nonneg (c - d)
  have h9 := sq_nonneg (c - e)
  have h10 := sq_nonneg (d - e)
  have id : 64 * (a * a) + 8 * (b * b + c * c + (d * d + e * e) - 4 * (a * a)) - (8 * a + (b + c + (d + e) - 4 * a)) * (8 * a + (b + c + (d + e) - 4 * a)) =
    4 * ((a - b) * (a - b)) + 4 * ((a - c) * (a - c)) + 4 * ((a - d) * (a - d)) + 4 * ((a - e) * (a - e)) + (b - c) * (b - c) + (b - d) * (b - d) + (b - e) * (b - e) + (c - d) * (c - d) + (c - e) * (c - e) + (d - e) * (d - e) := by grind
  omega
 have k := S2_le (w := w) (h := h) pt
 have e1 : S2 w h (fun x y => 64 * (n x y * n x y) + 8 * lapN (fun x y => n x y * n x y) x y) = 64 * S2 w h (fun x y => n x y * n x y) + 8 * S2 w h (lapN (fun x y => n x y * n x y)) := by
  rw [S2_add w h (fun x y => 64 * (n x y * n x y)) (fun x y => 8 * lapN (fun x y => n x y * n x y) x y), S2_mul w h 64 (fun x y => n x y * n x y), S2_mul w h 8 (lapN (fun x y => n x y * n x y))]
 rw [e1, S2_lap (fun x y => n x y * n x y) (fun x y => by simp only [hx]) (fun x y => by simp only [hy])] at k
 omega
theorem sum_e {j : Nat} (hj : j ≤ 50) {l : List Nat} {g : Nat → Int} {M : Int} (hM : 0 ≤ M) (hl : l.length ≤ 36) (hM2 : 36 * M < 16777216) (hg : ∀ i, i < l.length → E j (rdOf (0 : Nat) l (i : Int)) (g i) ∧ -M ≤ g i ∧ g i ≤ M) :
    ∀ (r i s m : Nat), i + r = l.length → E j s (S1 g i) → Ret (B0.impl_sum.l0 (r + 1 + m) s l (l.length : Int) (i : Int)) (fun t => E j t (S1 g l.length)) := by
  intro r
  induction r with
  | zero =>
    intro i s m hi hs
    rw [show 0 + 1 + m = m + 1 by omega]
    unfold B0.impl_sum.l0
    rw [if_neg (by omega)]
    refine Ret.of ?_
    rwa [← hi, Nat.add_zero]
  | succ r ih =>
    intro i s m hi hs
    rw [show r + 1 + 1 + m = (r + 1 + m) + 1 by omega]
    unfold B0.impl_sum.l0
    obtain ⟨g1, g2, g3⟩ := hg i (by omega)
    have b := S1_bd (M := M) (i + 1) (f := g) (fun j hj => (hg j (by omega)).2)
    have b3 : ((i + 1 : Nat) : Int) * M ≤ 36 * M := Int.mul_le_mul_of_nonneg_right (by omega) hM
    have e : S1 g (i + 1) = S1 g i + g i := rfl
    obtain ⟨a1, a2⟩ := E_add (by omega) hs g1 (by rw [← e]; omega)
    rw [if_pos (by omega), if_pos (by omega), if_pos (by omega), if_pos a1, w64 (by omega) (by omega)]
    exact ih (i + 1) _ m (by omega) a2
theorem e_zero (j : Nat) : E j 0 0 := ⟨false, 0, -149, by decide, by rw [sv_zero]; show (0 : Rat) = (0 : Rat) * _; rw [Rat.zero_mul]⟩
theorem total_e {w h : Nat} (hw : Side w) (hh : Side h) {j : Nat} (hj : j ≤ 50) {v : Int → Int → Nat} {n : Int → Int → Int} {M : Int} (hv : EB j v n M) (hM2 : 36 * M < 16777216) {k : Nat} (hk : 60 ≤ k) :
    Ret (B0.impl_TotalInBasin.f k w h (mk w h v)) (fun t => E j t.1 (S2 w h n) ∧ t.2 = true) := by
  have hM : 0 ≤ M := by have := hv 0 0; omega
  have m1 : w * h ≤ 6 * 6 := Nat.mul_le_mul hw.2 hh.2
  unfold B0.impl_TotalInBasin.f B0.impl_sum.f
  rw [valid_of hw hh hv.fin]
  simp only [Option.bind_some, if_true]
  have := sum_e hj (l := mk w h v) (g := fun i => n ((i % w : Nat) : Int) ((i / w : Nat) : Int)) hM (by rw [mk_len]; omega) hM2 (fun i hi => by rw [mk_len] at hi; rw [mk_i hi]; exact hv _ _) (w * h) 0 0 (k - (w * h + 1)) (by rw [mk_len]; omega) (e_zero j)
  rw [show w * h + 1 + (k - (w * h + 1)) = k by omega] at this
  refine this.bind fun t ht => ?_
  rw [mk_len, S1_rows (by have := hw.1; omega)] at ht
  rw [toldN_of ⟨_, ht⟩]
  exact Ret.of ⟨ht, rfl⟩
end PA
end Go.Proofs.Ytelkklnfbfmecaa
end
section
namespace Go.Proofs.Ytelkklnfbfmecaa
open Go.RowKit YtelkklnfbfmecaaW.PrintWords YtelkklnfbfmecaaW.PrintLast Ieee
namespace PA
open FR PU XL
theorem row_CF {w h : Nat} (hw : Side w) (hh : Side h) (v : Int → Int → Nat) (e : Nat) (of : ∀ x y : Nat, x < w → y < h → CF.impl_FlatBasin_1.f x y e = some (v x y)) :
    ∀ n x y m : Nat, x + n = w → y < h → CF.impl_cells.l1 (n + 1 + m) w y h y w x e w h (pre w v (w * y + x)) = CF.impl_cells.l0 m w h ((y + 1 : Nat) : Int) e w h (pre w v (w * (y + 1))) := by
  have a1 := hw.2
  have a2 := hh.2
  intro n
  induction n with
  | zero =>
    intro x y m hx hy
    rw [show 0 + 1 + m = m + 1 by omega]
    unfold CF.impl_cells.l1
    rw [if_neg (by omega), w64 (by omega) (by omega), show w * y + x = w * (y + 1) by rw [Nat.mul_add]; omega]
    rfl
  | succ n ih =>
    intro x y m hx hy
    rw [show n + 1 + 1 + m = (n + 1 + m) + 1 by omega]
    unfold CF.impl_cells.l1
    rw [if_pos (by omega), of x y (by omega) hy]
    simp only [Option.bind_some]
    rw [if_pos (pre_lt hw hh (by omega) hy), pre_snoc hw (by omega), w64 (by omega) (by omega)]
    exact ih (x + 1) y m (by omega) hy
theorem all_CF {w h : Nat} (hw : Side w) (hh : Side h) (v : Int → Int → Nat) (e : Nat) (of : ∀ x y : Nat, x < w → y < h → CF.impl_FlatBasin_1.f x y e = some (v x y)) :
    ∀ n y m : Nat, y + n = h → CF.impl_cells.l0 (n * (w + 2) + 1 + m) w h y e w h (pre w v (w * y)) = some ((w : Int), (h : Int), mk w h v) := by
  have a2 := hh.2
  intro n
  induction n with
  | zero =>
    intro y m hy
    rw [show 0 * (w + 2) + 1 + m = m + 1 by omega]
    unfold CF.impl_cells.l0
    rw [if_neg (by omega), show y = h by omega]
    rfl
  | succ n ih =>
    intro y m hy
    rw [show (n + 1) * (w + 2) + 1 + m = (w + 1 + (n * (w + 2) + 1 + m)) + 1 by rw [Nat.add_mul]; omega]
    unfold CF.impl_cells.l0
    rw [if_pos (by omega)]
    have := row_CF hw hh v e of w 0 y (n * (w + 2) + 1 + m) (by omega) (by omega)
    rw [Nat.add_zero] at this
    exact this.trans (ih (y + 1) m (by omega))
theorem cells_CF {w h : Nat} (hw : Side w) (hh : Side h) (v : Int → Int → Nat) (e : Nat) (of : ∀ x y : Nat, x < w → y < h → CF.impl_FlatBasin_1.f x y e = some (v x y)) {k : Nat} (hk : 60 ≤ k) :
    CF.impl_cells.f k w h e = some ((w : Int), (h : Int), mk w h v) := by
  have a2 := hh.2
  have m1 : h * (w + 2) ≤ 6 * 8 := Nat.mul_le_mul a2 (by have := hw.2; omega)
  have := all_CF hw hh v e of h 0 (k - (h * (w + 2) + 1)) (by omega)
  rw [show h * (w + 2) + 1 + (k - (h * (w + 2) + 1)) = k by omega] at this
  exact this
theorem row_CU {w h : Nat} (hw : Side w) (hh : Side h) (v : Int → Int → Nat) (a : List Nat) (of : ∀ x y : Nat, x < w → y < h → CU.impl_FlowsInBasin_1.f x y w h a = some (v x y)) :
    ∀ n x y m : Nat, x + n = w → y < h → CU.impl_cells.l1 (n + 1 + m) w y h y w x w h a w h (pre w v (w * y + x)) = CU.impl_cells.l0 m w h ((y + 1 : Nat) : Int) w h a w h (pre w v (w * (y + 1))) := by
  have a1 := hw.2
  have a2 := hh.2
  intro n
  induction n with
  | zero =>
    intro x y m hx hy
    rw [show 0 + 1 + m = m + 1 by omega]
    unfold CU.impl_cells.l1
    rw [if_neg (by omega), w64 (by omega) (by omega), show w * y + x = w * (y + 1) by rw [Nat.mul_add]; omega]
    rfl
  | succ n ih =>
    intro x y m hx hy
    rw [show n + 1 + 1 + m = (n + 1 + m) + 1 by omega]
    unfold CU.impl_cells.l1
    rw [if_pos (by omega), of x y (by omega) hy]
    simp only [Option.bind_some]
    rw [if_pos (pre_lt hw hh (by omega) hy), pre_snoc hw (by omega), w64 (by omega) (by omega)]
    exact ih (x + 1) y m (by omega) hy
theorem all_CU {w h : Nat} (hw : Side w) (hh : Side h) (v : Int → Int → Nat) (a : List Nat) (of : ∀ x y : Nat, x < w → y < h → CU.impl_FlowsInBasin_1.f x y w h a = some (v x y)) :
    ∀ n y m : Nat, y + n = h → CU.impl_cells.l0 (n * (w + 2) + 1 + m) w h y w h a w h (pre w v (w * y)) = some ((w : Int), (h : Int), mk w h v) := by
  have a2 := hh.2
  intro n
  induction n with
  | zero =>
    intro y m hy
    rw [show 0 * (w + 2) + 1 + m = m + 1 by omega]
    unfold CU.impl_cells.l0
    rw [if_neg (by omega), show y = h by omega]
    rfl
  | succ n ih =>
    intro y m hy
    rw [show (n + 1) * (w + 2) + 1 + m = (w + 1 + (n * (w + 2) + 1 + m)) + 1 by rw [Nat.add_mul]; omega]
    unfold CU.impl_cells.l0
    rw [if_pos (by omega)]
    have := row_CU hw hh v a of w 0 y (n * (w + 2) + 1 + m) (by omega) (by omega)
    rw [Nat.add_zero] at this
    exact this.trans (ih (y + 1) m (by omega))
theorem cells_CU {w h : Nat} (hw : Side w) (hh : Side h) (v : Int → Int → Nat) (a : List Nat) (of : ∀ x y : Nat, x < w → y < h → CU.impl_FlowsInBasin_1.f x y w h a = some (v x y)) {k : Nat} (hk : 60 ≤ k) :
    CU.impl_cells.f k w h w h a = some ((w : Int), (h : Int), mk w h v) := by
  have a2 := hh.2
  have m1 : h * (w + 2) ≤ 6 * 8 := Nat.mul_le_mul a2 (by have := hw.2; omega)
  have := all_CU hw hh v a of h 0 (k - (h * (w + 2) + 1)) (by omega)
  rw [show h * (w + 2) + 1 + (k - (h * (w + 2) + 1)) = k by omega] at this
  exact this
theorem built_CU {w h : Nat} (hw : Side w) (hh : Side h) (v : Int → Int → Nat) (l : List Nat) (a : List Nat) (of : ∀ x y : Nat, x < w → y < h → CU.impl_FlowsInBasin_1.f x y w h a = some (v x y)) (hv : ∀ x y, Fin (v x y)) (hl : B0.impl_ValidBasin.f w h l = some true) {k : Nat} (hk : 60 ≤ k) :
    CU.impl_rebuilt.f k w h l w h a = some ((w : Int), (h : Int), mk w h v, true) := by
  unfold CU.impl_rebuilt.f
  rw [hl]
  simp only [Option.bind_some, if_true]
  rw [cells_CU hw hh v a of hk]
  simp only [Option.bind_some]
  rw [told_of hw hh hv]
  simp only [Option.bind_some]
theorem row_CV {w h : Nat} (hw : Side w) (hh : Side h) (v : Int → Int → Nat) (a : List Nat) (of : ∀ x y : Nat, x < w → y < h → CV.impl_FlowsInBasin_2.f x y w h a = some (v x y)) :
    ∀ n x y m : Nat, x + n = w → y < h → CV.impl_cells.l1 (n + 1 + m) w y h y w x w h a w h (pre w v (w * y + x)) = CV.impl_cells.l0 m w h ((y + 1 : Nat) : Int) w h a w h (pre w v (w * (y + 1))) := by
  have a1 := hw.2
  have a2 := hh.2
  intro n
  induction n with
  | zero =>
    intro x y m hx hy
    rw [show 0 + 1 + m = m + 1 by omega]
    unfold CV.impl_cells.l1
    rw [if_neg (by omega), w64 (by omega) (by omega), show w * y + x = w * (y + 1) by rw [Nat.mul_add]; omega]
    rfl
  | succ n ih =>
    intro x y m hx hy
    rw [show n + 1 + 1 + m = (n + 1 + m) + 1 by omega]
    unfold CV.impl_cells.l1
    rw [if_pos (by omega), of x y (by omega) hy]
    simp only [Option.bind_some]
    rw [if_pos (pre_lt hw hh (by omega) hy), pre_snoc hw (by omega), w64 (by omega) (by omega)]
    exact ih (x + 1) y m (by omega) hy
theorem all_CV {w h : Nat} (hw : Side w) (hh : Side h) (v : Int → Int → Nat) (a : List Nat) (of : ∀ x y : Nat, x < w → y < h → CV.impl_FlowsInBasin_2.f x y w h a = some (v x y)) :
    ∀ n y m : Nat, y + n = h → CV.impl_cells.l0 (n * (w + 2) + 1 + m) w h y w h a w h (pre w v (w * y)) = some ((w : Int), (h : Int), mk w h v) := by
  have a2 := hh.2
  intro n
  induction n with
  | zero =>
    intro y m hy
    rw [show 0 * (w + 2) + 1 + m = m + 1 by omega]
    unfold CV.impl_cells.l0
    rw [if_neg (by omega), show y = h by omega]
    rfl
  | succ n ih =>
    intro y m hy
    rw [show (n + 1) * (w + 2) + 1 + m = (w + 1 + (n * (w + 2) + 1 + m)) + 1 by rw [Nat.add_mul]; omega]
    unfold CV.impl_cells.l0
    rw [if_pos (by omega)]
    have := row_CV hw hh v a of w 0 y (n * (w + 2) + 1 + m) (by omega) (by omega)
    rw [Nat.add_zero] at this
    exact this.trans (ih (y + 1) m (by omega))
theorem cells_CV {w h : Nat} (hw : Side w) (hh : Side h) (v : Int → Int → Nat) (a : List Nat) (of : ∀ x y : Nat, x < w → y < h → CV.impl_FlowsInBasin_2.f x y w h a = some (v x y)) {k : Nat} (hk : 60 ≤ k) :
    CV.impl_cells.f k w h w h a = some ((w : Int), (h : Int), mk w h v) := by
  have a2 := hh.2
  have m1 : h * (w + 2) ≤ 6 * 8 := Nat.mul_le_mul a2 (by have := hw.2; omega)
  have := all_CV hw hh v a of h 0 (k - (h * (w + 2) + 1)) (by omega)
  rw [show h * (w + 2) + 1 + (k - (h * (w + 2) + 1)) = k by omega] at this
  exact this
theorem built_CV {w h : Nat} (hw : Side w) (hh : Side h) (v : Int → Int → Nat) (l : List Nat) (a : List Nat) (of : ∀ x y : Nat, x < w → y < h → CV.impl_FlowsInBasin_2.f x y w h a = some (v x y)) (hv : ∀ x y, Fin (v x y)) (hl : B0.impl_ValidBasin.f w h l = some true) {k : Nat} (hk : 60 ≤ k) :
    CV.impl_rebuilt.f k w h l w h a = some ((w : Int), (h : Int), mk w h v, true) := by
  unfold CV.impl_rebuilt.f
  rw [hl]
  simp only [Option.bind_some, if_true]
  rw [cells_CV hw hh v a of hk]
  simp only [Option.bind_some]
  rw [told_of hw hh hv]
  simp only [Option.bind_some]
theorem row_CP {w h : Nat} (hw : Side w) (hh : Side h) (v : Int → Int → Nat) (a : List Nat) (e : Nat) (of : ∀ x y : Nat, x < w → y < h → CP.impl_SpreadBasin_1.f x y w h a e = some (v x y)) :
    ∀ n x y m : Nat, x + n = w → y < h → CP.impl_cells.l1 (n + 1 + m) w y h y w x w h a e w h (pre w v (w * y + x)) = CP.impl_cells.l0 m w h ((y + 1 : Nat) : Int) w h a e w h (pre w v (w * (y + 1))) := by
  have a1 := hw.2
  have a2 := hh.2
  intro n
  induction n with
  | zero =>
    intro x y m hx hy
    rw [show 0 + 1 + m = m + 1 by omega]
    unfold CP.impl_cells.l1
    rw [if_neg (by omega), w64 (by omega) (by omega), show w * y + x = w * (y + 1) by rw [Nat.mul_add]; omega]
    rfl
  | succ n ih =>
    intro x y m hx hy
    rw [show n + 1 + 1 + m = (n + 1 + m) + 1 by omega]
    unfold CP.impl_cells.l1
    rw [if_pos (by omega), of x y (by omega) hy]
    simp only [Option.bind_some]
    rw [if_pos (pre_lt hw hh (by omega) hy), pre_snoc hw (by omega), w64 (by omega) (by omega)]
    exact ih (x + 1) y m (by omega) hy
theorem all_CP {w h : Nat} (hw : Side w) (hh : Side h) (v : Int → Int → Nat) (a : List Nat) (e : Nat) (of : ∀ x y : Nat, x < w → y < h → CP.impl_SpreadBasin_1.f x y w h a e = some (v x y)) :
    ∀ n y m : Nat, y + n = h → CP.impl_cells.l0 (n * (w + 2) + 1 + m) w h y w h a e w h (pre w v (w * y)) = some ((w : Int), (h : Int), mk w h v) := by
  have a2 := hh.2
  intro n
  induction n with
  | zero =>
    intro y m hy
    rw [show 0 * (w + 2) + 1 + m = m + 1 by omega]
    unfold CP.impl_cells.l0
    rw [if_neg (by omega), show y = h by omega]
    rfl
  | succ n ih =>
    intro y m hy
    rw [show (n + 1) * (w + 2) + 1 + m = (w + 1 + (n * (w + 2) + 1 + m)) + 1 by rw [Nat.add_mul]; omega]
    unfold CP.impl_cells.l0
    rw [if_pos (by omega)]
    have := row_CP hw hh v a e of w 0 y (n * (w + 2) + 1 + m) (by omega) (by omega)
    rw [Nat.add_zero] at this
    exact this.trans (ih (y + 1) m (by omega))
theorem cells_CP {w h : Nat} (hw : Side w) (hh : Side h) (v : Int → Int → Nat) (a : List Nat) (e : Nat) (of : ∀ x y : Nat, x < w → y < h → CP.impl_SpreadBasin_1.f x y w h a e = some (v x y)) {k : Nat} (hk : 60 ≤ k) :
    CP.impl_cells.f k w h w h a e = some ((w : Int), (h : Int), mk w h v) := by
  have a2 := hh.2
  have m1 : h * (w + 2) ≤ 6 * 8 := Nat.mul_le_mul a2 (by have := hw.2; omega)
  have := all_CP hw hh v a e of h 0 (k - (h * (w + 2) + 1)) (by omega)
  rw [show h * (w + 2) + 1 + (k - (h * (w + 2) + 1)) = k by omega] at this
  exact this
theorem built_CP {w h : Nat} (hw : Side w) (hh : Side h) (v : Int → Int → Nat) (l : List Nat) (a : List Nat) (e : Nat) (of : ∀ x y : Nat, x < w → y < h → CP.impl_SpreadBasin_1.f x y w h a e = some (v x y)) (hv : ∀ x y, Fin (v x y)) (hl : B0.impl_ValidBasin.f w h l = some true) {k : Nat} (hk : 60 ≤ k) :
    CP.impl_rebuilt.f k w h l w h a e = some ((w : Int), (h : Int), mk w h v, true) := by
  unfold CP.impl_rebuilt.f
  rw [hl]
  simp only [Option.bind_some, if_true]
  rw [cells_CP hw hh v a e of hk]
  simp only [Option.bind_some]
  rw [told_of hw hh hv]
  simp only [Option.bind_some]
theorem row_CB {w h : Nat} (hw : Side w) (hh : Side h) (v : Int → Int → Nat) (a : List Nat) (of : ∀ x y : Nat, x < w → y < h → B0.impl_Basin_at.f w h a x y = some (v x y)) :
    ∀ n x y m : Nat, x + n = w → y < h → CB.impl_cells.l1 (n + 1 + m) w y h y w x w h a w h (pre w v (w * y + x)) = CB.impl_cells.l0 m w h ((y + 1 : Nat) : Int) w h a w h (pre w v (w * (y + 1))) := by
  have a1 := hw.2
  have a2 := hh.2
  intro n
  induction n with
  | zero =>
    intro x y m hx hy
    rw [show 0 + 1 + m = m + 1 by omega]
    unfold CB.impl_cells.l1
    rw [if_neg (by omega), w64 (by omega) (by omega), show w * y + x = w * (y + 1) by rw [Nat.mul_add]; omega]
    rfl
  | succ n ih =>
    intro x y m hx hy
    rw [show n + 1 + 1 + m = (n + 1 + m) + 1 by omega]
    unfold CB.impl_cells.l1
    rw [if_pos (by omega), of x y (by omega) hy]
    simp only [Option.bind_some]
    rw [if_pos (pre_lt hw hh (by omega) hy), pre_snoc hw (by omega), w64 (by omega) (by omega)]
    exact ih (x + 1) y m (by omega) hy
theorem all_CB {w h : Nat} (hw : Side w) (hh : Side h) (v : Int → Int → Nat) (a : List Nat) (of : ∀ x y : Nat, x < w → y < h → B0.impl_Basin_at.f w h a x y = some (v x y)) :
    ∀ n y m : Nat, y + n = h → CB.impl_cells.l0 (n * (w + 2) + 1 + m) w h y w h a w h (pre w v (w * y)) = some ((w : Int), (h : Int), mk w h v) := by
  have a2 := hh.2
  intro n
  induction n with
  | zero =>
    intro y m hy
    rw [show 0 * (w + 2) + 1 + m = m + 1 by omega]
    unfold CB.impl_cells.l0
    rw [if_neg (by omega), show y = h by omega]
    rfl
  | succ n ih =>
    intro y m hy
    rw [show (n + 1) * (w + 2) + 1 + m = (w + 1 + (n * (w + 2) + 1 + m)) + 1 by rw [Nat.add_mul]; omega]
    unfold CB.impl_cells.l0
    rw [if_pos (by omega)]
    have := row_CB hw hh v a of w 0 y (n * (w + 2) + 1 + m) (by omega) (by omega)
    rw [Nat.add_zero] at this
    exact this.trans (ih (y + 1) m (by omega))
theorem cells_CB {w h : Nat} (hw : Side w) (hh : Side h) (v : Int → Int → Nat) (a : List Nat) (of : ∀ x y : Nat, x < w → y < h → B0.impl_Basin_at.f w h a x y = some (v x y)) {k : Nat} (hk : 60 ≤ k) :
    CB.impl_cells.f k w h w h a = some ((w : Int), (h : Int), mk w h v) := by
  have a2 := hh.2
  have m1 : h * (w + 2) ≤ 6 * 8 := Nat.mul_le_mul a2 (by have := hw.2; omega)
  have := all_CB hw hh v a of h 0 (k - (h * (w + 2) + 1)) (by omega)
  rw [show h * (w + 2) + 1 + (k - (h * (w + 2) + 1)) = k by omega] at this
  exact this
theorem built_CB {w h : Nat} (hw : Side w) (hh : Side h) (v : Int → Int → Nat) (l : List Nat) (a : List Nat) (of : ∀ x y : Nat, x < w → y < h → B0.impl_Basin_at.f w h a x y = some (v x y)) (hv : ∀ x y, Fin (v x y)) (hl : B0.impl_ValidBasin.f w h l = some true) {k : Nat} (hk : 60 ≤ k) :
    CB.impl_rebuilt.f k w h l w h a = some ((w : Int), (h : Int), mk w h v, true) := by
  unfold CB.impl_rebuilt.f
  rw [hl]
  simp only [Option.bind_some, if_true]
  rw [cells_CB hw hh v a of hk]
  simp only [Option.bind_some]
  rw [told_of hw hh hv]
  simp only [Option.bind_some]
theorem row_CD {w h : Nat} (hw : Side w) (hh : Side h) (v : Int → Int → Nat) (a : List Nat) (e : Nat) (b c : List Nat) (t : Bool) (of : ∀ x y : Nat, x < w → y < h → CC.impl_CarryBasin_1.f x y w h a e w h b w h c t = some (v x y)) :
    ∀ n x y m : Nat, x + n = w → y < h → CD.impl_cells.l1 (n + 1 + m) w y h y w x w h a e w h b w h c t w h (pre w v (w * y + x)) = CD.impl_cells.l0 m w h ((y + 1 : Nat) : Int) w h a e w h b w h c t w h (pre w v (w * (y + 1))) := by
  have a1 := hw.2
  have a2 := hh.2
  intro n
  induction n with
  | zero =>
    intro x y m hx hy
    rw [show 0 + 1 + m = m + 1 by omega]
    unfold CD.impl_cells.l1
    rw [if_neg (by omega), w64 (by omega) (by omega), show w * y + x = w * (y + 1) by rw [Nat.mul_add]; omega]
    rfl
  | succ n ih =>
    intro x y m hx hy
    rw [show n + 1 + 1 + m = (n + 1 + m) + 1 by omega]
    unfold CD.impl_cells.l1
    rw [if_pos (by omega), of x y (by omega) hy]
    simp only [Option.bind_some]
    rw [if_pos (pre_lt hw hh (by omega) hy), pre_snoc hw (by omega), w64 (by omega) (by omega)]
    exact ih (x + 1) y m (by omega) hy
theorem all_CD {w h : Nat} (hw : Side w) (hh : Side h) (v : Int → Int → Nat) (a : List Nat) (e : Nat) (b c : List Nat) (t : Bool) (of : ∀ x y : Nat, x < w → y < h → CC.impl_CarryBasin_1.f x y w h a e w h b w h c t = some (v x y)) :
    ∀ n y m : Nat, y + n = h → CD.impl_cells.l0 (n * (w + 2) + 1 + m) w h y w h a e w h b w h c t w h (pre w v (w * y)) = some ((w : Int), (h : Int), mk w h v) := by
  have a2 := hh.2
  intro n
  induction n with
  | zero =>
    intro y m hy
    rw [show 0 * (w + 2) + 1 + m = m + 1 by omega]
    unfold CD.impl_cells.l0
    rw [if_neg (by omega), show y = h by omega]
    rfl
  | succ n ih =>
    intro y m hy
    rw [show (n + 1) * (w + 2) + 1 + m = (w + 1 + (n * (w + 2) + 1 + m)) + 1 by rw [Nat.add_mul]; omega]
    unfold CD.impl_cells.l0
    rw [if_pos (by omega)]
    have := row_CD hw hh v a e b c t of w 0 y (n * (w + 2) + 1 + m) (by omega) (by omega)
    rw [Nat.add_zero] at this
    exact this.trans (ih (y + 1) m (by omega))
theorem cells_CD {w h : Nat} (hw : Side w) (hh : Side h) (v : Int → Int → Nat) (a : List Nat) (e : Nat) (b c : List Nat) (t : Bool) (of : ∀ x y : Nat, x < w → y < h → CC.impl_CarryBasin_1.f x y w h a e w h b w h c t = some (v x y)) {k : Nat} (hk : 60 ≤ k) :
    CD.impl_cells.f k w h w h a e w h b w h c t = some ((w : Int), (h : Int), mk w h v) := by
  have a2 := hh.2
  have m1 : h * (w + 2) ≤ 6 * 8 := Nat.mul_le_mul a2 (by have := hw.2; omega)
  have := all_CD hw hh v a e b c t of h 0 (k - (h * (w + 2) + 1)) (by omega)
  rw [show h * (w + 2) + 1 + (k - (h * (w + 2) + 1)) = k by omega] at this
  exact this
theorem built_CD {w h : Nat} (hw : Side w) (hh : Side h) (v : Int → Int → Nat) (l : List Nat) (a : List Nat) (e : Nat) (b c : List Nat) (t : Bool) (of : ∀ x y : Nat, x < w → y < h → CC.impl_CarryBasin_1.f x y w h a e w h b w h c t = some (v x y)) (hv : ∀ x y, Fin (v x y)) (hl : B0.impl_ValidBasin.f w h l = some true) {k : Nat} (hk : 60 ≤ k) :
    CD.impl_rebuilt.f k w h l w h a e w h b w h c t = some ((w : Int), (h : Int), mk w h v, true) := by
  unfold CD.impl_rebuilt.f
  rw [hl]
  simp only [Option.bind_some, if_true]
  rw [cells_CD hw hh v a e b c t of hk]
  simp only [Option.bind_some]
  rw [told_of hw hh hv]
  simp only [Option.bind_some]
end PA
end Go.Proofs.Ytelkklnfbfmecaa
end
section
namespace Go.Proofs.Ytelkklnfbfmecaa
open Go.RowKit YtelkklnfbfmecaaW.PrintWords YtelkklnfbfmecaaW.PrintLast Ieee
namespace PA
open FR PU XA XAB
theorem flat_of {w h : Nat} (hw : Side w) (hh : Side h) {e : Nat} (he : Fin e) {k : Nat} (hk : 70 ≤ k) : CF.impl_FlatBasin.f k w h e = some ((w : Int), (h : Int), mk w h (fun _ _ => e), true) := by
  have w1 := hw.1
  have w2 := hw.2
  have h1 := hh.1
  have h2 := hh.2
  obtain ⟨j, rfl⟩ : ∃ j, k = j + 1 := ⟨k - 1, by omega⟩
  unfold CF.impl_FlatBasin.f B0.impl_sideOk.f
  rw [in_of (by omega) (by omega), in_of (by omega) (by omega)]
  simp only [Option.bind_some, if_true, Bool.not_true]
  rw [CF.impl_FlatBasin.j0, if_neg (by decide), cells_CF hw hh (fun _ _ => e) e (fun x y _ _ => rfl) (by omega)]
  simp only [Option.bind_some]
  rw [told_of hw hh (fun _ _ => he)]
  simp only [Option.bind_some]
theorem alike3_of {w h : Nat} {a b c : List Nat} (ha : B0.impl_ValidBasin.f w h a = some true) (hb : B0.impl_ValidBasin.f w h b = some true) (hc : B0.impl_ValidBasin.f w h c = some true) {k : Nat} (hk : 10 ≤ k) :
  B0.impl_alike.f k [(⟨w, h, a⟩ : B0.S26), (⟨w, h, b⟩ : B0.S26), (⟨w, h, c⟩ : B0.S26)] = some true := by
 obtain ⟨j, rfl⟩ : ∃ j, k = j + 4 := ⟨k - 4, by omega⟩
 have hn : ((h : Int) != (h : Int)) = false := by simp
 obtain ⟨L, hL⟩ : ∃ L : List B0.S26, L = [(⟨w, h, a⟩ : B0.S26), (⟨w, h, b⟩ : B0.S26), (⟨w, h, c⟩ : B0.S26)] := ⟨_, rfl⟩
 have len : ((L.length : Nat) : Int) = 3 := by rw [hL]; rfl
 have r0 : B0.rd_T26 L 0 = ⟨w, h, a⟩ := by rw [hL]; rfl
 have r1 : B0.rd_T26 L 1 = ⟨w, h, b⟩ := by rw [hL]; rfl
 have r2 : B0.rd_T26 L 2 = ⟨w, h, c⟩ := by rw [hL]; rfl
 rw [← hL]
 have A (l : List Nat) (hl : B0.impl_ValidBasin.f w h l = some true) : B0.impl_alike_1.f w h l L = some false := by
  unfold B0.impl_alike_1.f
  rw [hl]
  simp only [Option.bind_some, if_true]
  rw [len, if_pos (by omega), r0, if_pos rfl]
  exact congrArg some hn
 have B : B0.impl_Basin_74.l0 (j + 4) L (L.length : Int) 0 L = some (-1) := by
  rw [len]
  unfold B0.impl_Basin_74.l0
  rw [len, if_pos (by omega), if_pos (by omega), if_pos (by omega), r0, A a ha]
  simp only [Option.bind_some]
  rw [if_neg (by decide), w64 (by omega) (by omega)]
  unfold B0.impl_Basin_74.l0
  rw [show (0 : Int) + 1 = 1 from rfl, if_pos (by omega), if_pos (by omega), len, if_pos (by omega), r1, A b hb]
  simp only [Option.bind_some]
  rw [if_neg (by decide), w64 (by omega) (by omega)]
  unfold B0.impl_Basin_74.l0
  rw [show (1 : Int) + 1 = 2 from rfl, if_pos (by omega), if_pos (by omega), len, if_pos (by omega), r2, A c hc]
  simp only [Option.bind_some]
  rw [if_neg (by decide), w64 (by omega) (by omega)]
  unfold B0.impl_Basin_74.l0
  rw [show (2 : Int) + 1 = 3 from rfl, if_neg (by omega)]
 unfold B0.impl_alike.f B0.impl_Basin_61.f B0.impl_Basin_74.f
 rw [B]
 rfl
theorem carry_of {w h : Nat} (hw : Side w) (hh : Side h) {a b c : Int → Int → Nat} {e : Nat} (fa : ∀ x y, Fin (a x y)) (fb : ∀ x y, Fin (b x y)) (fc : ∀ x y, Fin (c x y)) (he : Fin e) {v : Int → Int → Nat} (fv : ∀ x y, Fin (v x y))
    (of : ∀ x y : Nat, x < w → y < h → CC.impl_CarryBasin_1.f x y w h (mk w h a) e w h (mk w h b) w h (mk w h c) true = some (v x y)) {k : Nat} (hk : 70 ≤ k) :
    CD.impl_CarryBasin.f k w h (mk w h a) w h (mk w h b) w h (mk w h c) e = some ((w : Int), (h : Int), mk w h v, true) := by
  obtain ⟨j, rfl⟩ : ∃ j, k = j + 1 := ⟨k - 1, by omega⟩
  unfold CD.impl_CarryBasin.f XL.IsFinite.f
  rw [alike3_of (valid_of hw hh fa) (valid_of hw hh fb) (valid_of hw hh fc) (by omega)]
  obtain ⟨ev, hev⟩ := he
  rw [fin_of hev]
  simp only [Option.bind_some, if_true, Bool.not_true]
  rw [CD.impl_CarryBasin.j0, if_neg (by decide), built_CD hw hh v (mk w h a) (mk w h a) e (mk w h b) (mk w h c) true of fv (valid_of hw hh fa) (by omega)]
  simp only [Option.bind_some, if_true]
theorem lit_of {w h x y : Nat} {a b c : List Nat} {e p q s X1 X2 Y1 Y2 : Nat} (hb : B0.impl_Basin_at.f w h b x y = some p) (hc : B0.impl_Basin_at.f w h c x y = some q) (k1 : fok .mul .f32 e p = true) (k2 : fok .sub .f32 (floatOfInt .f32 (x : Int)) (fop .mul .f32 e p) = true) (k3 : fok .mul .f32 e q = true) (k4 : fok .sub .f32 (floatOfInt .f32 (y : Int)) (fop .mul .f32 e q) = true)
    (ab : about.f w h a (fop .sub .f32 (floatOfInt .f32 (x : Int)) (fop .mul .f32 e p)) (fop .sub .f32 (floatOfInt .f32 (y : Int)) (fop .mul .f32 e q)) = some (s, true)) : CC.impl_CarryBasin_1.f x y w h a e w h b w h c true = some s := by
  unfold CC.impl_CarryBasin_1.f
  rw [hb]
  simp only [Option.bind_some]
  rw [if_pos k1, if_pos k2, hc]
  simp only [Option.bind_some]
  rw [if_pos k3, if_pos k4, ab]
  simp only [Option.bind_some, if_true]
theorem carry_ex {w h : Nat} (hw : Side w) (hh : Side h) {a b c : Int → Int → Nat} {n p q : Int → Int → Int} (hpa : Per w h a) (hpb : Per w h b) (hpc : Per w h c) (ha : ∀ x y, U (a x y) (16 * n x y) ∧ -8 ≤ n x y ∧ n x y ≤ 8)
  {e : Nat} {ε : Int} {i j : Nat} (hij : i + j = 4) (he : E i e ε) (hb : ∀ x y, E j (b x y) (p x y)) (hc : ∀ x y, E j (c x y) (q x y)) (hb2 : ∀ x y, -600 ≤ ε * p x y ∧ ε * p x y ≤ 600) (hc2 : ∀ x y, -600 ≤ ε * q x y ∧ ε * q x y ≤ 600) {k : Nat} (hk : 70 ≤ k) :
  ∃ v, (∀ x y : Nat, x < w → y < h → E 10 (v x y) (cellN n (16 * x - ε * p x y) (16 * y - ε * q x y))) ∧ CD.impl_CarryBasin.f k w h (mk w h a) w h (mk w h b) w h (mk w h c) e = some ((w : Int), (h : Int), mk w h v, true) := by
 have w2 := hw.2
 have h2 := hh.2
 have one : ∀ x y : Nat, x < w → y < h → ∃ s, CC.impl_CarryBasin_1.f x y w h (mk w h a) e w h (mk w h b) w h (mk w h c) true = some s ∧ E 10 s (cellN n (16 * x - ε * p x y) (16 * y - ε * q x y)) := by
  intro x y hx hy
  have bx := hb2 x y
  have cx := hc2 x y
  obtain ⟨m1, m2⟩ := E_mul (by omega) he (hb x y) (by omega)
  obtain ⟨m3, m4⟩ := E_mul (by omega) he (hc x y) (by omega)
  rw [hij] at m2 m4
  have ix : E 4 (floatOfInt .f32 (x : Int)) ((x : Int) * 2 ^ 4) := E_up (E_floatOfInt (by omega)) 4
  have iy : E 4 (floatOfInt .f32 (y : Int)) ((y : Int) * 2 ^ 4) := E_up (E_floatOfInt (by omega)) 4
  obtain ⟨s1, s2⟩ := E_sub (by decide) ix m2 (by omega)
  obtain ⟨s3, s4⟩ := E_sub (by decide) iy m4 (by omega)
  obtain ⟨t, t1, t2, t3⟩ := about_ex hw hh hpa ha s2 s4 (by omega) (by omega) (by omega) (by omega)
  obtain ⟨s, o⟩ := t
  simp only at t2 t3
  subst t2
  refine ⟨s, lit_of (X1 := 0) (X2 := 0) (Y1 := 0) (Y2 := 0) (at_of hw hh hpb (by omega) (by omega) (by omega) (by omega)) (at_of hw hh hpc (by omega) (by omega) (by omega) (by omega)) m1 s1 m3 s3 t1, ?_⟩
  rwa [show (x : Int) * 2 ^ 4 = 16 * (x : Int) by omega, show (y : Int) * 2 ^ 4 = 16 * (y : Int) by omega] at t3
 obtain ⟨v, hv⟩ : ∃ v : Int → Int → Nat, ∀ x y : Nat, x < w → y < h → CC.impl_CarryBasin_1.f x y w h (mk w h a) e w h (mk w h b) w h (mk w h c) true = some (v x y) ∧ E 10 (v x y) (cellN n (16 * x - ε * p x y) (16 * y - ε * q x y)) := by
  refine ⟨fun x y => if a0 : x.toNat < w ∧ y.toNat < h then (one x.toNat y.toNat a0.1 a0.2).choose else 0, fun x y hx hy => ?_⟩
  have : (x : Int).toNat < w ∧ (y : Int).toNat < h := ⟨by omega, by omega⟩
  simp only [dif_pos this]
  exact (one x y hx hy).choose_spec
 refine ⟨fun x y => if x.toNat < w ∧ y.toNat < h then v x.toNat y.toNat else 0, fun x y hx hy => ?_, carry_of hw hh (fun x y => ⟨_, (ha x y).1⟩) (fun x y => ⟨_, hb x y⟩) (fun x y => ⟨_, hc x y⟩) ⟨_, he⟩ (fun x y => ?_) (fun x y hx hy => ?_) hk⟩
 ·show E 10 (if (x : Int).toNat < w ∧ (y : Int).toNat < h then v (x : Int).toNat (y : Int).toNat else 0) _
  rw [if_pos ⟨by omega, by omega⟩]
  exact (hv x y hx hy).2
 ·split
  ·rename_i a0
   exact ⟨_, (hv x.toNat y.toNat a0.1 a0.2).2⟩
  exact ⟨_, e_zero 0⟩
 rw [(hv x y hx hy).1]
 show some (v x y) = some (if (x : Int).toNat < w ∧ (y : Int).toNat < h then v (x : Int).toNat (y : Int).toNat else 0)
 rw [if_pos ⟨by omega, by omega⟩]
 rfl
theorem spread_ex {w h : Nat} (hw : Side w) (hh : Side h) {a : Int → Int → Nat} {n : Int → Int → Int} (hp : Per w h a) (ha : EB 2 a n 8) {k : Nat} (hk : 100 ≤ k) :
  CS.impl_SpreadBasin.f k w h (mk w h a) 1040187392 3 = some ((w : Int), (h : Int), mk w h (sprV 1040187392 (sprV 1040187392 (sprV 1040187392 a))), true) := by
 have w2 := hw.2
 have h2 := hh.2
 obtain ⟨j, rfl⟩ : ∃ j, k = j + 5 := ⟨k - 5, by omega⟩
 have step {i : Nat} {b : Int → Int → Nat} {m : Int → Int → Int} {M : Int} (hi : i ≤ 40) (hpb : Per w h b) (hb : EB i b m M) (hM : 16 * M < 16777216) {k : Nat} (hk : 60 ≤ k) : CP.impl_rebuilt.f k w h (mk w h b) w h (mk w h b) 1040187392 = some ((w : Int), (h : Int), mk w h (sprV 1040187392 b), true) := by
  have sp := e_spr hw hh hi hpb hb hM
  refine built_CP hw hh (sprV 1040187392 b) (mk w h b) (mk w h b) 1040187392 (fun x y hx hy => ?_) (fun x y => ⟨_, (sp.1 x y).1⟩) (valid_of hw hh hb.fin) hk
  unfold CP.impl_SpreadBasin_1.f
  rw [at_of hw hh hpb (by omega) (by omega) (by omega) (by omega), (e_lap hw hh (by omega) hpb hb (by omega)).2 x y hx hy]
  simp only [Option.bind_some]
  rw [if_pos (sp.2 x y).1, if_pos (sp.2 x y).2]
  rfl
 have b1 := (e_spr hw hh (by decide) hp ha (by decide)).1
 have p1 := per_spr (r := 1040187392) hp
 have b2 := (e_spr hw hh (by decide) p1 b1 (by decide)).1
 have p2 := per_spr (r := 1040187392) p1
 have cb : CB.impl_rebuilt.f (j + 4) w h (mk w h a) w h (mk w h a) = some ((w : Int), (h : Int), mk w h a, true) := built_CB hw hh a (mk w h a) (mk w h a) (fun x y hx hy => at_of hw hh hp (by omega) (by omega) (by omega) (by omega)) ha.fin (valid_of hw hh ha.fin) (by omega)
 unfold CS.impl_SpreadBasin.f XL.IsFinite.f
 have f8 : Fk .f32 1040187392 _ := e_eighth
 rw [fin_of f8, in_of (by decide) (by decide)]
 simp only [Option.bind_some, if_true, Bool.not_true]
 rw [show j + 5 = (j + 4) + 1 from rfl, CS.impl_SpreadBasin.j0, if_neg (by decide), cb]
 simp only [Option.bind_some]
 rw [show j + 4 = (j + 3) + 1 from rfl, CS.impl_SpreadBasin.l0, if_pos (by decide), if_pos rfl, step (by decide) hp ha (by decide) (by omega)]
 simp only [Option.bind_some]
 rw [show wrap64 (0 + 1) = 1 from w64 (by omega) (by omega), show j + 3 = (j + 2) + 1 from rfl, CS.impl_SpreadBasin.l0, if_pos (by decide), if_pos rfl, step (by decide) p1 b1 (by decide) (by omega)]
 simp only [Option.bind_some]
 rw [show wrap64 (1 + 1) = 2 from w64 (by omega) (by omega), show j + 2 = (j + 1) + 1 from rfl, CS.impl_SpreadBasin.l0, if_pos (by decide), if_pos rfl, step (by decide) p2 b2 (by decide) (by omega)]
 simp only [Option.bind_some]
 rw [show wrap64 (2 + 1) = 3 from w64 (by omega) (by omega), CS.impl_SpreadBasin.l0, if_neg (by decide)]
end PA
end Go.Proofs.Ytelkklnfbfmecaa
end
section
namespace Go.Proofs.Ytelkklnfbfmecaa
open Go.RowKit YtelkklnfbfmecaaW.PrintWords YtelkklnfbfmecaaW.PrintLast Ieee
namespace PA
open FR PU XA XAB
structure G (w h : Nat) (M : Rat) (l : List Nat) : Prop where intro ::
  len : l.length = w * h
  bd : ∀ z ∈ l, B M z
theorem G.per {w h : Nat} (hw : Side w) (hh : Side h) {M : Rat} {l : List Nat} (g : G w h M l) : ∃ v, Per w h v ∧ l = PA.mk w h v ∧ ∀ x y, B M (v x y) := by
  obtain ⟨v, h1, h2, h3⟩ := mk_of hw hh g.len
  exact ⟨v, h1, h2, fun x y => g.bd _ (h3 x y)⟩
theorem G.of {w h : Nat} {M : Rat} {v : Int → Int → Nat} (hb : ∀ x y : Nat, x < w → y < h → B M (v x y)) : G w h M (PA.mk w h v) := by
  refine ⟨mk_len _ _ _, fun z hz => ?_⟩
  unfold PA.mk at hz
  obtain ⟨i, hi, rfl⟩ := List.mem_map.1 hz
  have hi' : i < w * h := List.mem_range.1 hi
  have w0 : 0 < w := Nat.pos_of_ne_zero fun c => by subst c; simp at hi'
  exact hb _ _ (Nat.mod_lt _ w0) (Nat.div_lt_of_lt_mul hi')
theorem G.mono {w h : Nat} {M K : Rat} {l : List Nat} (g : G w h M l) (hk : M ≤ K) : G w h K l := ⟨g.len, fun z hz => (g.bd z hz).mono hk⟩
theorem G.valid {w h : Nat} (hw : Side w) (hh : Side h) {M : Rat} {l : List Nat} (g : G w h M l) : B0.impl_ValidBasin.f w h l = some true := by
  obtain ⟨v, -, rfl, hb⟩ := g.per hw hh
  exact valid_of hw hh fun x y => (hb x y).fin
theorem pick2 {w h : Nat} {M : Rat} (hM : 0 ≤ M) {f : Nat → Nat → Option Nat} (hf : ∀ x y : Nat, x < w → y < h → Ret (f x y) (B M)) : ∃ v : Int → Int → Nat, (∀ x y : Nat, x < w → y < h → f x y = some (v x y)) ∧ ∀ x y, B M (v x y) := by
  refine ⟨fun x y => if hxy : x.toNat < w ∧ y.toNat < h then (hf x.toNat y.toNat hxy.1 hxy.2).choose else 0, fun x y hx hy => ?_, fun x y => ?_⟩
  · have : (x : Int).toNat < w ∧ (y : Int).toNat < h := ⟨by omega, by omega⟩
    simp only [dif_pos this]
    exact (hf x y hx hy).choose_spec.1
  · by_cases c : x.toNat < w ∧ y.toNat < h
    · simp only [dif_pos c]
      exact (hf x.toNat y.toNat c.1 c.2).choose_spec.2
    · simp only [dif_neg c]
      exact ⟨0, ⟨false, 0, -149, by decide, sv_zero _ _⟩, by grind, hM⟩
section
variable {w h : Nat} (hw : Side w) (hh : Side h)
include hw hh
theorem around_bd {M : Rat} (hM0 : 0 ≤ M) (hM : M ≤ 7000) {l : List Nat} (g : G w h M l) {x y : Int} (hx : 0 ≤ x) (hx2 : x ≤ 100) (hy : 0 ≤ y) (hy2 : y ≤ 100) : Ret (B0.impl_Basin_around.f w h l x y) (B (4 * M + 3 / 1000)) := by
  obtain ⟨v, hp, rfl, hb⟩ := g.per hw hh
  unfold B0.impl_Basin_around.f
  rw [w64 (n := x - 1) (by omega) (by omega), w64 (n := x + 1) (by omega) (by omega), w64 (n := y - 1) (by omega) (by omega), w64 (n := y + 1) (by omega) (by omega)]
  rw [at_of hw hh hp (by omega) (by omega) (by omega) (by omega), at_of hw hh hp (by omega) (by omega) (by omega) (by omega), at_of hw hh hp (by omega) (by omega) (by omega) (by omega), at_of hw hh hp (by omega) (by omega) (by omega) (by omega)]
  simp only [Option.bind_some]
  obtain ⟨p1, p2⟩ := B_add (hb (x - 1) y) (hb (x + 1) y) (by grind)
  obtain ⟨q1, q2⟩ := B_add (hb x (y - 1)) (hb x (y + 1)) (by grind)
  obtain ⟨r1, r2⟩ := B_add p2 q2 (by grind)
  rw [if_pos p1, if_pos q1, if_pos r1]
  exact Ret.of (r2.mono (by grind))
theorem sum_bd {M : Rat} (hM0 : 0 ≤ M) (hM : M ≤ 100) {l : List Nat} (g : G w h M l) :
    ∀ (r i s m : Nat), i + r = l.length → B ((i : Rat) * (M + 1)) s → Ret (B0.impl_sum.l0 (r + 1 + m) s l (l.length : Int) (i : Int)) (B ((l.length : Rat) * (M + 1))) := by
  have m1 : w * h ≤ 6 * 6 := Nat.mul_le_mul hw.2 hh.2
  have ll := g.len
  intro r
  induction r with
  | zero =>
    intro i s m hi hs
    rw [show 0 + 1 + m = m + 1 by omega]
    unfold B0.impl_sum.l0
    rw [if_neg (by omega)]
    refine Ret.of ?_
    rwa [← hi, Nat.add_zero]
  | succ r ih =>
    intro i s m hi hs
    rw [show r + 1 + 1 + m = (r + 1 + m) + 1 by omega]
    unfold B0.impl_sum.l0
    have hb := g.bd _ (List.getElem_mem (l := l) (n := i) (by omega))
    have hi36 : (i : Rat) ≤ 36 := Rat.natCast_le_natCast.2 (by omega : i ≤ 36)
    have i0 : (0 : Rat) ≤ (i : Rat) := Rat.natCast_nonneg
    have k := Rat.mul_le_mul_of_nonneg_right hi36 (show 0 ≤ M + 1 by grind)
    obtain ⟨a1, a2⟩ := B_add hs hb (by grind)
    rw [if_pos (by omega), if_pos (by omega), if_pos (by omega), rdOf_lt (by omega), if_pos a1, w64 (by omega) (by omega)]
    refine ih (i + 1) _ m (by omega) (a2.mono ?_)
    rw [show ((i + 1 : Nat) : Rat) = (i : Rat) + 1 by push_cast; rfl]
    grind
theorem even_bd {M : Rat} (hM0 : 0 ≤ M) (hM : M ≤ 100) {l : List Nat} (g : G w h M l) {k : Nat} (hk : 60 ≤ k) : ∃ l', BE.impl_EvenOut.f k w h l = some ((w : Int), (h : Int), l', true) ∧ G w h (2 * M + 2) l' := by
 have m0 : 3 * 3 ≤ w * h := Nat.mul_le_mul hw.1 hh.1
 have m1 : w * h ≤ 6 * 6 := Nat.mul_le_mul hw.2 hh.2
 obtain ⟨N, hN⟩ : ∃ N : Nat, N = w * h := ⟨_, rfl⟩
 have ll : l.length = N := by rw [hN]; exact g.len
 obtain ⟨s, hs, bs⟩ := sum_bd hw hh hM0 hM g l.length 0 0 (k - (l.length + 1)) (by omega) ⟨0, ⟨false, 0, -149, by decide, sv_zero _ _⟩, by rw [show ((0 : Nat) : Rat) = 0 from rfl]; grind, by rw [show ((0 : Nat) : Rat) = 0 from rfl]; grind⟩
 rw [show l.length + 1 + (k - (l.length + 1)) = k by omega] at hs
 have N9 : (9 : Rat) ≤ (N : Rat) := Rat.natCast_le_natCast.2 (by omega : 9 ≤ N)
 have N36 : (N : Rat) ≤ 36 := Rat.natCast_le_natCast.2 (by omega : N ≤ 36)
 have fN : Fk .f32 (floatOfInt .f32 (l.length : Int)) (N : Rat) := by
  rw [ll]
  have := int_k (k := .f32) (N : Int) (by rw [show FloatKind.f32.format.binade = 8388608 by decide]; omega)
  rwa [Rat.intCast_natCast] at this
 rw [ll] at bs
 have nn : (N : Rat) ≠ 0 := by grind
 have kk := Rat.mul_le_mul_of_nonneg_right N36 (show 0 ≤ M + 1 by grind)
 obtain ⟨e1, e2⟩ := B_quo bs fN (by grind) (by grind)
 have eq1 : (N : Rat) * (M + 1) / (N : Rat) = M + 1 := by rw [Rat.mul_comm]; exact Rat.mul_div_cancel nn
 rw [eq1] at e2
 obtain ⟨a, hp, rfl, hb⟩ := g.per hw hh
 obtain ⟨e, he⟩ : ∃ e, e = fop .quo .f32 s (floatOfInt .f32 ((mk w h a).length : Int)) := ⟨_, rfl⟩
 rw [← he] at e2
 have cell : ∀ x y, fok .sub .f32 (a x y) e = true ∧ B (2 * M + 2) (evnV a e x y) := fun x y => by
  obtain ⟨s1, s2⟩ := B_sub (hb x y) e2 (by grind)
  exact ⟨s1, s2.mono (by grind)⟩
 refine ⟨mk w h (evnV a e), ?_, G.of fun x y _ _ => (cell x y).2⟩
 have ev : B0.impl_sum.f k (mk w h a) = some s := hs
 unfold BE.impl_EvenOut.f
 rw [valid_of hw hh fun x y => (hb x y).fin]
 simp only [Option.bind_some, if_true]
 rw [ev]
 simp only [Option.bind_some]
 rw [if_pos e1, ← he, built_BE hw hh (evnV a e) (mk w h a) (mk w h a) e (fun x y hx hy => ?_) (fun x y => (cell x y).2.fin) (valid_of hw hh fun x y => (hb x y).fin) hk]
 ·simp only [Option.bind_some]
 have := hw.2
 have := hh.2
 unfold BE.impl_EvenOut_1.f
 rw [at_of hw hh hp (by omega) (by omega) (by omega) (by omega)]
 simp only [Option.bind_some]
 rw [if_pos (cell _ _).1]
 rfl
theorem f_quarter : B (1 / 4) 1048576000 := ⟨1 / 4, ⟨false, 8388608, -25, by decide, by decide +kernel⟩, by decide +kernel, by decide +kernel⟩
theorem sweep_row {M : Rat} (hM0 : 0 ≤ M) (hM : M ≤ 40) {ev A : List Nat} (ge : G w h (2 * M + 2) ev) {q s : Int} :
  ∀ (r i m t : Nat) (l : List Nat), i + r = w * h → t + r ≤ 144 → G w h ((t : Rat) * (M / 2 + 1)) l →
   ∃ l', G w h (((t + r : Nat) : Rat) * (M / 2 + 1)) l' ∧ CS.impl_SweepStream.l1 (r + 1 + m) q s ((w * h : Nat) : Int) (i : Int) w h A w h ev w h l = CS.impl_SweepStream.l0 m q (wrap64 (s + 1)) w h A w h ev w h l' := by
 have w1 := hw.1
 have m1 : w * h ≤ 6 * 6 := Nat.mul_le_mul hw.2 hh.2
 intro r
 induction r with
 | zero =>
  intro i m t l hi ht g
  refine ⟨l, g, ?_⟩
  rw [show 0 + 1 + m = m + 1 by omega]
  rw [CS.impl_SweepStream.l1, if_neg (by omega)]
 | succ r ih =>
  intro i m t l hi ht g
  rw [show r + 1 + 1 + m = (r + 1 + m) + 1 by omega]
  have t0 : (0 : Rat) ≤ (t : Rat) := Rat.natCast_nonneg
  have t1 : (t : Rat) ≤ 144 := Rat.natCast_le_natCast.2 (by omega : t ≤ 144)
  have c0 : 0 ≤ M / 2 + 1 := by grind
  have k1 := Rat.mul_le_mul_of_nonneg_right t1 c0
  have k2 := Rat.mul_nonneg t0 c0
  have x0 := Int.tmod_nonneg (w : Int) (show (0 : Int) ≤ (i : Int) by omega)
  have x1 := Int.tmod_lt_of_pos (i : Int) (show (0 : Int) < (w : Int) by omega)
  have y0 : 0 ≤ Int.tdiv (i : Int) (w : Int) := Int.tdiv_nonneg (by omega) (by omega)
  have y1 : Int.tdiv (i : Int) (w : Int) ≤ (i : Int) := Int.tdiv_le_self _ (by omega)
  have w6 := hw.2
  obtain ⟨b, b1, b2⟩ := around_bd hw hh k2 (by grind) g (x := Int.tmod (i : Int) (w : Int)) (y := Int.tdiv (i : Int) (w : Int)) x0 (by omega) y0 (by omega)
  have le := ge.len
  have lg := g.len
  have he := ge.bd _ (List.getElem_mem (l := ev) (n := i) (by omega))
  obtain ⟨a1, a2⟩ := B_add b2 he (by grind)
  obtain ⟨d1, d2⟩ := B_mul (f_quarter hw hh) a2 (by grind)
  rw [CS.impl_SweepStream.l1, if_pos (by omega), if_neg (by omega), w64 (n := Int.tdiv (i : Int) (w : Int)) (by omega) (by omega), b1]
  simp only [Option.bind_some]
  rw [if_pos (by omega), if_pos (by omega), rdOf_lt (by omega), if_pos a1, if_pos d1, if_pos (by omega), Int.toNat_natCast, w64 (n := (i : Int) + 1) (by omega) (by omega)]
  have g' : G w h (((t + 1 : Nat) : Rat) * (M / 2 + 1)) (l.set i (fop .mul .f32 1048576000 (fop .add .f32 b ev[i]))) := by
   refine ⟨by rw [List.length_set]; exact lg, fun z hz => ?_⟩
   have e1 : ((t + 1 : Nat) : Rat) = (t : Rat) + 1 := by push_cast; rfl
   rw [e1]
   rcases List.mem_or_eq_of_mem_set hz with c | rfl
   ·exact (g.bd z c).mono (by grind)
   exact d2.mono (by grind)
  obtain ⟨l', g2, e2⟩ := ih (i + 1) m (t + 1) _ (by omega) (by omega) g'
  refine ⟨l', by rw [show t + (r + 1) = t + 1 + r by omega]; exact g2, ?_⟩
  rw [← e2]
  rfl
theorem sweep_all {M : Rat} (hM0 : 0 ≤ M) (hM : M ≤ 40) {ev A : List Nat} (ge : G w h (2 * M + 2) ev) :
    ∀ (r s m t : Nat) (l : List Nat), s + r = 4 → t + r * (w * h) ≤ 144 → G w h ((t : Rat) * (M / 2 + 1)) l →
      ∃ l', G w h (((t + r * (w * h) : Nat) : Rat) * (M / 2 + 1)) l' ∧ CS.impl_SweepStream.l0 (r * (w * h + 2) + 1 + m) 4 (s : Int) w h A w h ev w h l = some ((w : Int), (h : Int), l', true) := by
  intro r
  induction r with
  | zero =>
    intro s m t l hs ht g
    refine ⟨l, by rw [Nat.zero_mul, Nat.add_zero]; exact g, ?_⟩
    rw [show 0 * (w * h + 2) + 1 + m = m + 1 by omega, CS.impl_SweepStream.l0, if_neg (by omega)]
    unfold B0.impl_toldBasin.f
    rw [g.valid hw hh]
    rfl
  | succ r ih =>
    intro s m t l hs ht g
    have e : (r + 1) * (w * h) = r * (w * h) + w * h := by rw [Nat.add_mul, Nat.one_mul]
    have e2 : (r + 1) * (w * h + 2) + 1 + m = ((w * h) + 1 + (r * (w * h + 2) + 1 + m)) + 1 := by rw [Nat.add_mul, Nat.one_mul]; omega
    obtain ⟨l1, g1, q1⟩ := sweep_row hw hh hM0 hM (A := A) ge (q := 4) (s := (s : Int)) (w * h) 0 (r * (w * h + 2) + 1 + m) t l (by omega) (by omega) g
    obtain ⟨l2, g2, q2⟩ := ih (s + 1) m (t + w * h) l1 (by omega) (by omega) g1
    refine ⟨l2, by rw [show t + (r + 1) * (w * h) = t + w * h + r * (w * h) by omega]; exact g2, ?_⟩
    rw [e2, CS.impl_SweepStream.l0, if_pos (by omega), g.len]
    have z : ((0 : Nat) : Int) = 0 := rfl
    rw [z] at q1
    rw [q1, w64 (by omega) (by omega)]
    exact q2
theorem sweep_bd {M : Rat} (hM0 : 0 ≤ M) (hM : M ≤ 40) {A : List Nat} (g : G w h M A) {k : Nat} (hk : 250 ≤ k) : ∃ l', CS.impl_SweepStream.f k w h A w h (mk w h (fun _ _ => 0)) 4 = some ((w : Int), (h : Int), l', true) ∧ G w h (72 * M + 144) l' := by
 have m1 : w * h ≤ 6 * 6 := Nat.mul_le_mul hw.2 hh.2
 obtain ⟨ev, e1, ge⟩ := even_bd hw hh hM0 (by grind) g (k := k) (by omega)
 have z0 : Fk .f32 0 (0 : Rat) := ⟨false, 0, -149, by decide, sv_zero _ _⟩
 have gz : G w h (((0 : Nat) : Rat) * (M / 2 + 1)) (mk w h (fun _ _ => 0)) := G.of fun x y _ _ => ⟨0, z0, by rw [show ((0 : Nat) : Rat) = 0 from rfl]; grind, by rw [show ((0 : Nat) : Rat) = 0 from rfl]; grind⟩
 obtain ⟨j, rfl⟩ : ∃ j, k = j + 1 := ⟨k - 1, by omega⟩
 obtain ⟨l', g', q'⟩ := sweep_all hw hh hM0 hM (A := A) ge 4 0 (j - (4 * (w * h + 2) + 1)) 0 (mk w h (fun _ _ => 0)) (by omega) (by omega) gz
 rw [show 4 * (w * h + 2) + 1 + (j - (4 * (w * h + 2) + 1)) = j by omega] at q'
 refine ⟨l', ?_, g'.mono ?_⟩
 ·unfold CS.impl_SweepStream.f
  rw [e1]
  simp only [Option.bind_some, if_true]
  rw [alike_of (g.valid hw hh) (valid_of hw hh fun _ _ => ⟨_, z0⟩) (by omega), in_of (by decide) (by decide)]
  simp only [Option.bind_some, if_true, Bool.not_true]
  rw [CS.impl_SweepStream.j0, if_neg (by decide)]
  unfold XK.cloneF.f
  rw [if_pos (by rw [mk_len]; omega)]
  simp only [Option.bind_some]
  exact q'
 have : ((0 + 4 * (w * h) : Nat) : Rat) ≤ 144 := Rat.natCast_le_natCast.2 (by omega : 0 + 4 * (w * h) ≤ 144)
 have := Rat.mul_le_mul_of_nonneg_right this (show 0 ≤ M / 2 + 1 by grind)
 grind
end
end PA
end Go.Proofs.Ytelkklnfbfmecaa
end
section
namespace Go.Proofs.Ytelkklnfbfmecaa
open Go.RowKit YtelkklnfbfmecaaW.PrintWords YtelkklnfbfmecaaW.PrintLast Ieee
namespace PA
open FR PU XA XAB
theorem f_two' : Fk .f32 1073741824 (2 : Rat) := ⟨false, 8388608, -22, by decide, by decide +kernel⟩
theorem f_16th : B (1 / 16) 1031798784 := ⟨1 / 16, ⟨false, 8388608, -27, by decide, by decide +kernel⟩, by decide +kernel, by decide +kernel⟩
theorem f_zero : Fk .f32 0 (0 : Rat) := ⟨false, 0, -149, by decide, sv_zero _ _⟩
section
variable {w h : Nat} (hw : Side w) (hh : Side h)
include hw hh
theorem half_bd {S : Rat} (h0 : 0 ≤ S) (hS : S ≤ 10000) {p q : Nat} (hp : B S p) (hq : B S q) : fok .sub .f32 p q = true ∧ fok .quo .f32 (fop .sub .f32 p q) 1073741824 = true ∧ B (S + 1) (fop .quo .f32 (fop .sub .f32 p q) 1073741824) := by
  obtain ⟨s1, s2⟩ := B_sub hp hq (by grind)
  obtain ⟨q1, q2⟩ := B_quo s2 f_two' (by grind) (by grind)
  exact ⟨s1, q1, q2.mono (by grind)⟩
theorem flows_bd {S : Rat} (h0 : 0 ≤ S) (hS : S ≤ 10000) {l : List Nat} (g : G w h S l) {k : Nat} (hk : 60 ≤ k) : ∃ u v, CS.impl_FlowsInBasin.f k w h l = some ((w : Int), (h : Int), u, (w : Int), (h : Int), v, true) ∧ G w h (S + 1) u ∧ G w h (S + 1) v := by
 have w2 := hw.2
 have h2 := hh.2
 obtain ⟨a, hp, rfl, hb⟩ := g.per hw hh
 have val := g.valid hw hh
 obtain ⟨u, u1, u2⟩ := pick2 (w := w) (h := h) (M := S + 1) (by grind) (f := fun x y => CU.impl_FlowsInBasin_1.f x y w h (mk w h a)) (fun x y hx hy => by
  obtain ⟨s1, s2, s3⟩ := half_bd hw hh h0 hS (hb x (y + 1)) (hb x (y - 1))
  unfold CU.impl_FlowsInBasin_1.f
  rw [w64 (n := (y : Int) + 1) (by omega) (by omega), w64 (n := (y : Int) - 1) (by omega) (by omega), at_of hw hh hp (by omega) (by omega) (by omega) (by omega), at_of hw hh hp (by omega) (by omega) (by omega) (by omega)]
  simp only [Option.bind_some]
  rw [if_pos s1, if_pos s2]
  exact Ret.of s3)
 obtain ⟨v, v1, v2⟩ := pick2 (w := w) (h := h) (M := S + 1) (by grind) (f := fun x y => CV.impl_FlowsInBasin_2.f x y w h (mk w h a)) (fun x y hx hy => by
  obtain ⟨s1, s2, s3⟩ := half_bd hw hh h0 hS (hb (x - 1) y) (hb (x + 1) y)
  unfold CV.impl_FlowsInBasin_2.f
  rw [w64 (n := (x : Int) - 1) (by omega) (by omega), w64 (n := (x : Int) + 1) (by omega) (by omega), at_of hw hh hp (by omega) (by omega) (by omega) (by omega), at_of hw hh hp (by omega) (by omega) (by omega) (by omega)]
  simp only [Option.bind_some]
  rw [if_pos s1, if_pos s2]
  exact Ret.of s3)
 refine ⟨mk w h u, mk w h v, ?_, G.of fun x y _ _ => u2 _ _, G.of fun x y _ _ => v2 _ _⟩
 unfold CS.impl_FlowsInBasin.f
 rw [built_CU hw hh u (mk w h a) (mk w h a) u1 (fun x y => (u2 x y).fin) val hk]
 simp only [Option.bind_some]
 rw [built_CV hw hh v (mk w h a) (mk w h a) v1 (fun x y => (v2 x y).fin) val hk]
 simp only [Option.bind_some, if_true]
theorem carry_bd {M S : Rat} (hM0 : 0 ≤ M) (hM : M ≤ 100) (hS0 : 0 ≤ S) (hS : S ≤ 3400) {la lb lc : List Nat} (ga : G w h M la) (gb : G w h S lb) (gc : G w h S lc) {k : Nat} (hk : 70 ≤ k) : ∃ l, CD.impl_CarryBasin.f k w h la w h lb w h lc 1048576000 = some ((w : Int), (h : Int), l, true) ∧ G w h (10 * M + 1) l := by
 have w2 := hw.2
 have h2 := hh.2
 obtain ⟨a, hpa, rfl, ba⟩ := ga.per hw hh
 obtain ⟨b, hpb, rfl, bb⟩ := gb.per hw hh
 obtain ⟨c, hpc, rfl, bc⟩ := gc.per hw hh
 have i6 (n : Nat) (hn : n ≤ 6) : B 6 (floatOfInt .f32 (n : Int)) := by
  have := int_k (k := .f32) (n : Int) (by rw [show FloatKind.f32.format.binade = 8388608 by decide]; omega)
  rw [Rat.intCast_natCast] at this
  have a1 : (n : Rat) ≤ 6 := Rat.natCast_le_natCast.2 hn
  have a0 : (0 : Rat) ≤ (n : Rat) := Rat.natCast_nonneg
  exact ⟨n, this, by grind, by grind⟩
 obtain ⟨v, v1, v2⟩ := pick2 (w := w) (h := h) (M := 10 * M + 1) (by grind) (f := fun x y => CC.impl_CarryBasin_1.f x y w h (mk w h a) 1048576000 w h (mk w h b) w h (mk w h c) true) (fun x y hx hy => by
  obtain ⟨m1, m2⟩ := B_mul (f_quarter hw hh) (bb x y) (by grind)
  obtain ⟨m3, m4⟩ := B_mul (f_quarter hw hh) (bc x y) (by grind)
  obtain ⟨s1, s2⟩ := B_sub (i6 x (by omega)) m2 (by grind)
  obtain ⟨s3, s4⟩ := B_sub (i6 y (by omega)) m4 (by grind)
  obtain ⟨t, t1, t2, t3⟩ := about_bd hw hh hpa hM0 hM ba (s2.mono (K := 900) (by grind)) (s4.mono (K := 900) (by grind))
  obtain ⟨s, o⟩ := t
  simp only at t2 t3
  subst t2
  exact ⟨s, lit_of (X1 := 0) (X2 := 0) (Y1 := 0) (Y2 := 0) (at_of hw hh hpb (by omega) (by omega) (by omega) (by omega)) (at_of hw hh hpc (by omega) (by omega) (by omega) (by omega)) m1 s1 m3 s3 t1, t3⟩)
 obtain ⟨q, hq, -⟩ := f_quarter hw hh
 exact ⟨mk w h v, carry_of hw hh (fun x y => (ba x y).fin) (fun x y => (bb x y).fin) (fun x y => (bc x y).fin) ⟨q, hq⟩ (fun x y => (v2 x y).fin) v1 hk, G.of fun x y _ _ => v2 _ _⟩
theorem spread_bd {C : Rat} (h0 : 0 ≤ C) (hC : C ≤ 1000) {l : List Nat} (g : G w h C l) {k : Nat} (hk : 100 ≤ k) : ∃ l', CS.impl_SpreadBasin.f k w h l 1031798784 1 = some ((w : Int), (h : Int), l', true) ∧ G w h (3 / 2 * C + 1) l' := by
 have w2 := hw.2
 have h2 := hh.2
 have val := g.valid hw hh
 have g0 := g
 obtain ⟨a, hp, rfl, hb⟩ := g.per hw hh
 obtain ⟨q, hq, -⟩ := f_16th
 obtain ⟨v, v1, v2⟩ := pick2 (w := w) (h := h) (M := 3 / 2 * C + 1) (by grind) (f := fun x y => CP.impl_SpreadBasin_1.f x y w h (mk w h a) 1031798784) (fun x y hx hy => by
  obtain ⟨r, r1, r2⟩ := around_bd hw hh h0 (by grind) g0 (x := (x : Int)) (y := (y : Int)) (by omega) (by omega) (by omega) (by omega)
  have f4 : B 4 1082130432 := ⟨4, f_four, by grind, by grind⟩
  obtain ⟨m1, m2⟩ := B_mul f4 (hb x y) (by grind)
  obtain ⟨s1, s2⟩ := B_sub r2 m2 (by grind)
  obtain ⟨t1, t2⟩ := B_mul f_16th s2 (by grind)
  obtain ⟨u1, u2⟩ := B_add (hb x y) t2 (by grind)
  unfold CP.impl_SpreadBasin_1.f B0.impl_Basin_laplace.f
  rw [at_of hw hh hp (by omega) (by omega) (by omega) (by omega), r1]
  simp only [Option.bind_some]
  rw [if_pos m1, if_pos s1]
  simp only [Option.bind_some]
  rw [if_pos t1, if_pos u1]
  exact Ret.of (u2.mono (by grind)))
 refine ⟨mk w h v, ?_, G.of fun x y _ _ => v2 _ _⟩
 obtain ⟨j, rfl⟩ : ∃ j, k = j + 3 := ⟨k - 3, by omega⟩
 unfold CS.impl_SpreadBasin.f XL.IsFinite.f
 rw [fin_of hq, in_of (by decide) (by decide)]
 simp only [Option.bind_some, if_true, Bool.not_true]
 rw [show j + 3 = (j + 2) + 1 from rfl, CS.impl_SpreadBasin.j0, if_neg (by decide), built_CB hw hh a (mk w h a) (mk w h a) (fun x y hx hy => at_of hw hh hp (by omega) (by omega) (by omega) (by omega)) (fun x y => (hb x y).fin) val (by omega)]
 simp only [Option.bind_some]
 rw [show j + 2 = (j + 1) + 1 from rfl, CS.impl_SpreadBasin.l0, if_pos (by decide), if_pos rfl, built_CP hw hh v (mk w h a) (mk w h a) 1031798784 v1 (fun x y => (v2 x y).fin) val (by omega)]
 simp only [Option.bind_some]
 rw [show wrap64 (0 + 1) = 1 from w64 (by omega) (by omega), CS.impl_SpreadBasin.l0, if_neg (by decide)]
theorem step_bd {M : Rat} (hM0 : 2 ≤ M) (hM : M ≤ 40) {l : List Nat} (g : G w h M l) {k : Nat} (hk : 300 ≤ k) : ∃ l', CS.impl_StepBasin.f k w h l 1048576000 1031798784 4 = some ((w : Int), (h : Int), l', true) ∧ G w h (17 * M) l' := by
  obtain ⟨s, s1, s2⟩ := sweep_bd hw hh (by grind) hM g (k := k) (by omega)
  obtain ⟨u, v, f1, f2, f3⟩ := flows_bd hw hh (by grind) (by grind) s2 (k := k) (by omega)
  obtain ⟨j, rfl⟩ : ∃ j, k = j + 1 := ⟨k - 1, by omega⟩
  obtain ⟨c, c1, c2⟩ := carry_bd hw hh (by grind) (by grind) (by grind) (by grind) g f2 f3 (k := j) (by omega)
  obtain ⟨l', p1, p2⟩ := spread_bd hw hh (by grind) (by grind) c2 (k := j) (by omega)
  refine ⟨l', ?_, p2.mono (by grind)⟩
  unfold CS.impl_StepBasin.f
  rw [flat_of hw hh ⟨_, f_zero⟩ (by omega)]
  simp only [Option.bind_some]
  rw [s1]
  simp only [Option.bind_some]
  rw [f1]
  simp only [Option.bind_some, if_true, Bool.not_true]
  rw [CS.impl_StepBasin.j0, if_neg (by decide), c1]
  simp only [Option.bind_some, if_true]
  rw [p1]
  simp only [Option.bind_some]
theorem step_same {l l' : List Nat} {k : Nat} (hs : CS.impl_StepBasin.f 300 w h l 1048576000 1031798784 4 = some ((w : Int), (h : Int), l', true)) (hk : 300 ≤ k) : CS.impl_StepBasin.f k w h l 1048576000 1031798784 4 = some ((w : Int), (h : Int), l', true) := by
  obtain ⟨d, rfl⟩ : ∃ d, k = 300 + d := ⟨k - 300, by omega⟩
  clear hk
  induction d with
  | zero => exact hs
  | succ d ih => exact CS.impl_StepBasin.mono _ _ _ _ _ _ _ _ ih
theorem dot_bd {M : Rat} (hM0 : 0 ≤ M) (hM : M ≤ 1000) {l : List Nat} (g : G w h M l) :
    ∀ (r i s m : Nat), i + r = l.length → B ((i : Rat) * 300000000) s → Ret (B0.impl_dot.l0 (r + 1 + m) l s l (l.length : Int) (i : Int)) (B ((l.length : Rat) * 300000000)) := by
  have m1 : w * h ≤ 6 * 6 := Nat.mul_le_mul hw.2 hh.2
  have ll := g.len
  intro r
  induction r with
  | zero =>
    intro i s m hi hs
    rw [show 0 + 1 + m = m + 1 by omega]
    unfold B0.impl_dot.l0
    rw [if_neg (by omega)]
    refine Ret.of ?_
    rwa [← hi, Nat.add_zero]
  | succ r ih =>
    intro i s m hi hs
    rw [show r + 1 + 1 + m = (r + 1 + m) + 1 by omega]
    unfold B0.impl_dot.l0
    have hb := g.bd _ (List.getElem_mem (l := l) (n := i) (by omega))
    have hi36 : (i : Rat) ≤ 36 := Rat.natCast_le_natCast.2 (by omega : i ≤ 36)
    have sq : M * M ≤ 1000000 := by
      have := Rat.mul_le_mul_of_nonneg_left hM hM0
      grind
    obtain ⟨p1, p2⟩ := B_mul' hb hb (by grind)
    obtain ⟨a1, a2⟩ := B_add' hs p2 (by grind)
    rw [if_pos (by omega), if_pos (by omega), if_pos (by omega), if_pos (by omega), rdOf_lt (by omega), if_pos p1, if_pos a1, w64 (by omega) (by omega)]
    refine ih (i + 1) _ m (by omega) (a2.mono ?_)
    rw [show ((i + 1 : Nat) : Rat) = (i : Rat) + 1 by push_cast; rfl]
    grind
theorem dot_told {M : Rat} (hM0 : 0 ≤ M) (hM : M ≤ 1000) {l : List Nat} (g : G w h M l) {k : Nat} (hk : 60 ≤ k) : ∃ d, B0.impl_dot.f k l l = some d ∧ Fin d := by
  have m1 : w * h ≤ 6 * 6 := Nat.mul_le_mul hw.2 hh.2
  have ll := g.len
  have := dot_bd hw hh hM0 hM g l.length 0 0 (k - (l.length + 1)) (by omega) ⟨0, f_zero, by rw [show ((0 : Nat) : Rat) = 0 from rfl]; grind, by rw [show ((0 : Nat) : Rat) = 0 from rfl]; grind⟩
  rw [show l.length + 1 + (k - (l.length + 1)) = k by omega] at this
  obtain ⟨d, d1, d2⟩ := this
  exact ⟨d, d1, d2.fin⟩
theorem run_bd {l : List Nat} (g : G w h 2 l) {k : Nat} (hk : 400 ≤ k) : ∃ l1 l2 sq, CS.impl_StepBasin.f k w h l 1048576000 1031798784 4 = some ((w : Int), (h : Int), l1, true) ∧ CS.impl_StepBasin.f k w h l1 1048576000 1031798784 4 = some ((w : Int), (h : Int), l2, true) ∧
  CS.impl_RunBasin.f k w h l 1048576000 1031798784 4 2 = some ((w : Int), (h : Int), l2, sq, true) ∧ sq.length = 2 ∧ G w h 1000 l2 := by
 have w2 := hw.2
 have h2 := hh.2
 obtain ⟨l1, a1, a2⟩ := step_bd hw hh (by grind) (by grind) g (k := 300) (by omega)
 obtain ⟨l2, b1, b2⟩ := step_bd hw hh (by grind) (by grind) a2 (k := 300) (by omega)
 have A {k : Nat} (hk : 300 ≤ k) := step_same hw hh a1 hk
 have B' {k : Nat} (hk : 300 ≤ k) := step_same hw hh b1 hk
 obtain ⟨j, rfl⟩ : ∃ j, k = j + 4 := ⟨k - 4, by omega⟩
 obtain ⟨d1, e1, f1⟩ := dot_told hw hh (by grind) (by grind) a2 (k := j + 2) (by omega)
 obtain ⟨d2, e2, f2⟩ := dot_told hw hh (by grind) (by grind) b2 (k := j + 1) (by omega)
 refine ⟨l1, l2, [d1, d2], A (by omega), B' (by omega), ?_, rfl, b2.mono (by grind)⟩
 have val := g.valid hw hh
 obtain ⟨a, hp, rfl, hb⟩ := g.per hw hh
 obtain ⟨q, hq, -⟩ := f_16th
 obtain ⟨q4, hq4, -⟩ := f_quarter hw hh
 have fin2 : XW.finite.f [1048576000, 1031798784] = some true := finite_of fun x hx => by
  rcases List.mem_cons.1 hx with rfl | hx
  ·exact ⟨_, hq4⟩
  rw [List.mem_singleton.1 hx]; exact ⟨_, hq⟩
 have find : XW.finite.f [d1, d2] = some true := finite_of fun x hx => by
  rcases List.mem_cons.1 hx with rfl | hx
  ·exact f1
  rw [List.mem_singleton.1 hx]; exact f2
 unfold CS.impl_RunBasin.f
 rw [built_CB hw hh a (mk w h a) (mk w h a) (fun x y hx hy => at_of hw hh hp (by omega) (by omega) (by omega) (by omega)) (fun x y => (hb x y).fin) val (by omega)]
 simp only [Option.bind_some, if_true]
 rw [fin2]
 simp only [Option.bind_some, if_true]
 rw [in_of (by decide) (by decide)]
 simp only [Option.bind_some, if_true]
 rw [in_of (by decide) (by decide)]
 simp only [Option.bind_some, Bool.not_true]
 rw [show j + 4 = (j + 3) + 1 from rfl, CS.impl_RunBasin.j0, if_neg (by decide)]
 rw [show j + 3 = (j + 2) + 1 from rfl, CS.impl_RunBasin.l0, if_pos (by decide), A (by omega)]
 simp only [Option.bind_some, if_true]
 rw [e1]
 simp only [Option.bind_some]
 rw [if_pos (by decide), show wrap64 (0 + 1) = 1 from w64 (by omega) (by omega)]
 rw [show j + 2 = (j + 1) + 1 from rfl, CS.impl_RunBasin.l0, if_pos (by decide), B' (by omega)]
 simp only [Option.bind_some, if_true]
 rw [e2]
 simp only [Option.bind_some]
 rw [if_pos (by simp), show wrap64 (1 + 1) = 2 from w64 (by omega) (by omega)]
 rw [CS.impl_RunBasin.l0, if_neg (by decide)]
 rw [show ([] ++ [d1] ++ [d2] : List Nat) = [d1, d2] from rfl, find]
 simp only [Option.bind_some, if_true]
end
end PA
end Go.Proofs.Ytelkklnfbfmecaa
end
section
namespace Go.Proofs.Ytelkklnfbfmecaa
open Go.RowKit YtelkklnfbfmecaaW.PrintWords YtelkklnfbfmecaaW.PrintLast Ieee
namespace PA
open FR PU XA XAB
theorem same_eq {x y : Nat} {v : Rat} (hx : Fk .f32 x v) (hy : Fk .f32 y v) : FloatKind.f32.format.order x y = some .eq := by
  rw [show FloatKind.f32.format.order x y = some (FR.cmp v v) from order_val hx hy]
  unfold FR.cmp
  rw [if_neg (by grind), if_pos rfl]
theorem U_one {x : Nat} {a b : Int} (ha : U x a) (hb : U x b) : a = b := by
  have := U_order ha hb
  have e := same_eq ha ha
  rw [e] at this
  by_cases c : a < b
  · rw [if_pos c] at this; exact absurd this (by decide)
  · rw [if_neg c] at this
    by_cases c2 : a = b
    · exact c2
    · rw [if_neg c2] at this; exact absurd this (by decide)
theorem per_n' {w h : Nat} {v : Int → Int → Nat} {n : Int → Int → Int} {M : Int} (hp : Per w h v) (hv : UB v n M) : (∀ x y, n (x + w) y = n x y) ∧ (∀ x y, n x (y + h) = n x y) := by
  constructor
  · intro x y
    have e : v (x + w) y = v x y := hp.to (Int.add_emod_right _ _) rfl
    have a := (hv (x + w) y).1
    rw [e] at a
    exact U_one a (hv x y).1
  · intro x y
    have e : v x (y + h) = v x y := hp.to rfl (Int.add_emod_right _ _)
    have a := (hv x (y + h)).1
    rw [e] at a
    exact U_one a (hv x y).1
theorem rep_zero' : Rep double (0 : Rat) := ⟨0, 0, by rw [Rat.intCast_zero, Rat.zero_mul], by decide, by decide⟩
theorem range_loop2 {l : List Nat} {g : Nat → Int} (hl : l.length ≤ 36) (hg : ∀ i, i < l.length → U (rdOf (0 : Nat) l (i : Int)) (g i)) (hgb : ∀ i, i < l.length → -128 ≤ g i ∧ g i ≤ 128) :
  ∀ (r i a b m : Nat) (p q : Int), i + r = l.length → U a p → U b q → p ≤ q → (-128 ≤ p ∧ q ≤ 128) → (∀ j, j < i → p ≤ g j ∧ g j ≤ q) → Ret (B0.impl_RangeInBasin.l0 (r + 1 + m) a b l (l.length : Int) (i : Int)) (fun t => t.2.2 = true ∧ ∃ p q, U t.1 p ∧ U t.2.1 q ∧ (-128 ≤ p ∧ q ≤ 128) ∧ ∀ j, j < l.length → p ≤ g j ∧ g j ≤ q) := by
 intro r
 induction r with
 | zero =>
  intro i a b m p q hi ha hb hpq hpb hj
  rw [show 0 + 1 + m = m + 1 by omega]
  unfold B0.impl_RangeInBasin.l0
  rw [if_neg (by omega)]
  exact Ret.of ⟨rfl, p, q, ha, hb, hpb, fun j h => hj j (by omega)⟩
 | succ r ih =>
  intro i a b m p q hi ha hb hpq hpb hj
  rw [show r + 1 + 1 + m = (r + 1 + m) + 1 by omega]
  unfold B0.impl_RangeInBasin.l0
  have g1 := hg i (by omega)
  have gb := hgb i (by omega)
  have nx {p' q' : Int} (h1 : p' ≤ p) (h2 : q ≤ q') (h3 : p' ≤ g i) (h4 : g i ≤ q') : ∀ j, j < i + 1 → p' ≤ g j ∧ g j ≤ q' := fun j h => by
   rcases Nat.lt_or_eq_of_le (Nat.le_of_lt_succ h) with c | rfl
   ·have := hj j c
    exact ⟨by omega, by omega⟩
   exact ⟨h3, h4⟩
  rw [if_pos (by omega), if_pos (by omega), if_pos (by omega), U_order g1 ha, U_order g1 hb, w64 (by omega) (by omega)]
  by_cases c1 : g i < p
  ·rw [if_pos c1]
   have c2 : g i < q := by omega
   rw [if_pos c2, if_pos (show ((some Ordering.lt : Option Ordering) == some .lt) = true from rfl), if_neg (show ¬ ((some Ordering.lt : Option Ordering) == some .gt) = true by decide)]
   exact ih (i + 1) _ _ m _ _ (by omega) g1 hb (by omega) (by omega) (nx (by omega) (by omega) (by omega) (by omega))
  rw [if_neg c1]
  have e1 : ((some (if g i = p then Ordering.eq else Ordering.gt) : Option Ordering) == some .lt) = false := by split <;> rfl
  rw [e1, if_neg (by decide)]
  by_cases c2 : g i < q
  ·rw [if_pos c2, if_neg (show ¬ ((some Ordering.lt : Option Ordering) == some .gt) = true by decide)]
   exact ih (i + 1) _ _ m _ _ (by omega) ha hb hpq hpb (nx (by omega) (by omega) (by omega) (by omega))
  rw [if_neg c2]
  by_cases c3 : g i = q
  ·rw [if_pos c3, if_neg (show ¬ ((some Ordering.eq : Option Ordering) == some .gt) = true by decide)]
   exact ih (i + 1) _ _ m _ _ (by omega) ha hb hpq hpb (nx (by omega) (by omega) (by omega) (by omega))
  rw [if_neg c3, if_pos (show ((some Ordering.gt : Option Ordering) == some .gt) = true by decide)]
  exact ih (i + 1) _ _ m _ _ (by omega) ha g1 (by omega) (by omega) (nx (by omega) (by omega) (by omega) (by omega))
theorem dot_ex {l : List Nat} {g : Nat → Int} (hl : l.length ≤ 36) (hg : ∀ i, i < l.length → U (rdOf (0 : Nat) l (i : Int)) (16 * g i) ∧ -8 ≤ g i ∧ g i ≤ 8) :
  ∀ (r i s m : Nat), i + r = l.length → U s (S1 (fun i => 4 * (g i * g i)) i) → Ret (B0.impl_dot.l0 (r + 1 + m) l s l (l.length : Int) (i : Int)) (fun t => U t (S1 (fun i => 4 * (g i * g i)) l.length)) := by
 have q : ∀ i, i < l.length → 0 ≤ g i * g i ∧ g i * g i ≤ 64 := fun i hi => by
  obtain ⟨-, g2, g3⟩ := hg i hi
  refine ⟨sq_nonneg _, ?_⟩
  have t : (8 - g i) * (8 + g i) ≥ 0 := Int.mul_nonneg (by omega) (by omega)
  have e : (8 - g i) * (8 + g i) = 64 - g i * g i := by grind
  omega
 intro r
 induction r with
 | zero =>
  intro i s m hi hs
  rw [show 0 + 1 + m = m + 1 by omega]
  unfold B0.impl_dot.l0
  rw [if_neg (by omega)]
  refine Ret.of ?_
  rwa [← hi, Nat.add_zero]
 | succ r ih =>
  intro i s m hi hs
  rw [show r + 1 + 1 + m = (r + 1 + m) + 1 by omega]
  unfold B0.impl_dot.l0
  obtain ⟨g1, g2, g3⟩ := hg i (by omega)
  have b := S1_bd (M := 256) i (f := fun i => 4 * (g i * g i)) (fun j hj => by have := q j (by omega); exact ⟨by show -256 ≤ 4 * (g j * g j); omega, by show 4 * (g j * g j) ≤ 256; omega⟩)
  have qi := q i (by omega)
  obtain ⟨a1, a2⟩ := U_sq g1 g1 (by omega)
  obtain ⟨b1, b2⟩ := U_add hs a2 (by omega)
  rw [if_pos (by omega), if_pos (by omega), if_pos (by omega), if_pos (by omega), if_pos a1, if_pos b1, w64 (by omega) (by omega)]
  exact ih (i + 1) _ m (by omega) b2
theorem dot_near {l : List Nat} {g : Nat → Int} (hl : l.length ≤ 36) (hg : ∀ i, i < l.length → E 11 (rdOf (0 : Nat) l (i : Int)) (g i) ∧ -4096 ≤ g i ∧ g i ≤ 4096) :
  ∀ (r i s m : Nat), i + r = l.length → (∃ c, Fk .f32 s c ∧ c ≤ ((S1 (fun i => g i * g i) i : Int) : Rat) * (1 / 4194304) + (i : Rat) * (ulp * 2) ∧ ((S1 (fun i => g i * g i) i : Int) : Rat) * (1 / 4194304) ≤ c + (i : Rat) * (ulp * 2)) →
   Ret (B0.impl_dot.l0 (r + 1 + m) l s l (l.length : Int) (i : Int)) (fun t => ∃ c, Fk .f32 t c ∧ c ≤ ((S1 (fun i => g i * g i) l.length : Int) : Rat) * (1 / 4194304) + (l.length : Rat) * (ulp * 2)) := by
 have q : ∀ i, i < l.length → 0 ≤ g i * g i ∧ g i * g i ≤ 16777216 := fun i hi => by
  obtain ⟨-, g2, g3⟩ := hg i hi
  refine ⟨sq_nonneg _, ?_⟩
  have t : (4096 - g i) * (4096 + g i) ≥ 0 := Int.mul_nonneg (by omega) (by omega)
  have e : (4096 - g i) * (4096 + g i) = 16777216 - g i * g i := by grind
  omega
 intro r
 induction r with
 | zero =>
  intro i s m hi hs
  rw [show 0 + 1 + m = m + 1 by omega]
  unfold B0.impl_dot.l0
  rw [if_neg (by omega)]
  obtain ⟨c, c1, c2, -⟩ := hs
  refine Ret.of ⟨c, c1, ?_⟩
  rwa [← hi, Nat.add_zero]
 | succ r ih =>
  intro i s m hi hs
  rw [show r + 1 + 1 + m = (r + 1 + m) + 1 by omega]
  unfold B0.impl_dot.l0
  obtain ⟨g1, g2, g3⟩ := hg i (by omega)
  obtain ⟨c, s1, s2, s3⟩ := hs
  have qi := q i (by omega)
  have b := S1_bd (M := 16777216) i (f := fun i => g i * g i) (fun j hj => by have := q j (by omega); exact ⟨by show -16777216 ≤ g j * g j; omega, by show g j * g j ≤ 16777216; omega⟩)
  obtain ⟨v, hv⟩ : ∃ v : Rat, v = ((g i * g i : Int) : Rat) * (1 / 4194304) := ⟨_, rfl⟩
  have v0 : 0 ≤ v ∧ v ≤ 4 := by
   have k1 : ((0 : Int) : Rat) ≤ ((g i * g i : Int) : Rat) := Rat.intCast_le_intCast.2 qi.1
   have k2 : ((g i * g i : Int) : Rat) ≤ ((16777216 : Int) : Rat) := Rat.intCast_le_intCast.2 qi.2
   have e1 : ((0 : Int) : Rat) = 0 := rfl
   have e2 : ((16777216 : Int) : Rat) = 16777216 := rfl
   rw [e1] at k1
   rw [e2] at k2
   rw [hv]
   constructor <;> grind
  have p11 : (2 : Rat) ^ (-((11 : Nat) : Int)) = 1 / 2048 := by decide +kernel
  have g1' := g1
  unfold E at g1'
  rw [p11] at g1'
  have ev : ((g i : Int) : Rat) * (1 / 2048) * (((g i : Int) : Rat) * (1 / 2048)) = v := by rw [hv, Rat.intCast_mul]; grind
  obtain ⟨t, d, a1, a2, a3, -⟩ := mul_val (f := single) (.inl rfl) g1' g1' (J := 3) (bound (P := 8) (M := 4) (K := 0) (by decide +kernel) (by rw [ev]; grind) (by rw [ev]; grind) (by decide +kernel)) (by decide)
  rw [ev, hu3] at a3
  unfold Nr at a3
  have hu := ulp_pos
  have hu2 := ulp_le
  have hi36 : (i : Rat) ≤ 36 := Rat.natCast_le_natCast.2 (by omega : i ≤ 36)
  have i0 : (0 : Rat) ≤ (i : Rat) := Rat.natCast_nonneg
  have hiu : (i : Rat) * ulp ≤ 36 * ulp := Rat.mul_le_mul_of_nonneg_right hi36 (Rat.le_of_lt hu)
  have sb : ((S1 (fun i => g i * g i) i : Int) : Rat) ≤ (i : Rat) * 16777216 ∧ -((i : Rat) * 16777216) ≤ ((S1 (fun i => g i * g i) i : Int) : Rat) := by
   have k2 := Rat.intCast_le_intCast.2 b.2
   have k1 := Rat.intCast_le_intCast.2 b.1
   rw [Rat.intCast_mul, Rat.intCast_natCast] at k2
   rw [Rat.intCast_neg, Rat.intCast_mul, Rat.intCast_natCast] at k1
   exact ⟨k2, k1⟩
  obtain ⟨z, f, z1, z2, z3, -⟩ := add_val (f := single) (.inl rfl) s1 a2 (J := 8) (bound (P := 256) (M := 200) (K := 0) (by decide +kernel) (by grind) (by grind) (by decide +kernel)) (by decide)
  rw [hu8] at z3
  unfold Nr at z3
  obtain ⟨k1, k2⟩ := fok_of (op := .mul) (k := .f32) a1
  obtain ⟨k3, k4⟩ := fok_of (op := .add) (k := .f32) z1
  rw [if_pos (by omega), if_pos (by omega), if_pos (by omega), if_pos (by omega), if_pos k1, k2, if_pos k3, k4, w64 (by omega) (by omega)]
  have es : ((S1 (fun i => g i * g i) (i + 1) : Int) : Rat) * (1 / 4194304) = ((S1 (fun i => g i * g i) i : Int) : Rat) * (1 / 4194304) + v := by
   rw [hv]
   simp only [S1]
   rw [Rat.intCast_add]
   grind
  refine ih (i + 1) z m (by omega) ⟨f, z2, ?_, ?_⟩ <;> rw [es, show ((i + 1 : Nat) : Rat) = (i : Rat) + 1 by push_cast; rfl] <;> grind
theorem kap2 : Fk .f64 4576918229304087675 ((5764607523034235 : Rat) * (2 : Rat) ^ (-59 : Int)) := ⟨false, 5764607523034235, -59, by decide, by decide +kernel⟩
theorem kap2_lo : (99 : Rat) / 10000 ≤ (5764607523034235 : Rat) * (2 : Rat) ^ (-59 : Int) ∧ (5764607523034235 : Rat) * (2 : Rat) ^ (-59 : Int) ≤ 1 := by decide +kernel
theorem kap_b : (9 : Rat) / 10000 ≤ kap ∧ kap ≤ 1 := by unfold kap; decide +kernel
theorem h20 : hu double 20 ≤ 1 / 1000000 := by decide +kernel
theorem p20 : (2 : Rat) ^ (20 : Int) = 1048576 := by decide +kernel
theorem lt_of {x y : Nat} {a b : Rat} (hx : Fk .f64 x a) (hy : Fk .f64 y b) (h : a < b) : FloatKind.f64.format.order x y = some .lt := by
  rw [show FloatKind.f64.format.order x y = some (FR.cmp a b) from order_val hx hy]
  unfold FR.cmp
  rw [if_pos h]
theorem gt_of {x y : Nat} {a b : Rat} (hx : Fk .f64 x a) (hy : Fk .f64 y b) (h : b < a) : FloatKind.f64.format.order x y = some .gt := by
  rw [show FloatKind.f64.format.order x y = some (FR.cmp a b) from order_val hx hy]
  unfold FR.cmp
  rw [if_neg (by grind), if_neg (by grind)]
theorem less_of {x y : Nat} {a k : Rat} (hx : Fk .f64 x a) (hy : Fk .f64 y k) (h0 : -1000 ≤ a) (h1 : a ≤ 1000) (k0 : 1 / 10000 ≤ k) (k1 : k ≤ 1) : fok .sub .f64 x y = true ∧ ∃ c, Fk .f64 (fop .sub .f64 x y) c ∧ c < a := by
  obtain ⟨r, c, a1, a2, a3, -⟩ := sub_val (f := double) (.inr rfl) hx hy (J := 20) (bound (M := 1001) (K := 0) p20 (by grind) (by grind) (by decide +kernel)) (by decide)
  obtain ⟨g1, g2⟩ := fok_of (op := .sub) (k := .f64) a1
  have := h20
  unfold Nr at a3
  rw [g2]
  exact ⟨g1, c, a2, by grind⟩
theorem more_of {x y : Nat} {a k : Rat} (hx : Fk .f64 x a) (hy : Fk .f64 y k) (h0 : -1000 ≤ a) (h1 : a ≤ 1000) (k0 : 1 / 10000 ≤ k) (k1 : k ≤ 1) : fok .add .f64 x y = true ∧ ∃ c, Fk .f64 (fop .add .f64 x y) c ∧ a + k - 1 / 1000000 ≤ c := by
  obtain ⟨r, c, a1, a2, a3, -⟩ := add_val (f := double) (.inr rfl) hx hy (J := 20) (bound (M := 1001) (K := 0) p20 (by grind) (by grind) (by decide +kernel)) (by decide)
  obtain ⟨g1, g2⟩ := fok_of (op := .add) (k := .f64) a1
  have := h20
  unfold Nr at a3
  rw [g2]
  exact ⟨g1, c, a2, by grind⟩
theorem cell_lin (n : Int → Int → Int) (α β : Int) : cellN (fun x y => 16 * n x y) α β = 16 * cellN n α β := by
  simp only [cellN, rowN]
  grind
end PA
end Go.Proofs.Ytelkklnfbfmecaa
end
section
namespace Go.Proofs.Ytelkklnfbfmecaa
open Go.RowKit YtelkklnfbfmecaaW.PrintWords YtelkklnfbfmecaaW.PrintLast Ieee
namespace PA
open FR PU XA XAB
theorem j2_of (k : Nat) (b c : Int) (d : List Nat) (e f : Int) (g : List Nat) (p q : Int) (j : List Nat) : MW.laws_FnCarried.j2 (k + 1) false b c d e f g p q j = MW.laws_FnCarried.l1 k 0 b c d e f g p q j := by
  rw [MW.laws_FnCarried.j2]
  rw [if_neg (by decide)]
section
variable {w h : Nat} (hw : Side w) (hh : Side h) {a : Int → Int → Nat} {n : Int → Int → Int} (hpa : Per w h a) (ha : ∀ x y, U (a x y) (16 * n x y) ∧ -8 ≤ n x y ∧ n x y ≤ 8)
include hw hh hpa ha
theorem end_ok {X Y : List Nat} {k : Nat} (hk : 500 ≤ k) : MW.laws_FnCarried.l1 (k + 1) ((mk w h a).length : Int) w h (mk w h a) w h X w h Y = some true := by
 have w1 := hw.1
 have m0 : 3 * 3 ≤ w * h := Nat.mul_le_mul hw.1 hh.1
 have m1 : w * h ≤ 6 * 6 := Nat.mul_le_mul hw.2 hh.2
 have ub : UB a (fun x y => 16 * n x y) 128 := fun x y => ⟨(ha x y).1, by have := ha x y; show -128 ≤ 16 * n x y; omega, by have := ha x y; show 16 * n x y ≤ 128; omega⟩
 have pn := per_n' hpa ub
 have pn1 : ∀ x y, n (x + w) y = n x y := fun x y => by have := pn.1 x y; omega
 have pn2 : ∀ x y, n x (y + h) = n x y := fun x y => by have := pn.2 x y; omega
 have e2 : EB 2 a n 8 := fun x y => ⟨E_down (j := 2) (k := 4) (by rw [show n x y * 2 ^ 4 = 16 * n x y by omega]; exact (ha x y).1), (ha x y).2⟩
 have b1 := (e_spr hw hh (by decide) hpa e2 (by decide)).1
 have p1 := per_spr (r := 1040187392) hpa
 have b2 := (e_spr hw hh (by decide) p1 b1 (by decide)).1
 have p2 := per_spr (r := 1040187392) p1
 have b3 := (e_spr hw hh (by decide) p2 b2 (by decide)).1
 have sper {m : Int → Int → Int} (h1 : ∀ x y, m (x + w) y = m x y) (h2 : ∀ x y, m x (y + h) = m x y) : (∀ x y, sprN m (x + w) y = sprN m x y) ∧ (∀ x y, sprN m x (y + h) = sprN m x y) := by
  constructor
  ·intro x y
   simp only [sprN, lapN]
   rw [h1, show x + (w : Int) - 1 = x - 1 + w by omega, h1, show x + (w : Int) + 1 = x + 1 + w by omega, h1, h1, h1]
  intro x y
  simp only [sprN, lapN]
  rw [h2, show y + (h : Int) - 1 = y - 1 + h by omega, h2, show y + (h : Int) + 1 = y + 1 + h by omega, h2, h2, h2]
 have q1 := sper pn1 pn2
 have q2 := sper q1.1 q1.2
 have S1' := spread_ex hw hh hpa e2 (k := k) (by omega)
 obtain ⟨t, T1, T2, T3⟩ := total_mk hw hh ub (by decide) (k := k) (by omega)
 obtain ⟨u, V1, V2, V3⟩ := total_e hw hh (by decide) b3 (by decide) (k := k) (by omega)
 rw [spr_total q2.1 q2.2, spr_total q1.1 q1.2, spr_total pn1 pn2] at V2
 rw [S2_mul w h 16 n] at T2
 obtain ⟨c1, d1⟩ := wide T2
 obtain ⟨c2, d2⟩ := wide V2
 have tot : ((8 * (8 * (8 * S2 w h n)) : Int) : Rat) * (2 : Rat) ^ (-((2 + 3 + 3 + 3 : Nat) : Int)) = ((16 * S2 w h n : Int) : Rat) * (2 : Rat) ^ (-6 : Int) := by
  have a1 : (2 : Rat) ^ (-((2 + 3 + 3 + 3 : Nat) : Int)) = 1 / 2048 := by decide +kernel
  have a2 : (2 : Rat) ^ (-6 : Int) = 1 / 64 := by decide +kernel
  rw [a1, a2]
  simp only [Rat.intCast_mul]
  have i8 : ((8 : Int) : Rat) = 8 := rfl
  have i16 : ((16 : Int) : Rat) = 16 := rfl
  rw [i8, i16]
  grind
 rw [tot] at d2
 have z : ((16 * S2 w h n : Int) : Rat) * (2 : Rat) ^ (-6 : Int) - ((16 * S2 w h n : Int) : Rat) * (2 : Rat) ^ (-6 : Int) = 0 := by grind
 obtain ⟨g, G1, G2⟩ := gap_of d1 d2 (by rw [z]; exact rep_zero') (by rw [z]; exact ⟨by have := pw_pos 100; grind, pw_pos 100⟩)
 rw [z, if_neg (by decide +kernel)] at G2
 have G3 : FloatKind.f64.format.order g 4576918229304087675 = some .lt := lt_of G2 kap2 (by have := kap2_lo; grind)
 have sqg : ∀ i, i < (mk w h a).length → U (rdOf (0 : Nat) (mk w h a) (i : Int)) (16 * (fun i : Nat => n ((i % w : Nat) : Int) ((i / w : Nat) : Int)) i) ∧ -8 ≤ (fun i : Nat => n ((i % w : Nat) : Int) ((i / w : Nat) : Int)) i ∧ (fun i : Nat => n ((i % w : Nat) : Int) ((i / w : Nat) : Int)) i ≤ 8 := fun i hi => by rw [mk_len] at hi; rw [mk_i hi]; exact ha _ _
 obtain ⟨sp, P1, P2⟩ := dot_ex (by rw [mk_len]; omega) sqg (w * h) 0 0 (k - (w * h + 1)) (by rw [mk_len]; omega) U_zero
 rw [show w * h + 1 + (k - (w * h + 1)) = k by omega, mk_len] at P1
 rw [mk_len, S1_rows (by omega) (fun x y => 4 * (n x y * n x y)), S2_mul w h 4 (fun x y => n x y * n x y)] at P2
 obtain ⟨v3, hv3⟩ : ∃ v3, v3 = sprV 1040187392 (sprV 1040187392 (sprV 1040187392 a)) := ⟨_, rfl⟩
 obtain ⟨n3, hn3⟩ : ∃ n3, n3 = sprN (sprN (sprN n)) := ⟨_, rfl⟩
 rw [← hv3, ← hn3] at b3
 rw [← hv3] at S1' V1
 have sq3 : ∀ i, i < (mk w h v3).length → E 11 (rdOf (0 : Nat) (mk w h v3) (i : Int)) ((fun i : Nat => n3 ((i % w : Nat) : Int) ((i / w : Nat) : Int)) i) ∧ -4096 ≤ (fun i : Nat => n3 ((i % w : Nat) : Int) ((i / w : Nat) : Int)) i ∧ (fun i : Nat => n3 ((i % w : Nat) : Int) ((i / w : Nat) : Int)) i ≤ 4096 := fun i hi => by rw [mk_len] at hi; rw [mk_i hi]; exact b3 _ _
 obtain ⟨sq, Q1, c, Q2, Q3⟩ := dot_near (by rw [mk_len]; omega) sq3 (w * h) 0 0 (k - (w * h + 1)) (by rw [mk_len]; omega) ⟨0, f_zero, by simp only [S1, Rat.intCast_zero, show (((0 : Nat)) : Rat) = 0 from rfl]; grind, by simp only [S1, Rat.intCast_zero, show (((0 : Nat)) : Rat) = 0 from rfl]; grind⟩
 rw [show w * h + 1 + (k - (w * h + 1)) = k by omega, mk_len] at Q1
 rw [mk_len, S1_rows (by omega) (fun x y => n3 x y * n3 x y)] at Q3
 have le3 : S2 w h (fun x y => n3 x y * n3 x y) ≤ 262144 * S2 w h (fun x y => n x y * n x y) := by
  have l1 := spr_sq pn1 pn2
  have l2 := spr_sq q1.1 q1.2
  have l3 := spr_sq q2.1 q2.2
  rw [hn3]
  omega
 obtain ⟨Z, hZ⟩ : ∃ Z, Z = S2 w h (fun x y => n x y * n x y) := ⟨_, rfl⟩
 rw [← hZ] at P2 le3
 have Zb : 0 ≤ Z ∧ Z ≤ 36 * 64 := by
  have l1 : S2 w h (fun _ _ => 0) ≤ Z := by rw [hZ]; exact S2_le fun x y => sq_nonneg _
  have l2 : Z ≤ S2 w h (fun _ _ => 64) := by
   rw [hZ]
   refine S2_le fun x y => ?_
   obtain ⟨-, g2, g3⟩ := ha x y
   have t : (8 - n x y) * (8 + n x y) ≥ 0 := Int.mul_nonneg (by omega) (by omega)
   have e : (8 - n x y) * (8 + n x y) = 64 - n x y * n x y := by grind
   omega
  have cst (c : Int) : S2 w h (fun _ _ => c) = ((w * h : Nat) : Int) * c := by
   have r1 : ∀ r, S1 (fun _ => c) r = (r : Int) * c := fun r => by
    induction r with
    | zero => simp [S1]
    | succ r ih => simp only [S1]; rw [ih, Int.natCast_add, Int.add_mul]; simp
   have r2 : S2 w h (fun _ _ => c) = S1 (fun _ => (w : Int) * c) h := S1_congr h fun y _ => r1 w
   have r3 : ∀ r, S1 (fun _ => (w : Int) * c) r = (r : Int) * ((w : Int) * c) := fun r => by
    induction r with
    | zero => simp [S1]
    | succ r ih => simp only [S1]; rw [ih, Int.natCast_add, Int.add_mul]; simp
   rw [r2, r3, Int.natCast_mul, ← Int.mul_assoc, Int.mul_comm (h : Int)]
  rw [cst] at l1 l2
  omega
 have hZ0 : ((0 : Int) : Rat) ≤ (Z : Rat) := Rat.intCast_le_intCast.2 Zb.1
 have hZ1 : (Z : Rat) ≤ ((36 * 64 : Int) : Rat) := Rat.intCast_le_intCast.2 Zb.2
 have le3' : ((S2 w h (fun x y => n3 x y * n3 x y) : Int) : Rat) ≤ ((262144 * Z : Int) : Rat) := Rat.intCast_le_intCast.2 le3
 rw [Rat.intCast_mul, show ((262144 : Int) : Rat) = 262144 from rfl] at le3'
 have pv : ((4 * Z : Int) : Rat) * (2 : Rat) ^ (-6 : Int) = (Z : Rat) * (1 / 16) := by
  have a2 : (2 : Rat) ^ (-6 : Int) = 1 / 64 := by decide +kernel
  rw [a2, Rat.intCast_mul, show ((4 : Int) : Rat) = 4 from rfl]
  grind
 have P2' := P2
 unfold U at P2'
 rw [pv] at P2'
 obtain ⟨c3, d3⟩ := wide P2'
 obtain ⟨c4, d4⟩ := wide Q2
 have e0 : ((0 : Int) : Rat) = 0 := rfl
 have e9 : ((36 * 64 : Int) : Rat) = 2304 := rfl
 rw [e0] at hZ0
 rw [e9] at hZ1
 have kl := kap2_lo
 obtain ⟨m1', cm, m2, m3⟩ := more_of d3 kap2 (by grind) (by grind) (by grind) kl.2
 have hu2 := ulp_le
 have hu := ulp_pos
 have N36 : ((w * h : Nat) : Rat) ≤ 36 := Rat.natCast_le_natCast.2 (by omega : w * h ≤ 36)
 have nu := Rat.mul_le_mul_of_nonneg_right N36 (Rat.le_of_lt hu)
 have lt4 : FloatKind.f64.format.order (cvt .f32 sq .f64) (fop .add .f64 (cvt .f32 sp .f64) 4576918229304087675) = some .lt := lt_of d4 m2 (by grind)
 have F1 : B0.impl_SquaresInBasin.f k w h (mk w h a) = some (sp, true) := by
  unfold B0.impl_SquaresInBasin.f B0.impl_dot.f
  rw [valid_of hw hh ub.fin]
  simp only [Option.bind_some, if_true]
  have z0 : ((0 : Nat) : Int) = 0 := rfl
  rw [z0] at P1
  rw [mk_len, P1]
  simp only [Option.bind_some]
  rw [toldN_of ⟨_, P2⟩]
  rfl
 have F2 : B0.impl_SquaresInBasin.f k w h (mk w h v3) = some (sq, true) := by
  unfold B0.impl_SquaresInBasin.f B0.impl_dot.f
  rw [valid_of hw hh b3.fin]
  simp only [Option.bind_some, if_true]
  have z0 : ((0 : Nat) : Int) = 0 := rfl
  rw [z0] at Q1
  rw [mk_len, Q1]
  simp only [Option.bind_some]
  rw [toldN_of ⟨_, Q2⟩]
  rfl
 have g2 : G w h 2 (mk w h a) := G.of fun x y _ _ => by
  obtain ⟨u1, u2, u3⟩ := e2 x y
  unfold E at u1
  rw [show (2 : Rat) ^ (-((2 : Nat) : Int)) = 1 / 4 by decide +kernel] at u1
  have k1 : ((-8 : Int) : Rat) ≤ ((n x y : Int) : Rat) := Rat.intCast_le_intCast.2 u2
  have k2 : ((n x y : Int) : Rat) ≤ ((8 : Int) : Rat) := Rat.intCast_le_intCast.2 u3
  have i8 : ((8 : Int) : Rat) = 8 := rfl
  have i8' : ((-8 : Int) : Rat) = -8 := rfl
  rw [i8'] at k1
  rw [i8] at k2
  exact ⟨_, u1, by grind, by grind⟩
 obtain ⟨l1, l2, sqs, R1, R2, R3, R4, R5⟩ := run_bd hw hh g2 (k := k) (by omega)
 have same : B0.impl_SameBasin.f k w h l2 w h l2 = some true := by
  obtain ⟨v, -, rfl, hb⟩ := R5.per hw hh
  exact sameB_of hw hh (fun x y => (hb x y).fin) (by omega)
 rw [MW.laws_FnCarried.l1, if_neg (by omega), S1']
 simp only [Option.bind_some]
 rw [T1]
 simp only [Option.bind_some]
 rw [V1]
 simp only [Option.bind_some]
 rw [F1]
 simp only [Option.bind_some]
 rw [F2]
 simp only [Option.bind_some]
 rw [R3]
 simp only [Option.bind_some]
 rw [R1]
 simp only [Option.bind_some]
 rw [R2]
 simp only [Option.bind_some]
 rw [if_pos trivial, if_pos T3, if_pos V3, if_pos trivial, if_pos trivial, if_pos trivial, if_pos trivial, if_pos trivial, if_pos c1, if_pos c2, G1]
 simp only [Option.bind_some]
 rw [G3, if_pos (by decide), if_pos c4, if_pos c3, if_pos m1', lt4, if_pos (by decide), same]
 simp only [Option.bind_some, if_true]
 rw [R4]
 rfl
theorem moved_ok {X Y : Int → Int → Nat} (hXY : ∀ x y : Nat, x < w → y < h → FloatKind.f32.format.order (X x y) (Y x y) = some .eq) :
    ∀ (r i m : Nat), i + r = w * h → 500 ≤ m → MW.laws_FnCarried.l1 (r + 1 + m) (i : Int) w h (mk w h a) w h (mk w h X) w h (mk w h Y) = some true := by
  have w1 := hw.1
  have m1 : w * h ≤ 6 * 6 := Nat.mul_le_mul hw.2 hh.2
  intro r
  induction r with
  | zero =>
    intro i m hi hm
    rw [show 0 + 1 + m = m + 1 by omega]
    have := end_ok hw hh hpa ha (X := mk w h X) (Y := mk w h Y) hm
    rwa [mk_len, ← hi, Nat.add_zero] at this
  | succ r ih =>
    intro i m hi hm
    rw [show r + 1 + 1 + m = (r + 1 + m) + 1 by omega]
    have hi2 : i < w * h := by omega
    rw [MW.laws_FnCarried.l1, mk_i hi2, mk_i hi2]
    simp only [mk_len]
    rw [if_pos (by omega), if_pos (by omega), if_pos (by omega), if_pos (by omega), hXY _ _ (Nat.mod_lt _ (by omega)) (Nat.div_lt_of_lt_mul hi2), if_neg (by decide), w64 (by omega) (by omega)]
    exact ih (i + 1) m (by omega) hm
theorem mid_ok {l1 : List Int} (h1 : okS l1) {lo up : Nat} {C : List Nat} {k : Nat} (hk : 600 ≤ k) : MW.laws_FnCarried.l0 (k + 1) l1 lo up ((mk w h a).length : Int) w h (mk w h a) w h C = some true := by
 have m1 : w * h ≤ 6 * 6 := Nat.mul_le_mul hw.2 hh.2
 obtain ⟨s, A1, A2, A3⟩ := at_ok h1 40 7 (by decide) (by decide) (by decide)
 obtain ⟨t, B1, B2, B3⟩ := at_ok h1 41 7 (by decide) (by decide) (by decide)
 have es : E 4 (floatOfInt .f32 (s - 3)) ((s - 3) * 2 ^ 4) := E_up (E_floatOfInt (by omega)) 4
 have et : E 4 (floatOfInt .f32 (t - 3)) ((t - 3) * 2 ^ 4) := E_up (E_floatOfInt (by omega)) 4
 have f1 : E 0 1065353216 1 := ⟨false, 8388608, -23, by decide, by decide +kernel⟩
 have W1 := flat_of hw hh ⟨_, es⟩ (k := k) (by omega)
 have D1 := flat_of hw hh ⟨_, et⟩ (k := k) (by omega)
 obtain ⟨v, V1, V2⟩ := carry_ex hw hh hpa (b := fun _ _ => floatOfInt .f32 (s - 3)) (c := fun _ _ => floatOfInt .f32 (t - 3)) (p := fun _ _ => (s - 3) * 2 ^ 4) (q := fun _ _ => (t - 3) * 2 ^ 4) (fun _ _ => rfl) (fun _ _ => rfl) ha (i := 0) (j := 4) rfl f1 (fun _ _ => es) (fun _ _ => et) (fun _ _ => by show -600 ≤ 1 * ((s - 3) * 2 ^ 4) ∧ 1 * ((s - 3) * 2 ^ 4) ≤ 600; omega) (fun _ _ => by show -600 ≤ 1 * ((t - 3) * 2 ^ 4) ∧ 1 * ((t - 3) * 2 ^ 4) ≤ 600; omega) (k := k) (by omega)
 have R1 := rol_of hw hh hpa (fun x y => ⟨_, (ha x y).1⟩) (p := s - 3) (q := t - 3) (by omega) (by omega) (by omega) (by omega) (k := k) (by omega)
 have XY : ∀ x y : Nat, x < w → y < h → FloatKind.f32.format.order (v x y) (rolV a (s - 3) (t - 3) x y) = some .eq := fun x y hx hy => by
  have a1 := V1 x y hx hy
  rw [show 16 * (x : Int) - 1 * ((s - 3) * 2 ^ 4) = 16 * ((x : Int) - (s - 3)) by omega, show 16 * (y : Int) - 1 * ((t - 3) * 2 ^ 4) = 16 * ((y : Int) - (t - 3)) by omega, cell_whole] at a1
  have a2 : E 6 (rolV a (s - 3) (t - 3) x y) (16 * n ((x : Int) - (s - 3)) ((y : Int) - (t - 3))) := (ha _ _).1
  have a3 := E_up a2 4
  rw [show 16 * n ((x : Int) - (s - 3)) ((y : Int) - (t - 3)) * 2 ^ 4 = 256 * n ((x : Int) - (s - 3)) ((y : Int) - (t - 3)) by omega] at a3
  exact same_eq a1 a3
 obtain ⟨j, rfl⟩ : ∃ j, k = j + 1 := ⟨k - 1, by omega⟩
 have fin := moved_ok hw hh hpa ha XY (w * h) 0 (j - (w * h + 1)) (by omega) (by omega)
 rw [show w * h + 1 + (j - (w * h + 1)) = j by omega] at fin
 rw [MW.laws_FnCarried.l0, if_neg (by omega), A1]
 simp only [Option.bind_some]
 rw [B1]
 simp only [Option.bind_some]
 rw [w64 (n := s - 3) (by omega) (by omega), w64 (n := t - 3) (by omega) (by omega), W1]
 simp only [Option.bind_some]
 rw [D1]
 simp only [Option.bind_some]
 rw [V2]
 simp only [Option.bind_some]
 rw [R1]
 simp only [Option.bind_some, if_true, Bool.not_true]
 exact (j2_of j _ _ _ _ _ _ _ _ _).trans fin
theorem between_ok {l1 : List Int} (h1 : okS l1) {lo up : Nat} {P Q : Int} (hP : U lo P) (hQ : U up Q) (hPQ : ∀ x y, P ≤ 16 * n x y ∧ 16 * n x y ≤ Q) (hPb : -128 ≤ P) (hQb : Q ≤ 128) {C : Int → Int → Nat} {c : Int → Int → Int} (hC : ∀ x y : Nat, x < w → y < h → E 10 (C x y) (c x y)) (hc : ∀ x y, 16 * P ≤ c x y ∧ c x y ≤ 16 * Q) :
  ∀ (r i m : Nat), i + r = w * h → 600 ≤ m → MW.laws_FnCarried.l0 (r + 1 + m) l1 lo up (i : Int) w h (mk w h a) w h (mk w h C) = some true := by
 have w1 := hw.1
 have m1 : w * h ≤ 6 * 6 := Nat.mul_le_mul hw.2 hh.2
 have a6 : (2 : Rat) ^ (-6 : Int) = 1 / 64 := by decide +kernel
 have a10 : (2 : Rat) ^ (-((10 : Nat) : Int)) = 1 / 1024 := by decide +kernel
 have PQ : P ≤ Q := by have := hPQ 0 0; omega
 have hP' := hP
 have hQ' := hQ
 unfold U at hP' hQ'
 rw [a6] at hP' hQ'
 obtain ⟨p1, p2⟩ := wide hP'
 obtain ⟨q1, q2⟩ := wide hQ'
 have i1 : ((-128 : Int) : Rat) ≤ (P : Rat) := Rat.intCast_le_intCast.2 hPb
 have i2 : (Q : Rat) ≤ ((128 : Int) : Rat) := Rat.intCast_le_intCast.2 hQb
 have i3 : (P : Rat) ≤ (Q : Rat) := Rat.intCast_le_intCast.2 PQ
 have e1 : ((-128 : Int) : Rat) = -128 := rfl
 have e2 : ((128 : Int) : Rat) = 128 := rfl
 rw [e1] at i1
 rw [e2] at i2
 have kb := kap_b
 obtain ⟨s1, sl, s2, s3⟩ := less_of p2 f_kap (by grind) (by grind) (by grind) kb.2
 obtain ⟨t1, tu, t2, t3⟩ := more_of q2 f_kap (by grind) (by grind) (by grind) kb.2
 intro r
 induction r with
 | zero =>
  intro i m hi hm
  rw [show 0 + 1 + m = m + 1 by omega]
  have := mid_ok hw hh hpa ha h1 (lo := lo) (up := up) (C := mk w h C) hm
  rwa [mk_len, ← hi, Nat.add_zero] at this
 | succ r ih =>
  intro i m hi hm
  rw [show r + 1 + 1 + m = (r + 1 + m) + 1 by omega]
  have hi2 : i < w * h := by omega
  have cc := hC (i % w) (i / w) (Nat.mod_lt _ (by omega)) (Nat.div_lt_of_lt_mul hi2)
  have cb := hc ((i % w : Nat) : Int) ((i / w : Nat) : Int)
  generalize c ((i % w : Nat) : Int) ((i / w : Nat) : Int) = z at *
  unfold E at cc
  rw [a10] at cc
  obtain ⟨x1, x2⟩ := wide cc
  have k1 : ((16 * P : Int) : Rat) ≤ (z : Rat) := Rat.intCast_le_intCast.2 cb.1
  have k2 : (z : Rat) ≤ ((16 * Q : Int) : Rat) := Rat.intCast_le_intCast.2 cb.2
  rw [Rat.intCast_mul, show ((16 : Int) : Rat) = 16 from rfl] at k1 k2
  have o1 := gt_of x2 s2 (by grind)
  have o2 := lt_of x2 t2 (by grind)
  rw [MW.laws_FnCarried.l0, mk_i hi2]
  simp only [mk_len]
  rw [if_pos (by omega), if_pos (by omega), if_pos (by omega), if_pos x1, if_pos p1, if_pos s1, o1, if_neg (by decide), if_pos q1, if_pos t1, o2, if_neg (by decide), w64 (by omega) (by omega)]
  exact ih (i + 1) m (by omega) hm
end
theorem r8Long_ok2 (l0 l1 : List Int) : ∃ b, MW.laws_r8Long.f l0 l1 = some b := by
  unfold MW.laws_r8Long.f
  split <;> exact ⟨_, rfl⟩
theorem cj0_of (k : Nat) (a : List Int) (p q : Nat) (b c : Int) (d : List Nat) (e f : Int) (g : List Nat) : MW.laws_FnCarried.j0 (k + 1) a p q false b c d e f g = MW.laws_FnCarried.l0 k a p q 0 b c d e f g := by
  rw [MW.laws_FnCarried.j0]
  rw [if_neg (by decide)]
theorem carried_ok {l0 l1 : List Int} (h0 : okS l0) (h1 : okS l1) : MW.laws_FnCarried.f 701 l0 l1 = some true := by
 unfold MW.laws_FnCarried.f
 obtain ⟨lg, hlg⟩ := r8Long_ok2 l0 l1
 rw [hlg]
 simp only [Option.bind_some]
 cases lg with
 | true => rw [if_pos rfl]
 | false =>
  rw [if_neg (by decide)]
  obtain ⟨w, h, l, B1, hw, hh, B2, B3⟩ := basin_ok h0 (k := 701) (by decide)
  obtain ⟨b, C1, C2, C3⟩ := like_ok h1 hw hh B2 (k := 701) (by decide)
  obtain ⟨a, hpa, rfl, ma⟩ := mk_of hw hh B2
  obtain ⟨c, hpc, rfl, mc⟩ := mk_of hw hh C2
  obtain ⟨n, hn⟩ := qs_ub B3 ma
  obtain ⟨m, hm⟩ := qs_ub C3 mc
  have w1 := hw.1
  have m0 : 3 * 3 ≤ w * h := Nat.mul_le_mul hw.1 hh.1
  have m1 : w * h ≤ 6 * 6 := Nat.mul_le_mul hw.2 hh.2
  have ha : ∀ x y, U (a x y) (16 * n x y) ∧ -8 ≤ n x y ∧ n x y ≤ 8 := fun x y => by have := hn x y; rwa [show n x y * 2 ^ (6 - 2) = 16 * n x y by omega] at this
  have hc3 : ∀ x y, E 3 (c x y) (m x y) := fun x y => E_down (j := 3) (k := 3) (hm x y).1
  have f5 : E 1 1056964608 1 := ⟨false, 8388608, -24, by decide, by decide +kernel⟩
  have mb (x y : Int) : -600 ≤ 1 * m x y ∧ 1 * m x y ≤ 600 := by have := hm x y; omega
  obtain ⟨v, V1, V2⟩ := carry_ex hw hh hpa hpc hpc ha (i := 1) (j := 3) rfl f5 hc3 hc3 mb mb (k := 701) (by decide)
  have hg : ∀ i, i < (mk w h a).length → U (rdOf (0 : Nat) (mk w h a) (i : Int)) ((fun i : Nat => 16 * n ((i % w : Nat) : Int) ((i / w : Nat) : Int)) i) := fun i hi => by rw [mk_len] at hi; rw [mk_i hi]; exact (ha _ _).1
  have u0 := hg 0 (by rw [mk_len]; omega)
  obtain ⟨t, T1, T2, P, Q, T3, T4, Pb, T5⟩ := range_loop2 (by rw [mk_len]; omega) hg (fun i _ => by have := ha ((i % w : Nat) : Int) ((i / w : Nat) : Int); show -128 ≤ 16 * n ((i % w : Nat) : Int) ((i / w : Nat) : Int) ∧ 16 * n ((i % w : Nat) : Int) ((i / w : Nat) : Int) ≤ 128; omega) (w * h) 0 _ _ (701 - (w * h + 1)) _ _ (by rw [mk_len]; omega) u0 u0 (Int.le_refl _) (by have := ha ((0 % w : Nat) : Int) ((0 / w : Nat) : Int); show -128 ≤ 16 * n ((0 % w : Nat) : Int) ((0 / w : Nat) : Int) ∧ 16 * n ((0 % w : Nat) : Int) ((0 / w : Nat) : Int) ≤ 128; omega) (fun j hj => by omega)
  rw [show w * h + 1 + (701 - (w * h + 1)) = 701 by omega] at T1
  have RG : B0.impl_RangeInBasin.f 701 w h (mk w h a) = some t := by
   unfold B0.impl_RangeInBasin.f
   rw [valid_of hw hh fun x y => ⟨_, (ha x y).1⟩]
   simp only [Option.bind_some, if_true]
   rw [if_pos (by rw [mk_len]; omega)]
   exact T1
  have inr : ∀ x y, P ≤ 16 * n x y ∧ 16 * n x y ≤ Q := fun x y => by
   have a1 := Int.emod_nonneg x (show (w : Int) ≠ 0 by omega)
   have a2 := Int.emod_lt_of_pos x (show (0 : Int) < w by omega)
   have h1' := hh.1
   have b1 := Int.emod_nonneg y (show (h : Int) ≠ 0 by omega)
   have b2 := Int.emod_lt_of_pos y (show (0 : Int) < h by omega)
   obtain ⟨p, hp⟩ := Int.eq_ofNat_of_zero_le a1
   obtain ⟨q, hq⟩ := Int.eq_ofNat_of_zero_le b1
   have pw : p < w := by omega
   have qh : q < h := by omega
   have lt : p + w * q < w * h := by
    have := Nat.mul_le_mul_left w (show q + 1 ≤ h by omega)
    rw [Nat.mul_add, Nat.mul_one] at this
    omega
   have k := T5 (p + w * q) (by rw [mk_len]; exact lt)
   rw [Nat.add_mul_mod_self_left, Nat.mod_eq_of_lt pw, Nat.add_mul_div_left _ _ (by omega), Nat.div_eq_of_lt pw, Nat.zero_add] at k
   have e : a x y = a p q := by rw [← hpa x y, hp, hq]
   have u1 := (ha x y).1
   rw [e] at u1
   have := U_one u1 (ha p q).1
   rw [this]
   exact k
  have cI : ∀ x y, 16 * P ≤ cellN n (16 * x - 1 * m x y) (16 * y - 1 * m x y) ∧ cellN n (16 * x - 1 * m x y) (16 * y - 1 * m x y) ≤ 16 * Q := fun x y => by
   have := cell_in (n := fun x y => 16 * n x y) inr (16 * x - 1 * m x y) (16 * y - 1 * m x y)
   rw [cell_lin] at this
   omega
  have L := between_ok hw hh hpa ha h1 T3 T4 inr Pb.1 Pb.2 V1 cI (w * h) 0 (700 - (w * h + 1)) (by omega) (by omega)
  rw [show w * h + 1 + (700 - (w * h + 1)) = 700 by omega] at L
  obtain ⟨t1, t2, t3⟩ := t
  simp only at T2 T3 T4 L
  subst T2
  rw [B1]
  simp only [Option.bind_some]
  rw [C1]
  simp only [Option.bind_some]
  rw [RG]
  simp only [Option.bind_some]
  rw [V2]
  simp only [Option.bind_some, if_true]
  have ne : (((mk w h v).length : Int) != ((mk w h a).length : Int)) = false := by rw [mk_len, mk_len]; simp
  rw [ne]
  exact (cj0_of 700 _ _ _ _ _ _ _ _ _).trans L
end PA
end Go.Proofs.Ytelkklnfbfmecaa
end
section
namespace Go.Proofs.Ytelkklnfbfmecaa.MW
open Go.RowKit YtelkklnfbfmecaaW.PrintWords YtelkklnfbfmecaaW.PrintLast YtelkklnfbfmecaaW.PrintMore
def laws_FnCarried.Pure : Prop := ∀ (l0 : List Int) (l1 : List Int), l0.length ≤ maxLen → l0.length * 1 ≤ 140737488351232 → (∀ x ∈ l0, (Lit.int .u8 x).wf = true) → l1.length ≤ maxLen → l1.length * 1 ≤ 140737488351232 → (∀ x ∈ l1, (Lit.int .u8 x).wf = true) → ∃ k, laws_FnCarried.f k l0 l1 = some true
theorem laws_FnCarried.walk (P : laws_FnCarried.Pure) (a0 : Option Addr) (len0 cap0 : Nat) (z0 : List Int) (a1 : Option Addr) (len1 cap1 : Nat) (z1 : List Int) (w : World) (w0 : (a0 = none ∧ len0 = 0 ∧ cap0 = 0 ∧ z0 = []) ∨ ∃ x, a0 = some x ∧ len0 ≤ cap0 ∧ cap0 ≤ maxLen ∧ z0.length = cap0 ∧ (∀ i, i < z0.length → w.cell? (x.add i) = some (.int .u8 (z0.getD i 0))) ∧ ∀ n ∈ z0, (Lit.int .u8 n).wf = true) (y0 : len0 * 1 ≤ 140737488351232) (w1 : (a1 = none ∧ len1 = 0 ∧ cap1 = 0 ∧ z1 = []) ∨ ∃ x, a1 = some x ∧ len1 ≤ cap1 ∧ cap1 ≤ maxLen ∧ z1.length = cap1 ∧ (∀ i, i < z1.length → w.cell? (x.add i) = some (.int .u8 (z1.getD i 0))) ∧ ∀ n ∈ z1, (Lit.int .u8 n).wf = true) (y1 : len1 * 1 ≤ 140737488351232) :
    Calls Try.prog 4 #[.slice a0 len0 cap0, .slice a1 len1 cap1] w fun e w' => e = .returned (.bool true) ∧ Below w.heap.size w w' := by
  obtain ⟨l0, rfl, hr0, hm0, hw0, hc0⟩ := ReadsInt.ofRowC w0
  obtain ⟨l1, rfl, hr1, hm1, hw1, hc1⟩ := ReadsInt.ofRowC w1
  obtain ⟨k, h⟩ := P l0 l1 hm0 y0 hw0 hm1 y1 hw1
  refine (laws_FnCarried.calls k _ _ l0 _ _ l1 w (Kd.C_of_reads (d := (0 : Int)) (h1 := fun _ => rfl) hr0) hc0 (Kd.C_of_reads (d := (0 : Int)) (h1 := fun _ => rfl) hr1) hc1 h).mono ?_
  rintro e w' ⟨rfl, hd⟩
  exact ⟨rfl, hd⟩
theorem pure : laws_FnCarried.Pure := by
  intro l0 l1 _ _ g0 _ _ g1
  have ok : ∀ l : List Int, (∀ x ∈ l, (Lit.int .u8 x).wf = true) → PA.okS l := fun l h x hx => by
    have := h x hx
    simp only [Lit.wf, IntKind.min, IntKind.max, IntKind.signed, IntKind.bits, Bool.and_eq_true, decide_eq_true_eq] at this
    simpa using this
  exact ⟨701, PA.carried_ok (ok l0 g0) (ok l1 g1)⟩
end Go.Proofs.Ytelkklnfbfmecaa.MW
end
