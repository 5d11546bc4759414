/- Words, walks and plain laws that a claim of this seat needs, one text after the other (part 6). -/
import Derived.Test.YtnnemdjbopdjmaaDoorBV5
import Derived.Laws.FloatBits
set_option linter.unusedVariables false
set_option linter.unusedSimpArgs false
section
set_option linter.unusedVariables false
set_option linter.unusedSimpArgs false
namespace Go.Proofs.YtnnemdjbopdjmaaDoor.PI
open Go.RowKit Go.Proofs.YtnnemdjbopdjmaaDoor Go.Proofs.YtnnemdjbopdjmaaDoorW.PrintWords
theorem f32s : FloatKind.f32.format.signWeight = 2147483648 := by decide
theorem f32i : FloatKind.f32.format.infRung = 2139095040 := by decide
theorem f32b : FloatKind.f32.format.binade = 8388608 := by decide
theorem f32l : FloatKind.f32.format.leastPlace = -149 := by decide
theorem f32f : FloatKind.f32.format.fractionBits = 23 := by decide
theorem log2_shift {m : Nat} (h : m ≠ 0) (k : Nat) : (m * 2 ^ k).log2 = m.log2 + k := by
  have h2 : m * 2 ^ k ≠ 0 := Nat.mul_ne_zero h (Nat.pos_iff_ne_zero.1 (Nat.two_pow_pos k))
  refine Nat.le_antisymm ?_ ?_
  · have : (m * 2 ^ k).log2 < m.log2 + k + 1 := (Nat.log2_lt h2).2 (by
      have := @Nat.lt_log2_self m
      calc m * 2 ^ k < 2 ^ (m.log2 + 1) * 2 ^ k := Nat.mul_lt_mul_of_pos_right this (Nat.two_pow_pos k)
        _ = 2 ^ (m.log2 + k + 1) := by rw [← Nat.pow_add]; congr 1; omega)
    omega
  · exact (Nat.le_log2 h2).2 (by
      rw [Nat.pow_add]
      exact Nat.mul_le_mul_right _ (Nat.log2_self_le h))
theorem cut_shift (neg : Bool) {m : Nat} (h : m ≠ 0) (k b : Nat) : Ieee.Toward.even.cut neg (m * 2 ^ k) (b + k) = Ieee.Toward.even.cut neg m b := by
  unfold Ieee.Toward.cut
  simp only [Nat.one_shiftLeft]
  rw [log2_shift h]
  have e : min (b + k) (m.log2 + k + 2) = min b (m.log2 + 2) + k := by omega
  rw [e, Nat.pow_add]
  have p := Nat.two_pow_pos k
  rw [Nat.mul_div_mul_right _ _ p, Nat.mul_mod_mul_right]
  generalize 2 ^ min b (m.log2 + 2) = g
  have c1 : (g * 2 ^ k < 2 * (m % g * 2 ^ k)) = (g < 2 * (m % g)) := by
    rw [← Nat.mul_assoc]
    exact propext (Nat.mul_lt_mul_right p)
  have c2 : (g * 2 ^ k == 2 * (m % g * 2 ^ k)) = (g == 2 * (m % g)) := by
    rw [← Nat.mul_assoc]
    rw [Bool.eq_iff_iff, beq_iff_eq, beq_iff_eq]
    exact ⟨fun hc => Nat.eq_of_mul_eq_mul_right p hc, fun hc => congrArg (· * 2 ^ k) hc⟩
  simp only [c1, c2]
theorem cut_zero' (neg : Bool) (n : Nat) : Ieee.Toward.even.cut neg n 0 = n := XF.cut_zero neg n
theorem cut_exact (neg : Bool) {m : Nat} (h : m ≠ 0) (k b : Nat) (hb : b ≤ k) : Ieee.Toward.even.cut neg (m * 2 ^ k) b = m * 2 ^ (k - b) := by
  have e : m * 2 ^ k = (m * 2 ^ (k - b)) * 2 ^ b := by rw [Nat.mul_assoc, ← Nat.pow_add]; congr 2; omega
  have h2 : m * 2 ^ (k - b) ≠ 0 := Nat.mul_ne_zero h (Nat.pos_iff_ne_zero.1 (Nat.two_pow_pos _))
  have := cut_shift neg h2 b 0
  rw [Nat.zero_add, cut_zero'] at this
  rw [e, this]
theorem nearest_shift (f : Ieee.Format) (neg : Bool) (m k : Nat) (p : Int) : f.nearest neg (m * 2 ^ k) p = f.nearest neg m (p + k) := by
  by_cases h : m = 0
  · subst h
    simp [Ieee.Format.nearest]
  · have h2 : m * 2 ^ k ≠ 0 := Nat.mul_ne_zero h (Nat.pos_iff_ne_zero.1 (Nat.two_pow_pos k))
    unfold Ieee.Format.nearest
    rw [if_neg h2, if_neg h, log2_shift h]
    have e : p + ((m.log2 + k : Nat) : Int) - f.fractionBits = p + k + (m.log2 : Int) - f.fractionBits := by omega
    rw [e]
    generalize max (p + k + (m.log2 : Int) - f.fractionBits) f.leastPlace = last
    have key : Ieee.Toward.even.cut neg ((m * 2 ^ k) <<< (p - last).toNat) (last - p).toNat = Ieee.Toward.even.cut neg (m <<< (p + k - last).toNat) (last - (p + k)).toNat := by
      rw [Nat.shiftLeft_eq, Nat.shiftLeft_eq]
      rcases Int.le_total last p with c | c
      · have a1 : (last - p).toNat = 0 := by omega
        have a2 : (last - (p + k)).toNat = 0 := by omega
        have a3 : (p + k - last).toNat = k + (p - last).toNat := by omega
        rw [a1, a2, a3, cut_zero', cut_zero', Nat.pow_add, Nat.mul_assoc]
      · have a1 : (p - last).toNat = 0 := by omega
        rw [a1, Nat.pow_zero, Nat.mul_one]
        rcases Int.le_total last (p + k) with c2 | c2
        · have a2 : (last - (p + k)).toNat = 0 := by omega
          have a3 : (p + k - last).toNat = k - (last - p).toNat := by omega
          rw [a2, a3, cut_zero', cut_exact neg h _ _ (by omega)]
        · have a2 : (p + k - last).toNat = 0 := by omega
          have a3 : (last - p).toNat = (last - (p + k)).toNat + k := by omega
          rw [a2, a3, Nat.pow_zero, Nat.mul_one, cut_shift neg h]
    simp only [key]
theorem read_word (neg : Bool) (r : Nat) (h : r < 2139095040) : FloatKind.f32.format.read (FloatKind.f32.format.word neg r) = if r < 8388608 then .number neg r (-149) else .number neg (8388608 + r % 8388608) (-149 + ((r / 8388608 - 1 : Nat) : Int)) := by
  unfold Ieee.Format.read Ieee.Format.word
  simp only [f32s, f32i, f32b, f32l]
  have e : (if neg = true then 2147483648 + r else r) % 2147483648 = r := by cases neg <;> simp <;> omega
  have e2 : ((if neg = true then 2147483648 + r else r) / 2147483648 % 2 == 1) = neg := by
    cases neg
    · have : r / 2147483648 = 0 := Nat.div_eq_of_lt (by omega)
      simp [this]
    · have : (2147483648 + r) / 2147483648 = 1 := by omega
      simp [this]
  simp only [e, e2]
  split
  · rfl
  · first | rfl | rw [if_pos h]
theorem read_near (s : Bool) {m : Nat} (h0 : m ≠ 0) (h : m < 16777216) : FloatKind.f32.format.read (FloatKind.f32.format.nearest s m 0) = .number s (m * 2 ^ (23 - m.log2)) (-((23 - m.log2 : Nat) : Int)) := by
  have hL : m.log2 < 24 := (Nat.log2_lt h0).2 (by simpa using h)
  unfold Ieee.Format.nearest
  rw [if_neg h0]
  simp only [f32f, f32l, f32b, f32i]
  have e1 : max (0 + (m.log2 : Int) - ((23 : Nat) : Int)) (-149) = (m.log2 : Int) - 23 := by omega
  rw [e1]
  have e2 : (0 - ((m.log2 : Int) - 23)).toNat = 23 - m.log2 := by omega
  have e3 : ((m.log2 : Int) - 23 - 0).toNat = 0 := by omega
  have e4 : ((m.log2 : Int) - 23 - -149).toNat = m.log2 + 126 := by omega
  rw [e2, e3, e4, cut_zero', Nat.shiftLeft_eq]
  have k1 : 8388608 ≤ m * 2 ^ (23 - m.log2) := by
    have := Nat.mul_le_mul_right (2 ^ (23 - m.log2)) (Nat.log2_self_le h0)
    rw [← Nat.pow_add, show m.log2 + (23 - m.log2) = 23 by omega] at this
    simpa using this
  have k2 : m * 2 ^ (23 - m.log2) < 16777216 := by
    have := Nat.mul_lt_mul_of_pos_right (@Nat.lt_log2_self m) (Nat.two_pow_pos (23 - m.log2))
    rw [← Nat.pow_add, show m.log2 + 1 + (23 - m.log2) = 24 by omega] at this
    simpa using this
  generalize m * 2 ^ (23 - m.log2) = K at k1 k2
  rw [Nat.min_eq_left (by omega), read_word s _ (by omega), if_neg (by omega)]
  have e5 : 8388608 + ((m.log2 + 126) * 8388608 + K) % 8388608 = K := by omega
  have e6 : -149 + ((((m.log2 + 126) * 8388608 + K) / 8388608 - 1 : Nat) : Int) = -((23 - m.log2 : Nat) : Int) := by omega
  rw [e5, e6]
def Zd (d : Ieee.Datum) (n : Int) : Prop := ∃ (s : Bool) (m k : Nat), d = .number s (m * 2 ^ k) (-(k : Int)) ∧ n = if s = true then -(m : Int) else m
def Zr (x : Nat) (n : Int) : Prop := Zd (FloatKind.f32.format.read x) n
theorem Zr_near (s : Bool) (m p : Nat) (h : m < 16777216) : Zr (FloatKind.f32.format.nearest s (m * 2 ^ p) (-(p : Int))) (if s = true then -(m : Int) else m) := by
  rw [nearest_shift, show -(p : Int) + (p : Int) = 0 by omega]
  by_cases h0 : m = 0
  · subst h0
    refine ⟨s, 0, 149, ?_, rfl⟩
    cases s <;> decide
  · exact ⟨s, m, _, read_near s h0 h, rfl⟩
theorem int_near (n : Int) : floatOfInt .f32 n = FloatKind.f32.format.nearest (decide (n < 0)) n.natAbs 0 := rfl
theorem Zr_int (n : Int) (h : n.natAbs < 16777216) : Zr (floatOfInt .f32 n) n := by
  have := Zr_near (decide (n < 0)) n.natAbs 0 h
  rw [Nat.pow_zero, Nat.mul_one, show -((0 : Nat) : Int) = 0 from rfl] at this
  rw [int_near]
  have e : n = if decide (n < 0) = true then -(n.natAbs : Int) else n.natAbs := by
    by_cases c : n < 0
    · rw [decide_eq_true c, if_pos rfl]; omega
    · rw [decide_eq_false c, if_neg (by decide)]; omega
  rw [← e] at this
  exact this
theorem sum_Z {d e : Ieee.Datum} {a b : Int} (hd : Zd d a) (he : Zd e b) (h : (a + b).natAbs < 16777216) : ∃ r, (d.sum e).map FloatKind.f32.format.write = some r ∧ Zr r (a + b) := by
  obtain ⟨s, m, k, rfl, rfl⟩ := hd
  obtain ⟨t, n, j, rfl, rfl⟩ := he
  generalize ha : (if s = true then -(m : Int) else m) = a at h
  generalize hb : (if t = true then -(n : Int) else n) = b at h
  have hK : min (-(k : Int)) (-(j : Int)) = -((max k j : Nat) : Int) := by omega
  have e1 : (-(k : Int) - -((max k j : Nat) : Int)).toNat = max k j - k := by omega
  have e2 : (-(j : Int) - -((max k j : Nat) : Int)).toNat = max k j - j := by omega
  have p1 : m * 2 ^ k * 2 ^ (max k j - k) = m * 2 ^ max k j := by rw [Nat.mul_assoc, ← Nat.pow_add]; congr 2; omega
  have p2 : n * 2 ^ j * 2 ^ (max k j - j) = n * 2 ^ max k j := by rw [Nat.mul_assoc, ← Nat.pow_add]; congr 2; omega
  have g1 : Ieee.signed s (m * 2 ^ k) (max k j - k) = a * ((2 ^ max k j : Nat) : Int) := by
    unfold Ieee.signed
    rw [Nat.shiftLeft_eq, p1, ← ha]
    cases s <;> simp [Int.neg_mul]
  have g2 : Ieee.signed t (n * 2 ^ j) (max k j - j) = b * ((2 ^ max k j : Nat) : Int) := by
    unfold Ieee.signed
    rw [Nat.shiftLeft_eq, p2, ← hb]
    cases t <;> simp [Int.neg_mul]
  have tot : Ieee.signed s (m * 2 ^ k) (max k j - k) + Ieee.signed t (n * 2 ^ j) (max k j - j) = (a + b) * ((2 ^ max k j : Nat) : Int) := by rw [g1, g2, Int.add_mul]
  have hs : (Ieee.Datum.number s (m * 2 ^ k) (-(k : Int))).sum (.number t (n * 2 ^ j) (-(j : Int))) = some (.number (if (a + b) * ((2 ^ max k j : Nat) : Int) = 0 then s && t else decide ((a + b) * ((2 ^ max k j : Nat) : Int) < 0)) ((a + b) * ((2 ^ max k j : Nat) : Int)).natAbs (-((max k j : Nat) : Int))) := by
    unfold Ieee.Datum.sum
    simp only [hK, e1, e2, tot]
  rw [hs]
  refine ⟨_, rfl, ?_⟩
  show Zr (FloatKind.f32.format.nearest _ _ _) _
  rw [Int.natAbs_mul, Int.natAbs_natCast]
  generalize hsg : (if (a + b) * ((2 ^ max k j : Nat) : Int) = 0 then s && t else decide ((a + b) * ((2 ^ max k j : Nat) : Int) < 0)) = sg
  have hz := Zr_near sg (a + b).natAbs (max k j) h
  have hp : (0 : Int) < ((2 ^ max k j : Nat) : Int) := by
    have := Nat.two_pow_pos (max k j)
    omega
  have e : a + b = if sg = true then -((a + b).natAbs : Int) else (a + b).natAbs := by
    by_cases c0 : a + b = 0
    · rw [c0]; simp
    · have c1 : (a + b) * ((2 ^ max k j : Nat) : Int) ≠ 0 := Int.mul_ne_zero c0 (by omega)
      rw [if_neg c1] at hsg
      by_cases c : a + b < 0
      · have : (a + b) * ((2 ^ max k j : Nat) : Int) < 0 := Int.mul_neg_of_neg_of_pos c hp
        rw [decide_eq_true this] at hsg
        subst hsg
        rw [if_pos rfl]; omega
      · have : ¬ (a + b) * ((2 ^ max k j : Nat) : Int) < 0 := by
          have := Int.mul_nonneg (by omega : 0 ≤ a + b) (by omega : 0 ≤ ((2 ^ max k j : Nat) : Int))
          omega
        rw [decide_eq_false this] at hsg
        subst hsg
        rw [if_neg (by decide)]; omega
  rw [← e] at hz
  exact hz
theorem opp_Z {d : Ieee.Datum} {a : Int} (hd : Zd d a) : Zd d.opposite (-a) := by
  obtain ⟨s, m, k, rfl, rfl⟩ := hd
  exact ⟨!s, m, k, rfl, by cases s <;> simp⟩
theorem fop_of {op : BinOp} {x y r : Nat} (h : floatBits op .f32 x y = some r) : fok op .f32 x y = true ∧ fop op .f32 x y = r := by
  unfold fok fop
  rw [h]
  exact ⟨rfl, rfl⟩
theorem Z_add {x y : Nat} {a b : Int} (hx : Zr x a) (hy : Zr y b) (h : (a + b).natAbs < 16777216) : fok .add .f32 x y = true ∧ Zr (fop .add .f32 x y) (a + b) := by
  obtain ⟨r, h1, h2⟩ := sum_Z hx hy h
  obtain ⟨h3, h4⟩ := fop_of (op := .add) (x := x) (y := y) h1
  exact ⟨h3, h4 ▸ h2⟩
theorem Z_sub {x y : Nat} {a b : Int} (hx : Zr x a) (hy : Zr y b) (h : (a - b).natAbs < 16777216) : fok .sub .f32 x y = true ∧ Zr (fop .sub .f32 x y) (a - b) := by
  obtain ⟨r, h1, h2⟩ := sum_Z hx (opp_Z hy) (by rw [← Int.sub_eq_add_neg]; exact h)
  obtain ⟨h3, h4⟩ := fop_of (op := .sub) (x := x) (y := y) h1
  rw [← Int.sub_eq_add_neg] at h2
  exact ⟨h3, h4 ▸ h2⟩
theorem Z_mul {x y : Nat} {a b : Int} (hx : Zr x a) (hy : Zr y b) (h : (a * b).natAbs < 16777216) : fok .mul .f32 x y = true ∧ Zr (fop .mul .f32 x y) (a * b) := by
  obtain ⟨s, m, k, h1, rfl⟩ := hx
  obtain ⟨t, n, j, h2, rfl⟩ := hy
  have e : floatBits .mul .f32 x y = some (FloatKind.f32.format.nearest (s ^^ t) (m * n * 2 ^ (k + j)) (-((k + j : Nat) : Int))) := by
    show ((FloatKind.f32.format.read x).product (FloatKind.f32.format.read y)).map FloatKind.f32.format.write = _
    rw [h1, h2]
    have p : m * 2 ^ k * (n * 2 ^ j) = m * n * 2 ^ (k + j) := by rw [Nat.pow_add]; ac_rfl
    have q : -(k : Int) + -(j : Int) = -((k + j : Nat) : Int) := by omega
    show some (FloatKind.f32.format.nearest (s ^^ t) (m * 2 ^ k * (n * 2 ^ j)) (-(k : Int) + -(j : Int))) = _
    rw [p, q]
  obtain ⟨h3, h4⟩ := fop_of e
  have hmn : m * n < 16777216 := by
    have : ((if s = true then -(m : Int) else m) * (if t = true then -(n : Int) else n)).natAbs = m * n := by
      rw [Int.natAbs_mul]
      cases s <;> cases t <;> simp
    omega
  have hz := Zr_near (s ^^ t) (m * n) (k + j) hmn
  have e2 : (if (s ^^ t) = true then -((m * n : Nat) : Int) else ((m * n : Nat) : Int)) = (if s = true then -(m : Int) else m) * (if t = true then -(n : Int) else n) := by
    cases s <;> cases t <;> simp [Int.neg_mul, Int.mul_neg, Int.neg_neg]
  rw [e2, ← h4] at hz
  exact ⟨h3, hz⟩
theorem Z_eq {x y : Nat} {a : Int} (hx : Zr x a) (hy : Zr y a) : FloatKind.f32.format.order x y = some .eq := by
  obtain ⟨s, m, k, h1, ha⟩ := hx
  obtain ⟨t, n, j, h2, hb⟩ := hy
  unfold Ieee.Format.order
  rw [h1, h2]
  have hK : min (-(k : Int)) (-(j : Int)) = -((max k j : Nat) : Int) := by omega
  have e1 : (-(k : Int) - -((max k j : Nat) : Int)).toNat = max k j - k := by omega
  have e2 : (-(j : Int) - -((max k j : Nat) : Int)).toNat = max k j - j := by omega
  have p1 : m * 2 ^ k * 2 ^ (max k j - k) = m * 2 ^ max k j := by rw [Nat.mul_assoc, ← Nat.pow_add]; congr 2; omega
  have p2 : n * 2 ^ j * 2 ^ (max k j - j) = n * 2 ^ max k j := by rw [Nat.mul_assoc, ← Nat.pow_add]; congr 2; omega
  have g1 : Ieee.signed s (m * 2 ^ k) (max k j - k) = a * ((2 ^ max k j : Nat) : Int) := by
    unfold Ieee.signed
    rw [Nat.shiftLeft_eq, p1, ha]
    cases s <;> simp [Int.neg_mul]
  have g2 : Ieee.signed t (n * 2 ^ j) (max k j - j) = a * ((2 ^ max k j : Nat) : Int) := by
    unfold Ieee.signed
    rw [Nat.shiftLeft_eq, p2, hb]
    cases t <;> simp [Int.neg_mul]
  unfold Ieee.Datum.order
  simp only [hK, e1, e2, g1, g2]
  rw [show compare (a * ((2 ^ max k j : Nat) : Int)) (a * ((2 ^ max k j : Nat) : Int)) = .eq from by simp [compare, compareOfLessAndEq]]
end Go.Proofs.YtnnemdjbopdjmaaDoor.PI
end
section
set_option linter.unusedVariables false
set_option linter.unusedSimpArgs false
namespace Go.Proofs.YtnnemdjbopdjmaaDoor.PD
open Go.RowKit Go.Proofs.YtnnemdjbopdjmaaDoor Go.Proofs.YtnnemdjbopdjmaaDoorW.PrintWords Go.Proofs.YtnnemdjbopdjmaaDoorW.PrintLast Go.Proofs.YtnnemdjbopdjmaaDoorW.PrintMore
open XF XL VA PI
def okS (l : List Int) : Prop := ∀ b ∈ l, 0 ≤ b ∧ b ≤ 255
theorem wid {i : Int} (h0 : -9223372036854775808 ≤ i) (h : i ≤ 9223372036854775807) : wrap64 i = i := by unfold wrap64; omega
theorem rd_ok {l : List Int} (h : okS l) (i : Int) : 0 ≤ rd l i ∧ rd l i ≤ 255 := by
  unfold rd
  by_cases c : i.toNat < l.length
  · rw [List.getD_eq_getElem?_getD, List.getElem?_eq_getElem c, Option.getD_some]
    exact h _ (List.getElem_mem c)
  · rw [List.getD_eq_getElem?_getD, List.getElem?_eq_none (by omega), Option.getD_none]
    omega
theorem and255 (n : Int) : 0 ≤ Go.bits .and .u64 n 255 ∧ Go.bits .and .u64 n 255 ≤ 255 := by
  have h255 : (BitVec.ofInt 64 255).toNat = 2 ^ 8 - 1 := by decide
  have key : (BitVec.ofInt 64 n &&& BitVec.ofInt 64 255).toNat = (n % ((2 ^ 64 : Nat) : Int)).toNat % 2 ^ 8 := by
    rw [BitVec.toNat_and, BitVec.toNat_ofInt, h255, Nat.and_two_pow_sub_one_eq_mod]
  have e : Go.bits .and .u64 n 255 = IntKind.u64.wrap ((BitVec.ofInt 64 n &&& BitVec.ofInt 64 255).toNat : Nat) := rfl
  rw [e, key]
  have hb : (n % ((2 ^ 64 : Nat) : Int)).toNat % 2 ^ 8 < 256 := Nat.mod_lt _ (by decide)
  generalize (n % ((2 ^ 64 : Nat) : Int)).toNat % 2 ^ 8 = q at hb
  have e2 : IntKind.u64.wrap (q : Int) = q := by
    simp [IntKind.wrap, IntKind.bits, IntKind.signed]
    omega
  rw [e2]
  omega
theorem next_ok {l : List Int} (hl : okS l) (a s : Int) (h0 : 0 ≤ a) (h1 : a ≤ 1000000) : ∃ x s', spec_l00Src_next.f l a s = some (x, a + 1, s') ∧ 0 ≤ x ∧ x ≤ 255 := by
  have hr := rd_ok hl a
  have hw1 : wrap64 (rd l a) = rd l a := wid (by omega) (by omega)
  have hw2 : wrap64 (a + 1) = a + 1 := wid (by omega) (by omega)
  have ha (n : Int) : wrap64 (Go.bits .and .u64 n 255) = Go.bits .and .u64 n 255 := by
    have := and255 n
    exact wid (by omega) (by omega)
  unfold spec_l00Src_next.f
  rw [hw1, hw2]
  by_cases c : a < (l.length : Int)
  · rw [if_pos c, if_pos h0]
    by_cases c2 : a + 1 ≤ (l.length : Int)
    · rw [if_pos c2]
      exact ⟨_, _, rfl, hr.1, hr.2⟩
    · rw [if_neg c2, ha]
      exact ⟨_, _, rfl, (and255 _).1, (and255 _).2⟩
  · rw [if_neg c]
    by_cases c2 : a + 1 ≤ (l.length : Int)
    · rw [if_pos c2]
      exact ⟨_, _, rfl, by omega, by omega⟩
    · rw [if_neg c2, ha]
      exact ⟨_, _, rfl, (and255 _).1, (and255 _).2⟩
theorem tmod_ok {x n : Int} (h0 : 0 ≤ x) (hn : 0 < n) : 0 ≤ Int.tmod x n ∧ Int.tmod x n < n := by
  rw [Int.tmod_eq_emod_of_nonneg h0]
  exact ⟨Int.emod_nonneg _ (by omega), Int.emod_lt_of_pos _ hn⟩
theorem pick_ok {l : List Int} (hl : okS l) (a s n : Int) (h0 : 0 ≤ a) (h1 : a ≤ 100000) (hn : 1 < n) : ∃ v a' s', spec_l00Src_pick.f l a s n = some (v, a', s') ∧ 0 ≤ v ∧ v < n ∧ 0 ≤ a' ∧ a' ≤ a + 2 := by
  unfold spec_l00Src_pick.f
  rw [if_neg (by omega)]
  obtain ⟨x, s1, e1, hx0, hx1⟩ := next_ok hl a s h0 (by omega)
  rw [e1]
  simp only [Option.bind_some]
  by_cases c : n > 200
  · rw [if_pos c]
    obtain ⟨y, s2, e2, hy0, hy1⟩ := next_ok hl (a + 1) s1 (by omega) (by omega)
    rw [e2]
    simp only [Option.bind_some]
    rw [if_neg (by omega), wid (i := x * 256) (by omega) (by omega), wid (by omega) (by omega)]
    have := tmod_ok (x := x * 256 + y) (by omega) (by omega : 0 < n)
    exact ⟨_, _, _, rfl, this.1, this.2, by omega, by omega⟩
  · rw [if_neg c, if_neg (by omega)]
    have := tmod_ok hx0 (by omega : 0 < n)
    exact ⟨_, _, _, rfl, this.1, this.2, by omega, by omega⟩
theorem one_ok {l : List Int} (hl : okS l) (a s n : Int) (h0 : 0 ≤ a) (h1 : a ≤ 100000) (hn : 1 < n) : ∃ v a' s', spec_l00Src_one.f l a s n = some (v, a', s') ∧ 0 ≤ a' ∧ a' ≤ a + 2 := by
  unfold spec_l00Src_one.f
  obtain ⟨v, a', s', e, _, _, h2, h3⟩ := pick_ok hl a s n h0 h1 hn
  rw [e]
  exact ⟨_, _, _, rfl, h2, h3⟩
theorem among_ok {l : List Int} (hl : okS l) (a s : Int) (m : List Int) (h0 : 0 ≤ a) (h1 : a ≤ 100000) (hm : 1 < m.length) : ∃ v a' s', spec_l00Src_among.f l a s m = some (v, a', s') ∧ v ∈ m ∧ 0 ≤ a' ∧ a' ≤ a + 2 := by
  unfold spec_l00Src_among.f
  obtain ⟨v, a', s', e, hv0, hv1, h2, h3⟩ := pick_ok hl a s (m.length : Int) h0 h1 (by omega)
  rw [e]
  simp only [Option.bind_some]
  rw [if_pos hv0, if_pos hv1]
  refine ⟨_, _, _, rfl, ?_, h2, h3⟩
  unfold rd
  have c : v.toNat < m.length := by omega
  rw [List.getD_eq_getElem?_getD, List.getElem?_eq_getElem c, Option.getD_some]
  exact List.getElem_mem c
def Nn (x : Nat) : Prop := (∃ s m e, FloatKind.f32.format.read x = .number s m e) ∨ ∃ s, FloatKind.f32.format.read x = .infinity s
theorem near_Nn (s : Bool) (m : Nat) (e : Int) : Nn (FloatKind.f32.format.nearest s m e) := by
  have key (r : Nat) (hr : r ≤ 2139095040) : Nn (FloatKind.f32.format.word s r) := by
    by_cases c : r < 2139095040
    · left
      rw [read_word s r c]
      split
      · exact ⟨_, _, _, rfl⟩
      · exact ⟨_, _, _, rfl⟩
    · obtain rfl : r = 2139095040 := by omega
      right
      exact ⟨s, by cases s <;> decide⟩
  unfold Ieee.Format.nearest
  split
  · exact key 0 (by omega)
  · refine key _ ?_
    rw [PI.f32i]
    exact Nat.min_le_right _ _
theorem width32 : FloatKind.f32.format.width = 32 := by decide
theorem quo_ok {x c : Nat} {n : Int} (hx : Zr x n) {t : Bool} {M : Nat} {j : Int} (hc : FloatKind.f32.format.read c = .number t M j) (hM : M ≠ 0) : fok .quo .f32 x c = true ∧ Nn (fop .quo .f32 x c) ∧ fop .quo .f32 x c < 4294967296 := by
  obtain ⟨s, m, k, h1, _⟩ := hx
  have e : ∃ s' m' e', floatBits .quo .f32 x c = some (FloatKind.f32.format.nearest s' m' e') := by
    have : floatBits .quo .f32 x c = ((FloatKind.f32.format.read x).quotient (FloatKind.f32.format.fractionBits + 2) (FloatKind.f32.format.read c)).map FloatKind.f32.format.write := rfl
    rw [this, h1, hc]
    unfold Ieee.Datum.quotient
    simp only
    rw [if_neg hM]
    exact ⟨_, _, _, rfl⟩
  obtain ⟨s', m', e', e⟩ := e
  obtain ⟨h3, h4⟩ := fop_of e
  have hlt : fop .quo .f32 x c < 2 ^ FloatKind.f32.format.width := by
    rw [h4]
    exact FloatKind.f32.format.div_lt (x := x) (y := c) e
  rw [width32] at hlt
  exact ⟨h3, h4 ▸ near_Nn _ _ _, by simpa using hlt⟩
theorem mul_ok {x c : Nat} (hx : Nn x) {t : Bool} {M : Nat} {j : Int} (hc : FloatKind.f32.format.read c = .number t M j) (hM : M ≠ 0) : fok .mul .f32 x c = true ∧ fop .mul .f32 x c < 4294967296 := by
  have e : ∃ r, floatBits .mul .f32 x c = some r := by
    have : floatBits .mul .f32 x c = ((FloatKind.f32.format.read x).product (FloatKind.f32.format.read c)).map FloatKind.f32.format.write := rfl
    rw [this, hc]
    rcases hx with ⟨s, m, k, h1⟩ | ⟨s, h1⟩
    · rw [h1]
      exact ⟨_, rfl⟩
    · rw [h1]
      unfold Ieee.Datum.product
      simp only
      rw [if_neg hM]
      exact ⟨_, rfl⟩
  obtain ⟨r, e⟩ := e
  obtain ⟨h3, h4⟩ := fop_of e
  have hlt : fop .mul .f32 x c < 2 ^ FloatKind.f32.format.width := by
    rw [h4]
    exact FloatKind.f32.format.mul_lt (x := x) (y := c) e
  rw [width32] at hlt
  exact ⟨h3, by simpa using hlt⟩
theorem r4 : FloatKind.f32.format.read 1082130432 = .number false 8388608 (-21) := by decide
theorem r7 : FloatKind.f32.format.read 1088421888 = .number false 14680064 (-21) := by decide
theorem r16 : FloatKind.f32.format.read 1098907648 = .number false 8388608 (-19) := by decide
theorem small_ok {l : List Int} (hl : okS l) (a s : Int) (h0 : 0 ≤ a) (h1 : a ≤ 100000) : ∃ x a' s', spec_l01DrawSmall.f l a s = some (x, a', s') ∧ x < 4294967296 ∧ 0 ≤ a' ∧ a' ≤ a + 2 := by
  unfold spec_l01DrawSmall.f
  obtain ⟨v, a', s', e, hv0, hv1, h2, h3⟩ := pick_ok hl a s 33 h0 h1 (by decide)
  rw [e]
  simp only [Option.bind_some]
  rw [wid (by omega) (by omega)]
  obtain ⟨q1, _, q3⟩ := quo_ok (Zr_int (v - 16) (by omega)) r4 (by decide)
  rw [if_pos q1]
  exact ⟨_, _, _, rfl, q3, h2, h3⟩
theorem plain_ok {l : List Int} (hl : okS l) (a s : Int) (h0 : 0 ≤ a) (h1 : a ≤ 90000) : ∃ x a' s', spec_l01DrawPlain.f l a s = some (x, a', s') ∧ Nn x ∧ x < 4294967296 ∧ 0 ≤ a' ∧ a' ≤ a + 4 := by
  unfold spec_l01DrawPlain.f
  obtain ⟨v, a', s', e, hv0, hv1, h2, h3⟩ := pick_ok hl a s 129 h0 (by omega) (by decide)
  rw [e]
  simp only [Option.bind_some]
  obtain ⟨o, b', t', e2, h4, h5⟩ := one_ok hl a' s' 4 h2 (by omega) (by decide)
  rw [e2]
  simp only [Option.bind_some]
  rw [wid (by omega) (by omega)]
  obtain ⟨q1, q2, q3⟩ := quo_ok (Zr_int (v - 64) (by omega)) r7 (by decide)
  obtain ⟨p1, p2, p3⟩ := quo_ok (Zr_int (v - 64) (by omega)) r16 (by decide)
  cases o with
  | true =>
    rw [if_pos rfl, if_pos q1]
    exact ⟨_, _, _, rfl, q2, q3, h4, by omega⟩
  | false =>
    rw [if_neg (by decide), if_pos p1]
    exact ⟨_, _, _, rfl, p2, p3, h4, by omega⟩
theorem from_lt (n : Int) : ((n % 4294967296).toNat) < 4294967296 := by omega
theorem from_num : ∀ v ∈ ([8388608, 2130706432, 1610612736, 536870912] : List Int), ∃ M j, M ≠ 0 ∧ FloatKind.f32.format.read ((v % 4294967296).toNat) = .number false M j := by
  intro v hv
  simp only [List.mem_cons, List.not_mem_nil, or_false] at hv
  rcases hv with rfl | rfl | rfl | rfl
  · exact ⟨8388608, -149, by decide, by decide⟩
  · exact ⟨8388608, 104, by decide, by decide⟩
  · exact ⟨8388608, 42, by decide, by decide⟩
  · exact ⟨8388608, -86, by decide, by decide⟩
theorem float_ok {l : List Int} (hl : okS l) (a s : Int) (h0 : 0 ≤ a) (h1 : a ≤ 80000) : ∃ x a' s', spec_l01DrawFloat.f l a s = some (x, a', s') ∧ x < 4294967296 ∧ 0 ≤ a' ∧ a' ≤ a + 20 := by
  unfold spec_l01DrawFloat.f
  obtain ⟨o, b1, t1, e1, h2, h3⟩ := one_ok hl a s 12 h0 (by omega) (by decide)
  rw [e1]
  simp only [Option.bind_some]
  cases o with
  | false =>
    rw [if_neg (by decide)]
    obtain ⟨x, b2, t2, e2, _, q, h4, h5⟩ := plain_ok hl b1 t1 h2 (by omega)
    rw [e2]
    exact ⟨x, b2, t2, rfl, q, h4, by omega⟩
  | true =>
    rw [if_pos rfl]
    obtain ⟨v, b2, t2, e2, hv0, hv1, h4, h5⟩ := pick_ok hl b1 t1 4 h2 (by omega) (by decide)
    rw [e2]
    simp only [Option.bind_some]
    by_cases c0 : v = 0
    · rw [if_pos c0]
      obtain ⟨y, b3, t3, e3, _, h6, h7⟩ := among_ok hl b2 t2 [0, 2147483648, 2139095040, 4286578688, 2143289344, 1, 2139095039, 8388608, 8388607, 2147483649] h4 (by omega) (by decide)
      rw [e3]
      simp only [Option.bind_some, XM.l01From.f]
      exact ⟨_, _, _, rfl, from_lt _, h6, by omega⟩
    · rw [if_neg c0]
      by_cases c1 : v = 1
      · rw [if_pos c1]
        obtain ⟨y, b3, t3, e3, _, _, h6, h7⟩ := pick_ok hl b2 t2 65536 h4 (by omega) (by decide)
        rw [e3]
        simp only [Option.bind_some]
        obtain ⟨z, b4, t4, e4, _, _, h8, h9⟩ := pick_ok hl b3 t3 65536 h6 (by omega) (by decide)
        rw [e4]
        simp only [Option.bind_some, XM.l01From.f]
        exact ⟨_, _, _, rfl, from_lt _, h8, by omega⟩
      · rw [if_neg c1]
        by_cases c2 : v = 2
        · rw [if_pos c2]
          obtain ⟨y, b3, t3, e3, _, _, h6, h7⟩ := pick_ok hl b2 t2 65536 h4 (by omega) (by decide)
          rw [e3]
          simp only [Option.bind_some, XM.l01From.f]
          exact ⟨_, _, _, rfl, from_lt _, h6, by omega⟩
        · rw [if_neg c2]
          obtain ⟨x, b3, t3, e3, hN, q, h6, h7⟩ := plain_ok hl b2 t2 h4 (by omega)
          rw [e3]
          simp only [Option.bind_some]
          obtain ⟨y, b4, t4, e4, hy, h8, h9⟩ := among_ok hl b3 t3 [8388608, 2130706432, 1610612736, 536870912] h6 (by omega) (by decide)
          rw [e4]
          simp only [Option.bind_some, XM.l01From.f]
          obtain ⟨M, j, hM, hr⟩ := from_num y hy
          obtain ⟨m1, m2⟩ := mul_ok hN hr hM
          rw [if_pos m1]
          exact ⟨_, _, _, rfl, m2, h8, by omega⟩
theorem vector_ok {l : List Int} (hl : okS l) : ∃ x y z, spec_B10AnyVector.f l = some (x, y, z) ∧ x < 4294967296 ∧ y < 4294967296 ∧ z < 4294967296 := by
  unfold spec_B10AnyVector.f spec_l00From.f
  simp only [Option.bind_some]
  unfold spec_l01DrawVector.f
  obtain ⟨o, b1, t1, e1, h2, h3⟩ := one_ok hl 0 0 10 (by decide) (by decide) (by decide)
  rw [e1]
  simp only [Option.bind_some]
  obtain ⟨x, b2, t2, e2, hx, h4, h5⟩ := small_ok hl b1 t1 h2 (by omega)
  rw [e2]
  simp only [Option.bind_some]
  obtain ⟨y, b3, t3, e3, hy, h6, h7⟩ := small_ok hl b2 t2 h4 (by omega)
  rw [e3]
  simp only [Option.bind_some]
  obtain ⟨z, b4, t4, e4, hz, h8, h9⟩ := small_ok hl b3 t3 h6 (by omega)
  rw [e4]
  simp only [Option.bind_some]
  cases o with
  | false => exact ⟨_, _, _, rfl, hx, hy, hz⟩
  | true =>
    rw [if_pos rfl]
    obtain ⟨u, b5, t5, e5, hu, _, _⟩ := float_ok hl b4 t4 h8 (by omega)
    rw [e5]
    exact ⟨_, _, _, rfl, hx, hu, hz⟩
theorem whole_ok {l : List Int} (hl : okS l) : ∃ a b c : Int, spec_B10Vector.f l 50 = some (floatOfInt .f32 a, floatOfInt .f32 b, floatOfInt .f32 c) ∧ (-50 ≤ a ∧ a ≤ 50) ∧ (-50 ≤ b ∧ b ≤ 50) ∧ (-50 ≤ c ∧ c ≤ 50) := by
  unfold spec_B10Vector.f spec_l00From.f
  simp only [Option.bind_some]
  rw [wid (i := 2 * 50) (by decide) (by decide), wid (i := 2 * 50 + 1) (by decide) (by decide)]
  obtain ⟨x, b1, t1, e1, hx0, hx1, h2, h3⟩ := pick_ok hl 0 0 (2 * 50 + 1) (by decide) (by decide) (by decide)
  rw [e1]
  simp only [Option.bind_some]
  obtain ⟨y, b2, t2, e2, hy0, hy1, h4, h5⟩ := pick_ok hl b1 t1 (2 * 50 + 1) h2 (by omega) (by decide)
  rw [e2]
  simp only [Option.bind_some]
  obtain ⟨z, b3, t3, e3, hz0, hz1, h6, h7⟩ := pick_ok hl b2 t2 (2 * 50 + 1) h4 (by omega) (by decide)
  rw [e3]
  simp only [Option.bind_some]
  rw [wid (by omega) (by omega), wid (by omega) (by omega), wid (by omega) (by omega)]
  exact ⟨_, _, _, rfl, by omega, by omega, by omega⟩
end Go.Proofs.YtnnemdjbopdjmaaDoor.PD
end
section
namespace Go.Proofs.YtnnemdjbopdjmaaDoor.T
open Go.Lib
def sp (c : UInt8) : List UInt8 → List (List UInt8)
  | [] => [[]]
  | x :: xs => if x = c then [] :: sp c xs else match sp c xs with
    | [] => [[x]]
    | p :: ps => (x :: p) :: ps
theorem sp_spec (c : UInt8) : ∀ s : List UInt8, (index s [c] = -1 ∧ sp c s = [s]) ∨ ∃ i : Nat, index s [c] = i ∧ i < s.length ∧ sp c s = s.take i :: sp c (s.drop (i + 1))
  | [] => .inl ⟨rfl, rfl⟩
  | b :: l => by
    by_cases hb : b = c
    · subst hb
      refine .inr ⟨0, ?_, by simp, by simp [sp]⟩
      unfold index
      simp
    · have e : index (b :: l) [c] = if index l [c] == -1 then -1 else index l [c] + 1 := by
        conv => lhs; unfold index
        rw [if_neg]
        simp only [List.isPrefixOf, Bool.and_true, beq_iff_eq]
        exact fun h => hb h.symm
      rcases sp_spec c l with ⟨h1, h2⟩ | ⟨i, h1, h2, h3⟩
      · refine .inl ⟨by rw [e, h1]; rfl, ?_⟩
        unfold sp
        rw [if_neg hb, h2]
      · refine .inr ⟨i + 1, ?_, by simp; omega, ?_⟩
        · rw [e, h1, if_neg (by simp)]
          rfl
        · conv => lhs; unfold sp
          rw [if_neg hb, h3]
          simp
theorem splitK_sp (c : UInt8) : ∀ (n : Nat) (s : List UInt8), s.length ≤ n → splitK [c] 0 (count s [c]) s = sp c s := by
  intro n
  induction n with
  | zero =>
    intro s hs
    have : s = [] := List.length_eq_zero_iff.1 (by omega)
    subst this
    rfl
  | succ n ih =>
    intro s hs
    rcases sp_spec c s with ⟨h1, h2⟩ | ⟨i, h1, h2, h3⟩
    · rw [count_miss h1, h2]; rfl
    · rw [count_hit (by simp) h1, Nat.add_comm, h3]
      unfold splitK
      have hm : ¬ (index s [c] == -1) = true := by rw [h1]; simp
      rw [if_neg hm]
      have e : (index s [c]).toNat = i := by rw [h1]; rfl
      rw [e]
      simp only [List.length_cons, List.length_nil, Nat.zero_add, Nat.add_zero]
      rw [ih (s.drop (i + 1)) (by simp; omega)]
def B (l : List UInt8) : ByteArray := ⟨l.toArray⟩
theorem B_data (s : ByteArray) : B s.data.toList = s := by cases s; simp [B]
theorem B_toList (l : List UInt8) : (B l).data.toList = l := by simp [B]
theorem B_size (l : List UInt8) : (B l).size = l.length := by simp [B, ByteArray.size]
theorem size_list (s : ByteArray) : s.size = s.data.toList.length := by rw [Array.length_toList]; rfl
theorem splitB_sp (c : UInt8) (s : ByteArray) : splitB ⟨#[c]⟩ 0 (countB s ⟨#[c]⟩) s = (sp c s.data.toList).map B := by
  have h := splitB_data ⟨#[c]⟩ 0 (countB s ⟨#[c]⟩) s
  have h2 : (([⟨#[c]⟩] : List ByteArray).map (·.data.toList)) = [[c]] := rfl
  have e : splitK [c] 0 (countB s ⟨#[c]⟩) s.data.toList = sp c s.data.toList := splitK_sp c _ _ (Nat.le_refl _)
  have h' : (splitB ⟨#[c]⟩ 0 (countB s ⟨#[c]⟩) s).map (·.data.toList) = sp c s.data.toList := h.trans e
  rw [← h', List.map_map]
  have : (B ∘ fun (x : ByteArray) => x.data.toList) = id := by funext x; exact B_data x
  rw [this, List.map_id]
theorem wrap_id {i : Int} (h0 : -9223372036854775808 ≤ i) (h : i ≤ 9223372036854775807) : RowKit.wrap64 i = i := by unfold RowKit.wrap64; omega
end Go.Proofs.YtnnemdjbopdjmaaDoor.T
end
section
set_option linter.unusedVariables false
set_option linter.unusedSimpArgs false
namespace Go.Proofs.YtnnemdjbopdjmaaDoor.PW
open Go.RowKit Go.Proofs.YtnnemdjbopdjmaaDoor Go.Proofs.YtnnemdjbopdjmaaDoorW.PrintWords Go.Proofs.YtnnemdjbopdjmaaDoorW.PrintLast Go.Proofs.YtnnemdjbopdjmaaDoorW.PrintMore
open T XF XL VA
theorem w1 (i : Nat) (h : i ≤ 9223372036854775806) : wrap64 ((i : Int) + 1) = ((i + 1 : Nat) : Int) := by rw [wrap_id (by omega) (by omega)]; rfl
theorem bt_nat (s : ByteArray) (i : Nat) (h : i < s.size) : bt s (i : Int) = ((s.data.toList[i]'(by rw [← size_list]; exact h)).toNat : Int) := by
  unfold bt
  rw [dif_pos (by simpa using h)]
  simp only [Int.toNat_natCast]
  rfl
theorem bt_mid (p r : List UInt8) (b : UInt8) : bt (B (p ++ b :: r)) (p.length : Int) = (b.toNat : Int) := by
  rw [bt_nat _ _ (by rw [B_size]; simp)]
  simp [B]
def codes (l : List UInt8) : List Int := l.map fun b => (b.toNat : Int)
theorem strOf_codes (l : List UInt8) : strOfNums (codes l) = B l := by
  unfold strOfNums codes B
  rw [List.map_map]
  congr 2
  conv => rhs; rw [← List.map_id l]
  apply List.map_congr_left
  intro b _
  simp
theorem i64_and15 (n : Int) : Go.bits .and .i64 n 15 = n % 16 := by
  have h15 : (BitVec.ofInt 64 15).toNat = 2 ^ 4 - 1 := by decide
  have key : (BitVec.ofInt 64 n &&& BitVec.ofInt 64 15).toNat = (n % ((2 ^ 64 : Nat) : Int)).toNat % 2 ^ 4 := by
    rw [BitVec.toNat_and, BitVec.toNat_ofInt, h15, Nat.and_two_pow_sub_one_eq_mod]
  show IntKind.i64.wrap ((BitVec.ofInt 64 n &&& BitVec.ofInt 64 15).toNat : Nat) = n % 16
  rw [key, IntKind.wrap_i64]
  omega
abbrev dg : ByteArray := ⟨#[48, 49, 50, 51, 52, 53, 54, 55, 56, 57, 97, 98, 99, 100, 101, 102]⟩
def dig (n s : Int) : UInt8 := dg.data.toList.getD ((shr .i64 n s) % 16).toNat 0
theorem dig_bt (n s : Int) : bt dg ((shr .i64 n s) % 16) = ((dig n s).toNat : Int) := by
  have h0 : 0 ≤ (shr .i64 n s) % 16 := Int.emod_nonneg _ (by decide)
  have h1 : (shr .i64 n s) % 16 < 16 := Int.emod_lt_of_pos _ (by decide)
  obtain ⟨m, hm⟩ := Int.eq_ofNat_of_zero_le h0
  unfold dig
  rw [hm] at h1 ⊢
  rw [bt_nat dg m (by have : dg.size = 16 := rfl; omega)]
  simp only [Int.toNat_natCast]
  congr 1
  rw [List.getD_eq_getElem?_getD, List.getElem?_eq_getElem (by show m < 16; omega), Option.getD_some]
def hexd (n : Int) : Nat → List UInt8
  | 0 => []
  | d + 1 => dig n (4 * (d : Int)) :: hexd n d
theorem hexd_len (n : Int) : ∀ d, (hexd n d).length = d
  | 0 => rfl
  | d + 1 => by simp [hexd, hexd_len n d]
def H (x : Nat) : List UInt8 := hexd (XL.bits x) 8
theorem H_len (x : Nat) : (H x).length = 8 := hexd_len _ _
theorem hex_impl (x : Nat) : ∀ (d k : Nat) (acc : List UInt8), d ≤ 8 → d < k → acc.length + d ≤ 100 → VA.impl_hexText.l0 k x (codes acc) (4 * (d : Int) - 4) = some (B (acc ++ hexd (XL.bits x) d)) := by
  intro d
  induction d with
  | zero =>
    intro k acc hd hk ha
    obtain ⟨k, rfl⟩ : ∃ m, k = m + 1 := ⟨k - 1, by omega⟩
    simp only [VA.impl_hexText.l0]
    rw [if_neg (by omega), strOf_codes, hexd, List.append_nil]
  | succ d ih =>
    intro k acc hd hk ha
    obtain ⟨k, rfl⟩ : ∃ m, k = m + 1 := ⟨k - 1, by omega⟩
    have e : 4 * ((d + 1 : Nat) : Int) - 4 = 4 * (d : Int) := by omega
    rw [e]
    simp only [VA.impl_hexText.l0, XL.BitsOf.f, Option.bind_some, i64_and15]
    have h0 : 0 ≤ (shr .i64 (XL.bits x) (4 * (d : Int))) % 16 := Int.emod_nonneg _ (by decide)
    have h1 : (shr .i64 (XL.bits x) (4 * (d : Int))) % 16 < 16 := Int.emod_lt_of_pos _ (by decide)
    have hw : wrap64 (4 * (d : Int) - 4) = 4 * (d : Int) - 4 := wrap_id (by omega) (by omega)
    have hc : codes acc ++ [bt dg ((shr .i64 (XL.bits x) (4 * (d : Int))) % 16)] = codes (acc ++ [dig (XL.bits x) (4 * (d : Int))]) := by
      rw [dig_bt]; simp [codes]
    have hl : (codes acc).length < 140737488355328 := by simp [codes]; omega
    have g : 4 * (d : Int) ≥ 0 := by omega
    rw [if_pos g, if_pos g, if_pos h0, if_pos h1, if_pos hl, hw, hc, ih k _ (by omega) (by omega) (by simp; omega)]
    simp [hexd]
theorem hexText_f (x k : Nat) (hk : 8 < k) : VA.impl_hexText.f k x = some (B (H x)) := hex_impl x 8 k [] (by omega) hk (by simp)
theorem join_f (l : List (List UInt8)) (sep : UInt8) (h1 : l.length ≤ 1000000) (h2 : (Lib.join l [sep]).length ≤ 1000000000) : XT.strings_Join.f (l.map B) (⟨#[sep]⟩ : ByteArray) = some (B (Lib.join l [sep])) := by
  unfold XT.strings_Join.f
  have e : (l.map B).map (·.data.toList) = l := by
    rw [List.map_map]
    have : ((fun (x : ByteArray) => x.data.toList) ∘ B) = id := by funext x; exact B_toList x
    rw [this, List.map_id]
  have e2 : (⟨#[sep]⟩ : ByteArray).data.toList = [sep] := rfl
  rw [e, e2, if_pos ⟨by rw [List.length_map]; omega, by omega⟩]
  rfl
theorem joined_f (l : List (List UInt8)) (h0 : l ≠ []) (h1 : l.length ≤ 1000000) (h2 : (Lib.join l [44]).length ≤ 1000000000) : VA.impl_joined.f (l.map B) = some (B (Lib.join l [44])) := by
  unfold VA.impl_joined.f
  have : l.length ≠ 0 := by simpa using h0
  rw [if_neg (by rw [List.length_map]; omega), join_f l 44 h1 h2]
  rfl
theorem N_l0 : ∀ (rest pre : List Nat) (k : Nat), rest.length + 9 < k → pre.length + rest.length ≤ 1000 →
    VA.impl_NumbersText.l0 k ((pre.map H).map B) (pre ++ rest) (((pre ++ rest).length : Nat) : Int) (pre.length : Int) = (VA.impl_joined.f (((pre ++ rest).map H).map B)).bind fun t => some (t, true) := by
  intro rest
  induction rest with
  | nil =>
    intro pre k hk hp
    obtain ⟨k, rfl⟩ : ∃ m, k = m + 1 := ⟨k - 1, by omega⟩
    simp only [VA.impl_NumbersText.l0]
    rw [if_neg (by simp)]
    simp only [List.append_nil]
  | cons x rest ih =>
    intro pre k hk hp
    simp only [List.length_cons] at hk hp
    obtain ⟨k, rfl⟩ : ∃ m, k = m + 1 := ⟨k - 1, by omega⟩
    have hrd : rdOf (0 : Nat) (pre ++ x :: rest) (pre.length : Int) = x := by simp [rdOf]
    have hlt : (pre.length : Int) < (((pre ++ x :: rest).length : Nat) : Int) := by simp; omega
    simp only [VA.impl_NumbersText.l0]
    rw [if_pos hlt, if_pos (by omega), if_pos hlt, hrd, hexText_f x k (by omega)]
    simp only [Option.bind_some]
    have e : pre ++ x :: rest = (pre ++ [x]) ++ rest := by simp
    have e2 : pre.length + 1 = (pre ++ [x]).length := by simp
    have e3 : (pre.map H).map B ++ [B (H x)] = ((pre ++ [x]).map H).map B := by simp
    rw [if_pos (by simp only [List.length_map]; omega), w1 pre.length (by omega), e, e2, e3]
    exact ih (pre ++ [x]) k (by omega) (by simp; omega)
theorem impl_Ns (xs : List Nat) (h0 : xs ≠ []) (h1 : xs.length ≤ 256) (k : Nat) (hk : xs.length + 9 < k) (h2 : (Lib.join (xs.map H) [44]).length ≤ 1000000000) : VA.impl_NumbersText.f k xs = some (B (Lib.join (xs.map H) [44]), true) := by
  unfold VA.impl_NumbersText.f VA.impl_listOk.f
  simp only [Option.bind_some]
  rw [if_pos (by simp; omega)]
  have := N_l0 xs [] k hk (by simp; omega)
  simp only [List.nil_append, List.map_nil, List.length_nil] at this
  refine Eq.trans this ?_
  rw [joined_f (xs.map H) (by simpa using h0) (by simp; omega) h2]
  simp only [Option.bind_some]
def dv (b : UInt8) : Option Nat := if 48 ≤ b.toNat ∧ b.toNat ≤ 57 then some (b.toNat - 48) else if 97 ≤ b.toNat ∧ b.toNat ≤ 102 then some (b.toNat - 87) else none
def ph : List UInt8 → Nat → Option Nat
  | [], n => some n
  | b :: r, n => match dv b with
    | none => none
    | some d => ph r (16 * n + d)
theorem dv_lt {b : UInt8} {d : Nat} (h : dv b = some d) : d < 16 := by
  unfold dv at h
  split at h
  · cases h; omega
  · split at h
    · cases h; omega
    · cases h
def pn (p : List UInt8) : Option Nat := if p.length = 8 then match ph p 0 with
    | none => none
    | some m => if XL.bits m = (m : Int) then some m else none
  else none
def pns : List (List UInt8) → Option (List Nat)
  | [] => some []
  | p :: r => match pn p with
    | none => none
    | some m => match pns r with
      | none => none
      | some l => some (m :: l)
def numsOf (o : Option (List Nat)) : List Nat × Bool := match o with
  | some l => (l, true)
  | none => ([], false)
theorem pw (e : Nat) (h : e ≤ 8) : 16 ^ e ≤ 4294967296 := by
  have : 16 ^ e ≤ 16 ^ 8 := Nat.pow_le_pow_right (by omega) h
  simpa using this
theorem ix_fin : ∀ n : Fin 256, Lib.indexByte dg.data.toList (UInt8.ofNat n.val) = match dv (UInt8.ofNat n.val) with | none => -1 | some d => (d : Int) := by decide +kernel
theorem ix_dv (b : UInt8) : Lib.indexByte dg.data.toList b = match dv b with | none => -1 | some d => (d : Int) := by
  have := ix_fin ⟨b.toNat, b.toNat_lt⟩
  simpa using this
theorem ix_f (b : UInt8) : XS.strings_IndexByte.f dg (b.toNat : Int) = some (match dv b with | none => -1 | some d => (d : Int)) := by
  unfold XS.strings_IndexByte.f
  rw [← ix_dv b]
  simp
theorem rn_ok (s : List UInt8) (h8 : s.length ≤ 8) : ∀ (rest pre : List UInt8) (n k : Nat), s = pre ++ rest → n < 16 ^ pre.length → rest.length < k →
    VA.impl_readNumber.l0 k (B s) (n : Int) ((B s).size : Int) (pre.length : Int) = match ph rest n with
      | none => some (0, false)
      | some m => if s.length = 8 then some (m, XL.bits m == (m : Int)) else some (m, false) := by
  intro rest
  induction rest with
  | nil =>
    intro pre n k hp hn hk
    rw [List.append_nil] at hp
    subst hp
    obtain ⟨k, rfl⟩ : ∃ m, k = m + 1 := ⟨k - 1, by omega⟩
    have hpw := pw s.length h8
    have hm : ((n : Int) % 4294967296).toNat = n := by omega
    simp only [VA.impl_readNumber.l0]
    rw [if_neg (by rw [B_size]; omega)]
    unfold XM.FromBits.f
    rw [if_pos ⟨by omega, by omega⟩]
    simp only [Option.bind_some, XL.BitsOf.f, hm, ph, B_size]
    by_cases h : s.length = 8
    · rw [if_pos h, if_pos (by omega)]
    · rw [if_neg h, if_neg (by omega)]
  | cons b rest ih =>
    intro pre n k hp hn hk
    simp only [List.length_cons] at hk
    obtain ⟨k, rfl⟩ : ∃ m, k = m + 1 := ⟨k - 1, by omega⟩
    have hlen : pre.length + (rest.length + 1) = s.length := by
      rw [hp]
      simp
    have hb : bt (B s) (pre.length : Int) = (b.toNat : Int) := by rw [hp]; exact bt_mid pre rest b
    have hpw := pw pre.length (by omega)
    simp only [VA.impl_readNumber.l0]
    rw [if_pos (by rw [B_size]; omega), if_pos (by omega), if_pos (by rw [B_size]; omega), hb, ix_f b]
    simp only [Option.bind_some, ph]
    cases hd : dv b with
    | none =>
      simp only
      rw [if_pos (by decide)]
    | some d =>
      have := dv_lt hd
      simp only
      have e1 : wrap64 (wrap64 ((n : Int) * 16) + (d : Int)) = ((16 * n + d : Nat) : Int) := by
        rw [wrap_id (i := (n : Int) * 16) (by omega) (by omega), wrap_id (by omega) (by omega)]
        omega
      have e2 : pre.length + 1 = (pre ++ [b]).length := by simp
      rw [if_neg (by omega), if_neg (by omega), e1, w1 pre.length (by omega), e2]
      exact ih (pre ++ [b]) (16 * n + d) k (by rw [hp]; simp) (by rw [← e2, Nat.pow_succ]; omega) (by omega)
theorem rn_long (s : List UInt8) (h8 : 8 < s.length) : ∀ (d : Nat) (rest pre : List UInt8) (n k : Nat), s = pre ++ rest → pre.length + d = 8 → n < 16 ^ pre.length → d < k →
    ∃ x, VA.impl_readNumber.l0 k (B s) (n : Int) ((B s).size : Int) (pre.length : Int) = some (x, false) := by
  intro d
  induction d with
  | zero =>
    intro rest pre n k hp hd8 hn hk
    obtain ⟨k, rfl⟩ : ∃ m, k = m + 1 := ⟨k - 1, by omega⟩
    cases rest with
    | nil =>
      rw [List.append_nil] at hp
      rw [hp] at h8
      omega
    | cons b rest =>
      have hb : bt (B s) (pre.length : Int) = (b.toNat : Int) := by rw [hp]; exact bt_mid pre rest b
      simp only [VA.impl_readNumber.l0]
      rw [if_pos (by rw [B_size]; omega), if_pos (by omega), if_pos (by rw [B_size]; omega), hb, ix_f b]
      simp only [Option.bind_some]
      cases hd : dv b with
      | none =>
        simp only
        rw [if_pos (by decide)]
        exact ⟨_, rfl⟩
      | some e =>
        simp only
        rw [if_neg (by omega), if_pos (by omega)]
        exact ⟨_, rfl⟩
  | succ d ih =>
    intro rest pre n k hp hd8 hn hk
    obtain ⟨k, rfl⟩ : ∃ m, k = m + 1 := ⟨k - 1, by omega⟩
    cases rest with
    | nil =>
      rw [List.append_nil] at hp
      rw [hp] at h8
      omega
    | cons b rest =>
      have hb : bt (B s) (pre.length : Int) = (b.toNat : Int) := by rw [hp]; exact bt_mid pre rest b
      have hpw := pw pre.length (by omega)
      simp only [VA.impl_readNumber.l0]
      rw [if_pos (by rw [B_size]; omega), if_pos (by omega), if_pos (by rw [B_size]; omega), hb, ix_f b]
      simp only [Option.bind_some]
      cases hd : dv b with
      | none =>
        simp only
        rw [if_pos (by decide)]
        exact ⟨_, rfl⟩
      | some e =>
        have := dv_lt hd
        simp only
        have e1 : wrap64 (wrap64 ((n : Int) * 16) + (e : Int)) = ((16 * n + e : Nat) : Int) := by
          rw [wrap_id (i := (n : Int) * 16) (by omega) (by omega), wrap_id (by omega) (by omega)]
          omega
        have e2 : pre.length + 1 = (pre ++ [b]).length := by simp
        rw [if_neg (by omega), if_neg (by omega), e1, w1 pre.length (by omega), e2]
        exact ih rest (pre ++ [b]) (16 * n + e) k (by rw [hp]; simp) (by rw [← e2]; omega) (by rw [← e2, Nat.pow_succ]; omega) (by omega)
theorem rn_f (s : List UInt8) (k : Nat) (hk : 10 ≤ k) : (∃ m, pn s = some m ∧ VA.impl_readNumber.f k (B s) = some (m, true)) ∨ (pn s = none ∧ ∃ x, VA.impl_readNumber.f k (B s) = some (x, false)) := by
  unfold VA.impl_readNumber.f
  by_cases h : s.length ≤ 8
  · have := rn_ok s h s [] 0 k rfl (by simp) (by omega)
    simp only [List.length_nil, Int.ofNat_zero] at this
    rw [this]
    unfold pn
    cases hp : ph s 0 with
    | none =>
      refine .inr ⟨?_, _, rfl⟩
      split <;> rfl
    | some m =>
      simp only
      by_cases h8 : s.length = 8
      · rw [if_pos h8, if_pos h8]
        by_cases hb : XL.bits m = (m : Int)
        · rw [if_pos hb]
          exact .inl ⟨m, rfl, by rw [beq_iff_eq.2 hb]⟩
        · rw [if_neg hb]
          exact .inr ⟨rfl, m, by rw [beq_eq_false_iff_ne.2 hb]⟩
      · rw [if_neg h8, if_neg h8]
        exact .inr ⟨rfl, _, rfl⟩
  · obtain ⟨x, hx⟩ := rn_long s (by omega) 8 s [] 0 k rfl (by simp) (by simp) (by omega)
    simp only [List.length_nil, Int.ofNat_zero] at hx
    refine .inr ⟨?_, x, hx⟩
    unfold pn
    rw [if_neg (by omega)]
theorem impl_parts : ∀ (rest pre : List (List UInt8)) (out : List Nat) (k : Nat), rest.length + 10 < k → pre.length + rest.length ≤ 1073741825 → out.length = pre.length → out.length ≤ 256 →
    VA.impl_ReadNumbers.l0 k out ((pre ++ rest).map B) (((pre ++ rest).map B).length : Int) (pre.length : Int) = some (if pre.length + rest.length ≤ 256 then match pns rest with | some l => (out ++ l, true) | none => ([], false) else ([], false)) := by
  intro rest
  induction rest with
  | nil =>
    intro pre out k hk hp ho h256
    obtain ⟨k, rfl⟩ : ∃ m, k = m + 1 := ⟨k - 1, by omega⟩
    simp only [VA.impl_ReadNumbers.l0]
    rw [if_neg (by simp), if_pos (by simp; omega)]
    simp [pns]
  | cons p rest ih =>
    intro pre out k hk hp ho h256
    simp only [List.length_cons] at hk hp
    obtain ⟨k, rfl⟩ : ∃ m, k = m + 1 := ⟨k - 1, by omega⟩
    have hrd : rdOf ByteArray.empty ((pre ++ p :: rest).map B) (pre.length : Int) = B p := by simp [rdOf]
    have hlt : (pre.length : Int) < (((pre ++ p :: rest).map B).length : Int) := by simp; omega
    have e : pre ++ p :: rest = (pre ++ [p]) ++ rest := by simp
    have e2 : pre.length + 1 = (pre ++ [p]).length := by simp
    simp only [VA.impl_ReadNumbers.l0]
    rw [if_pos hlt, if_pos (by omega), if_pos hlt, hrd]
    rcases rn_f p k (by omega) with ⟨m, h1, h2⟩ | ⟨h1, x, h2⟩
    · rw [h2]
      simp only [Option.bind_some, pns, h1, if_true]
      by_cases h3 : out.length = 256
      · rw [if_pos (by omega), if_neg (by simp; omega)]
      · rw [if_neg (by omega), if_pos (by omega), w1 pre.length (by omega), e2]
        rw [e, ih (pre ++ [p]) (out ++ [m]) k (by omega) (by simp; omega) (by simp; omega) (by simp; omega)]
        congr 1
        rw [← e2]
        simp only [List.length_cons]
        by_cases h4 : pre.length + (rest.length + 1) ≤ 256
        · rw [if_pos h4, if_pos (by omega)]
          cases pns rest with
          | none => rfl
          | some l => simp
        · rw [if_neg h4, if_neg (by omega)]
    · rw [h2]
      simp only [Option.bind_some, pns, h1]
      rw [if_neg (by decide)]
      split <;> rfl
theorem sp_len (c : UInt8) : ∀ l : List UInt8, (sp c l).length = l.count c + 1
  | [] => by simp [sp]
  | x :: xs => by
    have := sp_len c xs
    unfold sp
    split
    · rename_i h; subst h; simp [this]
    · rename_i h
      split
      · rename_i h2; rw [h2] at this; simp at this
      · rename_i h2; rw [h2] at this; simp only [List.length_cons] at this ⊢; rw [this, List.count_cons_of_ne h]
theorem split_f (s : List UInt8) (c : UInt8) (hs : s.length ≤ 1073741824) : XS.strings_Split.f (B s) ⟨#[c]⟩ = some ((sp c s).map B) := by
  unfold XS.strings_Split.f
  rw [if_pos (by rw [B_size]; exact hs), if_pos (by exact Nat.le_refl 1), splitB_sp, B_toList]
def RN (s : List UInt8) : Option (List Nat) := if s = [110, 111, 110, 101] then some [] else if (sp 44 s).length ≤ 256 then pns (sp 44 s) else none
theorem B_toList' (s : List UInt8) : (B s).toList = s := by rw [Lib.toList_data, B_toList]
theorem impl_N (s : List UInt8) (k : Nat) (hs : s.length ≤ 1073741824) (hk : s.length + 10000 ≤ k) : VA.impl_ReadNumbers.f k (B s) = some (numsOf (RN s)) := by
  unfold VA.impl_ReadNumbers.f VA.impl_parted.f RN
  rw [B_toList']
  by_cases h : s = [110, 111, 110, 101]
  · rw [if_pos h, if_pos h]
    simp only [Option.bind_some]
    obtain ⟨k, rfl⟩ : ∃ m, k = m + 1 := ⟨k - 1, by omega⟩
    simp only [VA.impl_ReadNumbers.l0]
    rw [if_neg (by simp)]
    rfl
  · rw [if_neg h, if_neg h, split_f s 44 hs]
    simp only [Option.bind_some]
    have hc : s.count 44 ≤ s.length := List.count_le_length
    have := impl_parts (sp 44 s) [] [] k (by rw [sp_len]; omega) (by rw [sp_len]; simp; omega) rfl (by simp)
    simp only [List.nil_append, List.length_nil, Int.ofNat_zero, Nat.zero_add] at this
    refine Eq.trans this ?_
    congr 1
    split
    · cases pns (sp 44 s) <;> rfl
    · rfl
theorem sp_no (c : UInt8) : ∀ s : List UInt8, c ∉ s → sp c s = [s]
  | [], _ => rfl
  | x :: xs, h => by
    simp only [List.mem_cons, not_or] at h
    unfold sp
    rw [if_neg (Ne.symm h.1), sp_no c xs h.2]
end Go.Proofs.YtnnemdjbopdjmaaDoor.PW
end
section
namespace Go.Proofs.YtnnemdjbopdjmaaDoor.XN
open Go
theorem f64s : FloatKind.f64.format.signWeight = 9223372036854775808 := by decide
theorem f64i : FloatKind.f64.format.infRung = 9218868437227405312 := by decide
theorem f64b : FloatKind.f64.format.binade = 4503599627370496 := by decide
theorem f64l : FloatKind.f64.format.leastPlace = -1074 := by decide
theorem f64f : FloatKind.f64.format.fractionBits = 52 := by decide
theorem f32s : FloatKind.f32.format.signWeight = 2147483648 := by decide
theorem f32i : FloatKind.f32.format.infRung = 2139095040 := by decide
theorem f32b : FloatKind.f32.format.binade = 8388608 := by decide
theorem f32l : FloatKind.f32.format.leastPlace = -149 := by decide
theorem f32f : FloatKind.f32.format.fractionBits = 23 := by decide
def Is (neg : Bool) (d : Ieee.Datum) : Prop := (∃ m e, d = .number neg m e) ∨ d = .infinity neg
theorem read_word32 (neg : Bool) (r : Nat) (h : r ≤ 2139095040) : Is neg (FloatKind.f32.format.read (FloatKind.f32.format.word neg r)) := by
  unfold Ieee.Format.read Ieee.Format.word
  simp only [f32s, f32i, f32b, f32l]
  have e : (if neg = true then 2147483648 + r else r) % 2147483648 = r := by cases neg <;> simp <;> omega
  have e2 : ((if neg = true then 2147483648 + r else r) / 2147483648 % 2 == 1) = neg := by
    cases neg
    · have : r / 2147483648 = 0 := Nat.div_eq_of_lt (by omega)
      simp [this]
    · have : (2147483648 + r) / 2147483648 = 1 := by omega
      simp [this]
  simp only [e, e2]
  split
  · exact .inl ⟨_, _, rfl⟩
  · split
    · exact .inl ⟨_, _, rfl⟩
    · split
      · exact .inr rfl
      · omega
theorem near32 (neg : Bool) (m : Nat) (e : Int) : Is neg (FloatKind.f32.format.read (FloatKind.f32.format.nearest neg m e)) := by
  unfold Ieee.Format.nearest
  split
  · exact read_word32 neg 0 (by decide)
  · refine read_word32 neg _ ?_
    rw [f32i]
    exact Nat.min_le_right _ _
theorem write32 {neg : Bool} {d : Ieee.Datum} (h : Is neg d) : Is neg (FloatKind.f32.format.read (FloatKind.f32.format.write d)) := by
  rcases h with ⟨m, e, rfl⟩ | rfl
  · exact near32 neg m e
  · exact read_word32 neg _ (by rw [f32i]; exact Nat.le_refl _)
theorem cut_le (neg : Bool) (n drop : Nat) : Ieee.Toward.even.cut neg n drop ≤ n / 2 ^ drop + 1 := by
  unfold Ieee.Toward.cut
  simp only [Nat.one_shiftLeft]
  have hm (b : Bool) : b.toNat ≤ 1 := by cases b <;> decide
  refine Nat.add_le_add ?_ (hm _)
  by_cases h : drop ≤ n.log2 + 2
  · rw [Nat.min_eq_left h]
    exact Nat.le_refl _
  · rw [Nat.min_eq_right (by omega)]
    have : n < 2 ^ (n.log2 + 2) := Nat.lt_trans Nat.lt_log2_self (Nat.pow_lt_pow_right (by decide) (by omega))
    rw [Nat.div_eq_of_lt this]
    exact Nat.zero_le _
theorem kept_le (neg : Bool) (mag : Nat) (place last : Int) (F : Nat) (h : place + (mag.log2 : Int) - F ≤ last) :
    Ieee.Toward.even.cut neg (mag <<< (place - last).toNat) (last - place).toNat ≤ 2 ^ (F + 1) := by
  refine Nat.le_trans (cut_le _ _ _) ?_
  have hl : mag < 2 ^ (mag.log2 + 1) := Nat.lt_log2_self
  generalize mag.log2 = L at h hl
  rw [Nat.shiftLeft_eq]
  have : mag * 2 ^ (place - last).toNat < 2 ^ (last - place).toNat * 2 ^ (F + 1) := by
    calc mag * 2 ^ (place - last).toNat < 2 ^ (L + 1) * 2 ^ (place - last).toNat := Nat.mul_lt_mul_of_pos_right hl (Nat.two_pow_pos _)
      _ = 2 ^ (L + 1 + (place - last).toNat) := (Nat.pow_add _ _ _).symm
      _ ≤ 2 ^ ((last - place).toNat + (F + 1)) := Nat.pow_le_pow_right (by decide) (by omega)
      _ = 2 ^ (last - place).toNat * 2 ^ (F + 1) := by rw [Nat.pow_add]
  have := Nat.div_lt_of_lt_mul this
  omega
theorem near64 (neg : Bool) (m : Nat) (e X : Int) (h : m ≠ 0 → (m.log2 : Int) + e ≤ X) (h0 : -1000 ≤ X) (h1 : X ≤ 200) :
    ∃ m' e', FloatKind.f64.format.read (FloatKind.f64.format.nearest neg m e) = .number neg m' e' ∧ m' < 9007199254740992 ∧ e' ≤ X - 50 := by
  have key : ∀ r : Nat, r ≤ (X + 1024).toNat * 4503599627370496 → ∃ m' e', FloatKind.f64.format.read (FloatKind.f64.format.word neg r) = .number neg m' e' ∧ m' < 9007199254740992 ∧ e' ≤ X - 50 := by
    intro r hr
    unfold Ieee.Format.read Ieee.Format.word
    simp only [f64s, f64i, f64b, f64l]
    have hr2 : r < 9218868437227405312 := by omega
    have e1 : (if neg = true then 9223372036854775808 + r else r) % 9223372036854775808 = r := by cases neg <;> simp <;> omega
    have e2 : ((if neg = true then 9223372036854775808 + r else r) / 9223372036854775808 % 2 == 1) = neg := by
      cases neg
      · have : r / 9223372036854775808 = 0 := Nat.div_eq_of_lt (by omega)
        simp [this]
      · have : (9223372036854775808 + r) / 9223372036854775808 = 1 := by omega
        simp [this]
    simp only [e1, e2]
    split
    · exact ⟨_, _, rfl, by omega, by omega⟩
    · exact ⟨_, _, rfl, by omega, by omega⟩
  unfold Ieee.Format.nearest
  split
  · exact key 0 (Nat.zero_le _)
  · rename_i hm
    have hX := h hm
    refine key _ (Nat.le_trans (Nat.min_le_left _ _) ?_)
    have hk := kept_le neg m e (max (e + (m.log2 : Int) - (FloatKind.f64.format.fractionBits : Nat)) FloatKind.f64.format.leastPlace) FloatKind.f64.format.fractionBits (Int.le_max_left _ _)
    simp only [f64b, f64l, f64f] at hk ⊢
    generalize Ieee.Toward.even.cut neg _ _ = K at hk ⊢
    have : (2 : Nat) ^ (52 + 1) = 9007199254740992 := by decide
    omega
theorem near32n (neg : Bool) (m : Nat) (e : Int) (h : m ≠ 0 → (m.log2 : Int) + e ≤ 100) : ∃ m' e', FloatKind.f32.format.read (FloatKind.f32.format.nearest neg m e) = .number neg m' e' := by
  have key : ∀ r : Nat, r ≤ 2000000000 → ∃ m' e', FloatKind.f32.format.read (FloatKind.f32.format.word neg r) = .number neg m' e' := by
    intro r hr
    unfold Ieee.Format.read Ieee.Format.word
    simp only [f32s, f32i, f32b, f32l]
    have e1 : (if neg = true then 2147483648 + r else r) % 2147483648 = r := by cases neg <;> simp <;> omega
    have e2 : ((if neg = true then 2147483648 + r else r) / 2147483648 % 2 == 1) = neg := by
      cases neg
      · have : r / 2147483648 = 0 := Nat.div_eq_of_lt (by omega)
        simp [this]
      · have : (2147483648 + r) / 2147483648 = 1 := by omega
        simp [this]
    simp only [e1, e2]
    split
    · exact ⟨_, _, rfl⟩
    · rw [if_pos (by omega)]
      exact ⟨_, _, rfl⟩
  unfold Ieee.Format.nearest
  split
  · exact key 0 (Nat.zero_le _)
  · rename_i hm
    have hX := h hm
    refine key _ (Nat.le_trans (Nat.min_le_left _ _) ?_)
    have hk := kept_le neg m e (max (e + (m.log2 : Int) - (FloatKind.f32.format.fractionBits : Nat)) FloatKind.f32.format.leastPlace) FloatKind.f32.format.fractionBits (Int.le_max_left _ _)
    simp only [f32b, f32l, f32f] at hk ⊢
    generalize Ieee.Toward.even.cut neg _ _ = K at hk ⊢
    have : (2 : Nat) ^ (23 + 1) = 16777216 := by decide
    omega
theorem root_sq (n : Nat) : ∀ (todo root : Nat), root * root ≤ n → Ieee.Datum.rootFrom n todo root * Ieee.Datum.rootFrom n todo root ≤ n
  | 0, root, h => h
  | todo + 1, root, h => by
    unfold Ieee.Datum.rootFrom
    simp only
    split
    · rename_i h2
      exact root_sq n todo _ h2
    · exact root_sq n todo _ h
theorem sqrt64 (m : Nat) (i : Int) (hm : m < 9007199254740992) (hi : i ≤ 80) : ∃ m' e', (Ieee.Datum.root (FloatKind.f64.format.fractionBits + 2) (.number false m i)) = some (.number false m' e') ∧ (m' ≠ 0 → (m'.log2 : Int) + e' ≤ 72) := by
  unfold Ieee.Datum.root
  simp only
  by_cases h0 : m = 0
  · rw [if_pos h0]
    exact ⟨m, i, rfl, fun h => absurd h0 h⟩
  · rw [if_neg h0, if_neg (by decide)]
    refine ⟨_, _, rfl, ?_⟩
    intro hz0
    clear hz0
    have hL : m.log2 < 53 := (Nat.log2_lt h0).2 (by simpa using hm)
    have hlt : m < 2 ^ (m.log2 + 1) := Nat.lt_log2_self
    simp only [f64f]
    generalize m.log2 = L at hL hlt
    generalize hM : 2 * (52 + 2) - L + ((i - (2 * (52 + 2) - L : Nat)) % 2).toNat = M
    have hM1 : 55 ≤ M ∧ M + L ≤ 109 := by omega
    have hsq := root_sq (m <<< M) ((m <<< M).log2 / 2 + 1) 0 (by simp)
    generalize Ieee.Datum.rootFrom (m <<< M) ((m <<< M).log2 / 2 + 1) 0 = R at hsq ⊢
    have hn : m <<< M < 2 ^ 110 := by
      rw [Nat.shiftLeft_eq]
      calc m * 2 ^ M < 2 ^ (L + 1) * 2 ^ M := Nat.mul_lt_mul_of_pos_right hlt (Nat.two_pow_pos _)
        _ = 2 ^ (L + 1 + M) := (Nat.pow_add _ _ _).symm
        _ ≤ 2 ^ 110 := Nat.pow_le_pow_right (by decide) (by omega)
    have hR : R < 2 ^ 55 := by
      refine Nat.lt_of_not_le fun hge => ?_
      have := Nat.mul_le_mul hge hge
      have e : (2 : Nat) ^ 55 * 2 ^ 55 = 2 ^ 110 := by decide
      omega
    have hb (b : Bool) : b.toNat ≤ 1 := by cases b <;> decide
    have hmag : 2 * R + (R * R != m <<< M).toNat < 2 ^ 57 := by
      have := hb (R * R != m <<< M)
      have e : (2 : Nat) ^ 57 = 4 * 2 ^ 55 := by decide
      omega
    have hlog : (2 * R + (R * R != m <<< M).toNat).log2 < 57 := by
      by_cases hz : 2 * R + (R * R != m <<< M).toNat = 0
      · rw [hz]
        decide
      · exact (Nat.log2_lt hz).2 hmag
    omega
theorem mul_sq {d : Nat} {s : Bool} (h : Is s (FloatKind.f32.format.read d)) : ∃ r, floatBits .mul .f32 d d = some r ∧ Is false (FloatKind.f32.format.read r) := by
  unfold floatBits Ieee.Format.mul
  rcases h with ⟨m, e, h⟩ | h
  · rw [h]
    simp only [Ieee.Datum.product, Option.map_some, Bool.xor_self]
    exact ⟨_, rfl, write32 (.inl ⟨_, _, rfl⟩)⟩
  · rw [h]
    simp only [Ieee.Datum.product, Option.map_some, Bool.xor_self]
    exact ⟨_, rfl, write32 (.inr rfl)⟩
theorem signed_nn (m a : Nat) : 0 ≤ Ieee.signed false m a := Int.natCast_nonneg _
theorem add_nn {x y : Nat} (hx : Is false (FloatKind.f32.format.read x)) (hy : Is false (FloatKind.f32.format.read y)) : ∃ r, floatBits .add .f32 x y = some r ∧ Is false (FloatKind.f32.format.read r) := by
  unfold floatBits Ieee.Format.add
  rcases hx with ⟨m, e, hx⟩ | hx <;> rcases hy with ⟨n, d, hy⟩ | hy <;> rw [hx, hy] <;> simp only [Ieee.Datum.sum, Option.map_some, if_true, Bool.and_self]
  · refine ⟨_, rfl, ?_⟩
    have hs : ∀ a b : Nat, (if (Ieee.signed false m a + Ieee.signed false n b) = 0 then false else decide (Ieee.signed false m a + Ieee.signed false n b < 0)) = false := by
      intro a b
      split
      · rfl
      · rw [decide_eq_false_iff_not]
        have h1 := signed_nn m a
        have h2 := signed_nn n b
        omega
    rw [hs]
    exact write32 (.inl ⟨_, _, rfl⟩)
  · exact ⟨_, rfl, write32 (.inr rfl)⟩
  · exact ⟨_, rfl, write32 (.inr rfl)⟩
  · exact ⟨_, rfl, write32 (.inr rfl)⟩
theorem read32_b {x : Nat} {s : Bool} {m : Nat} {e : Int} (h : FloatKind.f32.format.read x = .number s m e) : m < 16777216 ∧ e ≤ 104 := by
  unfold Ieee.Format.read at h
  simp only [f32s, f32i, f32b, f32l] at h
  split at h
  · rename_i c
    injection h with h1 h2 h3
    omega
  · split at h
    · rename_i c1 c2
      injection h with h1 h2 h3
      omega
    · split at h <;> cases h
theorem log_le {m k : Nat} (h0 : m ≠ 0) (h : m < 2 ^ k) : m.log2 < k := (Nat.log2_lt h0).2 h
theorem wide {x : Nat} (h : Is false (FloatKind.f32.format.read x)) : ∃ b, floatToFloatBits .f32 x .f64 = some b ∧ (FloatKind.f64.format.read b = .infinity false ∨ ∃ m e, FloatKind.f64.format.read b = .number false m e ∧ m < 9007199254740992 ∧ e ≤ 80) := by
  unfold floatToFloatBits FloatKind.decode FloatKind.encode
  rw [if_neg (by decide)]
  rcases h with ⟨m, e, h⟩ | h
  · rw [h]
    simp only
    have hb := read32_b h
    obtain ⟨m', e', h1, h2, h3⟩ := near64 false m e 127 (fun h0 => by
      have := log_le (k := 24) h0 (by omega)
      omega) (by decide) (by decide)
    have hw : FloatKind.f64.format.write (.number false m e) = FloatKind.f64.format.nearest false m e := rfl
    rw [hw, h1, if_neg (by simp [Ieee.Datum.isInfinity])]
    exact ⟨_, rfl, .inr ⟨m', e', h1, h2, by omega⟩⟩
  · rw [h]
    simp only
    refine ⟨_, rfl, .inl ?_⟩
    decide
theorem root_ok {b : Nat} (h : FloatKind.f64.format.read b = .infinity false ∨ ∃ m e, FloatKind.f64.format.read b = .number false m e ∧ m < 9007199254740992 ∧ e ≤ 80) :
    ∃ r, FloatKind.f64.format.sqrt b = some r ∧ (FloatKind.f64.format.read r = .infinity false ∨ ∃ m e, FloatKind.f64.format.read r = .number false m e ∧ m < 9007199254740992 ∧ e ≤ 22) := by
  unfold Ieee.Format.sqrt
  rcases h with h | ⟨m, e, h, hm, he⟩
  · rw [h]
    refine ⟨_, rfl, .inl ?_⟩
    decide
  · rw [h]
    obtain ⟨m', e', h1, h2⟩ := sqrt64 m e hm he
    rw [h1]
    refine ⟨_, rfl, .inr ?_⟩
    obtain ⟨m2, e2, h3, h4, h5⟩ := near64 false m' e' 72 h2 (by decide) (by decide)
    exact ⟨m2, e2, h3, h4, by omega⟩
theorem narrow_ok {b : Nat} (h : FloatKind.f64.format.read b = .infinity false ∨ ∃ m e, FloatKind.f64.format.read b = .number false m e ∧ m < 9007199254740992 ∧ e ≤ 22) :
    ∃ r, floatToFloatBits .f64 b .f32 = some r ∧ Is false (FloatKind.f32.format.read r) := by
  unfold floatToFloatBits FloatKind.decode FloatKind.encode
  rw [if_neg (by decide)]
  rcases h with h | ⟨m, e, h, hm, he⟩
  · rw [h]
    simp only
    exact ⟨_, rfl, write32 (.inr rfl)⟩
  · rw [h]
    simp only
    obtain ⟨m', e', h1⟩ := near32n false m e (fun h0 => by
      have := log_le (k := 53) h0 (by omega)
      omega)
    have hw : FloatKind.f32.format.write (.number false m e) = FloatKind.f32.format.nearest false m e := rfl
    rw [hw, h1, if_neg (by simp [Ieee.Datum.isInfinity])]
    exact ⟨_, rfl, near32 false m e⟩
end Go.Proofs.YtnnemdjbopdjmaaDoor.XN
end
section
set_option linter.unusedVariables false
set_option linter.unusedSimpArgs false
namespace Go.Proofs.YtnnemdjbopdjmaaDoor.PV
open Go.RowKit Go.Proofs.YtnnemdjbopdjmaaDoor Go.Proofs.YtnnemdjbopdjmaaDoorW.PrintWords Go.Proofs.YtnnemdjbopdjmaaDoorW.PrintLast Go.Proofs.YtnnemdjbopdjmaaDoorW.PrintMore
open T XF XL VA PI PD PW
theorem sp_app (c : UInt8) : ∀ p q : List UInt8, c ∉ p → sp c (p ++ c :: q) = p :: sp c q
  | [], q, _ => by
    rw [List.nil_append]
    conv => lhs; unfold sp
    rw [if_pos rfl]
  | x :: p, q, h => by
    simp only [List.mem_cons, not_or] at h
    rw [List.cons_append]
    conv => lhs; unfold sp
    rw [if_neg (Ne.symm h.1), sp_app c p q h.2]
theorem dg_dv : ∀ i : Fin 16, dv (dg.data.toList.getD i.val 0) = some i.val := by decide
theorem dig_dv (n s : Int) : dv (dig n s) = some ((shr .i64 n s) % 16).toNat := by
  have h0 : 0 ≤ (shr .i64 n s) % 16 := Int.emod_nonneg _ (by decide)
  have h1 : (shr .i64 n s) % 16 < 16 := Int.emod_lt_of_pos _ (by decide)
  exact dg_dv ⟨((shr .i64 n s) % 16).toNat, by omega⟩
theorem no44 (n : Int) : ∀ d, (44 : UInt8) ∉ hexd n d
  | 0, h => by simp [hexd] at h
  | d + 1, h => by
    simp only [hexd, List.mem_cons] at h
    rcases h with h | h
    · have := dig_dv n (4 * (d : Int))
      rw [← h, show dv 44 = none from by decide] at this
      cases this
    · exact no44 n d h
theorem shr_nat (N d : Nat) (hd : d ≤ 7) : (shr .i64 (N : Int) (4 * (d : Int))) % 16 = ((N / 16 ^ d % 16 : Nat) : Int) := by
  unfold shr
  have e : min (4 * (d : Int)).toNat IntKind.i64.bits = 4 * d := by
    have : IntKind.i64.bits = 64 := rfl
    omega
  have e2 : (2 : Int) ^ (4 * d) = ((16 ^ d : Nat) : Int) := by
    rw [show (16 : Nat) = 2 ^ 4 from rfl, ← Nat.pow_mul, Int.natCast_pow]
    rfl
  rw [e, e2]
  norm_cast
theorem ph_hex (N : Nat) : ∀ (d acc : Nat), d ≤ 8 → ph (hexd (N : Int) d) acc = some (16 ^ d * acc + N % 16 ^ d)
  | 0, acc, _ => by simp [hexd, ph, Nat.mod_one]
  | d + 1, acc, hd => by
    have hv : dv (dig (N : Int) (4 * (d : Int))) = some (N / 16 ^ d % 16) := by
      rw [dig_dv, shr_nat N d (by omega), Int.toNat_natCast]
    simp only [hexd, ph, hv]
    rw [ph_hex N d _ (by omega), Nat.pow_succ, Nat.mod_mul]
    congr 1
    rw [Nat.mul_add, ← Nat.mul_assoc]
    omega
theorem bits_eq (x : Nat) (h : x < 4294967296) : XL.bits x = if isn .f32 x = true then 2143289344 else (x : Int) := by
  unfold XL.bits
  split
  · rfl
  · exact wid (by omega) (by omega)
theorem bits_b (x : Nat) (h : x < 4294967296) : 0 ≤ XL.bits x ∧ XL.bits x < 4294967296 := by
  rw [bits_eq x h]
  split <;> omega
theorem nan_c : isn .f32 2143289344 = true := by decide
theorem bits_bits (x : Nat) (h : x < 4294967296) : XL.bits (XL.bits x).toNat = ((XL.bits x).toNat : Int) := by
  have hb := bits_b x h
  rw [bits_eq (XL.bits x).toNat (by omega), bits_eq x h]
  by_cases c : isn .f32 x = true
  · rw [if_pos c]
    rw [if_pos (show isn .f32 (2143289344 : Int).toNat = true from nan_c)]
    rfl
  · rw [if_neg c, Int.toNat_natCast, if_neg c]
theorem smn_bits (x : Nat) (h : x < 4294967296) : XM.smn (XL.bits x).toNat x = true := by
  unfold XM.smn
  rw [bits_eq x h]
  by_cases c : isn .f32 x = true
  · rw [if_pos c, show isn .f32 (2143289344 : Int).toNat = true from nan_c, c]
    rfl
  · rw [if_neg c, Int.toNat_natCast]
    have c2 : isn .f32 x = false := by simpa using c
    rw [c2]
    simp
theorem pn_H (x : Nat) (h : x < 4294967296) : pn (H x) = some (XL.bits x).toNat := by
  have hb := bits_b x h
  unfold pn
  rw [if_pos (H_len x)]
  have e : H x = hexd (((XL.bits x).toNat : Nat) : Int) 8 := by unfold H; rw [Int.toNat_of_nonneg hb.1]
  rw [e, ph_hex _ 8 0 (by decide)]
  have e2 : 16 ^ 8 * 0 + (XL.bits x).toNat % 16 ^ 8 = (XL.bits x).toNat := by
    rw [Nat.mul_zero, Nat.zero_add]
    exact Nat.mod_eq_of_lt (by have : (16 : Nat) ^ 8 = 4294967296 := by decide
                               omega)
  rw [e2]
  simp only
  rw [if_pos (bits_bits x h)]
def VT (x y z : Nat) : List UInt8 := H x ++ 44 :: (H y ++ 44 :: H z)
theorem VT_len (x y z : Nat) : (VT x y z).length = 26 := by simp [VT, H_len]
theorem join3 (x y z : Nat) : Lib.join ([x, y, z].map H) [44] = VT x y z := by
  simp [Lib.join_cons, Lib.joinTail, VT]
theorem text_f (x y z k : Nat) (hk : 20 < k) : impl_VectorText.f k x y z = some (B (VT x y z)) := by
  unfold impl_VectorText.f impl_Vector_numbers.f
  simp only [Option.bind_some]
  rw [impl_Ns [x, y, z] (by simp) (by simp) k (by simp; omega) (by rw [join3, VT_len]; decide), join3]
  rfl
theorem RN_VT (x y z : Nat) (hx : x < 4294967296) (hy : y < 4294967296) (hz : z < 4294967296) : RN (VT x y z) = some [(XL.bits x).toNat, (XL.bits y).toNat, (XL.bits z).toNat] := by
  unfold RN
  rw [if_neg (fun h => by have := congrArg List.length h; rw [VT_len] at this; exact absurd this (by decide))]
  have e : sp 44 (VT x y z) = [H x, H y, H z] := by
    have hn (u : Nat) : (44 : UInt8) ∉ H u := no44 _ 8
    unfold VT
    rw [sp_app 44 _ _ (hn x), sp_app 44 _ _ (hn y), sp_no 44 _ (hn z)]
  rw [e, if_pos (by simp)]
  simp only [pns, pn_H x hx, pn_H y hy, pn_H z hz]
theorem read_f (x y z k : Nat) (hx : x < 4294967296) (hy : y < 4294967296) (hz : z < 4294967296) (hk : 20000 < k) : impl_ReadVector.f k (B (VT x y z)) = some ((XL.bits x).toNat, (XL.bits y).toNat, (XL.bits z).toNat, true) := by
  unfold impl_ReadVector.f
  rw [impl_N (VT x y z) k (by rw [VT_len]; decide) (by rw [VT_len]; omega), RN_VT x y z hx hy hz]
  rfl
theorem same_f (x y z k : Nat) (hx : x < 4294967296) (hy : y < 4294967296) (hz : z < 4294967296) (hk : 20 < k) : impl_SameVector.f k (XL.bits x).toNat (XL.bits y).toNat (XL.bits z).toNat x y z = some true := by
  obtain ⟨k, rfl⟩ : ∃ m, k = m + 4 := ⟨k - 4, by omega⟩
  have s1 := smn_bits x hx
  have s2 := smn_bits y hy
  have s3 := smn_bits z hz
  generalize (XL.bits x).toNat = p at s1
  generalize (XL.bits y).toNat = q at s2
  generalize (XL.bits z).toNat = r at s3
  unfold impl_SameVector.f impl_Vector_numbers.f
  simp only [Option.bind_some]
  unfold impl_sameList.f slices_EqualFunc_float32_float32_float32_float32.f
  have g0 : rdOf (0 : Nat) [p, q, r] 0 = p := rfl
  have g1 : rdOf (0 : Nat) [p, q, r] 1 = q := rfl
  have g2 : rdOf (0 : Nat) [p, q, r] 2 = r := rfl
  have f0 : rdOf (0 : Nat) [x, y, z] 0 = x := rfl
  have f1 : rdOf (0 : Nat) [x, y, z] 1 = y := rfl
  have f2 : rdOf (0 : Nat) [x, y, z] 2 = z := rfl
  have v1 : wrap64 (0 + 1) = 1 := wid (i := 1) (by decide) (by decide)
  have v2 : wrap64 (1 + 1) = 2 := wid (i := 2) (by decide) (by decide)
  have v3 : wrap64 (2 + 1) = 3 := wid (i := 3) (by decide) (by decide)
  rw [if_pos (show (([p, q, r].length : Nat) : Int) = (([x, y, z].length : Nat) : Int) from rfl)]
  simp only [slices_EqualFunc_float32_float32_float32_float32.l0, XM.SameNumber.f, g0, g1, g2, f0, f1, f2, s1, s2, s3, v1, v2, v3, List.length_cons, List.length_nil, Option.bind_some]
  rfl
theorem mul_b {p q : Int} {P Q : Nat} (hp : p.natAbs ≤ P) (hq : q.natAbs ≤ Q) : (p * q).natAbs ≤ P * Q := by
  rw [Int.natAbs_mul]
  exact Nat.mul_le_mul hp hq
theorem crossed_f {x1 x2 x3 x4 : Nat} {p q r s : Int} (h1 : Zr x1 p) (h2 : Zr x2 q) (h3 : Zr x3 r) (h4 : Zr x4 s) (b1 : p.natAbs ≤ 50) (b2 : q.natAbs ≤ 50) (b3 : r.natAbs ≤ 50) (b4 : s.natAbs ≤ 50) :
    ∃ c, impl_crossed.f x1 x2 x3 x4 = some c ∧ Zr c (p * q - r * s) ∧ (p * q - r * s).natAbs ≤ 5000 := by
  have m1 := mul_b b1 b2
  have m2 := mul_b b3 b4
  obtain ⟨k1, z1⟩ := Z_mul h1 h2 (by omega)
  obtain ⟨k2, z2⟩ := Z_mul h3 h4 (by omega)
  obtain ⟨k3, z3⟩ := Z_sub z1 z2 (by omega)
  unfold impl_crossed.f
  rw [if_pos k1, if_pos k2, if_pos k3]
  exact ⟨_, rfl, z3, by omega⟩
theorem inner_f {x1 x2 x3 y1 y2 y3 : Nat} {p1 p2 p3 q1 q2 q3 : Int} (h1 : Zr x1 p1) (h2 : Zr x2 p2) (h3 : Zr x3 p3) (g1 : Zr y1 q1) (g2 : Zr y2 q2) (g3 : Zr y3 q3)
    (b1 : p1.natAbs ≤ 5000) (b2 : p2.natAbs ≤ 5000) (b3 : p3.natAbs ≤ 5000) (c1 : q1.natAbs ≤ 50) (c2 : q2.natAbs ≤ 50) (c3 : q3.natAbs ≤ 50) :
    ∃ c, impl_InnerOf.f x1 x2 x3 y1 y2 y3 = some c ∧ Zr c (p1 * q1 + p2 * q2 + p3 * q3) := by
  have m1 := mul_b b1 c1
  have m2 := mul_b b2 c2
  have m3 := mul_b b3 c3
  obtain ⟨k1, z1⟩ := Z_mul h1 g1 (by omega)
  obtain ⟨k2, z2⟩ := Z_mul h2 g2 (by omega)
  obtain ⟨k3, z3⟩ := Z_add z1 z2 (by omega)
  obtain ⟨k4, z4⟩ := Z_mul h3 g3 (by omega)
  obtain ⟨k5, z5⟩ := Z_add z3 z4 (by omega)
  unfold impl_InnerOf.f
  rw [if_pos k1, if_pos k2, if_pos k3, if_pos k4, if_pos k5]
  exact ⟨_, rfl, z5⟩
theorem add_f {x1 x2 x3 y1 y2 y3 : Nat} {p1 p2 p3 q1 q2 q3 : Int} (h1 : Zr x1 p1) (h2 : Zr x2 p2) (h3 : Zr x3 p3) (g1 : Zr y1 q1) (g2 : Zr y2 q2) (g3 : Zr y3 q3)
    (b1 : (p1 + q1).natAbs ≤ 5000) (b2 : (p2 + q2).natAbs ≤ 5000) (b3 : (p3 + q3).natAbs ≤ 5000) :
    ∃ c d e, impl_AddVectors.f x1 x2 x3 y1 y2 y3 = some (c, d, e) ∧ Zr c (p1 + q1) ∧ Zr d (p2 + q2) ∧ Zr e (p3 + q3) := by
  obtain ⟨k1, z1⟩ := Z_add h1 g1 (by omega)
  obtain ⟨k2, z2⟩ := Z_add h2 g2 (by omega)
  obtain ⟨k3, z3⟩ := Z_add h3 g3 (by omega)
  unfold impl_AddVectors.f
  rw [if_pos k1, if_pos k2, if_pos k3]
  exact ⟨_, _, _, rfl, z1, z2, z3⟩
theorem less_f {x1 x2 x3 y1 y2 y3 : Nat} {p1 p2 p3 q1 q2 q3 : Int} (h1 : Zr x1 p1) (h2 : Zr x2 p2) (h3 : Zr x3 p3) (g1 : Zr y1 q1) (g2 : Zr y2 q2) (g3 : Zr y3 q3)
    (b1 : (p1 - q1).natAbs ≤ 5000) (b2 : (p2 - q2).natAbs ≤ 5000) (b3 : (p3 - q3).natAbs ≤ 5000) :
    ∃ c d e, impl_LessVectors.f x1 x2 x3 y1 y2 y3 = some (c, d, e) ∧ Zr c (p1 - q1) ∧ Zr d (p2 - q2) ∧ Zr e (p3 - q3) := by
  obtain ⟨k1, z1⟩ := Z_sub h1 g1 (by omega)
  obtain ⟨k2, z2⟩ := Z_sub h2 g2 (by omega)
  obtain ⟨k3, z3⟩ := Z_sub h3 g3 (by omega)
  unfold impl_LessVectors.f
  rw [if_pos k1, if_pos k2, if_pos k3]
  exact ⟨_, _, _, rfl, z1, z2, z3⟩
theorem scale_f {x1 x2 x3 y : Nat} {p1 p2 p3 q : Int} (h1 : Zr x1 p1) (h2 : Zr x2 p2) (h3 : Zr x3 p3) (g : Zr y q) (b1 : p1.natAbs ≤ 5000) (b2 : p2.natAbs ≤ 5000) (b3 : p3.natAbs ≤ 5000) (c : q.natAbs ≤ 2) :
    ∃ c d e, impl_ScaleVector.f x1 x2 x3 y = some (c, d, e) ∧ Zr c (p1 * q) ∧ Zr d (p2 * q) ∧ Zr e (p3 * q) := by
  have m1 := mul_b b1 c
  have m2 := mul_b b2 c
  have m3 := mul_b b3 c
  obtain ⟨k1, z1⟩ := Z_mul h1 g (by omega)
  obtain ⟨k2, z2⟩ := Z_mul h2 g (by omega)
  obtain ⟨k3, z3⟩ := Z_mul h3 g (by omega)
  unfold impl_ScaleVector.f
  rw [if_pos k1, if_pos k2, if_pos k3]
  exact ⟨_, _, _, rfl, z1, z2, z3⟩
theorem veq_f {x1 x2 x3 y1 y2 y3 : Nat} {p1 p2 p3 q1 q2 q3 : Int} (h1 : Zr x1 p1) (h2 : Zr x2 p2) (h3 : Zr x3 p3) (g1 : Zr y1 q1) (g2 : Zr y2 q2) (g3 : Zr y3 q3) (e1 : p1 = q1) (e2 : p2 = q2) (e3 : p3 = q3) :
    laws_b10VEqual.f x1 x2 x3 y1 y2 y3 = some true := by
  subst e1 e2 e3
  unfold laws_b10VEqual.f
  rw [Z_eq h1 g1, Z_eq h2 g2, Z_eq h3 g3]
  rfl
theorem fok_of {op : BinOp} {k : FloatKind} {x y r : Nat} (h : floatBits op k x y = some r) : fok op k x y = true ∧ fop op k x y = r := by
  unfold fok fop
  rw [h]
  exact ⟨rfl, rfl⟩
theorem cok_of {s k : FloatKind} {x r : Nat} (h : floatToFloatBits s x k = some r) : cok s x k = true ∧ cvt s x k = r := by
  unfold cok cvt
  rw [h]
  exact ⟨rfl, rfl⟩
theorem inner_ok {a b c : Nat} {s1 s2 s3 : Bool} (h1 : XN.Is s1 (FloatKind.f32.format.read a)) (h2 : XN.Is s2 (FloatKind.f32.format.read b)) (h3 : XN.Is s3 (FloatKind.f32.format.read c)) : ∃ r, impl_InnerOf.f a b c a b c = some r ∧ XN.Is false (FloatKind.f32.format.read r) := by
  obtain ⟨p1, g1, i1⟩ := XN.mul_sq h1
  obtain ⟨p2, g2, i2⟩ := XN.mul_sq h2
  obtain ⟨p3, g3, i3⟩ := XN.mul_sq h3
  obtain ⟨q1, g4, i4⟩ := XN.add_nn i1 i2
  obtain ⟨q2, g5, i5⟩ := XN.add_nn i4 i3
  refine ⟨q2, ?_, i5⟩
  unfold impl_InnerOf.f
  rw [if_pos (fok_of g1).1, if_pos (fok_of g2).1, (fok_of g1).2, (fok_of g2).2, if_pos (fok_of g4).1, if_pos (fok_of g3).1, (fok_of g3).2, (fok_of g4).2, if_pos (fok_of g5).1, (fok_of g5).2]
theorem root_ok' {a : Nat} (h : XN.Is false (FloatKind.f32.format.read a)) : ∃ r, impl_RootNumber.f a = some r := by
  obtain ⟨b, h1, h2⟩ := XN.wide h
  obtain ⟨c, h3, h4⟩ := XN.root_ok h2
  obtain ⟨r, h5, h6⟩ := XN.narrow_ok h4
  refine ⟨r, ?_⟩
  unfold impl_RootNumber.f XR.Sqrt.f
  rw [if_pos (cok_of h1).1, (cok_of h1).2, h3]
  simp only [Option.bind_some]
  rw [if_pos (cok_of h5).1, (cok_of h5).2]
theorem Is_Z {x : Nat} {n : Int} (h : Zr x n) : ∃ s, XN.Is s (FloatKind.f32.format.read x) := by
  obtain ⟨s, m, k, h1, _⟩ := h
  exact ⟨s, .inl ⟨_, _, h1⟩⟩
theorem root_same (x : Nat) : spec_RootNumber.f x = impl_RootNumber.f x := by
  unfold spec_RootNumber.f spec_l01Sqrt.f impl_RootNumber.f spec_l01Narrow.f
  by_cases c : cok .f32 x .f64 = true
  · rw [if_pos c, if_pos c]
    cases XR.Sqrt.f (cvt .f32 x .f64) with
    | none => rfl
    | some t =>
      simp only [Option.bind_some]
      split <;> rfl
  · rw [if_neg c, if_neg c]
    rfl
theorem two_Z : Zr 1073741824 2 := ⟨false, 2, 22, by decide, rfl⟩
theorem neg_Z : Zr 3212836864 (-1) := ⟨true, 1, 23, by decide, rfl⟩
theorem one_Z : Zr 1065353216 1 := ⟨false, 1, 23, by decide, rfl⟩
theorem zero_Z : Zr 0 0 := ⟨false, 0, 149, by decide, rfl⟩
theorem ne_no {x y : Nat} {n : Int} (hx : Zr x n) (hy : Zr y n) : ¬ (FloatKind.f32.format.order x y != some .eq) = true := by
  rw [Z_eq hx hy]
  decide
theorem between0 {x1 x2 x3 y1 y2 y3 : Nat} {p1 p2 p3 q1 q2 q3 : Int} (h1 : Zr x1 p1) (h2 : Zr x2 p2) (h3 : Zr x3 p3) (g1 : Zr y1 q1) (g2 : Zr y2 q2) (g3 : Zr y3 q3)
    (b1 : p1.natAbs ≤ 50) (b2 : p2.natAbs ≤ 50) (b3 : p3.natAbs ≤ 50) (c1 : q1.natAbs ≤ 50) (c2 : q2.natAbs ≤ 50) (c3 : q3.natAbs ≤ 50) {y : Nat} {q : Int} (hy : Zr y q) (hq : q = 0 ∨ q = 1) :
    ∃ c d e, impl_BetweenVectors.f x1 x2 x3 y1 y2 y3 y = some (c, d, e) ∧ Zr c (p1 + (q1 - p1) * q) ∧ Zr d (p2 + (q2 - p2) * q) ∧ Zr e (p3 + (q3 - p3) * q) := by
  obtain ⟨u1, u2, u3, e1, z1, z2, z3⟩ := less_f g1 g2 g3 h1 h2 h3 (by omega) (by omega) (by omega)
  obtain ⟨v1, v2, v3, e2, w1, w2, w3⟩ := scale_f z1 z2 z3 hy (by omega) (by omega) (by omega) (by omega)
  have k1 : (p1 + (q1 - p1) * q).natAbs ≤ 5000 := by rcases hq with rfl | rfl <;> simp <;> omega
  have k2 : (p2 + (q2 - p2) * q).natAbs ≤ 5000 := by rcases hq with rfl | rfl <;> simp <;> omega
  have k3 : (p3 + (q3 - p3) * q).natAbs ≤ 5000 := by rcases hq with rfl | rfl <;> simp <;> omega
  obtain ⟨c, d, e, e3, t1, t2, t3⟩ := add_f h1 h2 h3 w1 w2 w3 k1 k2 k3
  unfold impl_BetweenVectors.f
  rw [e1]
  simp only [Option.bind_some]
  rw [e2]
  simp only [Option.bind_some]
  rw [e3]
  exact ⟨_, _, _, rfl, t1, t2, t3⟩
theorem law (l0 l1 : List Int) (hl0 : okS l0) (hl1 : okS l1) : ∃ k, laws_FnVectors.f k l0 l1 = some true := by
  obtain ⟨K, hK⟩ : ∃ K : Nat, 100000 < K := ⟨100001, by omega⟩
  refine ⟨K + 2, ?_⟩
  unfold laws_FnVectors.f laws_b10Long.f
  by_cases g0 : (l0.length : Int) > 1048576
  · rw [if_pos g0]
    simp only [Option.bind_some, if_true]
  rw [if_neg g0]
  simp only [Option.bind_some]
  by_cases g1 : (l1.length : Int) > 1048576
  · rw [if_pos (decide_eq_true g1)]
  rw [if_neg (by simpa using g1)]
  clear g0 g1
  obtain ⟨a1, a2, a3, ea, ba1, ba2, ba3⟩ := whole_ok hl0
  obtain ⟨b1, b2, b3, eb, bb1, bb2, bb3⟩ := whole_ok hl1
  obtain ⟨x, y, z, ev, hx, hy, hz⟩ := vector_ok hl0
  rw [ea, eb]
  simp only [Option.bind_some]
  have A1 := Zr_int a1 (by omega)
  have A2 := Zr_int a2 (by omega)
  have A3 := Zr_int a3 (by omega)
  have B1 := Zr_int b1 (by omega)
  have B2 := Zr_int b2 (by omega)
  have B3 := Zr_int b3 (by omega)
  generalize floatOfInt .f32 a1 = x1 at A1
  generalize floatOfInt .f32 a2 = x2 at A2
  generalize floatOfInt .f32 a3 = x3 at A3
  generalize floatOfInt .f32 b1 = y1 at B1
  generalize floatOfInt .f32 b2 = y2 at B2
  generalize floatOfInt .f32 b3 = y3 at B3
  have na1 : a1.natAbs ≤ 50 := by omega
  have na2 : a2.natAbs ≤ 50 := by omega
  have na3 : a3.natAbs ≤ 50 := by omega
  have nb1 : b1.natAbs ≤ 50 := by omega
  have nb2 : b2.natAbs ≤ 50 := by omega
  have nb3 : b3.natAbs ≤ 50 := by omega
  obtain ⟨c1, ec1, C1, k1⟩ := crossed_f A2 B3 A3 B2 na2 nb3 na3 nb2
  obtain ⟨c2, ec2, C2, k2⟩ := crossed_f A3 B1 A1 B3 na3 nb1 na1 nb3
  obtain ⟨c3, ec3, C3, k3⟩ := crossed_f A1 B2 A2 B1 na1 nb2 na2 nb1
  have eC : impl_CrossOf.f x1 x2 x3 y1 y2 y3 = some (c1, c2, c3) := by
    unfold impl_CrossOf.f
    rw [ec1]
    simp only [Option.bind_some]
    rw [ec2]
    simp only [Option.bind_some]
    rw [ec3]
    rfl
  obtain ⟨d1, ed1, D1, m1⟩ := crossed_f B2 A3 B3 A2 nb2 na3 nb3 na2
  obtain ⟨d2, ed2, D2, m2⟩ := crossed_f B3 A1 B1 A3 nb3 na1 nb1 na3
  obtain ⟨d3, ed3, D3, m3⟩ := crossed_f B1 A2 B2 A1 nb1 na2 nb2 na1
  have eD : impl_CrossOf.f y1 y2 y3 x1 x2 x3 = some (d1, d2, d3) := by
    unfold impl_CrossOf.f
    rw [ed1]
    simp only [Option.bind_some]
    rw [ed2]
    simp only [Option.bind_some]
    rw [ed3]
    rfl
  rw [eC]
  simp only [Option.bind_some]
  rw [eD]
  simp only [Option.bind_some]
  obtain ⟨l1', l2', l3', eL, L1, L2, L3⟩ := less_f A1 A2 A3 B1 B2 B3 (by omega) (by omega) (by omega)
  rw [eL]
  simp only [Option.bind_some]
  obtain ⟨s1, s2, s3, eS, S1, S2, S3⟩ := add_f B1 B2 B3 L1 L2 L3 (by omega) (by omega) (by omega)
  rw [eS]
  simp only [Option.bind_some]
  obtain ⟨t1, t2, t3, eT, T1, T2, T3⟩ := scale_f A1 A2 A3 two_Z (by omega) (by omega) (by omega) (by decide)
  rw [eT]
  simp only [Option.bind_some]
  rw [veq_f S1 S2 S3 A1 A2 A3 (by omega) (by omega) (by omega)]
  simp only [Option.bind_some, if_true]
  obtain ⟨i1, ei1, I1⟩ := inner_f C1 C2 C3 A1 A2 A3 k1 k2 k3 na1 na2 na3
  rw [ei1]
  simp only [Option.bind_some]
  have z1 : (a2 * b3 - a3 * b2) * a1 + (a3 * b1 - a1 * b3) * a2 + (a1 * b2 - a2 * b1) * a3 = 0 := by grind
  rw [z1] at I1
  rw [if_neg (ne_no I1 zero_Z)]
  obtain ⟨i2, ei2, I2⟩ := inner_f C1 C2 C3 B1 B2 B3 k1 k2 k3 nb1 nb2 nb3
  rw [ei2]
  simp only [Option.bind_some]
  have z2 : (a2 * b3 - a3 * b2) * b1 + (a3 * b1 - a1 * b3) * b2 + (a1 * b2 - a2 * b1) * b3 = 0 := by grind
  rw [z2] at I2
  rw [if_neg (ne_no I2 zero_Z)]
  obtain ⟨n1, n2, n3, eN, N1, N2, N3⟩ := scale_f D1 D2 D3 neg_Z m1 m2 m3 (by decide)
  rw [eN]
  simp only [Option.bind_some]
  rw [veq_f C1 C2 C3 N1 N2 N3 (by grind) (by grind) (by grind)]
  simp only [Option.bind_some, if_true]
  obtain ⟨w1, w2, w3, eW, W1, W2, W3⟩ := add_f A1 A2 A3 A1 A2 A3 (by omega) (by omega) (by omega)
  rw [eW]
  simp only [Option.bind_some]
  rw [veq_f T1 T2 T3 W1 W2 W3 (by omega) (by omega) (by omega)]
  simp only [Option.bind_some, if_true]
  obtain ⟨q, eq1, Q⟩ := inner_f A1 A2 A3 A1 A2 A3 (by omega) (by omega) (by omega) na1 na2 na3
  have esq : laws_b10Square.f x1 x2 x3 = some q := eq1
  rw [eq1]
  simp only [Option.bind_some]
  rw [esq]
  simp only [Option.bind_some]
  rw [if_neg (ne_no Q Q)]
  have hr : ∃ r, impl_RootNumber.f q = some r := by
    obtain ⟨_, i1⟩ := Is_Z A1
    obtain ⟨_, i2⟩ := Is_Z A2
    obtain ⟨_, i3⟩ := Is_Z A3
    obtain ⟨q', e', h'⟩ := inner_ok i1 i2 i3
    obtain rfl := Option.some.inj (eq1.symm.trans e')
    exact root_ok' h'
  obtain ⟨r, er⟩ := hr
  have esz : impl_SizeOfVector.f x1 x2 x3 = some r := by
    unfold impl_SizeOfVector.f
    rw [eq1]
    simp only [Option.bind_some]
    rw [er]
    rfl
  rw [esz]
  simp only [Option.bind_some]
  rw [root_same, er]
  simp only [Option.bind_some]
  have esm : spec_SameNumber.f r r = some true := by
    unfold spec_SameNumber.f spec_l01Same.f XL.l01Bits.f
    simp
  rw [esm]
  simp only [Option.bind_some, Bool.not_true, laws_FnVectors.j0]
  rw [if_neg (by decide)]
  obtain ⟨f1, f2, f3, eF, F1, F2, F3⟩ := between0 A1 A2 A3 B1 B2 B3 na1 na2 na3 nb1 nb2 nb3 zero_Z (.inl rfl)
  rw [eF]
  simp only [Option.bind_some]
  rw [veq_f F1 F2 F3 A1 A2 A3 (by omega) (by omega) (by omega)]
  simp only [Option.bind_some, if_true]
  obtain ⟨h1, h2, h3, eH, H1, H2, H3⟩ := between0 A1 A2 A3 B1 B2 B3 na1 na2 na3 nb1 nb2 nb3 one_Z (.inr rfl)
  rw [eH]
  simp only [Option.bind_some]
  rw [veq_f H1 H2 H3 B1 B2 B3 (by omega) (by omega) (by omega)]
  simp only [Option.bind_some, Bool.not_true, laws_FnVectors.j1]
  rw [if_neg (by decide), ev]
  simp only [Option.bind_some]
  rw [text_f x y z K (by omega)]
  simp only [Option.bind_some]
  rw [read_f x y z K hx hy hz (by omega)]
  simp only [Option.bind_some, if_true]
  rw [same_f x y z K hx hy hz (by omega)]
  simp only [Option.bind_some, if_true]
  rw [B_size, VT_len]
  rfl
end Go.Proofs.YtnnemdjbopdjmaaDoor.PV
end
