/- Words, walks and plain laws that a claim of this seat needs, one text after the other (part 5). -/
import Derived.Test.YtnnemdjbopdjmaaDoorBU4
import Derived.Laws.FloatBits
import Derived.SizedLaws
import Derived.ChangeSlices
set_option linter.unusedVariables false
set_option linter.unusedSimpArgs false
section
set_option linter.unusedVariables false
set_option linter.unusedSimpArgs false
namespace Go.Proofs.YtnnemdjbopdjmaaDoor.PDN
open Go.RowKit Go.Proofs.YtnnemdjbopdjmaaDoor Go.Proofs.YtnnemdjbopdjmaaDoorW.PrintWords Go.Proofs.YtnnemdjbopdjmaaDoorW.PrintLast Go.Proofs.YtnnemdjbopdjmaaDoorW.PrintMore
open XF XL NA PI
def okS (l : List Int) : Prop := ∀ b ∈ l, 0 ≤ b ∧ b ≤ 255
theorem wid {i : Int} (h0 : -9223372036854775808 ≤ i) (h : i ≤ 9223372036854775807) : wrap64 i = i := by unfold wrap64; omega
theorem rd_ok {l : List Int} (h : okS l) (i : Int) : 0 ≤ rd l i ∧ rd l i ≤ 255 := by
  unfold rd
  by_cases c : i.toNat < l.length
  · rw [List.getD_eq_getElem?_getD, List.getElem?_eq_getElem c, Option.getD_some]
    exact h _ (List.getElem_mem c)
  · rw [List.getD_eq_getElem?_getD, List.getElem?_eq_none (by omega), Option.getD_none]
    omega
theorem and255 (n : Int) : 0 ≤ Go.bits .and .u64 n 255 ∧ Go.bits .and .u64 n 255 ≤ 255 := by
  have h255 : (BitVec.ofInt 64 255).toNat = 2 ^ 8 - 1 := by decide
  have key : (BitVec.ofInt 64 n &&& BitVec.ofInt 64 255).toNat = (n % ((2 ^ 64 : Nat) : Int)).toNat % 2 ^ 8 := by
    rw [BitVec.toNat_and, BitVec.toNat_ofInt, h255, Nat.and_two_pow_sub_one_eq_mod]
  have e : Go.bits .and .u64 n 255 = IntKind.u64.wrap ((BitVec.ofInt 64 n &&& BitVec.ofInt 64 255).toNat : Nat) := rfl
  rw [e, key]
  have hb : (n % ((2 ^ 64 : Nat) : Int)).toNat % 2 ^ 8 < 256 := Nat.mod_lt _ (by decide)
  generalize (n % ((2 ^ 64 : Nat) : Int)).toNat % 2 ^ 8 = q at hb
  have e2 : IntKind.u64.wrap (q : Int) = q := by
    simp [IntKind.wrap, IntKind.bits, IntKind.signed]
    omega
  rw [e2]
  omega
theorem next_ok {l : List Int} (hl : okS l) (a s : Int) (h0 : 0 ≤ a) (h1 : a ≤ 1000000) : ∃ x s', spec_l00Src_next.f l a s = some (x, a + 1, s') ∧ 0 ≤ x ∧ x ≤ 255 := by
  have hr := rd_ok hl a
  have hw1 : wrap64 (rd l a) = rd l a := wid (by omega) (by omega)
  have hw2 : wrap64 (a + 1) = a + 1 := wid (by omega) (by omega)
  have ha (n : Int) : wrap64 (Go.bits .and .u64 n 255) = Go.bits .and .u64 n 255 := by
    have := and255 n
    exact wid (by omega) (by omega)
  unfold spec_l00Src_next.f
  rw [hw1, hw2]
  by_cases c : a < (l.length : Int)
  · rw [if_pos c, if_pos h0]
    by_cases c2 : a + 1 ≤ (l.length : Int)
    · rw [if_pos c2]
      exact ⟨_, _, rfl, hr.1, hr.2⟩
    · rw [if_neg c2, ha]
      exact ⟨_, _, rfl, (and255 _).1, (and255 _).2⟩
  · rw [if_neg c]
    by_cases c2 : a + 1 ≤ (l.length : Int)
    · rw [if_pos c2]
      exact ⟨_, _, rfl, by omega, by omega⟩
    · rw [if_neg c2, ha]
      exact ⟨_, _, rfl, (and255 _).1, (and255 _).2⟩
theorem tmod_ok {x n : Int} (h0 : 0 ≤ x) (hn : 0 < n) : 0 ≤ Int.tmod x n ∧ Int.tmod x n < n := by
  rw [Int.tmod_eq_emod_of_nonneg h0]
  exact ⟨Int.emod_nonneg _ (by omega), Int.emod_lt_of_pos _ hn⟩
theorem pick_ok {l : List Int} (hl : okS l) (a s n : Int) (h0 : 0 ≤ a) (h1 : a ≤ 100000) (hn : 1 < n) : ∃ v a' s', spec_l00Src_pick.f l a s n = some (v, a', s') ∧ 0 ≤ v ∧ v < n ∧ 0 ≤ a' ∧ a' ≤ a + 2 := by
  unfold spec_l00Src_pick.f
  rw [if_neg (by omega)]
  obtain ⟨x, s1, e1, hx0, hx1⟩ := next_ok hl a s h0 (by omega)
  rw [e1]
  simp only [Option.bind_some]
  by_cases c : n > 200
  · rw [if_pos c]
    obtain ⟨y, s2, e2, hy0, hy1⟩ := next_ok hl (a + 1) s1 (by omega) (by omega)
    rw [e2]
    simp only [Option.bind_some]
    rw [if_neg (by omega), wid (i := x * 256) (by omega) (by omega), wid (by omega) (by omega)]
    have := tmod_ok (x := x * 256 + y) (by omega) (by omega : 0 < n)
    exact ⟨_, _, _, rfl, this.1, this.2, by omega, by omega⟩
  · rw [if_neg c, if_neg (by omega)]
    have := tmod_ok hx0 (by omega : 0 < n)
    exact ⟨_, _, _, rfl, this.1, this.2, by omega, by omega⟩
theorem one_ok {l : List Int} (hl : okS l) (a s n : Int) (h0 : 0 ≤ a) (h1 : a ≤ 100000) (hn : 1 < n) : ∃ v a' s', spec_l00Src_one.f l a s n = some (v, a', s') ∧ 0 ≤ a' ∧ a' ≤ a + 2 := by
  unfold spec_l00Src_one.f
  obtain ⟨v, a', s', e, _, _, h2, h3⟩ := pick_ok hl a s n h0 h1 hn
  rw [e]
  exact ⟨_, _, _, rfl, h2, h3⟩
theorem among_ok {l : List Int} (hl : okS l) (a s : Int) (m : List Int) (h0 : 0 ≤ a) (h1 : a ≤ 100000) (hm : 1 < m.length) : ∃ v a' s', spec_l00Src_among.f l a s m = some (v, a', s') ∧ v ∈ m ∧ 0 ≤ a' ∧ a' ≤ a + 2 := by
  unfold spec_l00Src_among.f
  obtain ⟨v, a', s', e, hv0, hv1, h2, h3⟩ := pick_ok hl a s (m.length : Int) h0 h1 (by omega)
  rw [e]
  simp only [Option.bind_some]
  rw [if_pos hv0, if_pos hv1]
  refine ⟨_, _, _, rfl, ?_, h2, h3⟩
  unfold rd
  have c : v.toNat < m.length := by omega
  rw [List.getD_eq_getElem?_getD, List.getElem?_eq_getElem c, Option.getD_some]
  exact List.getElem_mem c
def Nn (x : Nat) : Prop := (∃ s m e, FloatKind.f32.format.read x = .number s m e) ∨ ∃ s, FloatKind.f32.format.read x = .infinity s
theorem near_Nn (s : Bool) (m : Nat) (e : Int) : Nn (FloatKind.f32.format.nearest s m e) := by
  have key (r : Nat) (hr : r ≤ 2139095040) : Nn (FloatKind.f32.format.word s r) := by
    by_cases c : r < 2139095040
    · left
      rw [read_word s r c]
      split
      · exact ⟨_, _, _, rfl⟩
      · exact ⟨_, _, _, rfl⟩
    · obtain rfl : r = 2139095040 := by omega
      right
      exact ⟨s, by cases s <;> decide⟩
  unfold Ieee.Format.nearest
  split
  · exact key 0 (by omega)
  · refine key _ ?_
    rw [PI.f32i]
    exact Nat.min_le_right _ _
theorem width32 : FloatKind.f32.format.width = 32 := by decide
theorem quo_ok {x c : Nat} {n : Int} (hx : Zr x n) {t : Bool} {M : Nat} {j : Int} (hc : FloatKind.f32.format.read c = .number t M j) (hM : M ≠ 0) : fok .quo .f32 x c = true ∧ Nn (fop .quo .f32 x c) ∧ fop .quo .f32 x c < 4294967296 := by
  obtain ⟨s, m, k, h1, _⟩ := hx
  have e : ∃ s' m' e', floatBits .quo .f32 x c = some (FloatKind.f32.format.nearest s' m' e') := by
    have : floatBits .quo .f32 x c = ((FloatKind.f32.format.read x).quotient (FloatKind.f32.format.fractionBits + 2) (FloatKind.f32.format.read c)).map FloatKind.f32.format.write := rfl
    rw [this, h1, hc]
    unfold Ieee.Datum.quotient
    simp only
    rw [if_neg hM]
    exact ⟨_, _, _, rfl⟩
  obtain ⟨s', m', e', e⟩ := e
  obtain ⟨h3, h4⟩ := fop_of e
  have hlt : fop .quo .f32 x c < 2 ^ FloatKind.f32.format.width := by
    rw [h4]
    exact FloatKind.f32.format.div_lt (x := x) (y := c) e
  rw [width32] at hlt
  exact ⟨h3, h4 ▸ near_Nn _ _ _, by simpa using hlt⟩
theorem mul_ok {x c : Nat} (hx : Nn x) {t : Bool} {M : Nat} {j : Int} (hc : FloatKind.f32.format.read c = .number t M j) (hM : M ≠ 0) : fok .mul .f32 x c = true ∧ fop .mul .f32 x c < 4294967296 := by
  have e : ∃ r, floatBits .mul .f32 x c = some r := by
    have : floatBits .mul .f32 x c = ((FloatKind.f32.format.read x).product (FloatKind.f32.format.read c)).map FloatKind.f32.format.write := rfl
    rw [this, hc]
    rcases hx with ⟨s, m, k, h1⟩ | ⟨s, h1⟩
    · rw [h1]
      exact ⟨_, rfl⟩
    · rw [h1]
      unfold Ieee.Datum.product
      simp only
      rw [if_neg hM]
      exact ⟨_, rfl⟩
  obtain ⟨r, e⟩ := e
  obtain ⟨h3, h4⟩ := fop_of e
  have hlt : fop .mul .f32 x c < 2 ^ FloatKind.f32.format.width := by
    rw [h4]
    exact FloatKind.f32.format.mul_lt (x := x) (y := c) e
  rw [width32] at hlt
  exact ⟨h3, by simpa using hlt⟩
theorem r7 : FloatKind.f32.format.read 1088421888 = .number false 14680064 (-21) := by decide
theorem r16 : FloatKind.f32.format.read 1098907648 = .number false 8388608 (-19) := by decide
theorem plain_ok {l : List Int} (hl : okS l) (a s : Int) (h0 : 0 ≤ a) (h1 : a ≤ 90000) : ∃ x a' s', spec_l01DrawPlain.f l a s = some (x, a', s') ∧ Nn x ∧ x < 4294967296 ∧ 0 ≤ a' ∧ a' ≤ a + 4 := by
  unfold spec_l01DrawPlain.f
  obtain ⟨v, a', s', e, hv0, hv1, h2, h3⟩ := pick_ok hl a s 129 h0 (by omega) (by decide)
  rw [e]
  simp only [Option.bind_some]
  obtain ⟨o, b', t', e2, h4, h5⟩ := one_ok hl a' s' 4 h2 (by omega) (by decide)
  rw [e2]
  simp only [Option.bind_some]
  rw [wid (by omega) (by omega)]
  obtain ⟨q1, q2, q3⟩ := quo_ok (Zr_int (v - 64) (by omega)) r7 (by decide)
  obtain ⟨p1, p2, p3⟩ := quo_ok (Zr_int (v - 64) (by omega)) r16 (by decide)
  cases o with
  | true =>
    rw [if_pos rfl, if_pos q1]
    exact ⟨_, _, _, rfl, q2, q3, h4, by omega⟩
  | false =>
    rw [if_neg (by decide), if_pos p1]
    exact ⟨_, _, _, rfl, p2, p3, h4, by omega⟩
theorem from_lt (n : Int) : ((n % 4294967296).toNat) < 4294967296 := by omega
theorem from_num : ∀ v ∈ ([8388608, 2130706432, 1610612736, 536870912] : List Int), ∃ M j, M ≠ 0 ∧ FloatKind.f32.format.read ((v % 4294967296).toNat) = .number false M j := by
  intro v hv
  simp only [List.mem_cons, List.not_mem_nil, or_false] at hv
  rcases hv with rfl | rfl | rfl | rfl
  · exact ⟨8388608, -149, by decide, by decide⟩
  · exact ⟨8388608, 104, by decide, by decide⟩
  · exact ⟨8388608, 42, by decide, by decide⟩
  · exact ⟨8388608, -86, by decide, by decide⟩
theorem float_ok {l : List Int} (hl : okS l) (a s : Int) (h0 : 0 ≤ a) (h1 : a ≤ 80000) : ∃ x a' s', spec_l01DrawFloat.f l a s = some (x, a', s') ∧ x < 4294967296 ∧ 0 ≤ a' ∧ a' ≤ a + 20 := by
  unfold spec_l01DrawFloat.f
  obtain ⟨o, b1, t1, e1, h2, h3⟩ := one_ok hl a s 12 h0 (by omega) (by decide)
  rw [e1]
  simp only [Option.bind_some]
  cases o with
  | false =>
    rw [if_neg (by decide)]
    obtain ⟨x, b2, t2, e2, _, q, h4, h5⟩ := plain_ok hl b1 t1 h2 (by omega)
    rw [e2]
    exact ⟨x, b2, t2, rfl, q, h4, by omega⟩
  | true =>
    rw [if_pos rfl]
    obtain ⟨v, b2, t2, e2, hv0, hv1, h4, h5⟩ := pick_ok hl b1 t1 4 h2 (by omega) (by decide)
    rw [e2]
    simp only [Option.bind_some]
    by_cases c0 : v = 0
    · rw [if_pos c0]
      obtain ⟨y, b3, t3, e3, _, h6, h7⟩ := among_ok hl b2 t2 [0, 2147483648, 2139095040, 4286578688, 2143289344, 1, 2139095039, 8388608, 8388607, 2147483649] h4 (by omega) (by decide)
      rw [e3]
      simp only [Option.bind_some, XM.l01From.f]
      exact ⟨_, _, _, rfl, from_lt _, h6, by omega⟩
    · rw [if_neg c0]
      by_cases c1 : v = 1
      · rw [if_pos c1]
        obtain ⟨y, b3, t3, e3, _, _, h6, h7⟩ := pick_ok hl b2 t2 65536 h4 (by omega) (by decide)
        rw [e3]
        simp only [Option.bind_some]
        obtain ⟨z, b4, t4, e4, _, _, h8, h9⟩ := pick_ok hl b3 t3 65536 h6 (by omega) (by decide)
        rw [e4]
        simp only [Option.bind_some, XM.l01From.f]
        exact ⟨_, _, _, rfl, from_lt _, h8, by omega⟩
      · rw [if_neg c1]
        by_cases c2 : v = 2
        · rw [if_pos c2]
          obtain ⟨y, b3, t3, e3, _, _, h6, h7⟩ := pick_ok hl b2 t2 65536 h4 (by omega) (by decide)
          rw [e3]
          simp only [Option.bind_some, XM.l01From.f]
          exact ⟨_, _, _, rfl, from_lt _, h6, by omega⟩
        · rw [if_neg c2]
          obtain ⟨x, b3, t3, e3, hN, q, h6, h7⟩ := plain_ok hl b2 t2 h4 (by omega)
          rw [e3]
          simp only [Option.bind_some]
          obtain ⟨y, b4, t4, e4, hy, h8, h9⟩ := among_ok hl b3 t3 [8388608, 2130706432, 1610612736, 536870912] h6 (by omega) (by decide)
          rw [e4]
          simp only [Option.bind_some, XM.l01From.f]
          obtain ⟨M, j, hM, hr⟩ := from_num y hy
          obtain ⟨m1, m2⟩ := mul_ok hN hr hM
          rw [if_pos m1]
          exact ⟨_, _, _, rfl, m2, h8, by omega⟩
theorem list_ok {l : List Int} (hl : okS l) : ∀ (n k : Nat) (out : List Nat) (b : Bool) (a s : Int), n < k → out.length + n ≤ 1000 → (∀ p ∈ out, p < 4294967296) → 0 ≤ a → a + 40 * n ≤ 50000 →
    ∃ r a' s', spec_l01DrawFloats.l0 k (n : Int) out b l a s = some (r, a', s') ∧ (∀ p ∈ r, p < 4294967296) ∧ r.length = out.length + n := by
  intro n
  induction n with
  | zero =>
    intro k out b a s hk hn hw h0 h1
    obtain ⟨k, rfl⟩ : ∃ m, k = m + 1 := ⟨k - 1, by omega⟩
    simp only [spec_l01DrawFloats.l0]
    rw [if_neg (by decide)]
    exact ⟨_, _, _, rfl, hw, rfl⟩
  | succ n ih =>
    intro k out b a s hk hn hw h0 h1
    obtain ⟨k, rfl⟩ : ∃ m, k = m + 1 := ⟨k - 1, by omega⟩
    simp only [spec_l01DrawFloats.l0]
    have e1 : wrap64 (((n + 1 : Nat) : Int) - 1) = (n : Int) := by rw [wid (by omega) (by omega)]; omega
    rw [if_pos (by omega), e1]
    have hstep (p : Nat) (hp : p < 4294967296) (a' s' : Int) (h2 : 0 ≤ a') (h3 : a' ≤ a + 40) : ∃ r a'' s'', spec_l01DrawFloats.l0 k (n : Int) (out ++ [p]) b l a' s' = some (r, a'', s'') ∧ (∀ p ∈ r, p < 4294967296) ∧ r.length = out.length + (n + 1) := by
      obtain ⟨r, a'', s'', e, hr, hlen⟩ := ih k (out ++ [p]) b a' s' (by omega) (by simp; omega) (by
        intro q hq
        rcases List.mem_append.1 hq with h | h
        · exact hw q h
        · rw [List.mem_singleton.1 h]; exact hp) h2 (by omega)
      exact ⟨r, a'', s'', e, hr, by rw [hlen]; simp; omega⟩
    cases b with
    | true =>
      rw [if_pos rfl]
      obtain ⟨p, a', s', e, hp, h2, h3⟩ := float_ok hl a s h0 (by omega)
      rw [e]
      simp only [Option.bind_some]
      rw [if_pos (by omega)]
      exact hstep p hp a' s' h2 (by omega)
    | false =>
      rw [if_neg (by decide)]
      obtain ⟨p, a', s', e, _, hp, h2, h3⟩ := plain_ok hl a s h0 (by omega)
      rw [e]
      simp only [Option.bind_some]
      rw [if_pos (by omega)]
      exact hstep p hp a' s' h2 (by omega)
theorem numbers_ok {l : List Int} (hl : okS l) (n k : Nat) (hn : n ≤ 11) (hk : 20 < k) : ∃ r, spec_B10Numbers.f k l (n : Int) = some r ∧ (∀ p ∈ r, p < 4294967296) ∧ r.length = n := by
  unfold spec_B10Numbers.f spec_l00From.f spec_l01DrawFloats.f
  simp only [Option.bind_some]
  obtain ⟨o, b1, t1, e1, h2, h3⟩ := one_ok hl 0 0 4 (by decide) (by decide) (by decide)
  rw [e1]
  simp only [Option.bind_some]
  obtain ⟨r, a', s', e, hr, hlen⟩ := list_ok hl n k [] o b1 t1 (by omega) (by simp; omega) (by intro p hp; cases hp) h2 (by omega)
  rw [e]
  exact ⟨r, rfl, hr, by simpa using hlen⟩
theorem at_ok {l : List Int} (hl : okS l) : ∃ n : Nat, laws_b10At.f l 0 12 = some (n : Int) ∧ n ≤ 11 := by
  unfold laws_b10At.f
  rw [if_neg (by decide)]
  have hr := rd_ok hl 0
  by_cases c : 0 < (l.length : Int)
  · rw [if_pos c, if_pos (by decide), if_neg (by decide), wid (by omega) (by omega)]
    have := tmod_ok (x := rd l 0) (n := 12) (by omega) (by decide)
    exact ⟨(Int.tmod (rd l 0) 12).toNat, by rw [Int.toNat_of_nonneg this.1], by omega⟩
  · rw [if_neg c, if_neg (by decide)]
    rw [wid (i := 0 * 37) (by decide) (by decide), wid (i := 0 * 37 + 11) (by decide) (by decide)]
    exact ⟨11, rfl, by decide⟩
theorem number_ok {l : List Int} (hl : okS l) : ∃ x, spec_B10Number.f l = some x ∧ x < 4294967296 := by
  unfold spec_B10Number.f spec_l00From.f
  simp only [Option.bind_some]
  obtain ⟨o, b1, t1, e1, h2, h3⟩ := one_ok hl 0 0 2 (by decide) (by decide) (by decide)
  rw [e1]
  simp only [Option.bind_some]
  cases o with
  | true =>
    rw [if_pos rfl]
    obtain ⟨y, b2, t2, e2, _, _, h4, h5⟩ := pick_ok hl b1 t1 65536 h2 (by omega) (by decide)
    rw [e2]
    simp only [Option.bind_some]
    obtain ⟨z, b3, t3, e3, _, _, h6, h7⟩ := pick_ok hl b2 t2 65536 h4 (by omega) (by decide)
    rw [e3]
    simp only [Option.bind_some, XM.l01From.f]
    exact ⟨_, rfl, from_lt _⟩
  | false =>
    rw [if_neg (by decide)]
    obtain ⟨x, b2, t2, e2, hx, _, _⟩ := float_ok hl b1 t1 h2 (by omega)
    rw [e2]
    exact ⟨_, rfl, hx⟩
end Go.Proofs.YtnnemdjbopdjmaaDoor.PDN
end
section
namespace Go.Proofs.YtnnemdjbopdjmaaDoor.T
open Go.Lib
def sp (c : UInt8) : List UInt8 → List (List UInt8)
  | [] => [[]]
  | x :: xs => if x = c then [] :: sp c xs else match sp c xs with
    | [] => [[x]]
    | p :: ps => (x :: p) :: ps
theorem sp_spec (c : UInt8) : ∀ s : List UInt8, (index s [c] = -1 ∧ sp c s = [s]) ∨ ∃ i : Nat, index s [c] = i ∧ i < s.length ∧ sp c s = s.take i :: sp c (s.drop (i + 1))
  | [] => .inl ⟨rfl, rfl⟩
  | b :: l => by
    by_cases hb : b = c
    · subst hb
      refine .inr ⟨0, ?_, by simp, by simp [sp]⟩
      unfold index
      simp
    · have e : index (b :: l) [c] = if index l [c] == -1 then -1 else index l [c] + 1 := by
        conv => lhs; unfold index
        rw [if_neg]
        simp only [List.isPrefixOf, Bool.and_true, beq_iff_eq]
        exact fun h => hb h.symm
      rcases sp_spec c l with ⟨h1, h2⟩ | ⟨i, h1, h2, h3⟩
      · refine .inl ⟨by rw [e, h1]; rfl, ?_⟩
        unfold sp
        rw [if_neg hb, h2]
      · refine .inr ⟨i + 1, ?_, by simp; omega, ?_⟩
        · rw [e, h1, if_neg (by simp)]
          rfl
        · conv => lhs; unfold sp
          rw [if_neg hb, h3]
          simp
theorem splitK_sp (c : UInt8) : ∀ (n : Nat) (s : List UInt8), s.length ≤ n → splitK [c] 0 (count s [c]) s = sp c s := by
  intro n
  induction n with
  | zero =>
    intro s hs
    have : s = [] := List.length_eq_zero_iff.1 (by omega)
    subst this
    rfl
  | succ n ih =>
    intro s hs
    rcases sp_spec c s with ⟨h1, h2⟩ | ⟨i, h1, h2, h3⟩
    · rw [count_miss h1, h2]; rfl
    · rw [count_hit (by simp) h1, Nat.add_comm, h3]
      unfold splitK
      have hm : ¬ (index s [c] == -1) = true := by rw [h1]; simp
      rw [if_neg hm]
      have e : (index s [c]).toNat = i := by rw [h1]; rfl
      rw [e]
      simp only [List.length_cons, List.length_nil, Nat.zero_add, Nat.add_zero]
      rw [ih (s.drop (i + 1)) (by simp; omega)]
def B (l : List UInt8) : ByteArray := ⟨l.toArray⟩
theorem B_data (s : ByteArray) : B s.data.toList = s := by cases s; simp [B]
theorem B_toList (l : List UInt8) : (B l).data.toList = l := by simp [B]
theorem B_size (l : List UInt8) : (B l).size = l.length := by simp [B, ByteArray.size]
theorem size_list (s : ByteArray) : s.size = s.data.toList.length := by rw [Array.length_toList]; rfl
theorem splitB_sp (c : UInt8) (s : ByteArray) : splitB ⟨#[c]⟩ 0 (countB s ⟨#[c]⟩) s = (sp c s.data.toList).map B := by
  have h := splitB_data ⟨#[c]⟩ 0 (countB s ⟨#[c]⟩) s
  have h2 : (([⟨#[c]⟩] : List ByteArray).map (·.data.toList)) = [[c]] := rfl
  have e : splitK [c] 0 (countB s ⟨#[c]⟩) s.data.toList = sp c s.data.toList := splitK_sp c _ _ (Nat.le_refl _)
  have h' : (splitB ⟨#[c]⟩ 0 (countB s ⟨#[c]⟩) s).map (·.data.toList) = sp c s.data.toList := h.trans e
  rw [← h', List.map_map]
  have : (B ∘ fun (x : ByteArray) => x.data.toList) = id := by funext x; exact B_data x
  rw [this, List.map_id]
theorem wrap_id {i : Int} (h0 : -9223372036854775808 ≤ i) (h : i ≤ 9223372036854775807) : RowKit.wrap64 i = i := by unfold RowKit.wrap64; omega
end Go.Proofs.YtnnemdjbopdjmaaDoor.T
end
section
set_option linter.unusedVariables false
set_option linter.unusedSimpArgs false
namespace Go.Proofs.YtnnemdjbopdjmaaDoor.PWN
open Go.RowKit Go.Proofs.YtnnemdjbopdjmaaDoor Go.Proofs.YtnnemdjbopdjmaaDoorW.PrintWords Go.Proofs.YtnnemdjbopdjmaaDoorW.PrintLast Go.Proofs.YtnnemdjbopdjmaaDoorW.PrintMore
open T XF XL NA
theorem w1 (i : Nat) (h : i ≤ 9223372036854775806) : wrap64 ((i : Int) + 1) = ((i + 1 : Nat) : Int) := by rw [wrap_id (by omega) (by omega)]; rfl
theorem bt_nat (s : ByteArray) (i : Nat) (h : i < s.size) : bt s (i : Int) = ((s.data.toList[i]'(by rw [← size_list]; exact h)).toNat : Int) := by
  unfold bt
  rw [dif_pos (by simpa using h)]
  simp only [Int.toNat_natCast]
  rfl
theorem bt_mid (p r : List UInt8) (b : UInt8) : bt (B (p ++ b :: r)) (p.length : Int) = (b.toNat : Int) := by
  rw [bt_nat _ _ (by rw [B_size]; simp)]
  simp [B]
def codes (l : List UInt8) : List Int := l.map fun b => (b.toNat : Int)
theorem strOf_codes (l : List UInt8) : strOfNums (codes l) = B l := by
  unfold strOfNums codes B
  rw [List.map_map]
  congr 2
  conv => rhs; rw [← List.map_id l]
  apply List.map_congr_left
  intro b _
  simp
theorem i64_and15 (n : Int) : Go.bits .and .i64 n 15 = n % 16 := by
  have h15 : (BitVec.ofInt 64 15).toNat = 2 ^ 4 - 1 := by decide
  have key : (BitVec.ofInt 64 n &&& BitVec.ofInt 64 15).toNat = (n % ((2 ^ 64 : Nat) : Int)).toNat % 2 ^ 4 := by
    rw [BitVec.toNat_and, BitVec.toNat_ofInt, h15, Nat.and_two_pow_sub_one_eq_mod]
  show IntKind.i64.wrap ((BitVec.ofInt 64 n &&& BitVec.ofInt 64 15).toNat : Nat) = n % 16
  rw [key, IntKind.wrap_i64]
  omega
abbrev dg : ByteArray := ⟨#[48, 49, 50, 51, 52, 53, 54, 55, 56, 57, 97, 98, 99, 100, 101, 102]⟩
def dig (n s : Int) : UInt8 := dg.data.toList.getD ((shr .i64 n s) % 16).toNat 0
theorem dig_bt (n s : Int) : bt dg ((shr .i64 n s) % 16) = ((dig n s).toNat : Int) := by
  have h0 : 0 ≤ (shr .i64 n s) % 16 := Int.emod_nonneg _ (by decide)
  have h1 : (shr .i64 n s) % 16 < 16 := Int.emod_lt_of_pos _ (by decide)
  obtain ⟨m, hm⟩ := Int.eq_ofNat_of_zero_le h0
  unfold dig
  rw [hm] at h1 ⊢
  rw [bt_nat dg m (by have : dg.size = 16 := rfl; omega)]
  simp only [Int.toNat_natCast]
  congr 1
  rw [List.getD_eq_getElem?_getD, List.getElem?_eq_getElem (by show m < 16; omega), Option.getD_some]
def hexd (n : Int) : Nat → List UInt8
  | 0 => []
  | d + 1 => dig n (4 * (d : Int)) :: hexd n d
theorem hexd_len (n : Int) : ∀ d, (hexd n d).length = d
  | 0 => rfl
  | d + 1 => by simp [hexd, hexd_len n d]
def H (x : Nat) : List UInt8 := hexd (XL.bits x) 8
theorem H_len (x : Nat) : (H x).length = 8 := hexd_len _ _
theorem hex_impl (x : Nat) : ∀ (d k : Nat) (acc : List UInt8), d ≤ 8 → d < k → acc.length + d ≤ 100 → NA.impl_hexText.l0 k x (codes acc) (4 * (d : Int) - 4) = some (B (acc ++ hexd (XL.bits x) d)) := by
  intro d
  induction d with
  | zero =>
    intro k acc hd hk ha
    obtain ⟨k, rfl⟩ : ∃ m, k = m + 1 := ⟨k - 1, by omega⟩
    simp only [NA.impl_hexText.l0]
    rw [if_neg (by omega), strOf_codes, hexd, List.append_nil]
  | succ d ih =>
    intro k acc hd hk ha
    obtain ⟨k, rfl⟩ : ∃ m, k = m + 1 := ⟨k - 1, by omega⟩
    have e : 4 * ((d + 1 : Nat) : Int) - 4 = 4 * (d : Int) := by omega
    rw [e]
    simp only [NA.impl_hexText.l0, XL.BitsOf.f, Option.bind_some, i64_and15]
    have h0 : 0 ≤ (shr .i64 (XL.bits x) (4 * (d : Int))) % 16 := Int.emod_nonneg _ (by decide)
    have h1 : (shr .i64 (XL.bits x) (4 * (d : Int))) % 16 < 16 := Int.emod_lt_of_pos _ (by decide)
    have hw : wrap64 (4 * (d : Int) - 4) = 4 * (d : Int) - 4 := wrap_id (by omega) (by omega)
    have hc : codes acc ++ [bt dg ((shr .i64 (XL.bits x) (4 * (d : Int))) % 16)] = codes (acc ++ [dig (XL.bits x) (4 * (d : Int))]) := by
      rw [dig_bt]; simp [codes]
    have hl : (codes acc).length < 140737488355328 := by simp [codes]; omega
    have g : 4 * (d : Int) ≥ 0 := by omega
    rw [if_pos g, if_pos g, if_pos h0, if_pos h1, if_pos hl, hw, hc, ih k _ (by omega) (by omega) (by simp; omega)]
    simp [hexd]
theorem hexText_f (x k : Nat) (hk : 8 < k) : NA.impl_hexText.f k x = some (B (H x)) := hex_impl x 8 k [] (by omega) hk (by simp)
theorem join_f (l : List (List UInt8)) (sep : UInt8) (h1 : l.length ≤ 1000000) (h2 : (Lib.join l [sep]).length ≤ 1000000000) : XT.strings_Join.f (l.map B) (⟨#[sep]⟩ : ByteArray) = some (B (Lib.join l [sep])) := by
  unfold XT.strings_Join.f
  have e : (l.map B).map (·.data.toList) = l := by
    rw [List.map_map]
    have : ((fun (x : ByteArray) => x.data.toList) ∘ B) = id := by funext x; exact B_toList x
    rw [this, List.map_id]
  have e2 : (⟨#[sep]⟩ : ByteArray).data.toList = [sep] := rfl
  rw [e, e2, if_pos ⟨by rw [List.length_map]; omega, by omega⟩]
  rfl
theorem joined_f (l : List (List UInt8)) (h0 : l ≠ []) (h1 : l.length ≤ 1000000) (h2 : (Lib.join l [44]).length ≤ 1000000000) : NA.impl_joined.f (l.map B) = some (B (Lib.join l [44])) := by
  unfold NA.impl_joined.f
  have : l.length ≠ 0 := by simpa using h0
  rw [if_neg (by rw [List.length_map]; omega), join_f l 44 h1 h2]
  rfl
theorem N_l0 : ∀ (rest pre : List Nat) (k : Nat), rest.length + 9 < k → pre.length + rest.length ≤ 1000 →
    NA.impl_NumbersText.l0 k ((pre.map H).map B) (pre ++ rest) (((pre ++ rest).length : Nat) : Int) (pre.length : Int) = (NA.impl_joined.f (((pre ++ rest).map H).map B)).bind fun t => some (t, true) := by
  intro rest
  induction rest with
  | nil =>
    intro pre k hk hp
    obtain ⟨k, rfl⟩ : ∃ m, k = m + 1 := ⟨k - 1, by omega⟩
    simp only [NA.impl_NumbersText.l0]
    rw [if_neg (by simp)]
    simp only [List.append_nil]
  | cons x rest ih =>
    intro pre k hk hp
    simp only [List.length_cons] at hk hp
    obtain ⟨k, rfl⟩ : ∃ m, k = m + 1 := ⟨k - 1, by omega⟩
    have hrd : rdOf (0 : Nat) (pre ++ x :: rest) (pre.length : Int) = x := by simp [rdOf]
    have hlt : (pre.length : Int) < (((pre ++ x :: rest).length : Nat) : Int) := by simp; omega
    simp only [NA.impl_NumbersText.l0]
    rw [if_pos hlt, if_pos (by omega), if_pos hlt, hrd, hexText_f x k (by omega)]
    simp only [Option.bind_some]
    have e : pre ++ x :: rest = (pre ++ [x]) ++ rest := by simp
    have e2 : pre.length + 1 = (pre ++ [x]).length := by simp
    have e3 : (pre.map H).map B ++ [B (H x)] = ((pre ++ [x]).map H).map B := by simp
    rw [if_pos (by simp only [List.length_map]; omega), w1 pre.length (by omega), e, e2, e3]
    exact ih (pre ++ [x]) k (by omega) (by simp; omega)
theorem impl_Ns (xs : List Nat) (h0 : xs ≠ []) (h1 : xs.length ≤ 256) (k : Nat) (hk : xs.length + 9 < k) (h2 : (Lib.join (xs.map H) [44]).length ≤ 1000000000) : NA.impl_NumbersText.f k xs = some (B (Lib.join (xs.map H) [44]), true) := by
  unfold NA.impl_NumbersText.f NA.impl_listOk.f
  simp only [Option.bind_some]
  rw [if_pos (by simp; omega)]
  have := N_l0 xs [] k hk (by simp; omega)
  simp only [List.nil_append, List.map_nil, List.length_nil] at this
  refine Eq.trans this ?_
  rw [joined_f (xs.map H) (by simpa using h0) (by simp; omega) h2]
  simp only [Option.bind_some]
def dv (b : UInt8) : Option Nat := if 48 ≤ b.toNat ∧ b.toNat ≤ 57 then some (b.toNat - 48) else if 97 ≤ b.toNat ∧ b.toNat ≤ 102 then some (b.toNat - 87) else none
def ph : List UInt8 → Nat → Option Nat
  | [], n => some n
  | b :: r, n => match dv b with
    | none => none
    | some d => ph r (16 * n + d)
theorem dv_lt {b : UInt8} {d : Nat} (h : dv b = some d) : d < 16 := by
  unfold dv at h
  split at h
  · cases h; omega
  · split at h
    · cases h; omega
    · cases h
def pn (p : List UInt8) : Option Nat := if p.length = 8 then match ph p 0 with
    | none => none
    | some m => if XL.bits m = (m : Int) then some m else none
  else none
def pns : List (List UInt8) → Option (List Nat)
  | [] => some []
  | p :: r => match pn p with
    | none => none
    | some m => match pns r with
      | none => none
      | some l => some (m :: l)
def numsOf (o : Option (List Nat)) : List Nat × Bool := match o with
  | some l => (l, true)
  | none => ([], false)
theorem pw (e : Nat) (h : e ≤ 8) : 16 ^ e ≤ 4294967296 := by
  have : 16 ^ e ≤ 16 ^ 8 := Nat.pow_le_pow_right (by omega) h
  simpa using this
theorem ix_fin : ∀ n : Fin 256, Lib.indexByte dg.data.toList (UInt8.ofNat n.val) = match dv (UInt8.ofNat n.val) with | none => -1 | some d => (d : Int) := by decide +kernel
theorem ix_dv (b : UInt8) : Lib.indexByte dg.data.toList b = match dv b with | none => -1 | some d => (d : Int) := by
  have := ix_fin ⟨b.toNat, b.toNat_lt⟩
  simpa using this
theorem ix_f (b : UInt8) : XS.strings_IndexByte.f dg (b.toNat : Int) = some (match dv b with | none => -1 | some d => (d : Int)) := by
  unfold XS.strings_IndexByte.f
  rw [← ix_dv b]
  simp
theorem rn_ok (s : List UInt8) (h8 : s.length ≤ 8) : ∀ (rest pre : List UInt8) (n k : Nat), s = pre ++ rest → n < 16 ^ pre.length → rest.length < k →
    NA.impl_readNumber.l0 k (B s) (n : Int) ((B s).size : Int) (pre.length : Int) = match ph rest n with
      | none => some (0, false)
      | some m => if s.length = 8 then some (m, XL.bits m == (m : Int)) else some (m, false) := by
  intro rest
  induction rest with
  | nil =>
    intro pre n k hp hn hk
    rw [List.append_nil] at hp
    subst hp
    obtain ⟨k, rfl⟩ : ∃ m, k = m + 1 := ⟨k - 1, by omega⟩
    have hpw := pw s.length h8
    have hm : ((n : Int) % 4294967296).toNat = n := by omega
    simp only [NA.impl_readNumber.l0]
    rw [if_neg (by rw [B_size]; omega)]
    unfold XM.FromBits.f
    rw [if_pos ⟨by omega, by omega⟩]
    simp only [Option.bind_some, XL.BitsOf.f, hm, ph, B_size]
    by_cases h : s.length = 8
    · rw [if_pos h, if_pos (by omega)]
    · rw [if_neg h, if_neg (by omega)]
  | cons b rest ih =>
    intro pre n k hp hn hk
    simp only [List.length_cons] at hk
    obtain ⟨k, rfl⟩ : ∃ m, k = m + 1 := ⟨k - 1, by omega⟩
    have hlen : pre.length + (rest.length + 1) = s.length := by
      rw [hp]
      simp
    have hb : bt (B s) (pre.length : Int) = (b.toNat : Int) := by rw [hp]; exact bt_mid pre rest b
    have hpw := pw pre.length (by omega)
    simp only [NA.impl_readNumber.l0]
    rw [if_pos (by rw [B_size]; omega), if_pos (by omega), if_pos (by rw [B_size]; omega), hb, ix_f b]
    simp only [Option.bind_some, ph]
    cases hd : dv b with
    | none =>
      simp only
      rw [if_pos (by decide)]
    | some d =>
      have := dv_lt hd
      simp only
      have e1 : wrap64 (wrap64 ((n : Int) * 16) + (d : Int)) = ((16 * n + d : Nat) : Int) := by
        rw [wrap_id (i := (n : Int) * 16) (by omega) (by omega), wrap_id (by omega) (by omega)]
        omega
      have e2 : pre.length + 1 = (pre ++ [b]).length := by simp
      rw [if_neg (by omega), if_neg (by omega), e1, w1 pre.length (by omega), e2]
      exact ih (pre ++ [b]) (16 * n + d) k (by rw [hp]; simp) (by rw [← e2, Nat.pow_succ]; omega) (by omega)
theorem rn_long (s : List UInt8) (h8 : 8 < s.length) : ∀ (d : Nat) (rest pre : List UInt8) (n k : Nat), s = pre ++ rest → pre.length + d = 8 → n < 16 ^ pre.length → d < k →
    ∃ x, NA.impl_readNumber.l0 k (B s) (n : Int) ((B s).size : Int) (pre.length : Int) = some (x, false) := by
  intro d
  induction d with
  | zero =>
    intro rest pre n k hp hd8 hn hk
    obtain ⟨k, rfl⟩ : ∃ m, k = m + 1 := ⟨k - 1, by omega⟩
    cases rest with
    | nil =>
      rw [List.append_nil] at hp
      rw [hp] at h8
      omega
    | cons b rest =>
      have hb : bt (B s) (pre.length : Int) = (b.toNat : Int) := by rw [hp]; exact bt_mid pre rest b
      simp only [NA.impl_readNumber.l0]
      rw [if_pos (by rw [B_size]; omega), if_pos (by omega), if_pos (by rw [B_size]; omega), hb, ix_f b]
      simp only [Option.bind_some]
      cases hd : dv b with
      | none =>
        simp only
        rw [if_pos (by decide)]
        exact ⟨_, rfl⟩
      | some e =>
        simp only
        rw [if_neg (by omega), if_pos (by omega)]
        exact ⟨_, rfl⟩
  | succ d ih =>
    intro rest pre n k hp hd8 hn hk
    obtain ⟨k, rfl⟩ : ∃ m, k = m + 1 := ⟨k - 1, by omega⟩
    cases rest with
    | nil =>
      rw [List.append_nil] at hp
      rw [hp] at h8
      omega
    | cons b rest =>
      have hb : bt (B s) (pre.length : Int) = (b.toNat : Int) := by rw [hp]; exact bt_mid pre rest b
      have hpw := pw pre.length (by omega)
      simp only [NA.impl_readNumber.l0]
      rw [if_pos (by rw [B_size]; omega), if_pos (by omega), if_pos (by rw [B_size]; omega), hb, ix_f b]
      simp only [Option.bind_some]
      cases hd : dv b with
      | none =>
        simp only
        rw [if_pos (by decide)]
        exact ⟨_, rfl⟩
      | some e =>
        have := dv_lt hd
        simp only
        have e1 : wrap64 (wrap64 ((n : Int) * 16) + (e : Int)) = ((16 * n + e : Nat) : Int) := by
          rw [wrap_id (i := (n : Int) * 16) (by omega) (by omega), wrap_id (by omega) (by omega)]
          omega
        have e2 : pre.length + 1 = (pre ++ [b]).length := by simp
        rw [if_neg (by omega), if_neg (by omega), e1, w1 pre.length (by omega), e2]
        exact ih rest (pre ++ [b]) (16 * n + e) k (by rw [hp]; simp) (by rw [← e2]; omega) (by rw [← e2, Nat.pow_succ]; omega) (by omega)
theorem rn_f (s : List UInt8) (k : Nat) (hk : 10 ≤ k) : (∃ m, pn s = some m ∧ NA.impl_readNumber.f k (B s) = some (m, true)) ∨ (pn s = none ∧ ∃ x, NA.impl_readNumber.f k (B s) = some (x, false)) := by
  unfold NA.impl_readNumber.f
  by_cases h : s.length ≤ 8
  · have := rn_ok s h s [] 0 k rfl (by simp) (by omega)
    simp only [List.length_nil, Int.ofNat_zero] at this
    rw [this]
    unfold pn
    cases hp : ph s 0 with
    | none =>
      refine .inr ⟨?_, _, rfl⟩
      split <;> rfl
    | some m =>
      simp only
      by_cases h8 : s.length = 8
      · rw [if_pos h8, if_pos h8]
        by_cases hb : XL.bits m = (m : Int)
        · rw [if_pos hb]
          exact .inl ⟨m, rfl, by rw [beq_iff_eq.2 hb]⟩
        · rw [if_neg hb]
          exact .inr ⟨rfl, m, by rw [beq_eq_false_iff_ne.2 hb]⟩
      · rw [if_neg h8, if_neg h8]
        exact .inr ⟨rfl, _, rfl⟩
  · obtain ⟨x, hx⟩ := rn_long s (by omega) 8 s [] 0 k rfl (by simp) (by simp) (by omega)
    simp only [List.length_nil, Int.ofNat_zero] at hx
    refine .inr ⟨?_, x, hx⟩
    unfold pn
    rw [if_neg (by omega)]
theorem impl_parts : ∀ (rest pre : List (List UInt8)) (out : List Nat) (k : Nat), rest.length + 10 < k → pre.length + rest.length ≤ 1073741825 → out.length = pre.length → out.length ≤ 256 →
    NA.impl_ReadNumbers.l0 k out ((pre ++ rest).map B) (((pre ++ rest).map B).length : Int) (pre.length : Int) = some (if pre.length + rest.length ≤ 256 then match pns rest with | some l => (out ++ l, true) | none => ([], false) else ([], false)) := by
  intro rest
  induction rest with
  | nil =>
    intro pre out k hk hp ho h256
    obtain ⟨k, rfl⟩ : ∃ m, k = m + 1 := ⟨k - 1, by omega⟩
    simp only [NA.impl_ReadNumbers.l0]
    rw [if_neg (by simp), if_pos (by simp; omega)]
    simp [pns]
  | cons p rest ih =>
    intro pre out k hk hp ho h256
    simp only [List.length_cons] at hk hp
    obtain ⟨k, rfl⟩ : ∃ m, k = m + 1 := ⟨k - 1, by omega⟩
    have hrd : rdOf ByteArray.empty ((pre ++ p :: rest).map B) (pre.length : Int) = B p := by simp [rdOf]
    have hlt : (pre.length : Int) < (((pre ++ p :: rest).map B).length : Int) := by simp; omega
    have e : pre ++ p :: rest = (pre ++ [p]) ++ rest := by simp
    have e2 : pre.length + 1 = (pre ++ [p]).length := by simp
    simp only [NA.impl_ReadNumbers.l0]
    rw [if_pos hlt, if_pos (by omega), if_pos hlt, hrd]
    rcases rn_f p k (by omega) with ⟨m, h1, h2⟩ | ⟨h1, x, h2⟩
    · rw [h2]
      simp only [Option.bind_some, pns, h1, if_true]
      by_cases h3 : out.length = 256
      · rw [if_pos (by omega), if_neg (by simp; omega)]
      · rw [if_neg (by omega), if_pos (by omega), w1 pre.length (by omega), e2]
        rw [e, ih (pre ++ [p]) (out ++ [m]) k (by omega) (by simp; omega) (by simp; omega) (by simp; omega)]
        congr 1
        rw [← e2]
        simp only [List.length_cons]
        by_cases h4 : pre.length + (rest.length + 1) ≤ 256
        · rw [if_pos h4, if_pos (by omega)]
          cases pns rest with
          | none => rfl
          | some l => simp
        · rw [if_neg h4, if_neg (by omega)]
    · rw [h2]
      simp only [Option.bind_some, pns, h1]
      rw [if_neg (by decide)]
      split <;> rfl
theorem sp_len (c : UInt8) : ∀ l : List UInt8, (sp c l).length = l.count c + 1
  | [] => by simp [sp]
  | x :: xs => by
    have := sp_len c xs
    unfold sp
    split
    · rename_i h; subst h; simp [this]
    · rename_i h
      split
      · rename_i h2; rw [h2] at this; simp at this
      · rename_i h2; rw [h2] at this; simp only [List.length_cons] at this ⊢; rw [this, List.count_cons_of_ne h]
theorem split_f (s : List UInt8) (c : UInt8) (hs : s.length ≤ 1073741824) : XS.strings_Split.f (B s) ⟨#[c]⟩ = some ((sp c s).map B) := by
  unfold XS.strings_Split.f
  rw [if_pos (by rw [B_size]; exact hs), if_pos (by exact Nat.le_refl 1), splitB_sp, B_toList]
def RN (s : List UInt8) : Option (List Nat) := if s = [110, 111, 110, 101] then some [] else if (sp 44 s).length ≤ 256 then pns (sp 44 s) else none
theorem B_toList' (s : List UInt8) : (B s).toList = s := by rw [Lib.toList_data, B_toList]
theorem impl_N (s : List UInt8) (k : Nat) (hs : s.length ≤ 1073741824) (hk : s.length + 10000 ≤ k) : NA.impl_ReadNumbers.f k (B s) = some (numsOf (RN s)) := by
  unfold NA.impl_ReadNumbers.f NA.impl_parted.f RN
  rw [B_toList']
  by_cases h : s = [110, 111, 110, 101]
  · rw [if_pos h, if_pos h]
    simp only [Option.bind_some]
    obtain ⟨k, rfl⟩ : ∃ m, k = m + 1 := ⟨k - 1, by omega⟩
    simp only [NA.impl_ReadNumbers.l0]
    rw [if_neg (by simp)]
    rfl
  · rw [if_neg h, if_neg h, split_f s 44 hs]
    simp only [Option.bind_some]
    have hc : s.count 44 ≤ s.length := List.count_le_length
    have := impl_parts (sp 44 s) [] [] k (by rw [sp_len]; omega) (by rw [sp_len]; simp; omega) rfl (by simp)
    simp only [List.nil_append, List.length_nil, Int.ofNat_zero, Nat.zero_add] at this
    refine Eq.trans this ?_
    congr 1
    split
    · cases pns (sp 44 s) <;> rfl
    · rfl
theorem sp_no (c : UInt8) : ∀ s : List UInt8, c ∉ s → sp c s = [s]
  | [], _ => rfl
  | x :: xs, h => by
    simp only [List.mem_cons, not_or] at h
    unfold sp
    rw [if_neg (Ne.symm h.1), sp_no c xs h.2]
theorem sp_app (c : UInt8) : ∀ p q : List UInt8, c ∉ p → sp c (p ++ c :: q) = p :: sp c q
  | [], q, _ => by
    rw [List.nil_append]
    conv => lhs; unfold sp
    rw [if_pos rfl]
  | x :: p, q, h => by
    simp only [List.mem_cons, not_or] at h
    rw [List.cons_append]
    conv => lhs; unfold sp
    rw [if_neg (Ne.symm h.1), sp_app c p q h.2]
theorem dg_dv : ∀ i : Fin 16, dv (dg.data.toList.getD i.val 0) = some i.val := by decide
theorem dig_dv (n s : Int) : dv (dig n s) = some ((shr .i64 n s) % 16).toNat := by
  have h0 : 0 ≤ (shr .i64 n s) % 16 := Int.emod_nonneg _ (by decide)
  have h1 : (shr .i64 n s) % 16 < 16 := Int.emod_lt_of_pos _ (by decide)
  exact dg_dv ⟨((shr .i64 n s) % 16).toNat, by omega⟩
theorem no44 (n : Int) : ∀ d, (44 : UInt8) ∉ hexd n d
  | 0, h => by simp [hexd] at h
  | d + 1, h => by
    simp only [hexd, List.mem_cons] at h
    rcases h with h | h
    · have := dig_dv n (4 * (d : Int))
      rw [← h, show dv 44 = none from by decide] at this
      cases this
    · exact no44 n d h
theorem shr_nat (N d : Nat) (hd : d ≤ 7) : (shr .i64 (N : Int) (4 * (d : Int))) % 16 = ((N / 16 ^ d % 16 : Nat) : Int) := by
  unfold shr
  have e : min (4 * (d : Int)).toNat IntKind.i64.bits = 4 * d := by
    have : IntKind.i64.bits = 64 := rfl
    omega
  have e2 : (2 : Int) ^ (4 * d) = ((16 ^ d : Nat) : Int) := by
    rw [show (16 : Nat) = 2 ^ 4 from rfl, ← Nat.pow_mul, Int.natCast_pow]
    rfl
  rw [e, e2]
  norm_cast
theorem ph_hex (N : Nat) : ∀ (d acc : Nat), d ≤ 8 → ph (hexd (N : Int) d) acc = some (16 ^ d * acc + N % 16 ^ d)
  | 0, acc, _ => by simp [hexd, ph, Nat.mod_one]
  | d + 1, acc, hd => by
    have hv : dv (dig (N : Int) (4 * (d : Int))) = some (N / 16 ^ d % 16) := by
      rw [dig_dv, shr_nat N d (by omega), Int.toNat_natCast]
    simp only [hexd, ph, hv]
    rw [ph_hex N d _ (by omega), Nat.pow_succ, Nat.mod_mul]
    congr 1
    rw [Nat.mul_add, ← Nat.mul_assoc]
    omega
theorem bits_eq (x : Nat) (h : x < 4294967296) : XL.bits x = if isn .f32 x = true then 2143289344 else (x : Int) := by
  unfold XL.bits
  split
  · rfl
  · exact PDN.wid (by omega) (by omega)
theorem bits_b (x : Nat) (h : x < 4294967296) : 0 ≤ XL.bits x ∧ XL.bits x < 4294967296 := by
  rw [bits_eq x h]
  split <;> omega
theorem nan_c : isn .f32 2143289344 = true := by decide
theorem bits_bits (x : Nat) (h : x < 4294967296) : XL.bits (XL.bits x).toNat = ((XL.bits x).toNat : Int) := by
  have hb := bits_b x h
  rw [bits_eq (XL.bits x).toNat (by omega), bits_eq x h]
  by_cases c : isn .f32 x = true
  · rw [if_pos c]
    rw [if_pos (show isn .f32 (2143289344 : Int).toNat = true from nan_c)]
    rfl
  · rw [if_neg c, Int.toNat_natCast, if_neg c]
theorem pn_H (x : Nat) (h : x < 4294967296) : pn (H x) = some (XL.bits x).toNat := by
  have hb := bits_b x h
  unfold pn
  rw [if_pos (H_len x)]
  have e : H x = hexd (((XL.bits x).toNat : Nat) : Int) 8 := by unfold H; rw [Int.toNat_of_nonneg hb.1]
  rw [e, ph_hex _ 8 0 (by decide)]
  have e2 : 16 ^ 8 * 0 + (XL.bits x).toNat % 16 ^ 8 = (XL.bits x).toNat := by
    rw [Nat.mul_zero, Nat.zero_add]
    exact Nat.mod_eq_of_lt (by have : (16 : Nat) ^ 8 = 4294967296 := by decide
                               omega)
  rw [e2]
  simp only
  rw [if_pos (bits_bits x h)]
def NT (xs : List Nat) : List UInt8 := match xs with
  | [] => [110, 111, 110, 101]
  | _ => Lib.join (xs.map H) [44]
theorem lens_H : ∀ xs : List Nat, Lib.lens (xs.map H) = 8 * xs.length
  | [] => rfl
  | x :: xs => by
    have := lens_H xs
    simp only [Lib.lens, List.map_cons, List.sum_cons, H_len, List.length_cons] at this ⊢
    omega
theorem NT_len (xs : List Nat) : (NT xs).length ≤ 9 * xs.length + 16 := by
  cases xs with
  | nil => decide
  | cons x xs =>
    show (Lib.join ((x :: xs).map H) [44]).length ≤ _
    rw [List.map_cons, Lib.join_cons, List.length_append, H_len, Lib.joinTail_length, lens_H]
    simp only [List.length_cons, List.length_nil, List.length_map]
    omega
theorem NT_ge (x : Nat) (xs : List Nat) : 8 ≤ (NT (x :: xs)).length := by
  show 8 ≤ (Lib.join ((x :: xs).map H) [44]).length
  rw [List.map_cons, Lib.join_cons, List.length_append, H_len]
  omega
theorem ntext_f (xs : List Nat) (hx : xs.length ≤ 100) (k : Nat) (hk : 200 < k) : NA.impl_NumbersText.f k xs = some (B (NT xs), true) := by
  cases xs with
  | nil =>
    unfold NA.impl_NumbersText.f NA.impl_listOk.f
    obtain ⟨k, rfl⟩ : ∃ m, k = m + 1 := ⟨k - 1, by omega⟩
    rfl
  | cons x xs =>
    have hl : (Lib.join ((x :: xs).map H) [44]).length ≤ 1000000000 := by
      have := NT_len (x :: xs)
      have e : NT (x :: xs) = Lib.join ((x :: xs).map H) [44] := rfl
      rw [e] at this
      omega
    exact impl_Ns (x :: xs) (by simp) (by omega) k (by omega) hl
theorem no44_H (x : Nat) : (44 : UInt8) ∉ H x := no44 _ 8
theorem sp_tail : ∀ (xs : List Nat) (x : Nat), sp 44 (H x ++ Lib.joinTail [44] (xs.map H)) = H x :: xs.map H
  | [], x => by
    show sp 44 (H x ++ []) = _
    rw [List.append_nil, sp_no 44 _ (no44_H x)]
    rfl
  | y :: ys, x => by
    have e : Lib.joinTail [44] ((y :: ys).map H) = 44 :: (H y ++ Lib.joinTail [44] (ys.map H)) := by
      simp [Lib.joinTail]
    rw [e, sp_app 44 _ _ (no44_H x), sp_tail ys y]
    rfl
theorem sp_NT (x : Nat) (xs : List Nat) : sp 44 (NT (x :: xs)) = (x :: xs).map H := by
  show sp 44 (Lib.join ((x :: xs).map H) [44]) = _
  rw [List.map_cons, Lib.join_cons, sp_tail]
def bp (x : Nat) : Nat := (XL.bits x).toNat
theorem pns_H : ∀ xs : List Nat, (∀ p ∈ xs, p < 4294967296) → pns (xs.map H) = some (xs.map bp)
  | [], _ => rfl
  | x :: xs, h => by
    simp only [List.map_cons, pns, pn_H x (h x (List.mem_cons_self ..)), pns_H xs fun p hp => h p (List.mem_cons_of_mem _ hp)]
    rfl
theorem nread_f (xs : List Nat) (hx : xs.length ≤ 100) (hw : ∀ p ∈ xs, p < 4294967296) (k : Nat) (hk : 20000 < k) : NA.impl_ReadNumbers.f k (B (NT xs)) = some (xs.map bp, true) := by
  have hle := NT_len xs
  rw [impl_N (NT xs) k (by omega) (by omega)]
  cases xs with
  | nil => rfl
  | cons x xs =>
    have h8 := NT_ge x xs
    unfold RN
    rw [if_neg (fun h => by rw [h] at h8; exact absurd h8 (by decide)), sp_NT, if_pos (by simp at hx ⊢; omega), pns_H _ hw]
    rfl
theorem nsame (x : Nat) (h : x < 4294967296) : NA.spec_SameNumber.f (bp x) x = some true := by
  unfold NA.spec_SameNumber.f NA.spec_l01Same.f XL.l01Bits.f bp
  have b1 := bits_b x h
  have e1 := bits_bits x h
  rw [Int.toNat_of_nonneg b1.1] at e1
  simp only [Option.bind_some, e1, beq_self_eq_true]
end Go.Proofs.YtnnemdjbopdjmaaDoor.PWN
end
section
set_option linter.unusedVariables false
set_option linter.unusedSimpArgs false
namespace Go.Proofs.YtnnemdjbopdjmaaDoor.PNL
open Go.RowKit Go.Proofs.YtnnemdjbopdjmaaDoor Go.Proofs.YtnnemdjbopdjmaaDoorW.PrintWords Go.Proofs.YtnnemdjbopdjmaaDoorW.PrintLast Go.Proofs.YtnnemdjbopdjmaaDoorW.PrintMore
open T XF XL NA PDN PWN
theorem and_pow (n k : Nat) : n &&& 2 ^ k = if n.testBit k = true then 2 ^ k else 0 := by
  refine Nat.eq_of_testBit_eq fun i => ?_
  rw [Nat.testBit_and, Nat.testBit_two_pow]
  by_cases h : k = i
  · subst h
    cases n.testBit k <;> simp
  · split <;> simp [h]
theorem fl_two (x : Nat) : XA.fl x = 0 ∨ XA.fl x = 2147483648 := by
  have e : Go.bits .and .u32 (x : Int) 2147483648 = IntKind.u32.wrap ((BitVec.ofInt 32 (x : Int) &&& BitVec.ofInt 32 2147483648).toNat : Nat) := rfl
  have h2 : (BitVec.ofInt 32 2147483648).toNat = 2 ^ 31 := by decide
  unfold XA.fl
  rw [e, BitVec.toNat_and, h2, and_pow]
  cases ((BitVec.ofInt 32 (x : Int)).toNat.testBit 31)
  · left; decide
  · right; decide
theorem sub_fl (x : Nat) : XA.sub (XA.fl x) = false := by
  unfold XA.sub
  rcases fl_two x with h | h <;> rw [h]
  · rw [show XA.ne0 0 = false from by decide]; rfl
  · rw [show XA.ne0 2147483648 = false from by decide]; rfl
theorem bits_fl (x : Nat) : XL.bits (XA.fl x) = (XA.fl x : Int) := by
  rcases fl_two x with h | h <;> rw [h]
  · rw [bits_eq 0 (by decide), if_neg (by decide)]
  · rw [bits_eq 2147483648 (by decide), if_neg (by decide)]
theorem sub_ne {x : Nat} (hx : x < 4294967296) (h : XA.sub x = true) : spec_SameNumber.f x (XA.fl x) = some false := by
  unfold spec_SameNumber.f spec_l01Same.f XL.l01Bits.f
  simp only [Option.bind_some, Option.some.injEq]
  refine beq_eq_false_iff_ne.2 fun e => ?_
  rw [bits_fl, bits_eq x hx] at e
  by_cases c : isn .f32 x = true
  · rw [if_pos c] at e
    rcases fl_two x with h2 | h2 <;> rw [h2] at e <;> exact absurd e (by decide)
  · rw [if_neg c] at e
    have e2 : x = XA.fl x := by omega
    unfold XA.sub at h
    have h0 : XA.ne0 x = true := (Bool.and_eq_true_iff.1 h).1
    rw [e2] at h0
    rcases fl_two x with h2 | h2
    · rw [h2] at h0
      exact absurd h0 (by decide)
    · rw [h2] at h0
      exact absurd h0 (by decide)
theorem same_refl (x : Nat) : spec_SameNumber.f x x = some true := by
  unfold spec_SameNumber.f spec_l01Same.f XL.l01Bits.f
  simp
theorem loop0 (x5 x6 x7 : Nat) (x8 : Bool) (x9 : Nat) (xs : List Nat) (hl : xs.length ≤ 1000) : ∀ (rest pre : List Nat) (s k : Nat), pre ++ rest = xs →
    laws_FnNumbers.l0 (k + rest.length) x5 x6 x7 x8 x9 xs s (xs.length : Int) (pre.length : Int) = laws_FnNumbers.l0 k x5 x6 x7 x8 x9 xs (XA.sumI rest s) (xs.length : Int) (xs.length : Int) := by
  intro rest
  induction rest with
  | nil =>
    intro pre s k h
    rw [List.append_nil] at h
    subst h
    rfl
  | cons x rest ih =>
    intro pre s k h
    have hlen : pre.length + (rest.length + 1) = xs.length := by rw [← h]; simp
    have hrd : rdOf (0 : Nat) xs (pre.length : Int) = x := by rw [← h]; simp [rdOf]
    have e2 : pre.length + 1 = (pre ++ [x]).length := by simp
    rw [show k + (x :: rest).length = (k + rest.length) + 1 by simp; omega]
    simp only [laws_FnNumbers.l0]
    rw [if_pos (by omega), if_pos (by omega), if_pos (by omega), hrd, w1 pre.length (by omega), e2]
    rw [ih (pre ++ [x]) (XE.ar .add .f32 s x) k (by rw [← h]; simp)]
    rfl
theorem loop1 (x5 x6 : Nat) (xs : List Nat) (hl : xs.length ≤ 1000) (hw : ∀ p ∈ xs, p < 4294967296) : ∀ (rest pre : List Nat) (k : Nat), pre ++ rest = xs →
    laws_FnNumbers.l1 (k + rest.length) x5 x6 xs (xs.map bp) (xs.length : Int) (pre.length : Int) = laws_FnNumbers.l1 k x5 x6 xs (xs.map bp) (xs.length : Int) (xs.length : Int) := by
  intro rest
  induction rest with
  | nil =>
    intro pre k h
    rw [List.append_nil] at h
    subst h
    rfl
  | cons x rest ih =>
    intro pre k h
    have hlen : pre.length + (rest.length + 1) = xs.length := by rw [← h]; simp
    have hrd : rdOf (0 : Nat) xs (pre.length : Int) = x := by rw [← h]; simp [rdOf]
    have hrb : rdOf (0 : Nat) (xs.map bp) (pre.length : Int) = bp x := by rw [← h]; simp [rdOf]
    have hx : x < 4294967296 := hw x (by rw [← h]; simp)
    have e2 : pre.length + 1 = (pre ++ [x]).length := by simp
    rw [show k + (x :: rest).length = (k + rest.length) + 1 by simp; omega]
    simp only [laws_FnNumbers.l1]
    rw [if_pos (by omega), if_pos (by omega), if_pos (by rw [List.length_map]; omega), if_pos (by omega), hrd, hrb, nsame x hx]
    simp only [Option.bind_some, if_true]
    rw [w1 pre.length (by omega), e2]
    exact ih (pre ++ [x]) k (by rw [← h]; simp)
theorem law (l0 l1 : List Int) (hl0 : okS l0) (hl1 : okS l1) : ∃ k, laws_FnNumbers.f k l0 l1 = some true := by
  refine ⟨100100, ?_⟩
  unfold laws_FnNumbers.f laws_b10Long.f
  by_cases g0 : (l0.length : Int) > 1048576
  · rw [if_pos g0]
    simp only [Option.bind_some, if_true]
  rw [if_neg g0]
  simp only [Option.bind_some]
  by_cases g1 : (l1.length : Int) > 1048576
  · rw [if_pos (decide_eq_true g1)]
  rw [if_neg (by simpa using g1)]
  clear g0 g1
  obtain ⟨x, ex, hx⟩ := number_ok hl0
  obtain ⟨y, ey, hy⟩ := number_ok hl1
  obtain ⟨n, en, hn⟩ := at_ok hl0
  obtain ⟨xs, exs, hw, hlen⟩ := numbers_ok hl1 n 100100 hn (by decide)
  have b1 := bits_b x hx
  rw [ex]
  simp only [Option.bind_some]
  rw [ey]
  simp only [Option.bind_some, XL.BitsOf.f, XM.FromBits.f]
  rw [if_pos ⟨b1.1, by omega⟩]
  simp only [Option.bind_some, XA.FlushNumber.f]
  rw [en]
  simp only [Option.bind_some]
  rw [exs]
  simp only [Option.bind_some]
  have e5 : (XL.bits x % 4294967296).toNat = bp x := by
    unfold bp
    rw [Int.emod_eq_of_lt b1.1 b1.2]
  rw [e5]
  obtain ⟨K, hK, hK2⟩ : ∃ K, 100100 = K + 1 + xs.length ∧ 100000 < K := ⟨100100 - 1 - xs.length, by omega, by omega⟩
  rw [hK]
  have l0e := loop0 x y (bp x) true (if XA.sub x = true then XA.fl x else x) xs (by omega) xs [] 0 (K + 1) rfl
  simp only [List.length_nil, Int.ofNat_zero] at l0e
  refine l0e.trans ?_
  simp only [laws_FnNumbers.l0]
  rw [if_neg (by omega)]
  have hsum : XA.SumNumbers.f xs = some (XA.sumI xs 0, true) := by
    unfold XA.SumNumbers.f
    rw [if_pos (by omega)]
  rw [hsum]
  simp only [Option.bind_some]
  rw [ntext_f xs (by omega) K (by omega)]
  simp only [Option.bind_some]
  rw [nread_f xs (by omega) hw K (by omega)]
  simp only [Option.bind_some, if_true]
  rw [nsame x hx]
  simp only [Option.bind_some, if_true, XA.IsSubnormal.f]
  have hz : XA.sub (if XA.sub x = true then XA.fl x else x) = false := by
    cases h : XA.sub x with
    | true => rw [if_pos rfl]; exact sub_fl x
    | false => rw [if_neg (by decide)]; exact h
  have hs : spec_SameNumber.f x (if XA.sub x = true then XA.fl x else x) = some (!XA.sub x) := by
    cases h : XA.sub x with
    | true => rw [if_pos rfl]; exact sub_ne hx h
    | false => rw [if_neg (by decide)]; exact same_refl x
  rw [hz, hs, same_refl]
  simp only [Option.bind_some, if_true]
  rw [if_neg (by decide)]
  have hb : (XA.sub x == !XA.sub x) = false := by cases XA.sub x <;> rfl
  rw [hb, if_neg (by decide)]
  have hle : (((xs.map bp).length : Int) != (xs.length : Int)) = false := by simp
  rw [hle]
  obtain ⟨K1, hK1⟩ : ∃ K1, K = K1 + 1 + xs.length + 1 := ⟨K - xs.length - 2, by omega⟩
  rw [hK1]
  simp only [laws_FnNumbers.j1]
  rw [if_neg (by decide)]
  have l1e := loop1 x y xs (by omega) hw xs [] (K1 + 1) rfl
  simp only [List.length_nil, Int.ofNat_zero] at l1e
  refine l1e.trans ?_
  simp only [laws_FnNumbers.l1]
  rw [if_neg (by omega)]
  simp only [XA.AngleTurns.f, XA.AngleOf.f, XA.NarrowNumber.f, Option.bind_some, same_refl, if_true]
  have hq : XA.SineTurns.f 1048576000 = some 1065353216 := by
    unfold XA.SineTurns.f
    rw [if_pos rfl]
  rw [hq]
  simp only [Option.bind_some]
  decide
end Go.Proofs.YtnnemdjbopdjmaaDoor.PNL
end
section
namespace Go.Proofs.YtnnemdjbopdjmaaDoorW.PrintWords
open Go.ChangeShapes Go.WideShapes
theorem sized_ints {H : Type} {enc : TypeId × Value → H} {P : Program} {W : World} {base : Nat} {spare : Nat → Bool} {held : Bool} {t e : TypeId} {k : IntKind} {a : Option Addr} {len cap : Nat} {d : DataW H} {ps : List MemPlace} {ts : List TypeId} {ds : List (DataW H)} {j : Nat}
    (hsz : (DataW.weightsEach P ts ds).all (· ≤ reachBytes) = true) (ht : ts[j]? = some t) (hd : ds[j]? = some d) (hu : P.underlying t = some (.slice e)) (he : P.underlying e = some (.int k)) (hc : P.cellsOf e = 1) {B : Nat} (hB : P.bytesOf e = B)
    (h : DataW.Trod enc P W base spare held t (.slice a len cap) d ps) : len * B ≤ 140737488351232 := by
  obtain ⟨fuel, hf⟩ := h
  rcases open_ints hu he hc hf with ⟨hcs, _⟩ | ⟨x, l, c, zs, hcs, _, hl, _, hz, hx, _, _⟩
  · simp [Value.cells] at hcs
    obtain ⟨rfl, rfl, rfl⟩ := hcs
    simp
  · simp [Value.cells] at hcs
    obtain ⟨rfl, rfl, rfl⟩ := hcs
    obtain ⟨hx, _⟩ := Prod.mk.inj hx
    subst hx
    have z := sized_slice hsz ht hd hu
    rw [hB] at z
    have hl2 : len ≤ zs.length := by
      rw [hz]
      split
      · exact hl
      · exact Nat.le_refl _
    have h1 : (lits (H := H) k (zs.take len)).length + (lits (H := H) k (zs.drop len)).length = zs.length := by
      simp [lits]
      omega
    rw [h1] at z
    exact Nat.le_trans (Nat.mul_le_mul_right _ hl2) z
end Go.Proofs.YtnnemdjbopdjmaaDoorW.PrintWords
end
