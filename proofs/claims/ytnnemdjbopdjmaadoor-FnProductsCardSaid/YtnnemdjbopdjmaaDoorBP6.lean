/- Words, walks and plain laws that a claim of this seat needs, one text after the other (part 6). -/
import Derived.Test.YtnnemdjbopdjmaaDoorBP5
import Derived.Laws.FloatBits
set_option linter.unusedVariables false
set_option linter.unusedSimpArgs false
section
set_option linter.unusedVariables false
set_option linter.unusedSimpArgs false
namespace Go.Proofs.YtnnemdjbopdjmaaDoor.PDP
open Go.RowKit Go.Proofs.YtnnemdjbopdjmaaDoor Go.Proofs.YtnnemdjbopdjmaaDoorW.PrintWords Go.Proofs.YtnnemdjbopdjmaaDoorW.PrintLast Go.Proofs.YtnnemdjbopdjmaaDoorW.PrintMore
open XF XL PA PI
def okS (l : List Int) : Prop := ∀ b ∈ l, 0 ≤ b ∧ b ≤ 255
theorem wid {i : Int} (h0 : -9223372036854775808 ≤ i) (h : i ≤ 9223372036854775807) : wrap64 i = i := by unfold wrap64; omega
theorem rd_ok {l : List Int} (h : okS l) (i : Int) : 0 ≤ rd l i ∧ rd l i ≤ 255 := by
  unfold rd
  by_cases c : i.toNat < l.length
  · rw [List.getD_eq_getElem?_getD, List.getElem?_eq_getElem c, Option.getD_some]
    exact h _ (List.getElem_mem c)
  · rw [List.getD_eq_getElem?_getD, List.getElem?_eq_none (by omega), Option.getD_none]
    omega
theorem and255 (n : Int) : 0 ≤ Go.bits .and .u64 n 255 ∧ Go.bits .and .u64 n 255 ≤ 255 := by
  have h255 : (BitVec.ofInt 64 255).toNat = 2 ^ 8 - 1 := by decide
  have key : (BitVec.ofInt 64 n &&& BitVec.ofInt 64 255).toNat = (n % ((2 ^ 64 : Nat) : Int)).toNat % 2 ^ 8 := by
    rw [BitVec.toNat_and, BitVec.toNat_ofInt, h255, Nat.and_two_pow_sub_one_eq_mod]
  have e : Go.bits .and .u64 n 255 = IntKind.u64.wrap ((BitVec.ofInt 64 n &&& BitVec.ofInt 64 255).toNat : Nat) := rfl
  rw [e, key]
  have hb : (n % ((2 ^ 64 : Nat) : Int)).toNat % 2 ^ 8 < 256 := Nat.mod_lt _ (by decide)
  generalize (n % ((2 ^ 64 : Nat) : Int)).toNat % 2 ^ 8 = q at hb
  have e2 : IntKind.u64.wrap (q : Int) = q := by
    simp [IntKind.wrap, IntKind.bits, IntKind.signed]
    omega
  rw [e2]
  omega
theorem next_ok {l : List Int} (hl : okS l) (a s : Int) (h0 : 0 ≤ a) (h1 : a ≤ 1000000) : ∃ x s', spec_l00Src_next.f l a s = some (x, a + 1, s') ∧ 0 ≤ x ∧ x ≤ 255 := by
  have hr := rd_ok hl a
  have hw1 : wrap64 (rd l a) = rd l a := wid (by omega) (by omega)
  have hw2 : wrap64 (a + 1) = a + 1 := wid (by omega) (by omega)
  have ha (n : Int) : wrap64 (Go.bits .and .u64 n 255) = Go.bits .and .u64 n 255 := by
    have := and255 n
    exact wid (by omega) (by omega)
  unfold spec_l00Src_next.f
  rw [hw1, hw2]
  by_cases c : a < (l.length : Int)
  · rw [if_pos c, if_pos h0]
    by_cases c2 : a + 1 ≤ (l.length : Int)
    · rw [if_pos c2]
      exact ⟨_, _, rfl, hr.1, hr.2⟩
    · rw [if_neg c2, ha]
      exact ⟨_, _, rfl, (and255 _).1, (and255 _).2⟩
  · rw [if_neg c]
    by_cases c2 : a + 1 ≤ (l.length : Int)
    · rw [if_pos c2]
      exact ⟨_, _, rfl, by omega, by omega⟩
    · rw [if_neg c2, ha]
      exact ⟨_, _, rfl, (and255 _).1, (and255 _).2⟩
theorem tmod_ok {x n : Int} (h0 : 0 ≤ x) (hn : 0 < n) : 0 ≤ Int.tmod x n ∧ Int.tmod x n < n := by
  rw [Int.tmod_eq_emod_of_nonneg h0]
  exact ⟨Int.emod_nonneg _ (by omega), Int.emod_lt_of_pos _ hn⟩
theorem pick_ok {l : List Int} (hl : okS l) (a s n : Int) (h0 : 0 ≤ a) (h1 : a ≤ 100000) (hn : 1 < n) : ∃ v a' s', spec_l00Src_pick.f l a s n = some (v, a', s') ∧ 0 ≤ v ∧ v < n ∧ 0 ≤ a' ∧ a' ≤ a + 2 := by
  unfold spec_l00Src_pick.f
  rw [if_neg (by omega)]
  obtain ⟨x, s1, e1, hx0, hx1⟩ := next_ok hl a s h0 (by omega)
  rw [e1]
  simp only [Option.bind_some]
  by_cases c : n > 200
  · rw [if_pos c]
    obtain ⟨y, s2, e2, hy0, hy1⟩ := next_ok hl (a + 1) s1 (by omega) (by omega)
    rw [e2]
    simp only [Option.bind_some]
    rw [if_neg (by omega), wid (i := x * 256) (by omega) (by omega), wid (by omega) (by omega)]
    have := tmod_ok (x := x * 256 + y) (by omega) (by omega : 0 < n)
    exact ⟨_, _, _, rfl, this.1, this.2, by omega, by omega⟩
  · rw [if_neg c, if_neg (by omega)]
    have := tmod_ok hx0 (by omega : 0 < n)
    exact ⟨_, _, _, rfl, this.1, this.2, by omega, by omega⟩
theorem one_ok {l : List Int} (hl : okS l) (a s n : Int) (h0 : 0 ≤ a) (h1 : a ≤ 100000) (hn : 1 < n) : ∃ v a' s', spec_l00Src_one.f l a s n = some (v, a', s') ∧ 0 ≤ a' ∧ a' ≤ a + 2 := by
  unfold spec_l00Src_one.f
  obtain ⟨v, a', s', e, _, _, h2, h3⟩ := pick_ok hl a s n h0 h1 hn
  rw [e]
  exact ⟨_, _, _, rfl, h2, h3⟩
theorem among_ok {l : List Int} (hl : okS l) (a s : Int) (m : List Int) (h0 : 0 ≤ a) (h1 : a ≤ 100000) (hm : 1 < m.length) : ∃ v a' s', spec_l00Src_among.f l a s m = some (v, a', s') ∧ v ∈ m ∧ 0 ≤ a' ∧ a' ≤ a + 2 := by
  unfold spec_l00Src_among.f
  obtain ⟨v, a', s', e, hv0, hv1, h2, h3⟩ := pick_ok hl a s (m.length : Int) h0 h1 (by omega)
  rw [e]
  simp only [Option.bind_some]
  rw [if_pos hv0, if_pos hv1]
  refine ⟨_, _, _, rfl, ?_, h2, h3⟩
  unfold rd
  have c : v.toNat < m.length := by omega
  rw [List.getD_eq_getElem?_getD, List.getElem?_eq_getElem c, Option.getD_some]
  exact List.getElem_mem c
def Nn (x : Nat) : Prop := (∃ s m e, FloatKind.f32.format.read x = .number s m e) ∨ ∃ s, FloatKind.f32.format.read x = .infinity s
theorem near_Nn (s : Bool) (m : Nat) (e : Int) : Nn (FloatKind.f32.format.nearest s m e) := by
  have key (r : Nat) (hr : r ≤ 2139095040) : Nn (FloatKind.f32.format.word s r) := by
    by_cases c : r < 2139095040
    · left
      rw [read_word s r c]
      split
      · exact ⟨_, _, _, rfl⟩
      · exact ⟨_, _, _, rfl⟩
    · obtain rfl : r = 2139095040 := by omega
      right
      exact ⟨s, by cases s <;> decide⟩
  unfold Ieee.Format.nearest
  split
  · exact key 0 (by omega)
  · refine key _ ?_
    rw [PI.f32i]
    exact Nat.min_le_right _ _
theorem width32 : FloatKind.f32.format.width = 32 := by decide
theorem quo_ok {x c : Nat} {n : Int} (hx : Zr x n) {t : Bool} {M : Nat} {j : Int} (hc : FloatKind.f32.format.read c = .number t M j) (hM : M ≠ 0) : fok .quo .f32 x c = true ∧ Nn (fop .quo .f32 x c) ∧ fop .quo .f32 x c < 4294967296 := by
  obtain ⟨s, m, k, h1, _⟩ := hx
  have e : ∃ s' m' e', floatBits .quo .f32 x c = some (FloatKind.f32.format.nearest s' m' e') := by
    have : floatBits .quo .f32 x c = ((FloatKind.f32.format.read x).quotient (FloatKind.f32.format.fractionBits + 2) (FloatKind.f32.format.read c)).map FloatKind.f32.format.write := rfl
    rw [this, h1, hc]
    unfold Ieee.Datum.quotient
    simp only
    rw [if_neg hM]
    exact ⟨_, _, _, rfl⟩
  obtain ⟨s', m', e', e⟩ := e
  obtain ⟨h3, h4⟩ := fop_of e
  have hlt : fop .quo .f32 x c < 2 ^ FloatKind.f32.format.width := by
    rw [h4]
    exact FloatKind.f32.format.div_lt (x := x) (y := c) e
  rw [width32] at hlt
  exact ⟨h3, h4 ▸ near_Nn _ _ _, by simpa using hlt⟩
theorem mul_ok {x c : Nat} (hx : Nn x) {t : Bool} {M : Nat} {j : Int} (hc : FloatKind.f32.format.read c = .number t M j) (hM : M ≠ 0) : fok .mul .f32 x c = true ∧ fop .mul .f32 x c < 4294967296 := by
  have e : ∃ r, floatBits .mul .f32 x c = some r := by
    have : floatBits .mul .f32 x c = ((FloatKind.f32.format.read x).product (FloatKind.f32.format.read c)).map FloatKind.f32.format.write := rfl
    rw [this, hc]
    rcases hx with ⟨s, m, k, h1⟩ | ⟨s, h1⟩
    · rw [h1]
      exact ⟨_, rfl⟩
    · rw [h1]
      unfold Ieee.Datum.product
      simp only
      rw [if_neg hM]
      exact ⟨_, rfl⟩
  obtain ⟨r, e⟩ := e
  obtain ⟨h3, h4⟩ := fop_of e
  have hlt : fop .mul .f32 x c < 2 ^ FloatKind.f32.format.width := by
    rw [h4]
    exact FloatKind.f32.format.mul_lt (x := x) (y := c) e
  rw [width32] at hlt
  exact ⟨h3, by simpa using hlt⟩
theorem r7 : FloatKind.f32.format.read 1088421888 = .number false 14680064 (-21) := by decide
theorem r16 : FloatKind.f32.format.read 1098907648 = .number false 8388608 (-19) := by decide
theorem plain_ok {l : List Int} (hl : okS l) (a s : Int) (h0 : 0 ≤ a) (h1 : a ≤ 90000) : ∃ x a' s', spec_l01DrawPlain.f l a s = some (x, a', s') ∧ Nn x ∧ x < 4294967296 ∧ 0 ≤ a' ∧ a' ≤ a + 4 := by
  unfold spec_l01DrawPlain.f
  obtain ⟨v, a', s', e, hv0, hv1, h2, h3⟩ := pick_ok hl a s 129 h0 (by omega) (by decide)
  rw [e]
  simp only [Option.bind_some]
  obtain ⟨o, b', t', e2, h4, h5⟩ := one_ok hl a' s' 4 h2 (by omega) (by decide)
  rw [e2]
  simp only [Option.bind_some]
  rw [wid (by omega) (by omega)]
  obtain ⟨q1, q2, q3⟩ := quo_ok (Zr_int (v - 64) (by omega)) r7 (by decide)
  obtain ⟨p1, p2, p3⟩ := quo_ok (Zr_int (v - 64) (by omega)) r16 (by decide)
  cases o with
  | true =>
    rw [if_pos rfl, if_pos q1]
    exact ⟨_, _, _, rfl, q2, q3, h4, by omega⟩
  | false =>
    rw [if_neg (by decide), if_pos p1]
    exact ⟨_, _, _, rfl, p2, p3, h4, by omega⟩
theorem from_lt (n : Int) : ((n % 4294967296).toNat) < 4294967296 := by omega
theorem from_num : ∀ v ∈ ([8388608, 2130706432, 1610612736, 536870912] : List Int), ∃ M j, M ≠ 0 ∧ FloatKind.f32.format.read ((v % 4294967296).toNat) = .number false M j := by
  intro v hv
  simp only [List.mem_cons, List.not_mem_nil, or_false] at hv
  rcases hv with rfl | rfl | rfl | rfl
  · exact ⟨8388608, -149, by decide, by decide⟩
  · exact ⟨8388608, 104, by decide, by decide⟩
  · exact ⟨8388608, 42, by decide, by decide⟩
  · exact ⟨8388608, -86, by decide, by decide⟩
theorem float_ok {l : List Int} (hl : okS l) (a s : Int) (h0 : 0 ≤ a) (h1 : a ≤ 80000) : ∃ x a' s', spec_l01DrawFloat.f l a s = some (x, a', s') ∧ x < 4294967296 ∧ 0 ≤ a' ∧ a' ≤ a + 20 := by
  unfold spec_l01DrawFloat.f
  obtain ⟨o, b1, t1, e1, h2, h3⟩ := one_ok hl a s 12 h0 (by omega) (by decide)
  rw [e1]
  simp only [Option.bind_some]
  cases o with
  | false =>
    rw [if_neg (by decide)]
    obtain ⟨x, b2, t2, e2, _, q, h4, h5⟩ := plain_ok hl b1 t1 h2 (by omega)
    rw [e2]
    exact ⟨x, b2, t2, rfl, q, h4, by omega⟩
  | true =>
    rw [if_pos rfl]
    obtain ⟨v, b2, t2, e2, hv0, hv1, h4, h5⟩ := pick_ok hl b1 t1 4 h2 (by omega) (by decide)
    rw [e2]
    simp only [Option.bind_some]
    by_cases c0 : v = 0
    · rw [if_pos c0]
      obtain ⟨y, b3, t3, e3, _, h6, h7⟩ := among_ok hl b2 t2 [0, 2147483648, 2139095040, 4286578688, 2143289344, 1, 2139095039, 8388608, 8388607, 2147483649] h4 (by omega) (by decide)
      rw [e3]
      simp only [Option.bind_some, XM.l01From.f]
      exact ⟨_, _, _, rfl, from_lt _, h6, by omega⟩
    · rw [if_neg c0]
      by_cases c1 : v = 1
      · rw [if_pos c1]
        obtain ⟨y, b3, t3, e3, _, _, h6, h7⟩ := pick_ok hl b2 t2 65536 h4 (by omega) (by decide)
        rw [e3]
        simp only [Option.bind_some]
        obtain ⟨z, b4, t4, e4, _, _, h8, h9⟩ := pick_ok hl b3 t3 65536 h6 (by omega) (by decide)
        rw [e4]
        simp only [Option.bind_some, XM.l01From.f]
        exact ⟨_, _, _, rfl, from_lt _, h8, by omega⟩
      · rw [if_neg c1]
        by_cases c2 : v = 2
        · rw [if_pos c2]
          obtain ⟨y, b3, t3, e3, _, _, h6, h7⟩ := pick_ok hl b2 t2 65536 h4 (by omega) (by decide)
          rw [e3]
          simp only [Option.bind_some, XM.l01From.f]
          exact ⟨_, _, _, rfl, from_lt _, h6, by omega⟩
        · rw [if_neg c2]
          obtain ⟨x, b3, t3, e3, hN, q, h6, h7⟩ := plain_ok hl b2 t2 h4 (by omega)
          rw [e3]
          simp only [Option.bind_some]
          obtain ⟨y, b4, t4, e4, hy, h8, h9⟩ := among_ok hl b3 t3 [8388608, 2130706432, 1610612736, 536870912] h6 (by omega) (by decide)
          rw [e4]
          simp only [Option.bind_some, XM.l01From.f]
          obtain ⟨M, j, hM, hr⟩ := from_num y hy
          obtain ⟨m1, m2⟩ := mul_ok hN hr hM
          rw [if_pos m1]
          exact ⟨_, _, _, rfl, m2, h8, by omega⟩
def W2 (p : Nat × Nat) : Prop := p.1 < 4294967296 ∧ p.2 < 4294967296
theorem drawc_ok {l : List Int} (hl : okS l) (a s : Int) (h0 : 0 ≤ a) (h1 : a ≤ 50000) : ∃ p a' s', spec_l01DrawComplex.f l a s = some (p, a', s') ∧ W2 p ∧ 0 ≤ a' ∧ a' ≤ a + 40 := by
  unfold spec_l01DrawComplex.f
  obtain ⟨x, b1, t1, e1, hx, h2, h3⟩ := float_ok hl a s h0 (by omega)
  rw [e1]
  simp only [Option.bind_some]
  obtain ⟨y, b2, t2, e2, hy, h4, h5⟩ := float_ok hl b1 t1 h2 (by omega)
  rw [e2]
  exact ⟨(x, y), b2, t2, rfl, ⟨hx, hy⟩, h4, by omega⟩
theorem fine_ok {l : List Int} (hl : okS l) (a s : Int) (h0 : 0 ≤ a) (h1 : a ≤ 50000) : ∃ p a' s', spec_l01DrawFine.f l a s = some (p, a', s') ∧ W2 p ∧ 0 ≤ a' ∧ a' ≤ a + 40 := by
  unfold spec_l01DrawFine.f
  obtain ⟨v, b1, t1, e1, hv0, hv1, h2, h3⟩ := pick_ok hl a s 65 h0 (by omega) (by decide)
  rw [e1]
  simp only [Option.bind_some]
  obtain ⟨u, b2, t2, e2, hu0, hu1, h4, h5⟩ := pick_ok hl b1 t1 65 h2 (by omega) (by decide)
  rw [e2]
  simp only [Option.bind_some]
  rw [wid (i := v - 32) (by omega) (by omega), wid (i := u - 32) (by omega) (by omega)]
  obtain ⟨q1, _, q3⟩ := quo_ok (Zr_int (v - 32) (by omega)) r16 (by decide)
  obtain ⟨p1, _, p3⟩ := quo_ok (Zr_int (u - 32) (by omega)) r16 (by decide)
  rw [if_pos q1, if_pos p1]
  exact ⟨_, _, _, rfl, ⟨q3, p3⟩, h4, by omega⟩
theorem list_ok {l : List Int} (hl : okS l) : ∀ (n k : Nat) (out : List (Nat × Nat)) (b : Bool) (a s : Int), n < k → out.length + n ≤ 1000 → (∀ p ∈ out, W2 p) → 0 ≤ a → a + 40 * n ≤ 50000 →
    ∃ r a' s', spec_l01DrawComplexes.l0 k (n : Int) out b l a s = some (r, a', s') ∧ (∀ p ∈ r, W2 p) ∧ r.length = out.length + n := by
  intro n
  induction n with
  | zero =>
    intro k out b a s hk hn hw h0 h1
    obtain ⟨k, rfl⟩ : ∃ m, k = m + 1 := ⟨k - 1, by omega⟩
    simp only [spec_l01DrawComplexes.l0]
    rw [if_neg (by decide)]
    exact ⟨_, _, _, rfl, hw, rfl⟩
  | succ n ih =>
    intro k out b a s hk hn hw h0 h1
    obtain ⟨k, rfl⟩ : ∃ m, k = m + 1 := ⟨k - 1, by omega⟩
    simp only [spec_l01DrawComplexes.l0]
    have e1 : wrap64 (((n + 1 : Nat) : Int) - 1) = (n : Int) := by rw [wid (by omega) (by omega)]; omega
    rw [if_pos (by omega), e1]
    have hstep (p : Nat × Nat) (hp : W2 p) (a' s' : Int) (h2 : 0 ≤ a') (h3 : a' ≤ a + 40) : ∃ r a'' s'', spec_l01DrawComplexes.l0 k (n : Int) (out ++ [p]) b l a' s' = some (r, a'', s'') ∧ (∀ p ∈ r, W2 p) ∧ r.length = out.length + (n + 1) := by
      obtain ⟨r, a'', s'', e, hr, hlen⟩ := ih k (out ++ [p]) b a' s' (by omega) (by simp; omega) (by
        intro q hq
        rcases List.mem_append.1 hq with h | h
        · exact hw q h
        · rw [List.mem_singleton.1 h]; exact hp) h2 (by omega)
      exact ⟨r, a'', s'', e, hr, by rw [hlen]; simp; omega⟩
    cases b with
    | true =>
      rw [if_pos rfl]
      obtain ⟨p, a', s', e, hp, h2, h3⟩ := drawc_ok hl a s h0 (by omega)
      rw [e]
      simp only [Option.bind_some]
      rw [if_pos (by omega)]
      exact hstep p hp a' s' h2 h3
    | false =>
      rw [if_neg (by decide)]
      obtain ⟨p, a', s', e, hp, h2, h3⟩ := fine_ok hl a s h0 (by omega)
      rw [e]
      simp only [Option.bind_some]
      rw [if_pos (by omega)]
      exact hstep p hp a' s' h2 h3
theorem any_ok {l : List Int} (hl : okS l) (n k : Nat) (hn : n ≤ 8) (hk : 10 < k) : ∃ r, spec_B10Any.f k l (n : Int) = some r ∧ (∀ p ∈ r, W2 p) ∧ r.length = n := by
  unfold spec_B10Any.f spec_l00From.f spec_l01DrawComplexes.f
  simp only [Option.bind_some]
  obtain ⟨o, b1, t1, e1, h2, h3⟩ := one_ok hl 0 0 5 (by decide) (by decide) (by decide)
  rw [e1]
  simp only [Option.bind_some]
  obtain ⟨r, a', s', e, hr, hlen⟩ := list_ok hl n k [] o b1 t1 (by omega) (by simp; omega) (by intro p hp; cases hp) h2 (by omega)
  rw [e]
  exact ⟨r, rfl, hr, by simpa using hlen⟩
theorem at_ok {l : List Int} (hl : okS l) : ∃ n : Nat, laws_b10At.f l 0 9 = some (n : Int) ∧ n ≤ 8 := by
  unfold laws_b10At.f
  rw [if_neg (by decide)]
  have hr := rd_ok hl 0
  by_cases c : 0 < (l.length : Int)
  · rw [if_pos c, if_pos (by decide), if_neg (by decide), wid (by omega) (by omega)]
    have := tmod_ok (x := rd l 0) (n := 9) (by omega) (by decide)
    exact ⟨(Int.tmod (rd l 0) 9).toNat, by rw [Int.toNat_of_nonneg this.1], by omega⟩
  · rw [if_neg c, if_neg (by decide)]
    rw [wid (i := 0 * 37) (by decide) (by decide), wid (i := 0 * 37 + 11) (by decide) (by decide)]
    exact ⟨2, rfl, by decide⟩
theorem number_ok {l : List Int} (hl : okS l) : ∃ x, spec_B10Number.f l = some x ∧ x < 4294967296 := by
  unfold spec_B10Number.f spec_l00From.f
  simp only [Option.bind_some]
  obtain ⟨o, b1, t1, e1, h2, h3⟩ := one_ok hl 0 0 2 (by decide) (by decide) (by decide)
  rw [e1]
  simp only [Option.bind_some]
  cases o with
  | true =>
    rw [if_pos rfl]
    obtain ⟨y, b2, t2, e2, _, _, h4, h5⟩ := pick_ok hl b1 t1 65536 h2 (by omega) (by decide)
    rw [e2]
    simp only [Option.bind_some]
    obtain ⟨z, b3, t3, e3, _, _, h6, h7⟩ := pick_ok hl b2 t2 65536 h4 (by omega) (by decide)
    rw [e3]
    simp only [Option.bind_some, XM.l01From.f]
    exact ⟨_, rfl, from_lt _⟩
  | false =>
    rw [if_neg (by decide)]
    obtain ⟨x, b2, t2, e2, hx, _, _⟩ := float_ok hl b1 t1 h2 (by omega)
    rw [e2]
    exact ⟨_, rfl, hx⟩
theorem complex_ok {l : List Int} (hl : okS l) : ∃ p, spec_B10Complex.f l = some p ∧ W2 p := by
  unfold spec_B10Complex.f spec_l00From.f
  simp only [Option.bind_some]
  obtain ⟨o, b1, t1, e1, h2, h3⟩ := one_ok hl 0 0 4 (by decide) (by decide) (by decide)
  rw [e1]
  simp only [Option.bind_some]
  cases o with
  | true =>
    rw [if_pos rfl]
    obtain ⟨p, b2, t2, e2, hp, _, _⟩ := drawc_ok hl b1 t1 h2 (by omega)
    rw [e2]
    exact ⟨_, rfl, hp⟩
  | false =>
    rw [if_neg (by decide)]
    obtain ⟨p, b2, t2, e2, hp, _, _⟩ := fine_ok hl b1 t1 h2 (by omega)
    rw [e2]
    exact ⟨_, rfl, hp⟩
theorem whole_ok {l : List Int} (hl : okS l) (k : Nat) (hk : 5 < k) : ∃ a b : Int, spec_B10Whole.f k l 1 200 = some [(floatOfInt .f32 a, floatOfInt .f32 b)] ∧ (-200 ≤ a ∧ a ≤ 200) ∧ (-200 ≤ b ∧ b ≤ 200) := by
  obtain ⟨k, rfl⟩ : ∃ m, k = m + 2 := ⟨k - 2, by omega⟩
  unfold spec_B10Whole.f spec_l00From.f
  simp only [Option.bind_some]
  obtain ⟨x, b1, t1, e1, hx0, hx1, h2, h3⟩ := pick_ok hl 0 0 (2 * 200 + 1) (by decide) (by decide) (by decide)
  obtain ⟨y, b2, t2, e2, hy0, hy1, h4, h5⟩ := pick_ok hl b1 t1 (2 * 200 + 1) h2 (by omega) (by decide)
  simp only [spec_B10Whole.l0]
  rw [if_pos (by decide), wid (i := 2 * 200) (by decide) (by decide), wid (i := 2 * 200 + 1) (by decide) (by decide), e1]
  simp only [Option.bind_some]
  rw [e2]
  simp only [Option.bind_some]
  rw [if_pos (by simp), wid (i := 1 - 1) (by decide) (by decide), if_neg (by decide), wid (by omega) (by omega), wid (by omega) (by omega)]
  exact ⟨_, _, rfl, by omega, by omega⟩
end Go.Proofs.YtnnemdjbopdjmaaDoor.PDP
end
section
namespace Go.Proofs.YtnnemdjbopdjmaaDoor.T
open Go.Lib
def sp (c : UInt8) : List UInt8 → List (List UInt8)
  | [] => [[]]
  | x :: xs => if x = c then [] :: sp c xs else match sp c xs with
    | [] => [[x]]
    | p :: ps => (x :: p) :: ps
theorem sp_spec (c : UInt8) : ∀ s : List UInt8, (index s [c] = -1 ∧ sp c s = [s]) ∨ ∃ i : Nat, index s [c] = i ∧ i < s.length ∧ sp c s = s.take i :: sp c (s.drop (i + 1))
  | [] => .inl ⟨rfl, rfl⟩
  | b :: l => by
    by_cases hb : b = c
    · subst hb
      refine .inr ⟨0, ?_, by simp, by simp [sp]⟩
      unfold index
      simp
    · have e : index (b :: l) [c] = if index l [c] == -1 then -1 else index l [c] + 1 := by
        conv => lhs; unfold index
        rw [if_neg]
        simp only [List.isPrefixOf, Bool.and_true, beq_iff_eq]
        exact fun h => hb h.symm
      rcases sp_spec c l with ⟨h1, h2⟩ | ⟨i, h1, h2, h3⟩
      · refine .inl ⟨by rw [e, h1]; rfl, ?_⟩
        unfold sp
        rw [if_neg hb, h2]
      · refine .inr ⟨i + 1, ?_, by simp; omega, ?_⟩
        · rw [e, h1, if_neg (by simp)]
          rfl
        · conv => lhs; unfold sp
          rw [if_neg hb, h3]
          simp
theorem splitK_sp (c : UInt8) : ∀ (n : Nat) (s : List UInt8), s.length ≤ n → splitK [c] 0 (count s [c]) s = sp c s := by
  intro n
  induction n with
  | zero =>
    intro s hs
    have : s = [] := List.length_eq_zero_iff.1 (by omega)
    subst this
    rfl
  | succ n ih =>
    intro s hs
    rcases sp_spec c s with ⟨h1, h2⟩ | ⟨i, h1, h2, h3⟩
    · rw [count_miss h1, h2]; rfl
    · rw [count_hit (by simp) h1, Nat.add_comm, h3]
      unfold splitK
      have hm : ¬ (index s [c] == -1) = true := by rw [h1]; simp
      rw [if_neg hm]
      have e : (index s [c]).toNat = i := by rw [h1]; rfl
      rw [e]
      simp only [List.length_cons, List.length_nil, Nat.zero_add, Nat.add_zero]
      rw [ih (s.drop (i + 1)) (by simp; omega)]
def B (l : List UInt8) : ByteArray := ⟨l.toArray⟩
theorem B_data (s : ByteArray) : B s.data.toList = s := by cases s; simp [B]
theorem B_toList (l : List UInt8) : (B l).data.toList = l := by simp [B]
theorem B_size (l : List UInt8) : (B l).size = l.length := by simp [B, ByteArray.size]
theorem B_append (a b : List UInt8) : B a ++ B b = B (a ++ b) := by
  refine (B_data (B a ++ B b)).symm.trans (congrArg B ?_)
  simp [B]
theorem size_list (s : ByteArray) : s.size = s.data.toList.length := by rw [Array.length_toList]; rfl
theorem splitB_sp (c : UInt8) (s : ByteArray) : splitB ⟨#[c]⟩ 0 (countB s ⟨#[c]⟩) s = (sp c s.data.toList).map B := by
  have h := splitB_data ⟨#[c]⟩ 0 (countB s ⟨#[c]⟩) s
  have h2 : (([⟨#[c]⟩] : List ByteArray).map (·.data.toList)) = [[c]] := rfl
  have e : splitK [c] 0 (countB s ⟨#[c]⟩) s.data.toList = sp c s.data.toList := splitK_sp c _ _ (Nat.le_refl _)
  have h' : (splitB ⟨#[c]⟩ 0 (countB s ⟨#[c]⟩) s).map (·.data.toList) = sp c s.data.toList := h.trans e
  rw [← h', List.map_map]
  have : (B ∘ fun (x : ByteArray) => x.data.toList) = id := by funext x; exact B_data x
  rw [this, List.map_id]
theorem wrap_id {i : Int} (h0 : -9223372036854775808 ≤ i) (h : i ≤ 9223372036854775807) : RowKit.wrap64 i = i := by unfold RowKit.wrap64; omega
end Go.Proofs.YtnnemdjbopdjmaaDoor.T
end
section
set_option linter.unusedVariables false
set_option linter.unusedSimpArgs false
namespace Go.Proofs.YtnnemdjbopdjmaaDoor.PWP
open Go.RowKit Go.Proofs.YtnnemdjbopdjmaaDoor Go.Proofs.YtnnemdjbopdjmaaDoorW.PrintWords Go.Proofs.YtnnemdjbopdjmaaDoorW.PrintLast Go.Proofs.YtnnemdjbopdjmaaDoorW.PrintMore
open T XF XL PA
theorem w1 (i : Nat) (h : i ≤ 9223372036854775806) : wrap64 ((i : Int) + 1) = ((i + 1 : Nat) : Int) := by rw [wrap_id (by omega) (by omega)]; rfl
theorem bt_nat (s : ByteArray) (i : Nat) (h : i < s.size) : bt s (i : Int) = ((s.data.toList[i]'(by rw [← size_list]; exact h)).toNat : Int) := by
  unfold bt
  rw [dif_pos (by simpa using h)]
  simp only [Int.toNat_natCast]
  rfl
theorem bt_mid (p r : List UInt8) (b : UInt8) : bt (B (p ++ b :: r)) (p.length : Int) = (b.toNat : Int) := by
  rw [bt_nat _ _ (by rw [B_size]; simp)]
  simp [B]
def codes (l : List UInt8) : List Int := l.map fun b => (b.toNat : Int)
theorem strOf_codes (l : List UInt8) : strOfNums (codes l) = B l := by
  unfold strOfNums codes B
  rw [List.map_map]
  congr 2
  conv => rhs; rw [← List.map_id l]
  apply List.map_congr_left
  intro b _
  simp
theorem i64_and15 (n : Int) : Go.bits .and .i64 n 15 = n % 16 := by
  have h15 : (BitVec.ofInt 64 15).toNat = 2 ^ 4 - 1 := by decide
  have key : (BitVec.ofInt 64 n &&& BitVec.ofInt 64 15).toNat = (n % ((2 ^ 64 : Nat) : Int)).toNat % 2 ^ 4 := by
    rw [BitVec.toNat_and, BitVec.toNat_ofInt, h15, Nat.and_two_pow_sub_one_eq_mod]
  show IntKind.i64.wrap ((BitVec.ofInt 64 n &&& BitVec.ofInt 64 15).toNat : Nat) = n % 16
  rw [key, IntKind.wrap_i64]
  omega
abbrev dg : ByteArray := ⟨#[48, 49, 50, 51, 52, 53, 54, 55, 56, 57, 97, 98, 99, 100, 101, 102]⟩
def dig (n s : Int) : UInt8 := dg.data.toList.getD ((shr .i64 n s) % 16).toNat 0
theorem dig_bt (n s : Int) : bt dg ((shr .i64 n s) % 16) = ((dig n s).toNat : Int) := by
  have h0 : 0 ≤ (shr .i64 n s) % 16 := Int.emod_nonneg _ (by decide)
  have h1 : (shr .i64 n s) % 16 < 16 := Int.emod_lt_of_pos _ (by decide)
  obtain ⟨m, hm⟩ := Int.eq_ofNat_of_zero_le h0
  unfold dig
  rw [hm] at h1 ⊢
  rw [bt_nat dg m (by have : dg.size = 16 := rfl; omega)]
  simp only [Int.toNat_natCast]
  congr 1
  rw [List.getD_eq_getElem?_getD, List.getElem?_eq_getElem (by show m < 16; omega), Option.getD_some]
def hexd (n : Int) : Nat → List UInt8
  | 0 => []
  | d + 1 => dig n (4 * (d : Int)) :: hexd n d
theorem hexd_len (n : Int) : ∀ d, (hexd n d).length = d
  | 0 => rfl
  | d + 1 => by simp [hexd, hexd_len n d]
def H (x : Nat) : List UInt8 := hexd (XL.bits x) 8
theorem H_len (x : Nat) : (H x).length = 8 := hexd_len _ _
theorem hex_impl (x : Nat) : ∀ (d k : Nat) (acc : List UInt8), d ≤ 8 → d < k → acc.length + d ≤ 100 → PA.impl_hexText.l0 k x (codes acc) (4 * (d : Int) - 4) = some (B (acc ++ hexd (XL.bits x) d)) := by
  intro d
  induction d with
  | zero =>
    intro k acc hd hk ha
    obtain ⟨k, rfl⟩ : ∃ m, k = m + 1 := ⟨k - 1, by omega⟩
    simp only [PA.impl_hexText.l0]
    rw [if_neg (by omega), strOf_codes, hexd, List.append_nil]
  | succ d ih =>
    intro k acc hd hk ha
    obtain ⟨k, rfl⟩ : ∃ m, k = m + 1 := ⟨k - 1, by omega⟩
    have e : 4 * ((d + 1 : Nat) : Int) - 4 = 4 * (d : Int) := by omega
    rw [e]
    simp only [PA.impl_hexText.l0, XL.BitsOf.f, Option.bind_some, i64_and15]
    have h0 : 0 ≤ (shr .i64 (XL.bits x) (4 * (d : Int))) % 16 := Int.emod_nonneg _ (by decide)
    have h1 : (shr .i64 (XL.bits x) (4 * (d : Int))) % 16 < 16 := Int.emod_lt_of_pos _ (by decide)
    have hw : wrap64 (4 * (d : Int) - 4) = 4 * (d : Int) - 4 := wrap_id (by omega) (by omega)
    have hc : codes acc ++ [bt dg ((shr .i64 (XL.bits x) (4 * (d : Int))) % 16)] = codes (acc ++ [dig (XL.bits x) (4 * (d : Int))]) := by
      rw [dig_bt]; simp [codes]
    have hl : (codes acc).length < 140737488355328 := by simp [codes]; omega
    have g : 4 * (d : Int) ≥ 0 := by omega
    rw [if_pos g, if_pos g, if_pos h0, if_pos h1, if_pos hl, hw, hc, ih k _ (by omega) (by omega) (by simp; omega)]
    simp [hexd]
theorem hexText_f (x k : Nat) (hk : 8 < k) : PA.impl_hexText.f k x = some (B (H x)) := hex_impl x 8 k [] (by omega) hk (by simp)
theorem join_f (l : List (List UInt8)) (sep : UInt8) (h1 : l.length ≤ 1000000) (h2 : (Lib.join l [sep]).length ≤ 1000000000) : XT.strings_Join.f (l.map B) (⟨#[sep]⟩ : ByteArray) = some (B (Lib.join l [sep])) := by
  unfold XT.strings_Join.f
  have e : (l.map B).map (·.data.toList) = l := by
    rw [List.map_map]
    have : ((fun (x : ByteArray) => x.data.toList) ∘ B) = id := by funext x; exact B_toList x
    rw [this, List.map_id]
  have e2 : (⟨#[sep]⟩ : ByteArray).data.toList = [sep] := rfl
  rw [e, e2, if_pos ⟨by rw [List.length_map]; omega, by omega⟩]
  rfl
theorem joined_f (l : List (List UInt8)) (h0 : l ≠ []) (h1 : l.length ≤ 1000000) (h2 : (Lib.join l [44]).length ≤ 1000000000) : PA.impl_joined.f (l.map B) = some (B (Lib.join l [44])) := by
  unfold PA.impl_joined.f
  have : l.length ≠ 0 := by simpa using h0
  rw [if_neg (by rw [List.length_map]; omega), join_f l 44 h1 h2]
  rfl
def dv (b : UInt8) : Option Nat := if 48 ≤ b.toNat ∧ b.toNat ≤ 57 then some (b.toNat - 48) else if 97 ≤ b.toNat ∧ b.toNat ≤ 102 then some (b.toNat - 87) else none
def ph : List UInt8 → Nat → Option Nat
  | [], n => some n
  | b :: r, n => match dv b with
    | none => none
    | some d => ph r (16 * n + d)
theorem dv_lt {b : UInt8} {d : Nat} (h : dv b = some d) : d < 16 := by
  unfold dv at h
  split at h
  · cases h; omega
  · split at h
    · cases h; omega
    · cases h
def pn (p : List UInt8) : Option Nat := if p.length = 8 then match ph p 0 with
    | none => none
    | some m => if XL.bits m = (m : Int) then some m else none
  else none
theorem pw (e : Nat) (h : e ≤ 8) : 16 ^ e ≤ 4294967296 := by
  have : 16 ^ e ≤ 16 ^ 8 := Nat.pow_le_pow_right (by omega) h
  simpa using this
theorem ix_fin : ∀ n : Fin 256, Lib.indexByte dg.data.toList (UInt8.ofNat n.val) = match dv (UInt8.ofNat n.val) with | none => -1 | some d => (d : Int) := by decide +kernel
theorem ix_dv (b : UInt8) : Lib.indexByte dg.data.toList b = match dv b with | none => -1 | some d => (d : Int) := by
  have := ix_fin ⟨b.toNat, b.toNat_lt⟩
  simpa using this
theorem ix_f (b : UInt8) : XS.strings_IndexByte.f dg (b.toNat : Int) = some (match dv b with | none => -1 | some d => (d : Int)) := by
  unfold XS.strings_IndexByte.f
  rw [← ix_dv b]
  simp
theorem rn_ok (s : List UInt8) (h8 : s.length ≤ 8) : ∀ (rest pre : List UInt8) (n k : Nat), s = pre ++ rest → n < 16 ^ pre.length → rest.length < k →
    PA.impl_readNumber.l0 k (B s) (n : Int) ((B s).size : Int) (pre.length : Int) = match ph rest n with
      | none => some (0, false)
      | some m => if s.length = 8 then some (m, XL.bits m == (m : Int)) else some (m, false) := by
  intro rest
  induction rest with
  | nil =>
    intro pre n k hp hn hk
    rw [List.append_nil] at hp
    subst hp
    obtain ⟨k, rfl⟩ : ∃ m, k = m + 1 := ⟨k - 1, by omega⟩
    have hpw := pw s.length h8
    have hm : ((n : Int) % 4294967296).toNat = n := by omega
    simp only [PA.impl_readNumber.l0]
    rw [if_neg (by rw [B_size]; omega)]
    unfold XM.FromBits.f
    rw [if_pos ⟨by omega, by omega⟩]
    simp only [Option.bind_some, XL.BitsOf.f, hm, ph, B_size]
    by_cases h : s.length = 8
    · rw [if_pos h, if_pos (by omega)]
    · rw [if_neg h, if_neg (by omega)]
  | cons b rest ih =>
    intro pre n k hp hn hk
    simp only [List.length_cons] at hk
    obtain ⟨k, rfl⟩ : ∃ m, k = m + 1 := ⟨k - 1, by omega⟩
    have hlen : pre.length + (rest.length + 1) = s.length := by
      rw [hp]
      simp
    have hb : bt (B s) (pre.length : Int) = (b.toNat : Int) := by rw [hp]; exact bt_mid pre rest b
    have hpw := pw pre.length (by omega)
    simp only [PA.impl_readNumber.l0]
    rw [if_pos (by rw [B_size]; omega), if_pos (by omega), if_pos (by rw [B_size]; omega), hb, ix_f b]
    simp only [Option.bind_some, ph]
    cases hd : dv b with
    | none =>
      simp only
      rw [if_pos (by decide)]
    | some d =>
      have := dv_lt hd
      simp only
      have e1 : wrap64 (wrap64 ((n : Int) * 16) + (d : Int)) = ((16 * n + d : Nat) : Int) := by
        rw [wrap_id (i := (n : Int) * 16) (by omega) (by omega), wrap_id (by omega) (by omega)]
        omega
      have e2 : pre.length + 1 = (pre ++ [b]).length := by simp
      rw [if_neg (by omega), if_neg (by omega), e1, w1 pre.length (by omega), e2]
      exact ih (pre ++ [b]) (16 * n + d) k (by rw [hp]; simp) (by rw [← e2, Nat.pow_succ]; omega) (by omega)
theorem rn_long (s : List UInt8) (h8 : 8 < s.length) : ∀ (d : Nat) (rest pre : List UInt8) (n k : Nat), s = pre ++ rest → pre.length + d = 8 → n < 16 ^ pre.length → d < k →
    ∃ x, PA.impl_readNumber.l0 k (B s) (n : Int) ((B s).size : Int) (pre.length : Int) = some (x, false) := by
  intro d
  induction d with
  | zero =>
    intro rest pre n k hp hd8 hn hk
    obtain ⟨k, rfl⟩ : ∃ m, k = m + 1 := ⟨k - 1, by omega⟩
    cases rest with
    | nil =>
      rw [List.append_nil] at hp
      rw [hp] at h8
      omega
    | cons b rest =>
      have hb : bt (B s) (pre.length : Int) = (b.toNat : Int) := by rw [hp]; exact bt_mid pre rest b
      simp only [PA.impl_readNumber.l0]
      rw [if_pos (by rw [B_size]; omega), if_pos (by omega), if_pos (by rw [B_size]; omega), hb, ix_f b]
      simp only [Option.bind_some]
      cases hd : dv b with
      | none =>
        simp only
        rw [if_pos (by decide)]
        exact ⟨_, rfl⟩
      | some e =>
        simp only
        rw [if_neg (by omega), if_pos (by omega)]
        exact ⟨_, rfl⟩
  | succ d ih =>
    intro rest pre n k hp hd8 hn hk
    obtain ⟨k, rfl⟩ : ∃ m, k = m + 1 := ⟨k - 1, by omega⟩
    cases rest with
    | nil =>
      rw [List.append_nil] at hp
      rw [hp] at h8
      omega
    | cons b rest =>
      have hb : bt (B s) (pre.length : Int) = (b.toNat : Int) := by rw [hp]; exact bt_mid pre rest b
      have hpw := pw pre.length (by omega)
      simp only [PA.impl_readNumber.l0]
      rw [if_pos (by rw [B_size]; omega), if_pos (by omega), if_pos (by rw [B_size]; omega), hb, ix_f b]
      simp only [Option.bind_some]
      cases hd : dv b with
      | none =>
        simp only
        rw [if_pos (by decide)]
        exact ⟨_, rfl⟩
      | some e =>
        have := dv_lt hd
        simp only
        have e1 : wrap64 (wrap64 ((n : Int) * 16) + (e : Int)) = ((16 * n + e : Nat) : Int) := by
          rw [wrap_id (i := (n : Int) * 16) (by omega) (by omega), wrap_id (by omega) (by omega)]
          omega
        have e2 : pre.length + 1 = (pre ++ [b]).length := by simp
        rw [if_neg (by omega), if_neg (by omega), e1, w1 pre.length (by omega), e2]
        exact ih rest (pre ++ [b]) (16 * n + e) k (by rw [hp]; simp) (by rw [← e2]; omega) (by rw [← e2, Nat.pow_succ]; omega) (by omega)
theorem rn_f (s : List UInt8) (k : Nat) (hk : 10 ≤ k) : (∃ m, pn s = some m ∧ PA.impl_readNumber.f k (B s) = some (m, true)) ∨ (pn s = none ∧ ∃ x, PA.impl_readNumber.f k (B s) = some (x, false)) := by
  unfold PA.impl_readNumber.f
  by_cases h : s.length ≤ 8
  · have := rn_ok s h s [] 0 k rfl (by simp) (by omega)
    simp only [List.length_nil, Int.ofNat_zero] at this
    rw [this]
    unfold pn
    cases hp : ph s 0 with
    | none =>
      refine .inr ⟨?_, _, rfl⟩
      split <;> rfl
    | some m =>
      simp only
      by_cases h8 : s.length = 8
      · rw [if_pos h8, if_pos h8]
        by_cases hb : XL.bits m = (m : Int)
        · rw [if_pos hb]
          exact .inl ⟨m, rfl, by rw [beq_iff_eq.2 hb]⟩
        · rw [if_neg hb]
          exact .inr ⟨rfl, m, by rw [beq_eq_false_iff_ne.2 hb]⟩
      · rw [if_neg h8, if_neg h8]
        exact .inr ⟨rfl, _, rfl⟩
  · obtain ⟨x, hx⟩ := rn_long s (by omega) 8 s [] 0 k rfl (by simp) (by simp) (by omega)
    simp only [List.length_nil, Int.ofNat_zero] at hx
    refine .inr ⟨?_, x, hx⟩
    unfold pn
    rw [if_neg (by omega)]
theorem split_f (s : List UInt8) (c : UInt8) (hs : s.length ≤ 1073741824) : XS.strings_Split.f (B s) ⟨#[c]⟩ = some ((sp c s).map B) := by
  unfold XS.strings_Split.f
  rw [if_pos (by rw [B_size]; exact hs), if_pos (by exact Nat.le_refl 1), splitB_sp, B_toList]
theorem B_toList' (s : List UInt8) : (B s).toList = s := by rw [Lib.toList_data, B_toList]
theorem sp_no (c : UInt8) : ∀ s : List UInt8, c ∉ s → sp c s = [s]
  | [], _ => rfl
  | x :: xs, h => by
    simp only [List.mem_cons, not_or] at h
    unfold sp
    rw [if_neg (Ne.symm h.1), sp_no c xs h.2]
theorem sp_app (c : UInt8) : ∀ p q : List UInt8, c ∉ p → sp c (p ++ c :: q) = p :: sp c q
  | [], q, _ => by
    rw [List.nil_append]
    conv => lhs; unfold sp
    rw [if_pos rfl]
  | x :: p, q, h => by
    simp only [List.mem_cons, not_or] at h
    rw [List.cons_append]
    conv => lhs; unfold sp
    rw [if_neg (Ne.symm h.1), sp_app c p q h.2]
theorem dg_dv : ∀ i : Fin 16, dv (dg.data.toList.getD i.val 0) = some i.val := by decide
theorem dig_dv (n s : Int) : dv (dig n s) = some ((shr .i64 n s) % 16).toNat := by
  have h0 : 0 ≤ (shr .i64 n s) % 16 := Int.emod_nonneg _ (by decide)
  have h1 : (shr .i64 n s) % 16 < 16 := Int.emod_lt_of_pos _ (by decide)
  exact dg_dv ⟨((shr .i64 n s) % 16).toNat, by omega⟩
theorem no44 (n : Int) : ∀ d, (44 : UInt8) ∉ hexd n d
  | 0, h => by simp [hexd] at h
  | d + 1, h => by
    simp only [hexd, List.mem_cons] at h
    rcases h with h | h
    · have := dig_dv n (4 * (d : Int))
      rw [← h, show dv 44 = none from by decide] at this
      cases this
    · exact no44 n d h
theorem shr_nat (N d : Nat) (hd : d ≤ 7) : (shr .i64 (N : Int) (4 * (d : Int))) % 16 = ((N / 16 ^ d % 16 : Nat) : Int) := by
  unfold shr
  have e : min (4 * (d : Int)).toNat IntKind.i64.bits = 4 * d := by
    have : IntKind.i64.bits = 64 := rfl
    omega
  have e2 : (2 : Int) ^ (4 * d) = ((16 ^ d : Nat) : Int) := by
    rw [show (16 : Nat) = 2 ^ 4 from rfl, ← Nat.pow_mul, Int.natCast_pow]
    rfl
  rw [e, e2]
  norm_cast
theorem ph_hex (N : Nat) : ∀ (d acc : Nat), d ≤ 8 → ph (hexd (N : Int) d) acc = some (16 ^ d * acc + N % 16 ^ d)
  | 0, acc, _ => by simp [hexd, ph, Nat.mod_one]
  | d + 1, acc, hd => by
    have hv : dv (dig (N : Int) (4 * (d : Int))) = some (N / 16 ^ d % 16) := by
      rw [dig_dv, shr_nat N d (by omega), Int.toNat_natCast]
    simp only [hexd, ph, hv]
    rw [ph_hex N d _ (by omega), Nat.pow_succ, Nat.mod_mul]
    congr 1
    rw [Nat.mul_add, ← Nat.mul_assoc]
    omega
theorem bits_eq (x : Nat) (h : x < 4294967296) : XL.bits x = if isn .f32 x = true then 2143289344 else (x : Int) := by
  unfold XL.bits
  split
  · rfl
  · exact PDP.wid (by omega) (by omega)
theorem bits_b (x : Nat) (h : x < 4294967296) : 0 ≤ XL.bits x ∧ XL.bits x < 4294967296 := by
  rw [bits_eq x h]
  split <;> omega
theorem nan_c : isn .f32 2143289344 = true := by decide
theorem bits_bits (x : Nat) (h : x < 4294967296) : XL.bits (XL.bits x).toNat = ((XL.bits x).toNat : Int) := by
  have hb := bits_b x h
  rw [bits_eq (XL.bits x).toNat (by omega), bits_eq x h]
  by_cases c : isn .f32 x = true
  · rw [if_pos c]
    rw [if_pos (show isn .f32 (2143289344 : Int).toNat = true from nan_c)]
    rfl
  · rw [if_neg c, Int.toNat_natCast, if_neg c]
theorem pn_H (x : Nat) (h : x < 4294967296) : pn (H x) = some (XL.bits x).toNat := by
  have hb := bits_b x h
  unfold pn
  rw [if_pos (H_len x)]
  have e : H x = hexd (((XL.bits x).toNat : Nat) : Int) 8 := by unfold H; rw [Int.toNat_of_nonneg hb.1]
  rw [e, ph_hex _ 8 0 (by decide)]
  have e2 : 16 ^ 8 * 0 + (XL.bits x).toNat % 16 ^ 8 = (XL.bits x).toNat := by
    rw [Nat.mul_zero, Nat.zero_add]
    exact Nat.mod_eq_of_lt (by have : (16 : Nat) ^ 8 = 4294967296 := by decide
                               omega)
  rw [e2]
  simp only
  rw [if_pos (bits_bits x h)]
def HC (p : Nat × Nat) : List UInt8 := H p.1 ++ H p.2
theorem HC_len (p : Nat × Nat) : (HC p).length = 16 := by simp [HC, H_len]
theorem C_l0 : ∀ (rest pre : List (Nat × Nat)) (k : Nat), rest.length + 9 < k → pre.length + rest.length ≤ 1000 →
    impl_ComplexText.l0 k ((pre.map HC).map B) (pre ++ rest) (((pre ++ rest).length : Nat) : Int) (pre.length : Int) = (impl_joined.f (((pre ++ rest).map HC).map B)).bind fun t => some (t, true) := by
  intro rest
  induction rest with
  | nil =>
    intro pre k hk hp
    obtain ⟨k, rfl⟩ : ∃ m, k = m + 1 := ⟨k - 1, by omega⟩
    simp only [impl_ComplexText.l0]
    rw [if_neg (by simp)]
    simp only [List.append_nil]
  | cons x rest ih =>
    intro pre k hk hp
    simp only [List.length_cons] at hk hp
    obtain ⟨k, rfl⟩ : ∃ m, k = m + 1 := ⟨k - 1, by omega⟩
    have hrd : rdOf ((0, 0) : Nat × Nat) (pre ++ x :: rest) (pre.length : Int) = x := by simp [rdOf]
    have hlt : (pre.length : Int) < (((pre ++ x :: rest).length : Nat) : Int) := by simp; omega
    simp only [impl_ComplexText.l0]
    rw [if_pos hlt, if_pos (by omega), if_pos hlt, hrd, hexText_f x.1 k (by omega), hexText_f x.2 k (by omega)]
    simp only [Option.bind_some]
    have e : pre ++ x :: rest = (pre ++ [x]) ++ rest := by simp
    have e2 : pre.length + 1 = (pre ++ [x]).length := by simp
    have e3 : (pre.map HC).map B ++ [B (H x.1) ++ B (H x.2)] = ((pre ++ [x]).map HC).map B := by simp [HC, B_append]
    rw [if_pos (by rw [B_size, B_size, H_len, H_len]; decide), if_pos (by simp only [List.length_map]; omega), w1 pre.length (by omega), e, e2, e3]
    exact ih (pre ++ [x]) k (by omega) (by simp; omega)
def CT (xs : List (Nat × Nat)) : List UInt8 := match xs with
  | [] => [110, 111, 110, 101]
  | _ => Lib.join (xs.map HC) [44]
theorem lens_HC : ∀ xs : List (Nat × Nat), Lib.lens (xs.map HC) = 16 * xs.length
  | [] => rfl
  | x :: xs => by
    have := lens_HC xs
    simp only [Lib.lens, List.map_cons, List.sum_cons, HC_len, List.length_cons] at this ⊢
    omega
theorem CT_len (xs : List (Nat × Nat)) : (CT xs).length ≤ 17 * xs.length + 16 := by
  cases xs with
  | nil => decide
  | cons x xs =>
    show (Lib.join ((x :: xs).map HC) [44]).length ≤ _
    rw [List.map_cons, Lib.join_cons, List.length_append, HC_len, Lib.joinTail_length, lens_HC]
    simp only [List.length_cons, List.length_nil, List.length_map]
    omega
theorem CT_ge (x : Nat × Nat) (xs : List (Nat × Nat)) : 16 ≤ (CT (x :: xs)).length := by
  show 16 ≤ (Lib.join ((x :: xs).map HC) [44]).length
  rw [List.map_cons, Lib.join_cons, List.length_append, HC_len]
  omega
theorem ctext_f (xs : List (Nat × Nat)) (hx : xs.length ≤ 100) (k : Nat) (hk : 200 < k) : impl_ComplexText.f k xs = some (B (CT xs), true) := by
  unfold impl_ComplexText.f impl_complexOk.f
  simp only [Option.bind_some]
  rw [if_pos (by simp; omega)]
  have := C_l0 xs [] k (by omega) (by simp; omega)
  simp only [List.nil_append, List.map_nil, List.length_nil] at this
  refine Eq.trans this ?_
  cases xs with
  | nil => rfl
  | cons x xs =>
    have hl : (Lib.join ((x :: xs).map HC) [44]).length ≤ 1000000000 := by
      have := CT_len (x :: xs)
      have e : CT (x :: xs) = Lib.join ((x :: xs).map HC) [44] := rfl
      rw [e] at this
      omega
    rw [joined_f ((x :: xs).map HC) (by simp) (by rw [List.length_map]; omega) hl]
    rfl
theorem no44_HC (p : Nat × Nat) : (44 : UInt8) ∉ HC p := by
  unfold HC
  intro h
  rcases List.mem_append.1 h with h | h
  · exact no44 _ _ h
  · exact no44 _ _ h
theorem sp_tail : ∀ (xs : List (Nat × Nat)) (x : Nat × Nat), sp 44 (HC x ++ Lib.joinTail [44] (xs.map HC)) = HC x :: xs.map HC
  | [], x => by
    show sp 44 (HC x ++ []) = _
    rw [List.append_nil, sp_no 44 _ (no44_HC x)]
    rfl
  | y :: ys, x => by
    have e : Lib.joinTail [44] ((y :: ys).map HC) = 44 :: (HC y ++ Lib.joinTail [44] (ys.map HC)) := by
      simp [Lib.joinTail]
    rw [e, sp_app 44 _ _ (no44_HC x), sp_tail ys y]
    rfl
theorem sp_CT (x : Nat × Nat) (xs : List (Nat × Nat)) : sp 44 (CT (x :: xs)) = (x :: xs).map HC := by
  show sp 44 (Lib.join ((x :: xs).map HC) [44]) = _
  rw [List.map_cons, Lib.join_cons, sp_tail]
theorem cparted_f (xs : List (Nat × Nat)) (hx : xs.length ≤ 100) : impl_parted.f (B (CT xs)) = some ((xs.map HC).map B) := by
  unfold impl_parted.f
  rw [B_toList']
  cases xs with
  | nil => rfl
  | cons x xs =>
    have h16 := CT_ge x xs
    have hle := CT_len (x :: xs)
    rw [if_neg (fun h => by rw [h] at h16; exact absurd h16 (by decide)), split_f _ 44 (by omega), sp_CT]
    rfl
def bp (p : Nat × Nat) : Nat × Nat := ((XL.bits p.1).toNat, (XL.bits p.2).toNat)
theorem rnH (x : Nat) (h : x < 4294967296) (k : Nat) (hk : 10 ≤ k) : impl_readNumber.f k (B (H x)) = some ((XL.bits x).toNat, true) := by
  rcases rn_f (H x) k hk with ⟨m, h1, h2⟩ | ⟨h1, _⟩
  · rw [pn_H x h] at h1
    obtain rfl := Option.some.inj h1
    exact h2
  · rw [pn_H x h] at h1
    cases h1
theorem ext_l (p : Nat × Nat) : (B (HC p)).extract 0 8 = B (H p.1) := by
  refine ByteArray.ext ?_
  simp [B, HC, H_len, ByteArray.extract, ByteArray.copySlice]
theorem ext_r (p : Nat × Nat) : (B (HC p)).extract 8 (B (HC p)).size = B (H p.2) := by
  rw [B_size, HC_len]
  refine ByteArray.ext ?_
  have ht : List.take 8 (H p.2) = H p.2 := List.take_of_length_le (by rw [H_len]; exact Nat.le_refl 8)
  simp [B, HC, H_len, ByteArray.extract, ByteArray.copySlice, ht]
theorem R_l0 : ∀ (rest pre out : List (Nat × Nat)) (k : Nat), 2 * rest.length + 30 < k → pre.length + rest.length ≤ 200 → out.length = pre.length → (∀ p ∈ rest, PDP.W2 p) →
    impl_ReadComplex.l0 k out (((pre ++ rest).map HC).map B) ((((pre ++ rest).map HC).map B).length : Int) (pre.length : Int) = some (out ++ rest.map bp, true) := by
  intro rest
  induction rest with
  | nil =>
    intro pre out k hk hp ho hw
    obtain ⟨k, rfl⟩ : ∃ m, k = m + 1 := ⟨k - 1, by omega⟩
    simp only [impl_ReadComplex.l0]
    rw [if_neg (by simp)]
    simp
  | cons p rest ih =>
    intro pre out k hk hp ho hw
    simp only [List.length_cons] at hk hp
    obtain ⟨k, rfl⟩ : ∃ m, k = m + 2 := ⟨k - 2, by omega⟩
    have hrd : rdOf ByteArray.empty (((pre ++ p :: rest).map HC).map B) (pre.length : Int) = B (HC p) := by simp [rdOf]
    have hlt : (pre.length : Int) < ((((pre ++ p :: rest).map HC).map B).length : Int) := by simp; omega
    have e : pre ++ p :: rest = (pre ++ [p]) ++ rest := by simp
    have e2 : pre.length + 1 = (pre ++ [p]).length := by simp
    have hsz : ((B (HC p)).size : Int) = 16 := by rw [B_size, HC_len]; rfl
    obtain ⟨hw1, hw2⟩ := hw p (List.mem_cons_self ..)
    have hne : ((out.length : Int) == 256) = false := beq_eq_false_iff_ne.2 (by omega)
    have x1 := ext_l p
    have x2 := ext_r p
    simp only [impl_ReadComplex.l0, impl_ReadComplex.j1]
    rw [if_pos hlt, if_pos (by omega), if_pos hlt, hrd, if_pos hsz, hne, if_neg (by decide), if_pos (by decide), if_pos (by rw [hsz]; decide), x1, x2, rnH p.1 hw1 k (by omega), rnH p.2 hw2 k (by omega)]
    simp only [Option.bind_some, if_true]
    rw [if_pos (by omega), w1 pre.length (by omega), e, e2, show ((XL.bits p.1).toNat, (XL.bits p.2).toNat) = bp p from rfl, ih (pre ++ [p]) (out ++ [bp p]) k (by omega) (by simp; omega) (by simp; omega) (fun q hq => hw q (List.mem_cons_of_mem _ hq))]
    simp
theorem cread_f (xs : List (Nat × Nat)) (hx : xs.length ≤ 100) (hw : ∀ p ∈ xs, PDP.W2 p) (k : Nat) (hk : 300 < k) : impl_ReadComplex.f k (B (CT xs)) = some (xs.map bp, true) := by
  unfold impl_ReadComplex.f
  rw [cparted_f xs hx]
  simp only [Option.bind_some]
  have := R_l0 xs [] [] k (by omega) (by simp; omega) rfl hw
  simp only [List.nil_append, List.length_nil] at this
  exact this
theorem csame (p : Nat × Nat) (h : PDP.W2 p) : spec_SameComplex.f (bp p) p = some true := by
  unfold spec_SameComplex.f spec_l01CSame.f spec_l01Same.f XL.l01Bits.f bp
  have b1 := bits_b p.1 h.1
  have b2 := bits_b p.2 h.2
  have e1 := bits_bits p.1 h.1
  have e2 := bits_bits p.2 h.2
  rw [Int.toNat_of_nonneg b1.1] at e1
  rw [Int.toNat_of_nonneg b2.1] at e2
  simp only [Option.bind_some, e1, e2, beq_self_eq_true, if_true]
theorem S_l0 : ∀ (rest pre : List (Nat × Nat)) (k : Nat), rest.length < k → pre.length + rest.length ≤ 200 → (∀ p ∈ rest, PDP.W2 p) →
    laws_b10Same.l0 k ((pre ++ rest).map bp) (pre ++ rest) (((pre ++ rest).map bp).length : Int) (pre.length : Int) = some true := by
  intro rest
  induction rest with
  | nil =>
    intro pre k hk hp hw
    obtain ⟨k, rfl⟩ : ∃ m, k = m + 1 := ⟨k - 1, by omega⟩
    simp only [laws_b10Same.l0]
    rw [if_neg (by simp)]
  | cons p rest ih =>
    intro pre k hk hp hw
    simp only [List.length_cons] at hk hp
    obtain ⟨k, rfl⟩ : ∃ m, k = m + 1 := ⟨k - 1, by omega⟩
    have r1 : rdOf ((0, 0) : Nat × Nat) ((pre ++ p :: rest).map bp) (pre.length : Int) = bp p := by simp [rdOf]
    have r2 : rdOf ((0, 0) : Nat × Nat) (pre ++ p :: rest) (pre.length : Int) = p := by simp [rdOf]
    have hlt : (pre.length : Int) < (((pre ++ p :: rest).map bp).length : Int) := by simp; omega
    have hlt2 : (pre.length : Int) < ((pre ++ p :: rest).length : Int) := by simp; omega
    have e : pre ++ p :: rest = (pre ++ [p]) ++ rest := by simp
    have e2 : pre.length + 1 = (pre ++ [p]).length := by simp
    simp only [laws_b10Same.l0]
    rw [if_pos hlt, if_pos (by omega), if_pos hlt, if_pos hlt2, r1, r2, csame p (hw p (List.mem_cons_self ..))]
    simp only [Option.bind_some, if_true]
    rw [w1 pre.length (by omega), e, e2]
    exact ih (pre ++ [p]) k (by omega) (by simp; omega) (fun q hq => hw q (List.mem_cons_of_mem _ hq))
theorem clist_same (xs : List (Nat × Nat)) (hx : xs.length ≤ 100) (hw : ∀ p ∈ xs, PDP.W2 p) (k : Nat) (hk : 300 < k) : laws_b10Same.f k (xs.map bp) xs = some true := by
  unfold laws_b10Same.f
  rw [if_pos (by simp)]
  have := S_l0 xs [] k (by omega) (by simp; omega) hw
  simp only [List.nil_append, List.length_nil] at this
  exact this
end Go.Proofs.YtnnemdjbopdjmaaDoor.PWP
end
section
set_option linter.unusedVariables false
set_option linter.unusedSimpArgs false
namespace Go.Proofs.YtnnemdjbopdjmaaDoor.PH
open Go.RowKit Go.Proofs.YtnnemdjbopdjmaaDoor Go.Proofs.YtnnemdjbopdjmaaDoorW.PrintWords
open Go.Proofs.YtnnemdjbopdjmaaDoor.PI (Zd Zr nearest_shift cut_zero' opp_Z)
open Go.Proofs.YtnnemdjbopdjmaaDoor.PF (Zr64)
open Go.Proofs.YtnnemdjbopdjmaaDoor.PG
theorem cok_of {s k : FloatKind} {x r : Nat} (h : floatToFloatBits s x k = some r) : cok s x k = true ∧ cvt s x k = r := by
  unfold cok cvt
  rw [h]
  exact ⟨rfl, rfl⟩
theorem fop_of {op : BinOp} {k : FloatKind} {x y r : Nat} (h : floatBits op k x y = some r) : fok op k x y = true ∧ fop op k x y = r := by
  unfold fok fop
  rw [h]
  exact ⟨rfl, rfl⟩
theorem wide_Z {x : Nat} {n : Int} (hx : Zr x n) : cok .f32 x .f64 = true ∧ Zr64 (cvt .f32 x .f64) n := by
  obtain ⟨s, m, k, h1, rfl⟩ := hx
  obtain ⟨b, j, hh⟩ := wide_num h1
  rcases hh with ⟨g1, g2⟩ | ⟨g0, g1, g2⟩
  · obtain ⟨c1, c2⟩ := cok_of g1
    refine ⟨c1, s, m, k + j, ?_, rfl⟩
    rw [c2, g2, Nat.pow_add, Nat.mul_assoc]
    congr 1
    omega
  · obtain ⟨c1, c2⟩ := cok_of g1
    have m0 : m = 0 := by
      rcases Nat.mul_eq_zero.1 g0 with h | h
      · exact h
      · exact absurd h (Nat.pos_iff_ne_zero.1 (Nat.two_pow_pos k))
    obtain ⟨j, hj⟩ : ∃ j : Nat, (-1074 : Int) = -(j : Int) := ⟨1074, rfl⟩
    refine ⟨c1, s, 0, j, ?_, by rw [m0]⟩
    rw [c2, g2, Nat.zero_mul, hj]
theorem narrow_Z {b : Nat} {n : Int} (hb : Zr64 b n) (h : n.natAbs < 16777216) : cok .f64 b .f32 = true ∧ Zr (cvt .f64 b .f32) n := by
  obtain ⟨s, m, k, h1, rfl⟩ := hb
  have hm : m < 16777216 := by
    have : (if s = true then -(m : Int) else (m : Int)).natAbs = m := by cases s <;> simp
    omega
  have hz := PI.Zr_near s m k hm
  have hdec : FloatKind.f64.decode b = .number s (m * 2 ^ k) (-(k : Int)) := h1
  have e : floatToFloatBits .f64 b .f32 = some (FloatKind.f32.format.nearest s (m * 2 ^ k) (-(k : Int))) := by
    unfold floatToFloatBits
    rw [if_neg ne_kind', hdec]
    simp only
    rw [if_neg]
    · rfl
    · show ¬ ((FloatKind.f32.format.read (FloatKind.f32.format.nearest s (m * 2 ^ k) (-(k : Int)))).isInfinity = true)
      obtain ⟨s', m', k', h2, _⟩ := hz
      rw [h2]
      intro c
      cases c
  obtain ⟨c1, c2⟩ := cok_of e
  exact ⟨c1, c2 ▸ hz⟩
theorem xor31 (x : Nat) (h : x < 4294967296) : x ^^^ 2147483648 = if x < 2147483648 then 2147483648 + x else x - 2147483648 := by
  have e31 : (2147483648 : Nat) = 2 ^ 31 := by decide
  have key (y : Nat) (hy : y < 2147483648) : y ^^^ 2147483648 = 2147483648 + y := by
    refine Nat.eq_of_testBit_eq fun i => ?_
    rw [Nat.testBit_xor, e31, Nat.testBit_two_pow]
    rcases Nat.lt_trichotomy i 31 with c | c | c
    · rw [Nat.testBit_two_pow_add_gt c]
      simp [show ¬ 31 = i by omega]
    · subst c
      rw [Nat.testBit_two_pow_add_eq]
      simp
    · have h1 : y.testBit i = false := Nat.testBit_lt_two_pow (Nat.lt_of_lt_of_le (by omega : y < 2 ^ 31) (Nat.pow_le_pow_right (by decide) (by omega)))
      have h2 : (2 ^ 31 + y).testBit i = false := Nat.testBit_lt_two_pow (Nat.lt_of_lt_of_le (by omega : 2 ^ 31 + y < 2 ^ 32) (Nat.pow_le_pow_right (by decide) (by omega)))
      rw [h1, h2]
      simp [show ¬ 31 = i by omega]
  by_cases c : x < 2147483648
  · rw [if_pos c, key x c]
  · rw [if_neg c]
    have := key (x - 2147483648) (by omega)
    rw [show 2147483648 + (x - 2147483648) = x by omega] at this
    conv => lhs; rw [← this]
    rw [Nat.xor_assoc, Nat.xor_self, Nat.xor_zero]
theorem neg_eq (x : Nat) : Op.negFloat .f32 x = x ^^^ 2147483648 := rfl
theorem neg_neg (x : Nat) : Op.negFloat .f32 (Op.negFloat .f32 x) = x := by
  rw [neg_eq, neg_eq, Nat.xor_assoc, Nat.xor_self, Nat.xor_zero]
theorem read_neg (x : Nat) (h : x < 4294967296) : FloatKind.f32.format.read (Op.negFloat .f32 x) = (FloatKind.f32.format.read x).opposite := by
  rw [neg_eq, xor31 x h]
  have hp : (if x < 2147483648 then 2147483648 + x else x - 2147483648) % 2147483648 = x % 2147483648 := by split <;> omega
  have hq : ((if x < 2147483648 then 2147483648 + x else x - 2147483648) / 2147483648 % 2 == 1) = !(x / 2147483648 % 2 == 1) := by
    by_cases c : x < 2147483648
    · rw [if_pos c]
      have a : (2147483648 + x) / 2147483648 = 1 := by omega
      have b : x / 2147483648 = 0 := by omega
      rw [a, b]
      rfl
    · rw [if_neg c]
      have a : (x - 2147483648) / 2147483648 = 0 := by omega
      have b : x / 2147483648 = 1 := by omega
      rw [a, b]
      rfl
  unfold Ieee.Format.read
  simp only [PI.f32s]
  rw [hp, hq]
  split
  · rfl
  · split
    · rfl
    · split
      · rfl
      · rfl
theorem neg_Z {x : Nat} {n : Int} (h : x < 4294967296) (hx : Zr x n) : Zr (Op.negFloat .f32 x) (-n) := by
  unfold Zr
  rw [read_neg x h]
  exact opp_Z hx
theorem int_lt (n : Int) : floatOfInt .f32 n < 4294967296 := by
  have h := floatOfInt_wf .f32 n
  unfold Lit.wf at h
  simpa using h
theorem fiv_Z {x : Nat} {n : Int} (hx : Zr x n) (h : n.natAbs < 16777216) : fik .f32 x .i64 = true ∧ fiv .f32 x .i64 = n := by
  obtain ⟨s, m, k, h1, rfl⟩ := hx
  have hdec : FloatKind.f32.decode x = .number s (m * 2 ^ k) (-(k : Int)) := h1
  have hc : Ieee.Toward.zero.cut s (m * 2 ^ k) k = m := by
    unfold Ieee.Toward.cut
    simp only [Nat.one_shiftLeft]
    by_cases h0 : m = 0
    · subst h0
      simp
    · rw [PI.log2_shift h0, Nat.min_eq_left (by omega), Nat.mul_div_cancel _ (Nat.two_pow_pos k)]
      rfl
  have e : floatToIntVal .f32 x .i64 = some (if s = true then -(m : Int) else m) := by
    unfold floatToIntVal
    rw [hdec]
    have t : (Ieee.Datum.number s (m * 2 ^ k) (-(k : Int))).toInt .zero = some (if s = true then -(m : Int) else m) := by
      unfold Ieee.Datum.toInt Ieee.Datum.integral
      have e1 : (-(k : Int)).toNat = 0 := by omega
      have e2 : (- -(k : Int)).toNat = k := by omega
      simp only [e1, e2, Nat.shiftLeft_zero, hc]
      unfold Ieee.signed
      simp
    rw [t]
    simp only
    have hb : IntKind.i64.min = -9223372036854775808 ∧ IntKind.i64.max = 9223372036854775807 := by decide
    rw [hb.1, hb.2, if_pos (by omega)]
  unfold fik fiv
  rw [e]
  exact ⟨rfl, rfl⟩
theorem Z64_div {x y : Nat} {n m : Int} (hx : Zr64 x (n * m)) (hy : Zr64 y m) (hm : m ≠ 0) (h : n.natAbs < 9007199254740992) : fok .quo .f64 x y = true ∧ Zr64 (fop .quo .f64 x y) n := by
  obtain ⟨s, M, i, h1, hM⟩ := hx
  obtain ⟨t, N, j, h2, hN⟩ := hy
  have aN : N = m.natAbs := by rw [hN]; cases t <;> simp
  have aM : M = n.natAbs * N := by
    rw [aN, ← Int.natAbs_mul, hM]
    cases s <;> simp
  have N0 : N ≠ 0 := by omega
  have sgn : n = if (s ^^ t) = true then -(n.natAbs : Int) else n.natAbs := by
    by_cases n0 : n = 0
    · rw [n0]; simp
    · have hmul : n * m = if s = true then -(M : Int) else M := hM
      have M0 : M ≠ 0 := by
        rw [aM]
        exact Nat.mul_ne_zero (by omega) N0
      have pn : n < 0 ∨ 0 < n := by omega
      have pm : m < 0 ∨ 0 < m := by omega
      have st : s = decide (n * m < 0) := by
        cases s
        · have : n * m = (M : Int) := by simpa using hmul
          rw [decide_eq_false (by omega)]
        · have : n * m = -(M : Int) := by simpa using hmul
          rw [decide_eq_true (by omega)]
      have tt : t = decide (m < 0) := by
        cases t
        · have : m = (N : Int) := by simpa using hN
          rw [decide_eq_false (by omega)]
        · have : m = -(N : Int) := by simpa using hN
          rw [decide_eq_true (by omega)]
      rcases pn with a | a <;> rcases pm with b | b
      · have := Int.mul_pos_of_neg_of_neg a b
        rw [st, tt, decide_eq_false (by omega), decide_eq_true b]
        simp
        omega
      · have := Int.mul_neg_of_neg_of_pos a b
        rw [st, tt, decide_eq_true this, decide_eq_false (by omega)]
        simp
        omega
      · have := Int.mul_neg_of_pos_of_neg a b
        rw [st, tt, decide_eq_true this, decide_eq_true b]
        simp
        omega
      · have := Int.mul_pos a b
        rw [st, tt, decide_eq_false (by omega), decide_eq_false (by omega)]
        simp
        omega
  have hq : ∃ K : Nat, floatBits .quo .f64 x y = some (FloatKind.f64.format.nearest (s ^^ t) (n.natAbs * 2 ^ K) (-(K : Int))) := by
    have e0 : floatBits .quo .f64 x y = ((FloatKind.f64.format.read x).quotient (FloatKind.f64.format.fractionBits + 2) (FloatKind.f64.format.read y)).map FloatKind.f64.format.write := rfl
    rw [e0, h1, h2, PF.f64f]
    unfold Ieee.Datum.quotient
    simp only
    have N2 : N * 2 ^ j ≠ 0 := Nat.mul_ne_zero N0 (Nat.pos_iff_ne_zero.1 (Nat.two_pow_pos j))
    rw [if_neg N2]
    generalize hmore : 52 + 2 + (N * 2 ^ j).log2 - (M * 2 ^ i).log2 = more
    by_cases n0 : n.natAbs = 0
    · have M0 : M = 0 := by rw [aM, n0, Nat.zero_mul]
      refine ⟨0, ?_⟩
      rw [M0, n0]
      simp only [Nat.zero_mul, Nat.zero_shiftLeft, Nat.zero_div, Nat.zero_mod, Nat.mul_zero]
      show some (FloatKind.f64.format.nearest (s ^^ t) 0 _) = some (FloatKind.f64.format.nearest (s ^^ t) 0 _)
      unfold Ieee.Format.nearest
      rw [if_pos rfl, if_pos rfl]
    · have M0 : M ≠ 0 := by
        rw [aM]
        exact Nat.mul_ne_zero n0 N0
      rw [PI.log2_shift N0, PI.log2_shift M0] at hmore
      have hl : M.log2 ≤ 53 + N.log2 := by
        have : M < 2 ^ (54 + N.log2) := by
          rw [aM, Nat.pow_add]
          have a1 := @Nat.lt_log2_self N
          calc n.natAbs * N < 2 ^ 53 * 2 ^ (N.log2 + 1) := Nat.mul_lt_mul'' (by simpa using h) a1
            _ = 2 ^ 54 * 2 ^ N.log2 := by rw [← Nat.pow_add, ← Nat.pow_add]; congr 1; omega
        have := (Nat.log2_lt M0).2 this
        omega
      have hle : j ≤ i + more := by omega
      have hd : (M * 2 ^ i) <<< more = n.natAbs * 2 ^ (i + more - j) * (N * 2 ^ j) := by
        rw [Nat.shiftLeft_eq, aM]
        have : 2 ^ i * 2 ^ more = 2 ^ (i + more - j) * 2 ^ j := by rw [← Nat.pow_add, ← Nat.pow_add]; congr 1; omega
        calc n.natAbs * N * 2 ^ i * 2 ^ more = n.natAbs * N * (2 ^ i * 2 ^ more) := by rw [Nat.mul_assoc]
          _ = n.natAbs * N * (2 ^ (i + more - j) * 2 ^ j) := by rw [this]
          _ = n.natAbs * 2 ^ (i + more - j) * (N * 2 ^ j) := by ac_rfl
      rw [hd, Nat.mul_div_cancel _ (Nat.pos_iff_ne_zero.2 N2), Nat.mul_mod_left]
      refine ⟨i + more - j + 1, ?_⟩
      show some (FloatKind.f64.format.nearest (s ^^ t) (2 * (n.natAbs * 2 ^ (i + more - j)) + 0) (-(i : Int) - -(j : Int) - (more : Int) - 1)) = _
      have p1 : 2 * (n.natAbs * 2 ^ (i + more - j)) + 0 = n.natAbs * 2 ^ (i + more - j + 1) := by rw [Nat.pow_succ]; simp only [Nat.add_zero]; ac_rfl
      have p2 : -(i : Int) - -(j : Int) - (more : Int) - 1 = -((i + more - j + 1 : Nat) : Int) := by omega
      rw [p1, p2]
  obtain ⟨K, hq⟩ := hq
  obtain ⟨c1, c2⟩ := fop_of hq
  have hz := PF.Zr64_near (s ^^ t) n.natAbs K h
  rw [← sgn, ← c2] at hz
  exact ⟨c1, hz⟩
theorem sq64 {x : Nat} {a : Int} (hx : Zr64 x a) : fok .mul .f64 x x = true ∧ fop .mul .f64 x x = FloatKind.f64.format.nearest false (a.natAbs * a.natAbs) 0 := by
  obtain ⟨s, m, k, h1, rfl⟩ := hx
  have e : floatBits .mul .f64 x x = some (FloatKind.f64.format.nearest false (m * m) 0) := by
    show ((FloatKind.f64.format.read x).product (FloatKind.f64.format.read x)).map FloatKind.f64.format.write = _
    rw [h1]
    show some (FloatKind.f64.format.nearest (s ^^ s) (m * 2 ^ k * (m * 2 ^ k)) (-(k : Int) + -(k : Int))) = _
    have p : m * 2 ^ k * (m * 2 ^ k) = m * m * 2 ^ (k + k) := by rw [Nat.pow_add]; ac_rfl
    rw [p, nearest_shift, show -(k : Int) + -(k : Int) + ((k + k : Nat) : Int) = 0 by omega, Bool.xor_self]
  have e2 : (if s = true then -(m : Int) else (m : Int)).natAbs = m := by cases s <;> simp
  rw [e2]
  exact fop_of e
theorem read64_nat (n : Nat) (h : n < 9007199254740992) : ∃ k : Nat, FloatKind.f64.format.read (FloatKind.f64.format.nearest false n 0) = .number false (n * 2 ^ k) (-(k : Int)) := by
  by_cases h0 : n = 0
  · subst h0
    obtain ⟨j, hj⟩ : ∃ j : Nat, (-1074 : Int) = -(j : Int) := ⟨1074, rfl⟩
    refine ⟨j, ?_⟩
    rw [Nat.zero_mul, ← hj]
    decide
  · exact ⟨_, PF.read_near64 false h0 h⟩
theorem add64 {p q : Nat} (h : p + q < 9007199254740992) : fok .add .f64 (FloatKind.f64.format.nearest false p 0) (FloatKind.f64.format.nearest false q 0) = true ∧ fop .add .f64 (FloatKind.f64.format.nearest false p 0) (FloatKind.f64.format.nearest false q 0) = FloatKind.f64.format.nearest false (p + q) 0 := by
  obtain ⟨k, e1⟩ := read64_nat p (by omega)
  obtain ⟨j, e2⟩ := read64_nat q (by omega)
  have hK : min (-(k : Int)) (-(j : Int)) = -((max k j : Nat) : Int) := by omega
  have c1 : (-(k : Int) - -((max k j : Nat) : Int)).toNat = max k j - k := by omega
  have c2 : (-(j : Int) - -((max k j : Nat) : Int)).toNat = max k j - j := by omega
  have p1 : p * 2 ^ k * 2 ^ (max k j - k) = p * 2 ^ max k j := by rw [Nat.mul_assoc, ← Nat.pow_add]; congr 2; omega
  have p2 : q * 2 ^ j * 2 ^ (max k j - j) = q * 2 ^ max k j := by rw [Nat.mul_assoc, ← Nat.pow_add]; congr 2; omega
  have tot : Ieee.signed false (p * 2 ^ k) (max k j - k) + Ieee.signed false (q * 2 ^ j) (max k j - j) = (((p + q) * 2 ^ max k j : Nat) : Int) := by
    unfold Ieee.signed
    rw [Nat.shiftLeft_eq, Nat.shiftLeft_eq, p1, p2, Nat.add_mul]
    simp
  refine fop_of ?_
  show ((FloatKind.f64.format.read (FloatKind.f64.format.nearest false p 0)).sum (FloatKind.f64.format.read (FloatKind.f64.format.nearest false q 0))).map FloatKind.f64.format.write = _
  rw [e1, e2]
  unfold Ieee.Datum.sum
  simp only [hK, c1, c2, tot]
  show some (FloatKind.f64.format.nearest _ _ _) = _
  rw [Int.natAbs_natCast, decide_eq_false (by omega), nearest_shift, show -((max k j : Nat) : Int) + ((max k j : Nat) : Int) = 0 by omega]
  simp
theorem wide_nat (n : Nat) (h : n < 16777216) : cok .f32 (floatOfInt .f32 (n : Int)) .f64 = true ∧ cvt .f32 (floatOfInt .f32 (n : Int)) .f64 = FloatKind.f64.format.nearest false n 0 := by
  refine cok_of ?_
  rw [PI.int_near, Int.natAbs_natCast, decide_eq_false (by omega)]
  obtain ⟨k, hr⟩ : ∃ k : Nat, FloatKind.f32.format.read (FloatKind.f32.format.nearest false n 0) = .number false (n * 2 ^ k) (-(k : Int)) := by
    by_cases h0 : n = 0
    · subst h0
      refine ⟨149, ?_⟩
      rw [Nat.zero_mul]
      decide
    · exact ⟨_, PI.read_near false h0 h⟩
  have hdec : FloatKind.f32.decode (FloatKind.f32.format.nearest false n 0) = .number false (n * 2 ^ k) (-(k : Int)) := hr
  have henc : FloatKind.f64.encode (.number false (n * 2 ^ k) (-(k : Int))) = FloatKind.f64.format.nearest false n 0 := by
    show FloatKind.f64.format.nearest false (n * 2 ^ k) (-(k : Int)) = _
    rw [nearest_shift, show -(k : Int) + (k : Int) = 0 by omega]
  unfold floatToFloatBits
  rw [if_neg ne_kind, hdec]
  simp only [henc]
  rw [if_neg]
  show ¬ ((FloatKind.f64.format.read (FloatKind.f64.format.nearest false n 0)).isInfinity = true)
  obtain ⟨j, hj⟩ := read64_nat n (by omega)
  rw [hj]
  intro c
  cases c
end Go.Proofs.YtnnemdjbopdjmaaDoor.PH
end
section
namespace Go.Proofs.YtnnemdjbopdjmaaDoor.XN
open Go
theorem f64s : FloatKind.f64.format.signWeight = 9223372036854775808 := by decide
theorem f64i : FloatKind.f64.format.infRung = 9218868437227405312 := by decide
theorem f64b : FloatKind.f64.format.binade = 4503599627370496 := by decide
theorem f64l : FloatKind.f64.format.leastPlace = -1074 := by decide
theorem f64f : FloatKind.f64.format.fractionBits = 52 := by decide
theorem f32s : FloatKind.f32.format.signWeight = 2147483648 := by decide
theorem f32i : FloatKind.f32.format.infRung = 2139095040 := by decide
theorem f32b : FloatKind.f32.format.binade = 8388608 := by decide
theorem f32l : FloatKind.f32.format.leastPlace = -149 := by decide
theorem f32f : FloatKind.f32.format.fractionBits = 23 := by decide
def Is (neg : Bool) (d : Ieee.Datum) : Prop := (∃ m e, d = .number neg m e) ∨ d = .infinity neg
theorem read_word32 (neg : Bool) (r : Nat) (h : r ≤ 2139095040) : Is neg (FloatKind.f32.format.read (FloatKind.f32.format.word neg r)) := by
  unfold Ieee.Format.read Ieee.Format.word
  simp only [f32s, f32i, f32b, f32l]
  have e : (if neg = true then 2147483648 + r else r) % 2147483648 = r := by cases neg <;> simp <;> omega
  have e2 : ((if neg = true then 2147483648 + r else r) / 2147483648 % 2 == 1) = neg := by
    cases neg
    · have : r / 2147483648 = 0 := Nat.div_eq_of_lt (by omega)
      simp [this]
    · have : (2147483648 + r) / 2147483648 = 1 := by omega
      simp [this]
  simp only [e, e2]
  split
  · exact .inl ⟨_, _, rfl⟩
  · split
    · exact .inl ⟨_, _, rfl⟩
    · split
      · exact .inr rfl
      · omega
theorem read_word64 (neg : Bool) (r : Nat) (h : r ≤ 9218868437227405312) : Is neg (FloatKind.f64.format.read (FloatKind.f64.format.word neg r)) := by
  unfold Ieee.Format.read Ieee.Format.word
  simp only [f64s, f64i, f64b, f64l]
  have e : (if neg = true then 9223372036854775808 + r else r) % 9223372036854775808 = r := by cases neg <;> simp <;> omega
  have e2 : ((if neg = true then 9223372036854775808 + r else r) / 9223372036854775808 % 2 == 1) = neg := by
    cases neg
    · have : r / 9223372036854775808 = 0 := Nat.div_eq_of_lt (by omega)
      simp [this]
    · have : (9223372036854775808 + r) / 9223372036854775808 = 1 := by omega
      simp [this]
  simp only [e, e2]
  split
  · exact .inl ⟨_, _, rfl⟩
  · split
    · exact .inl ⟨_, _, rfl⟩
    · split
      · exact .inr rfl
      · omega
theorem near32 (neg : Bool) (m : Nat) (e : Int) : Is neg (FloatKind.f32.format.read (FloatKind.f32.format.nearest neg m e)) := by
  unfold Ieee.Format.nearest
  split
  · exact read_word32 neg 0 (by decide)
  · refine read_word32 neg _ ?_
    rw [f32i]
    exact Nat.min_le_right _ _
theorem write32 {neg : Bool} {d : Ieee.Datum} (h : Is neg d) : Is neg (FloatKind.f32.format.read (FloatKind.f32.format.write d)) := by
  rcases h with ⟨m, e, rfl⟩ | rfl
  · exact near32 neg m e
  · exact read_word32 neg _ (by rw [f32i]; exact Nat.le_refl _)
theorem cut_le (neg : Bool) (n drop : Nat) : Ieee.Toward.even.cut neg n drop ≤ n / 2 ^ drop + 1 := by
  unfold Ieee.Toward.cut
  simp only [Nat.one_shiftLeft]
  have hm (b : Bool) : b.toNat ≤ 1 := by cases b <;> decide
  refine Nat.add_le_add ?_ (hm _)
  by_cases h : drop ≤ n.log2 + 2
  · rw [Nat.min_eq_left h]
    exact Nat.le_refl _
  · rw [Nat.min_eq_right (by omega)]
    have : n < 2 ^ (n.log2 + 2) := Nat.lt_trans Nat.lt_log2_self (Nat.pow_lt_pow_right (by decide) (by omega))
    rw [Nat.div_eq_of_lt this]
    exact Nat.zero_le _
theorem kept_le (neg : Bool) (mag : Nat) (place last : Int) (F : Nat) (h : place + (mag.log2 : Int) - F ≤ last) :
    Ieee.Toward.even.cut neg (mag <<< (place - last).toNat) (last - place).toNat ≤ 2 ^ (F + 1) := by
  refine Nat.le_trans (cut_le _ _ _) ?_
  have hl : mag < 2 ^ (mag.log2 + 1) := Nat.lt_log2_self
  generalize mag.log2 = L at h hl
  rw [Nat.shiftLeft_eq]
  have : mag * 2 ^ (place - last).toNat < 2 ^ (last - place).toNat * 2 ^ (F + 1) := by
    calc mag * 2 ^ (place - last).toNat < 2 ^ (L + 1) * 2 ^ (place - last).toNat := Nat.mul_lt_mul_of_pos_right hl (Nat.two_pow_pos _)
      _ = 2 ^ (L + 1 + (place - last).toNat) := (Nat.pow_add _ _ _).symm
      _ ≤ 2 ^ ((last - place).toNat + (F + 1)) := Nat.pow_le_pow_right (by decide) (by omega)
      _ = 2 ^ (last - place).toNat * 2 ^ (F + 1) := by rw [Nat.pow_add]
  have := Nat.div_lt_of_lt_mul this
  omega
theorem near64 (neg : Bool) (m : Nat) (e X : Int) (h : m ≠ 0 → (m.log2 : Int) + e ≤ X) (h0 : -1000 ≤ X) (h1 : X ≤ 200) :
    ∃ m' e', FloatKind.f64.format.read (FloatKind.f64.format.nearest neg m e) = .number neg m' e' ∧ m' < 9007199254740992 ∧ e' ≤ X - 50 := by
  have key : ∀ r : Nat, r ≤ (X + 1024).toNat * 4503599627370496 → ∃ m' e', FloatKind.f64.format.read (FloatKind.f64.format.word neg r) = .number neg m' e' ∧ m' < 9007199254740992 ∧ e' ≤ X - 50 := by
    intro r hr
    unfold Ieee.Format.read Ieee.Format.word
    simp only [f64s, f64i, f64b, f64l]
    have hr2 : r < 9218868437227405312 := by omega
    have e1 : (if neg = true then 9223372036854775808 + r else r) % 9223372036854775808 = r := by cases neg <;> simp <;> omega
    have e2 : ((if neg = true then 9223372036854775808 + r else r) / 9223372036854775808 % 2 == 1) = neg := by
      cases neg
      · have : r / 9223372036854775808 = 0 := Nat.div_eq_of_lt (by omega)
        simp [this]
      · have : (9223372036854775808 + r) / 9223372036854775808 = 1 := by omega
        simp [this]
    simp only [e1, e2]
    split
    · exact ⟨_, _, rfl, by omega, by omega⟩
    · exact ⟨_, _, rfl, by omega, by omega⟩
  unfold Ieee.Format.nearest
  split
  · exact key 0 (Nat.zero_le _)
  · rename_i hm
    have hX := h hm
    refine key _ (Nat.le_trans (Nat.min_le_left _ _) ?_)
    have hk := kept_le neg m e (max (e + (m.log2 : Int) - (FloatKind.f64.format.fractionBits : Nat)) FloatKind.f64.format.leastPlace) FloatKind.f64.format.fractionBits (Int.le_max_left _ _)
    simp only [f64b, f64l, f64f] at hk ⊢
    generalize Ieee.Toward.even.cut neg _ _ = K at hk ⊢
    have : (2 : Nat) ^ (52 + 1) = 9007199254740992 := by decide
    omega
theorem near32n (neg : Bool) (m : Nat) (e : Int) (h : m ≠ 0 → (m.log2 : Int) + e ≤ 100) : ∃ m' e', FloatKind.f32.format.read (FloatKind.f32.format.nearest neg m e) = .number neg m' e' := by
  have key : ∀ r : Nat, r ≤ 2000000000 → ∃ m' e', FloatKind.f32.format.read (FloatKind.f32.format.word neg r) = .number neg m' e' := by
    intro r hr
    unfold Ieee.Format.read Ieee.Format.word
    simp only [f32s, f32i, f32b, f32l]
    have e1 : (if neg = true then 2147483648 + r else r) % 2147483648 = r := by cases neg <;> simp <;> omega
    have e2 : ((if neg = true then 2147483648 + r else r) / 2147483648 % 2 == 1) = neg := by
      cases neg
      · have : r / 2147483648 = 0 := Nat.div_eq_of_lt (by omega)
        simp [this]
      · have : (2147483648 + r) / 2147483648 = 1 := by omega
        simp [this]
    simp only [e1, e2]
    split
    · exact ⟨_, _, rfl⟩
    · rw [if_pos (by omega)]
      exact ⟨_, _, rfl⟩
  unfold Ieee.Format.nearest
  split
  · exact key 0 (Nat.zero_le _)
  · rename_i hm
    have hX := h hm
    refine key _ (Nat.le_trans (Nat.min_le_left _ _) ?_)
    have hk := kept_le neg m e (max (e + (m.log2 : Int) - (FloatKind.f32.format.fractionBits : Nat)) FloatKind.f32.format.leastPlace) FloatKind.f32.format.fractionBits (Int.le_max_left _ _)
    simp only [f32b, f32l, f32f] at hk ⊢
    generalize Ieee.Toward.even.cut neg _ _ = K at hk ⊢
    have : (2 : Nat) ^ (23 + 1) = 16777216 := by decide
    omega
theorem root_sq (n : Nat) : ∀ (todo root : Nat), root * root ≤ n → Ieee.Datum.rootFrom n todo root * Ieee.Datum.rootFrom n todo root ≤ n
  | 0, root, h => h
  | todo + 1, root, h => by
    unfold Ieee.Datum.rootFrom
    simp only
    split
    · rename_i h2
      exact root_sq n todo _ h2
    · exact root_sq n todo _ h
theorem sqrt64 (m : Nat) (i : Int) (hm : m < 9007199254740992) (hi : i ≤ 80) : ∃ m' e', (Ieee.Datum.root (FloatKind.f64.format.fractionBits + 2) (.number false m i)) = some (.number false m' e') ∧ (m' ≠ 0 → (m'.log2 : Int) + e' ≤ 72) := by
  unfold Ieee.Datum.root
  simp only
  by_cases h0 : m = 0
  · rw [if_pos h0]
    exact ⟨m, i, rfl, fun h => absurd h0 h⟩
  · rw [if_neg h0, if_neg (by decide)]
    refine ⟨_, _, rfl, ?_⟩
    intro hz0
    clear hz0
    have hL : m.log2 < 53 := (Nat.log2_lt h0).2 (by simpa using hm)
    have hlt : m < 2 ^ (m.log2 + 1) := Nat.lt_log2_self
    simp only [f64f]
    generalize m.log2 = L at hL hlt
    generalize hM : 2 * (52 + 2) - L + ((i - (2 * (52 + 2) - L : Nat)) % 2).toNat = M
    have hM1 : 55 ≤ M ∧ M + L ≤ 109 := by omega
    have hsq := root_sq (m <<< M) ((m <<< M).log2 / 2 + 1) 0 (by simp)
    generalize Ieee.Datum.rootFrom (m <<< M) ((m <<< M).log2 / 2 + 1) 0 = R at hsq ⊢
    have hn : m <<< M < 2 ^ 110 := by
      rw [Nat.shiftLeft_eq]
      calc m * 2 ^ M < 2 ^ (L + 1) * 2 ^ M := Nat.mul_lt_mul_of_pos_right hlt (Nat.two_pow_pos _)
        _ = 2 ^ (L + 1 + M) := (Nat.pow_add _ _ _).symm
        _ ≤ 2 ^ 110 := Nat.pow_le_pow_right (by decide) (by omega)
    have hR : R < 2 ^ 55 := by
      refine Nat.lt_of_not_le fun hge => ?_
      have := Nat.mul_le_mul hge hge
      have e : (2 : Nat) ^ 55 * 2 ^ 55 = 2 ^ 110 := by decide
      omega
    have hb (b : Bool) : b.toNat ≤ 1 := by cases b <;> decide
    have hmag : 2 * R + (R * R != m <<< M).toNat < 2 ^ 57 := by
      have := hb (R * R != m <<< M)
      have e : (2 : Nat) ^ 57 = 4 * 2 ^ 55 := by decide
      omega
    have hlog : (2 * R + (R * R != m <<< M).toNat).log2 < 57 := by
      by_cases hz : 2 * R + (R * R != m <<< M).toNat = 0
      · rw [hz]
        decide
      · exact (Nat.log2_lt hz).2 hmag
    omega
theorem read32_b {x : Nat} {s : Bool} {m : Nat} {e : Int} (h : FloatKind.f32.format.read x = .number s m e) : m < 16777216 ∧ e ≤ 104 := by
  unfold Ieee.Format.read at h
  simp only [f32s, f32i, f32b, f32l] at h
  split at h
  · rename_i c
    injection h with h1 h2 h3
    omega
  · split at h
    · rename_i c1 c2
      injection h with h1 h2 h3
      omega
    · split at h <;> cases h
theorem log_le {m k : Nat} (h0 : m ≠ 0) (h : m < 2 ^ k) : m.log2 < k := (Nat.log2_lt h0).2 h
theorem wide {x : Nat} (h : Is false (FloatKind.f32.format.read x)) : ∃ b, floatToFloatBits .f32 x .f64 = some b ∧ (FloatKind.f64.format.read b = .infinity false ∨ ∃ m e, FloatKind.f64.format.read b = .number false m e ∧ m < 9007199254740992 ∧ e ≤ 80) := by
  unfold floatToFloatBits FloatKind.decode FloatKind.encode
  rw [if_neg (by decide)]
  rcases h with ⟨m, e, h⟩ | h
  · rw [h]
    simp only
    have hb := read32_b h
    obtain ⟨m', e', h1, h2, h3⟩ := near64 false m e 127 (fun h0 => by
      have := log_le (k := 24) h0 (by omega)
      omega) (by decide) (by decide)
    have hw : FloatKind.f64.format.write (.number false m e) = FloatKind.f64.format.nearest false m e := rfl
    rw [hw, h1, if_neg (by simp [Ieee.Datum.isInfinity])]
    exact ⟨_, rfl, .inr ⟨m', e', h1, h2, by omega⟩⟩
  · rw [h]
    simp only
    refine ⟨_, rfl, .inl ?_⟩
    decide
theorem root_ok {b : Nat} (h : FloatKind.f64.format.read b = .infinity false ∨ ∃ m e, FloatKind.f64.format.read b = .number false m e ∧ m < 9007199254740992 ∧ e ≤ 80) :
    ∃ r, FloatKind.f64.format.sqrt b = some r ∧ (FloatKind.f64.format.read r = .infinity false ∨ ∃ m e, FloatKind.f64.format.read r = .number false m e ∧ m < 9007199254740992 ∧ e ≤ 22) := by
  unfold Ieee.Format.sqrt
  rcases h with h | ⟨m, e, h, hm, he⟩
  · rw [h]
    refine ⟨_, rfl, .inl ?_⟩
    decide
  · rw [h]
    obtain ⟨m', e', h1, h2⟩ := sqrt64 m e hm he
    rw [h1]
    refine ⟨_, rfl, .inr ?_⟩
    obtain ⟨m2, e2, h3, h4, h5⟩ := near64 false m' e' 72 h2 (by decide) (by decide)
    exact ⟨m2, e2, h3, h4, by omega⟩
theorem narrow_ok {b : Nat} (h : FloatKind.f64.format.read b = .infinity false ∨ ∃ m e, FloatKind.f64.format.read b = .number false m e ∧ m < 9007199254740992 ∧ e ≤ 22) :
    ∃ r, floatToFloatBits .f64 b .f32 = some r ∧ Is false (FloatKind.f32.format.read r) := by
  unfold floatToFloatBits FloatKind.decode FloatKind.encode
  rw [if_neg (by decide)]
  rcases h with h | ⟨m, e, h, hm, he⟩
  · rw [h]
    simp only
    exact ⟨_, rfl, write32 (.inr rfl)⟩
  · rw [h]
    simp only
    obtain ⟨m', e', h1⟩ := near32n false m e (fun h0 => by
      have := log_le (k := 53) h0 (by omega)
      omega)
    have hw : FloatKind.f32.format.write (.number false m e) = FloatKind.f32.format.nearest false m e := rfl
    rw [hw, h1, if_neg (by simp [Ieee.Datum.isInfinity])]
    exact ⟨_, rfl, near32 false m e⟩
end Go.Proofs.YtnnemdjbopdjmaaDoor.XN
end
section
set_option linter.unusedVariables false
set_option linter.unusedSimpArgs false
namespace Go.Proofs.YtnnemdjbopdjmaaDoor.PP
open Go.RowKit Go.Proofs.YtnnemdjbopdjmaaDoor Go.Proofs.YtnnemdjbopdjmaaDoorW.PrintWords Go.Proofs.YtnnemdjbopdjmaaDoorW.PrintLast Go.Proofs.YtnnemdjbopdjmaaDoorW.PrintMore
open T XF XL PA PDP PWP
open Go.Proofs.YtnnemdjbopdjmaaDoor.PI (Zr Zr_int Z_eq Z_add Z_mul)
open Go.Proofs.YtnnemdjbopdjmaaDoor.PF (Zr64 Z64_add Z64_sub Z64_mul)
open Go.Proofs.YtnnemdjbopdjmaaDoor.PH (wide_Z narrow_Z neg_neg neg_Z fiv_Z Z64_div sq64 add64 wide_nat cok_of)
theorem mul_b {p q : Int} {P Q : Nat} (hp : p.natAbs ≤ P) (hq : q.natAbs ≤ Q) : (p * q).natAbs ≤ P * Q := by
  rw [Int.natAbs_mul]
  exact Nat.mul_le_mul hp hq
theorem wide_f {x y : Nat} {a b : Int} (hx : Zr x a) (hy : Zr y b) : ∃ u v, impl_wide.f (x, y) = some (u, v) ∧ Zr64 u a ∧ Zr64 v b := by
  obtain ⟨k1, z1⟩ := wide_Z hx
  obtain ⟨k2, z2⟩ := wide_Z hy
  unfold impl_wide.f
  rw [if_pos k1, if_pos k2]
  exact ⟨_, _, rfl, z1, z2⟩
theorem mul_f {x y u v : Nat} {a b c d : Int} (hx : Zr x a) (hy : Zr y b) (hu : Zr u c) (hv : Zr v d) (b1 : a.natAbs ≤ 200) (b2 : b.natAbs ≤ 200) (b3 : c.natAbs ≤ 200) (b4 : d.natAbs ≤ 200) :
    ∃ p q, impl_MulComplex.f (x, y) (u, v) = some (p, q) ∧ Zr p (a * c - b * d) ∧ Zr q (a * d + b * c) ∧ (a * c - b * d).natAbs ≤ 80000 ∧ (a * d + b * c).natAbs ≤ 80000 := by
  have m1 := mul_b b1 b3
  have m2 := mul_b b2 b4
  have m3 := mul_b b1 b4
  have m4 := mul_b b2 b3
  obtain ⟨x', y', e1, X, Y⟩ := wide_f hx hy
  obtain ⟨u', v', e2, U, V⟩ := wide_f hu hv
  obtain ⟨k1, z1⟩ := Z64_mul X U (by omega)
  obtain ⟨k2, z2⟩ := Z64_mul Y V (by omega)
  obtain ⟨k3, z3⟩ := Z64_sub z1 z2 (by omega)
  obtain ⟨k4, z4⟩ := narrow_Z z3 (by omega)
  obtain ⟨j1, y1⟩ := Z64_mul X V (by omega)
  obtain ⟨j2, y2⟩ := Z64_mul Y U (by omega)
  obtain ⟨j3, y3⟩ := Z64_add y1 y2 (by omega)
  obtain ⟨j4, y4⟩ := narrow_Z y3 (by omega)
  unfold impl_MulComplex.f
  rw [e1]
  simp only [Option.bind_some]
  rw [e2]
  simp only [Option.bind_some]
  rw [if_pos k1, if_pos k2, if_pos k3, if_pos k4, if_pos j1, if_pos j2, if_pos j3, if_pos j4]
  exact ⟨_, _, rfl, z4, y4, by omega, by omega⟩
abbrev sq2 (a b : Int) : Nat := a.natAbs * a.natAbs + b.natAbs * b.natAbs
theorem sq2_int (a b : Int) : ((sq2 a b : Nat) : Int) = a * a + b * b := by
  unfold sq2
  rw [Int.natCast_add, Int.natCast_mul, Int.natCast_mul, Int.natAbs_mul_self' , Int.natAbs_mul_self']
theorem sq2_le {a b : Int} (b1 : a.natAbs ≤ 200) (b2 : b.natAbs ≤ 200) : sq2 a b ≤ 80000 := by
  have m1 := Nat.mul_le_mul b1 b1
  have m2 := Nat.mul_le_mul b2 b2
  unfold sq2
  omega
theorem power_f {x y : Nat} {a b : Int} (hx : Zr x a) (hy : Zr y b) (b1 : a.natAbs ≤ 200) (b2 : b.natAbs ≤ 200) : impl_power.f (x, y) = some (FloatKind.f64.format.nearest false (sq2 a b) 0) := by
  obtain ⟨x', y', e1, X, Y⟩ := wide_f hx hy
  obtain ⟨k1, z1⟩ := sq64 X
  obtain ⟨k2, z2⟩ := sq64 Y
  obtain ⟨k3, z3⟩ := add64 (p := a.natAbs * a.natAbs) (q := b.natAbs * b.natAbs) (by have := sq2_le b1 b2; unfold sq2 at this; omega)
  unfold impl_power.f
  rw [e1]
  simp only [Option.bind_some]
  rw [if_pos k1, if_pos k2, z1, z2, if_pos k3, z3]
theorem near_Z (n : Nat) (h : n < 9007199254740992) : Zr64 (FloatKind.f64.format.nearest false n 0) (n : Int) := by
  obtain ⟨k, hk⟩ := PH.read64_nat n h
  exact ⟨false, n, k, hk, by simp⟩
theorem Power_f {x y : Nat} {a b : Int} (hx : Zr x a) (hy : Zr y b) (b1 : a.natAbs ≤ 200) (b2 : b.natAbs ≤ 200) : ∃ p, impl_PowerOf.f (x, y) = some p ∧ Zr p (a * a + b * b) := by
  have hle := sq2_le b1 b2
  obtain ⟨k1, z1⟩ := narrow_Z (near_Z (sq2 a b) (by omega)) (by omega)
  unfold impl_PowerOf.f
  rw [power_f hx hy b1 b2]
  simp only [Option.bind_some]
  rw [if_pos k1]
  rw [sq2_int] at z1
  exact ⟨_, rfl, z1⟩
theorem long_f {x y : Nat} {a b : Int} (hx : Zr x a) (hy : Zr y b) (b1 : a.natAbs ≤ 200) (b2 : b.natAbs ≤ 200) : ∃ r, impl_LongOf.f (x, y) = some r ∧ spec_RootNumber.f (floatOfInt .f32 (a * a + b * b)) = some r := by
  have hle := sq2_le b1 b2
  obtain ⟨k1, z1⟩ := wide_nat (sq2 a b) (by omega)
  have hI : XN.Is false (FloatKind.f32.format.read (floatOfInt .f32 ((sq2 a b : Nat) : Int))) := by
    rw [PI.int_near, decide_eq_false (by omega)]
    exact XN.near32 _ _ _
  obtain ⟨w, h1, h2⟩ := XN.wide hI
  obtain ⟨c, h3, h4⟩ := XN.root_ok h2
  obtain ⟨r, h5, h6⟩ := XN.narrow_ok h4
  obtain ⟨q1, q2⟩ := cok_of h1
  obtain ⟨q3, q4⟩ := cok_of h5
  rw [q2] at z1
  refine ⟨r, ?_, ?_⟩
  · unfold impl_LongOf.f XR.Sqrt.f
    rw [power_f hx hy b1 b2]
    simp only [Option.bind_some]
    rw [← z1, h3]
    simp only [Option.bind_some]
    rw [if_pos q3, q4]
  · unfold spec_RootNumber.f spec_l01Sqrt.f spec_l01Narrow.f XR.Sqrt.f
    rw [← sq2_int, if_pos q1, q2, h3]
    simp only [Option.bind_some]
    rw [if_pos q3, q4]
    rfl
theorem conj_f {x y : Nat} {b : Int} (hl : y < 4294967296) (hy : Zr y b) : ∃ v, impl_ConjugateOf.f (x, y) = some (x, v) ∧ Zr v (-b) := ⟨_, rfl, neg_Z hl hy⟩
theorem sq2_ne {c d : Int} (h0 : ¬ (c = 0 ∧ d = 0)) : c * c + d * d ≠ 0 := by
  intro h
  rw [← sq2_int] at h
  have h1 : sq2 c d = 0 := by omega
  unfold sq2 at h1
  have h2 : c.natAbs * c.natAbs = 0 := by omega
  have h3 : d.natAbs * d.natAbs = 0 := by omega
  have h4 : c.natAbs = 0 := by rcases Nat.mul_eq_zero.1 h2 with h | h <;> exact h
  have h5 : d.natAbs = 0 := by rcases Nat.mul_eq_zero.1 h3 with h | h <;> exact h
  exact h0 ⟨by omega, by omega⟩
theorem quot_f {p q u v : Nat} {a b c d : Int} (hp : Zr p (a * c - b * d)) (hq : Zr q (a * d + b * c)) (hu : Zr u c) (hv : Zr v d) (hl : v < 4294967296) (b1 : a.natAbs ≤ 200) (b2 : b.natAbs ≤ 200) (b3 : c.natAbs ≤ 200) (b4 : d.natAbs ≤ 200) (h0 : ¬ (c = 0 ∧ d = 0)) :
    ∃ x y, impl_QuotientOf.f (p, q) (u, v) = some (x, y) ∧ Zr x a ∧ Zr y b := by
  have m1 := mul_b b1 b3
  have m2 := mul_b b2 b4
  have m3 := mul_b b1 b4
  have m4 := mul_b b2 b3
  have n1 : (a * c - b * d).natAbs ≤ 80000 := by omega
  have n2 : (a * d + b * c).natAbs ≤ 80000 := by omega
  have b5 : (-d).natAbs ≤ 200 := by omega
  have l1 := mul_b n1 b3
  have l2 := mul_b n2 b5
  have l3 := mul_b n1 b5
  have l4 := mul_b n2 b3
  obtain ⟨p', q', e1, P, Q⟩ := wide_f hp hq
  obtain ⟨v', e2, V⟩ := conj_f (x := u) hl hv
  obtain ⟨u2, v2, e3, U2, V2⟩ := wide_f hu V
  have e4 := power_f hu hv b3 b4
  have Z4 := near_Z (sq2 c d) (by have := sq2_le b3 b4; omega)
  rw [sq2_int] at Z4
  obtain ⟨k1, z1⟩ := Z64_mul P U2 (by omega)
  obtain ⟨k2, z2⟩ := Z64_mul Q V2 (by omega)
  obtain ⟨k3, z3⟩ := Z64_sub z1 z2 (by omega)
  obtain ⟨j1, y1⟩ := Z64_mul P V2 (by omega)
  obtain ⟨j2, y2⟩ := Z64_mul Q U2 (by omega)
  obtain ⟨j3, y3⟩ := Z64_add y1 y2 (by omega)
  have s0 := sq2_ne h0
  have i1 : (a * c - b * d) * c - (a * d + b * c) * (-d) = a * (c * c + d * d) := by grind
  have i2 : (a * c - b * d) * (-d) + (a * d + b * c) * c = b * (c * c + d * d) := by grind
  rw [i1] at z3
  rw [i2] at y3
  obtain ⟨k4, z4⟩ := Z64_div z3 Z4 s0 (by omega)
  obtain ⟨k5, z5⟩ := narrow_Z z4 (by omega)
  obtain ⟨j4, y4⟩ := Z64_div y3 Z4 s0 (by omega)
  obtain ⟨j5, y5⟩ := narrow_Z y4 (by omega)
  unfold impl_QuotientOf.f
  rw [e1]
  simp only [Option.bind_some]
  rw [e2]
  simp only [Option.bind_some]
  rw [e3]
  simp only [Option.bind_some]
  rw [e4]
  simp only [Option.bind_some]
  rw [if_pos k1, if_pos k2, if_pos k3, if_pos j1, if_pos j2, if_pos j3, if_pos k4, if_pos k5, if_pos j4, if_pos j5]
  exact ⟨_, _, rfl, z5, y5⟩
theorem scale_f {x y u : Nat} {a b c : Int} (hx : Zr x a) (hy : Zr y b) (hu : Zr u c) (b1 : a.natAbs ≤ 200) (b2 : b.natAbs ≤ 200) (b3 : c.natAbs ≤ 2) : ∃ p q, impl_ScaleComplex.f (x, y) u = some (p, q) ∧ Zr p (a * c) ∧ Zr q (b * c) := by
  have m1 := mul_b b1 b3
  have m2 := mul_b b2 b3
  obtain ⟨k1, z1⟩ := Z_mul hx hu (by omega)
  obtain ⟨k2, z2⟩ := Z_mul hy hu (by omega)
  unfold impl_ScaleComplex.f
  rw [if_pos k1, if_pos k2]
  exact ⟨_, _, rfl, z1, z2⟩
theorem two_Z : Zr 1073741824 2 := ⟨false, 2, 22, by decide, rfl⟩
theorem zero_Z : Zr 0 0 := ⟨false, 0, 149, by decide, rfl⟩
theorem smn_self (x : Nat) : XM.smn x x = true := by
  unfold XM.smn
  cases isn .f32 x <;> simp
theorem same_self (p : Nat × Nat) : impl_SameComplex.f p p = some true := by
  unfold impl_SameComplex.f XM.SameNumber.f
  simp only [smn_self, Option.bind_some, if_true]
theorem conj2 (p : Nat × Nat) : (impl_ConjugateOf.f p).bind (fun t => impl_ConjugateOf.f t) = some p := by
  unfold impl_ConjugateOf.f
  simp only [Option.bind_some, neg_neg]
theorem law1 (l0 l1 : List Int) (hl0 : okS l0) (hl1 : okS l1) (k : Nat) (hk : 1000 < k) : laws_FnProducts.j1 k l0 l1 false = some true := by
  obtain ⟨k, rfl⟩ : ∃ m, k = m + 1 := ⟨k - 1, by omega⟩
  simp only [laws_FnProducts.j1]
  obtain ⟨n, e1, hn⟩ := at_ok hl0
  obtain ⟨xs, e2, hw, hlen⟩ := any_ok hl1 n k hn (by omega)
  obtain ⟨x, e3, hx⟩ := number_ok hl0
  obtain ⟨w, e4, hw4⟩ := complex_ok hl0
  have b1 := bits_b x hx
  rw [if_neg (by decide), e1]
  simp only [Option.bind_some]
  rw [e2]
  simp only [Option.bind_some]
  rw [ctext_f xs (by omega) k (by omega)]
  simp only [Option.bind_some]
  rw [cread_f xs (by omega) hw k (by omega)]
  simp only [Option.bind_some]
  rw [e3]
  simp only [Option.bind_some, XL.BitsOf.f, XM.FromBits.f]
  rw [if_pos ⟨b1.1, by omega⟩, e4]
  simp only [Option.bind_some, if_true]
  rw [clist_same xs (by omega) hw k (by omega)]
  have e5 : (XL.bits x % 4294967296).toNat = (XL.bits x).toNat := by rw [Int.emod_eq_of_lt b1.1 b1.2]
  have e6 : spec_SameNumber.f (XL.bits x).toNat x = some true := by
    unfold spec_SameNumber.f spec_l01Same.f XL.l01Bits.f
    have := bits_bits x hx
    rw [Int.toNat_of_nonneg b1.1] at this
    simp only [Option.bind_some, this, beq_self_eq_true]
  simp only [Option.bind_some, if_true]
  rw [e5, e6]
  simp only [Option.bind_some, if_true, XZ.NarrowComplex.f]
  rw [same_self w]
  simp only [Option.bind_some, if_true]
  have e7 := conj2 w
  have e8 : impl_ConjugateOf.f w = some (w.1, Op.negFloat .f32 w.2) := rfl
  rw [e8] at e7 ⊢
  simp only [Option.bind_some] at e7 ⊢
  rw [e7]
  simp only [Option.bind_some]
  rw [same_self w]
  simp only [Option.bind_some, if_true, XZ.IsFiniteComplex.f, spec_IsFinite.f, XL.l01Finite.f, XW.cfin]
  cases fin w.1 <;> simp
theorem law0 (l0 l1 : List Int) (hl0 : okS l0) (hl1 : okS l1) (k : Nat) (hk : 1001 < k) {x y u v p q : Nat} {a b c d : Int} (hx : Zr x a) (hy : Zr y b) (hu : Zr u c) (hv : Zr v d) (hl : v < 4294967296) (hp : Zr p (a * c - b * d)) (hq : Zr q (a * d + b * c))
    (b1 : a.natAbs ≤ 200) (b2 : b.natAbs ≤ 200) (b3 : c.natAbs ≤ 200) (b4 : d.natAbs ≤ 200) : laws_FnProducts.j0 k l0 l1 (x, y) (u, v) (p, q) false = some true := by
  obtain ⟨k, rfl⟩ : ∃ m, k = m + 1 := ⟨k - 1, by omega⟩
  simp only [laws_FnProducts.j0]
  have hs : ((impl_ScaleComplex.f (x, y) 1073741824).bind fun t334 => (if fok .add .f32 x x = true then (if fok .add .f32 y y = true then (laws_FnProducts.j1 k l0 l1 (!((FloatKind.f32.format.order t334.1 (fop .add .f32 x x) == some .eq) && (FloatKind.f32.format.order t334.2 (fop .add .f32 y y) == some .eq)))) else (none)) else (none))) = some true := by
    obtain ⟨s1, s2, e1, S1, S2⟩ := scale_f hx hy two_Z b1 b2 (by decide)
    obtain ⟨k1, z1⟩ := Z_add hx hx (by omega)
    obtain ⟨k2, z2⟩ := Z_add hy hy (by omega)
    rw [show a * 2 = a + a by omega] at S1
    rw [show b * 2 = b + b by omega] at S2
    rw [e1]
    simp only [Option.bind_some]
    rw [if_pos k1, if_pos k2, Z_eq S1 z1, Z_eq S2 z2]
    exact law1 l0 l1 hl0 hl1 k (by omega)
  rw [if_neg (by decide)]
  by_cases c0 : (!((FloatKind.f32.format.order u 0 == some .eq) && (FloatKind.f32.format.order v 0 == some .eq))) = true
  · rw [if_pos c0]
    have h0 : ¬ (c = 0 ∧ d = 0) := by
      rintro ⟨rfl, rfl⟩
      rw [Z_eq hu zero_Z, Z_eq hv zero_Z] at c0
      exact absurd c0 (by decide)
    obtain ⟨x', y', e1, X, Y⟩ := quot_f hp hq hu hv hl b1 b2 b3 b4 h0
    rw [e1]
    simp only [Option.bind_some]
    rw [Z_eq X hx, Z_eq Y hy, if_neg (by decide)]
    exact hs
  · rw [if_neg c0]
    exact hs
theorem law (l0 l1 : List Int) (hl0 : okS l0) (hl1 : okS l1) : ∃ k, laws_FnProducts.f k l0 l1 = some true := by
  obtain ⟨K, hK⟩ : ∃ K : Nat, 100000 < K := ⟨100001, by omega⟩
  refine ⟨K, ?_⟩
  unfold laws_FnProducts.f laws_b10Long.f
  by_cases g0 : (l0.length : Int) > 1048576
  · rw [if_pos g0]
    simp only [Option.bind_some, if_true]
  rw [if_neg g0]
  simp only [Option.bind_some]
  by_cases g1 : (l1.length : Int) > 1048576
  · rw [if_pos (decide_eq_true g1)]
  rw [if_neg (by simpa using g1)]
  clear g0 g1
  obtain ⟨a, b, ea, ba, bb⟩ := whole_ok hl0 K (by omega)
  obtain ⟨c, d, ec, bc, bd⟩ := whole_ok hl1 K (by omega)
  have r0 (x : Nat × Nat) : rdOf ((0, 0) : Nat × Nat) [x] 0 = x := rfl
  have g2 (x : Nat × Nat) : 0 < (([x].length : Nat) : Int) := Int.zero_lt_one
  rw [ea]
  simp only [Option.bind_some]
  rw [if_pos (g2 _), ec]
  simp only [Option.bind_some]
  rw [if_pos (g2 _)]
  simp only [r0]
  have nA : a.natAbs ≤ 200 := by omega
  have nB : b.natAbs ≤ 200 := by omega
  have nC : c.natAbs ≤ 200 := by omega
  have nD : d.natAbs ≤ 200 := by omega
  have A := Zr_int a (by omega)
  have B := Zr_int b (by omega)
  have C := Zr_int c (by omega)
  have D := Zr_int d (by omega)
  have lb := PH.int_lt b
  have ld := PH.int_lt d
  obtain ⟨f1, v1⟩ := fiv_Z A (by omega)
  obtain ⟨f2, v2⟩ := fiv_Z B (by omega)
  obtain ⟨f3, v3⟩ := fiv_Z C (by omega)
  obtain ⟨f4, v4⟩ := fiv_Z D (by omega)
  generalize floatOfInt .f32 a = x at A f1 v1
  generalize floatOfInt .f32 b = y at B f2 v2 lb
  generalize floatOfInt .f32 c = u at C f3 v3
  generalize floatOfInt .f32 d = v at D f4 v4 ld
  have m1 := mul_b nA nC
  have m2 := mul_b nB nD
  have m3 := mul_b nA nD
  have m4 := mul_b nB nC
  have m5 := mul_b nA nA
  have m6 := mul_b nB nB
  have w1 : wrap64 (wrap64 (a * c) - wrap64 (b * d)) = a * c - b * d := by
    rw [wid (i := a * c) (by omega) (by omega), wid (i := b * d) (by omega) (by omega), wid (by omega) (by omega)]
  have w2 : wrap64 (wrap64 (a * d) + wrap64 (b * c)) = a * d + b * c := by
    rw [wid (i := a * d) (by omega) (by omega), wid (i := b * c) (by omega) (by omega), wid (by omega) (by omega)]
  have w3 : wrap64 (wrap64 (a * a) + wrap64 (b * b)) = a * a + b * b := by
    rw [wid (i := a * a) (by omega) (by omega), wid (i := b * b) (by omega) (by omega), wid (by omega) (by omega)]
  simp only [f1, f2, f3, f4, v1, v2, v3, v4, w1, w2, w3, if_true]
  obtain ⟨p, q, e1, P, Q, bp, bq⟩ := mul_f A B C D nA nB nC nD
  rw [e1]
  simp only [Option.bind_some]
  have I1 := Zr_int (a * c - b * d) (by omega)
  have I2 := Zr_int (a * d + b * c) (by omega)
  rw [Z_eq P I1, Z_eq Q I2, if_neg (by decide)]
  obtain ⟨p', q', e2, P', Q', _, _⟩ := mul_f C D A B nC nD nA nB
  rw [e2]
  simp only [Option.bind_some]
  rw [show c * a - d * b = a * c - b * d by grind] at P'
  rw [show c * b + d * a = a * d + b * c by grind] at Q'
  rw [Z_eq P' P, Z_eq Q' Q, if_neg (by decide)]
  obtain ⟨s, e3, S⟩ := Power_f A B nA nB
  rw [e3]
  simp only [Option.bind_some]
  have I3 := Zr_int (a * a + b * b) (by omega)
  rw [Z_eq S I3, if_neg (by decide)]
  obtain ⟨y', e4, Y'⟩ := conj_f (x := x) lb B
  rw [e4]
  simp only [Option.bind_some]
  obtain ⟨g, h, e5, G, H, _, _⟩ := mul_f A B A Y' nA nB nA (by omega)
  rw [e5]
  simp only [Option.bind_some]
  rw [show a * a - b * (-b) = a * a + b * b by grind] at G
  rw [show a * (-b) + b * a = 0 by grind] at H
  rw [Z_eq G I3, Z_eq H zero_Z, if_neg (by decide)]
  obtain ⟨r, e6, e7⟩ := long_f A B nA nB
  rw [e6]
  simp only [Option.bind_some]
  rw [e7]
  simp only [Option.bind_some]
  have e8 : spec_SameNumber.f r r = some true := by
    unfold spec_SameNumber.f spec_l01Same.f XL.l01Bits.f
    simp
  rw [e8]
  simp only [Option.bind_some, Bool.not_true]
  exact law0 l0 l1 hl0 hl1 K (by omega) A B C D ld P Q nA nB nC nD
end Go.Proofs.YtnnemdjbopdjmaaDoor.PP
end
