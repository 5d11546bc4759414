/- Words, walks and plain laws that a claim of this seat needs, one text after the other (part 8). -/
import Derived.Test.YtelkklnfbfmecaaBB7
set_option linter.unusedVariables false
set_option linter.unusedSimpArgs false
section
set_option linter.unusedVariables false
set_option linter.unusedSimpArgs false
namespace Go.Proofs.Ytelkklnfbfmecaa
namespace FR
theorem two_ne : (2 : Rat) ≠ 0 := by decide
theorem pw_pos (e : Int) : (0 : Rat) < (2 : Rat) ^ e := Rat.zpow_pos (by decide)
theorem pw_add (a b : Int) : (2 : Rat) ^ (a + b) = (2 : Rat) ^ a * (2 : Rat) ^ b := Rat.zpow_add two_ne a b
theorem pw_nat (n : Nat) : (2 : Rat) ^ (n : Int) = ((2 ^ n : Nat) : Rat) := by
  rw [Rat.zpow_natCast]
  induction n with
  | zero => rfl
  | succ n ih => rw [Rat.pow_succ, ih, Nat.pow_succ, Rat.natCast_mul]; rfl
theorem pw_mono {a b : Int} (h : a ≤ b) : (2 : Rat) ^ a ≤ (2 : Rat) ^ b := by
  obtain ⟨n, rfl⟩ : ∃ n : Nat, b = a + n := ⟨(b - a).toNat, by omega⟩
  rw [pw_add, pw_nat]
  have h1 : (1 : Rat) ≤ ((2 ^ n : Nat) : Rat) := by
    have : 1 ≤ 2 ^ n := Nat.one_le_two_pow
    exact_mod_cast this
  have := Rat.mul_le_mul_of_nonneg_left h1 (Rat.le_of_lt (pw_pos a))
  rwa [Rat.mul_one] at this
theorem pw_lt {a b : Int} (h : (2 : Rat) ^ a < (2 : Rat) ^ b) : a < b := by
  apply Classical.byContradiction
  intro hn
  have := pw_mono (a := b) (b := a) (by omega)
  exact absurd h (Rat.not_lt.2 this)
open Ieee
def sv (s : Bool) (m : Nat) (e : Int) : Rat := (if s = true then -(m : Rat) else (m : Rat)) * (2 : Rat) ^ e
def Fv (f : Format) (x : Nat) (v : Rat) : Prop := ∃ s m e, f.read x = .number s m e ∧ sv s m e = v
theorem sv_zero (s : Bool) (e : Int) : sv s 0 e = 0 := by
  unfold sv
  cases s <;> simp <;> grind
theorem sv_up (s : Bool) (m k : Nat) (e : Int) : sv s (m * 2 ^ k) e = sv s m (e + k) := by
  unfold sv
  rw [pw_add, pw_nat]
  cases s <;> simp [Rat.natCast_mul] <;> grind
theorem cut_near (neg : Bool) (n d : Nat) : 2 * (Toward.even.cut neg n d * 2 ^ d) ≤ 2 * n + 2 ^ d ∧ 2 * n ≤ 2 * (Toward.even.cut neg n d * 2 ^ d) + 2 ^ d := by
  unfold Toward.cut
  by_cases hd : d ≤ n.log2 + 2
  · have hm : min d (n.log2 + 2) = d := Nat.min_eq_left hd
    simp only [hm, Nat.shiftLeft_eq, Nat.one_mul]
    have hp : 0 < 2 ^ d := Nat.two_pow_pos d
    have h1 := Nat.div_add_mod n (2 ^ d)
    have h2 := Nat.mod_lt n hp
    generalize 2 ^ d = g at *
    generalize n / g = q at *
    generalize n % g = r at *
    subst h1
    have e1 : q * g = g * q := Nat.mul_comm _ _
    have e2 : (q + 1) * g = g * q + g := by rw [Nat.add_mul, e1]; omega
    cases hc : (decide (g < 2 * r) || g == 2 * r && q % 2 == 1) with
    | true =>
      simp at hc
      show 2 * ((q + 1) * g) ≤ _ ∧ _ ≤ 2 * ((q + 1) * g) + g
      rw [e2]
      omega
    | false =>
      simp at hc
      show 2 * ((q + 0) * g) ≤ _ ∧ _ ≤ 2 * ((q + 0) * g) + g
      rw [Nat.add_zero, e1]
      omega
  · have hm : min d (n.log2 + 2) = n.log2 + 2 := Nat.min_eq_right (by omega)
    have hn : 2 * n < 2 ^ (n.log2 + 2) := by
      have := @Nat.lt_log2_self n
      rw [Nat.pow_succ]
      omega
    have hle : 2 ^ (n.log2 + 2) ≤ 2 ^ d := Nat.pow_le_pow_right (by decide) (by omega)
    simp only [hm, Nat.shiftLeft_eq, Nat.one_mul]
    have q0 : n / 2 ^ (n.log2 + 2) = 0 := Nat.div_eq_of_lt (by omega)
    have r0 : n % 2 ^ (n.log2 + 2) = n := Nat.mod_eq_of_lt (by omega)
    rw [q0, r0]
    have : (decide (2 ^ (n.log2 + 2) < 2 * n) || 2 ^ (n.log2 + 2) == 2 * n && 0 % 2 == 1) = false := by
      simp
      omega
    rw [this]
    show 2 * ((0 + 0) * 2 ^ d) ≤ _ ∧ _ ≤ 2 * ((0 + 0) * 2 ^ d) + _
    rw [Nat.add_zero, Nat.zero_mul]
    omega
theorem cut_whole (neg : Bool) (n d : Nat) (h : 2 ^ d ∣ n) : Toward.even.cut neg n d * 2 ^ d = n := by
  obtain ⟨q, rfl⟩ := h
  by_cases hq : q = 0
  · subst hq
    have := cut_near neg (2 ^ d * 0) d
    rw [Nat.mul_zero] at this ⊢
    have h2 := this.1
    have hp : 0 < 2 ^ d := Nat.two_pow_pos d
    cases hc : Toward.even.cut neg 0 d with
    | zero => simp
    | succ c =>
      rw [hc, Nat.add_mul, Nat.one_mul] at h2
      exfalso
      omega
  · have hl : d ≤ (2 ^ d * q).log2 := by
      have : 2 ^ d ≤ 2 ^ d * q := Nat.le_mul_of_pos_right _ (by omega)
      exact (Nat.le_log2 (by have := Nat.two_pow_pos d; omega)).2 this
    unfold Toward.cut
    have hm : min d ((2 ^ d * q).log2 + 2) = d := Nat.min_eq_left (by omega)
    have hp : 0 < 2 ^ d := Nat.two_pow_pos d
    simp only [hm, Nat.shiftLeft_eq, Nat.one_mul]
    rw [Nat.mul_div_cancel_left _ hp, Nat.mul_mod_right]
    have : (decide (2 ^ d < 2 * 0) || 2 ^ d == 2 * 0 && q % 2 == 1) = false := by
      have h1 : decide (2 ^ d < 2 * 0) = false := by simp
      have h2 : (2 ^ d == 2 * 0) = false := by
        rw [beq_eq_false_iff_ne]
        omega
      rw [h1, h2]
      rfl
    rw [this]
    show (q + 0) * 2 ^ d = _
    rw [Nat.add_zero, Nat.mul_comm]
def Good (f : Format) : Prop := f = single ∨ f = double
def top (f : Format) : Int := 2 ^ (f.exponentBits - 1) - 1
theorem read_word {f : Format} (hf : Good f) (neg : Bool) (r : Nat) (h : r < f.infRung) : f.read (f.word neg r) = if r < f.binade then .number neg r f.leastPlace else .number neg (f.binade + r % f.binade) (f.leastPlace + (r / f.binade - 1 : Nat)) := by
  have hs : f.infRung ≤ f.signWeight := by rcases hf with rfl | rfl <;> decide
  have hp : 0 < f.signWeight := by rcases hf with rfl | rfl <;> decide
  have e1 : (f.word neg r) / f.signWeight % 2 = if neg = true then 1 else 0 := by
    unfold Format.word
    cases neg with
    | true => rw [if_pos rfl, Nat.add_div_left _ hp, Nat.div_eq_of_lt (by omega)]; rfl
    | false => rw [if_neg (by simp), Nat.div_eq_of_lt (by omega)]; rfl
  have e2 : (f.word neg r) % f.signWeight = r := by
    unfold Format.word
    cases neg with
    | true => rw [if_pos rfl, Nat.add_mod_left, Nat.mod_eq_of_lt (by omega)]
    | false => rw [if_neg (by simp), Nat.mod_eq_of_lt (by omega)]
  unfold Format.read
  simp only [e1, e2]
  have e3 : ((if neg = true then 1 else 0) == 1) = neg := by cases neg <;> rfl
  rw [e3, if_pos h]
theorem binade_pos {f : Format} (hf : Good f) : 0 < f.binade := by rcases hf with rfl | rfl <;> decide
theorem read_rung {f : Format} (hf : Good f) (neg : Bool) (L K : Nat) (hK : K ≤ 2 * f.binade) (hL : L = 0 ∨ f.binade ≤ K) (h : L * f.binade + K < f.infRung) : Fv f (f.word neg (L * f.binade + K)) (sv neg K (f.leastPlace + (L : Int))) := by
  have hb := binade_pos hf
  unfold Fv
  rw [read_word hf neg _ h]
  by_cases h1 : L * f.binade + K < f.binade
  · rw [if_pos h1]
    have hL0 : L = 0 := by
      rcases hL with h | h
      · exact h
      · omega
    subst hL0
    refine ⟨_, _, _, rfl, ?_⟩
    simp
  · rw [if_neg h1]
    refine ⟨_, _, _, rfl, ?_⟩
    have key : ∀ q t : Nat, q * f.binade + t = L * f.binade + K → t < f.binade → 1 ≤ q → sv neg (f.binade + t) (f.leastPlace + ((q - 1 : Nat) : Int)) = sv neg K (f.leastPlace + (L : Int)) := by
      intro q t he ht hq
      by_cases hqL : q = L + 2
      · subst hqL
        have : (L + 2) * f.binade = L * f.binade + 2 * f.binade := by rw [Nat.add_mul]
        obtain rfl : t = 0 := by omega
        obtain rfl : K = f.binade * 2 ^ 1 := by omega
        rw [sv_up]
        congr 1
        omega
      · by_cases hqL : q = L + 1
        · subst hqL
          have : (L + 1) * f.binade = L * f.binade + f.binade := by rw [Nat.add_mul]; omega
          obtain rfl : K = f.binade + t := by omega
          congr 1
        · exfalso
          have hlt : q < L + 1 ∨ L + 3 ≤ q := by omega
          rcases hlt with h | h
          · have : q * f.binade ≤ L * f.binade := Nat.mul_le_mul_right _ (by omega)
            rcases hL with h0 | h0
            · omega
            · omega
          · have : (L + 3) * f.binade ≤ q * f.binade := Nat.mul_le_mul_right _ h
            rw [Nat.add_mul] at this
            omega
    refine key _ _ ?_ (Nat.mod_lt _ hb) ?_
    · have := Nat.div_add_mod (L * f.binade + K) f.binade
      rw [Nat.mul_comm] at this
      exact this
    · exact (Nat.le_div_iff_mul_le hb).2 (by omega)
def hu (f : Format) (J : Int) : Rat := (2 : Rat) ^ (max (J - 1 - f.fractionBits) f.leastPlace - 1)
theorem neg_inj {a b : Rat} (h : -a = -b) : a = b := by grind
def Nr (h a b : Rat) : Prop := a ≤ b + h ∧ b ≤ a + h
theorem Nr.mono {h k a b : Rat} (hn : Nr h a b) (hk : h ≤ k) : Nr k a b := by unfold Nr at *; grind
theorem mul_ne {a b : Rat} (ha : a ≠ 0) (hb : b ≠ 0) : a * b ≠ 0 := fun h => (Rat.mul_eq_zero.1 h).elim ha hb
theorem mul_cancel {a b c : Rat} (hc : c ≠ 0) (h : a * c = b * c) : a = b := by
  have : a * c / c = b * c / c := by rw [h]
  rwa [Rat.mul_div_cancel hc, Rat.mul_div_cancel hc] at this
theorem sv_diff (s : Bool) {m n : Nat} {e : Int} {b : Nat} (h1 : 2 * m ≤ 2 * n + b) (h2 : 2 * n ≤ 2 * m + b) : Nr ((b : Rat) * (2 : Rat) ^ (e - 1)) (sv s m e) (sv s n e) := by
  have hp := pw_pos (e - 1)
  have he : (2 : Rat) ^ e = 2 * (2 : Rat) ^ (e - 1) := by
    have : e = 1 + (e - 1) := by omega
    rw [this, pw_add]
    have : (1 : Int) + (e - 1) - 1 = e - 1 := by omega
    rw [this]
    rfl
  have g1 : 2 * (m : Rat) ≤ 2 * (n : Rat) + b := by exact_mod_cast h1
  have g2 : 2 * (n : Rat) ≤ 2 * (m : Rat) + b := by exact_mod_cast h2
  have k1 := Rat.mul_le_mul_of_nonneg_right g1 (Rat.le_of_lt hp)
  have k2 := Rat.mul_le_mul_of_nonneg_right g2 (Rat.le_of_lt hp)
  unfold sv Nr
  rw [he]
  clear h1 h2 g1 g2 he
  cases s <;> simp <;> grind
theorem near_val {f : Format} (hf : Good f) (s : Bool) (m : Nat) (e J : Int) (h : m ≠ 0 → (m.log2 : Int) + e < J) (hJ : J ≤ top f) :
    ∃ v, Fv f (f.nearest s m e) v ∧ Nr (hu f J) v (sv s m e) ∧ ((∃ (z : Nat) (t : Int), sv s m e = sv s z t ∧ z < 2 * f.binade ∧ f.leastPlace ≤ t) → v = sv s m e) := by
  have hb := binade_pos hf
  have hbp : f.binade = 2 ^ f.fractionBits := rfl
  by_cases hm : m = 0
  · subst hm
    have : f.nearest s 0 e = f.word s (0 * f.binade + 0) := by unfold Format.nearest; simp
    rw [this]
    refine ⟨_, read_rung hf s 0 0 (by omega) (.inl rfl) (by rcases hf with rfl | rfl <;> decide), ?_, ?_⟩
    · rw [sv_zero, sv_zero]
      have := Rat.le_of_lt (pw_pos (max (J - 1 - f.fractionBits) f.leastPlace - 1))
      have hz : (0 : Rat) ≤ 0 + hu f J := by rw [Rat.zero_add]; exact this
      exact ⟨hz, hz⟩
    · intro _
      rw [sv_zero, sv_zero]
  · have hlg := h hm
    have hlow : 2 ^ m.log2 ≤ m := (Nat.le_log2 hm).1 (Nat.le_refl _)
    have hhigh : m < 2 ^ (m.log2 + 1) := Nat.lt_log2_self
    unfold Format.nearest
    rw [if_neg hm]
    simp only []
    have hlastdef : ∃ last : Int, last = max (e + m.log2 - f.fractionBits) f.leastPlace := ⟨_, rfl⟩
    obtain ⟨last, hlast⟩ := hlastdef
    rw [← hlast, Nat.shiftLeft_eq]
    obtain ⟨a, ha⟩ : ∃ a : Nat, a = (e - last).toNat := ⟨_, rfl⟩
    obtain ⟨d, hd⟩ : ∃ d : Nat, d = (last - e).toNat := ⟨_, rfl⟩
    obtain ⟨L, hL⟩ : ∃ L : Nat, L = (last - f.leastPlace).toNat := ⟨_, rfl⟩
    rw [← ha, ← hd, ← hL]
    have hll : last = f.leastPlace + (L : Int) := by omega
    have he : e = last + (a : Int) - d := by omega
    obtain ⟨n, hn⟩ : ∃ n : Nat, n = m * 2 ^ a := ⟨_, rfl⟩
    rw [← hn]
    have hc := cut_near s n d
    have up : n < 2 ^ (f.fractionBits + 1) * 2 ^ d := by
      have : n < 2 ^ (m.log2 + 1) * 2 ^ a := by rw [hn]; exact Nat.mul_lt_mul_of_pos_right hhigh (Nat.two_pow_pos a)
      rw [← Nat.pow_add] at this ⊢
      exact Nat.lt_of_lt_of_le this (Nat.pow_le_pow_right (by decide) (by omega))
    have low : 0 < L → 2 ^ f.fractionBits * 2 ^ d ≤ n := by
      intro h0
      have : 2 ^ m.log2 * 2 ^ a ≤ n := by rw [hn]; exact Nat.mul_le_mul_right _ hlow
      rw [← Nat.pow_add] at this ⊢
      exact Nat.le_trans (Nat.pow_le_pow_right (by decide) (by omega)) this
    have hd0 : 0 < 2 ^ d := Nat.two_pow_pos d
    obtain ⟨c, hcd⟩ : ∃ c, c = Toward.even.cut s n d := ⟨_, rfl⟩
    rw [← hcd] at hc ⊢
    have hK : c ≤ 2 * f.binade := by
      rw [hbp]
      rw [Nat.pow_succ] at up
      apply Classical.byContradiction
      intro hn2
      have : (2 * 2 ^ f.fractionBits + 1) * 2 ^ d ≤ c * 2 ^ d := Nat.mul_le_mul_right _ (by omega)
      rw [Nat.add_mul] at this
      have e5 : 2 ^ f.fractionBits * 2 * 2 ^ d = 2 * 2 ^ f.fractionBits * 2 ^ d := by rw [Nat.mul_comm (2 ^ f.fractionBits) 2]
      omega
    have hLK : L = 0 ∨ f.binade ≤ c := by
      by_cases h0 : L = 0
      · exact .inl h0
      · right
        have := low (by omega)
        rw [hbp]
        apply Classical.byContradiction
        intro hn2
        have h6 : (c + 1) * 2 ^ d ≤ 2 ^ f.fractionBits * 2 ^ d := Nat.mul_le_mul_right _ (by omega)
        rw [Nat.add_mul] at h6
        omega
    have hlt : L * f.binade + c < f.infRung := by
      have h7 : (L : Int) + 2 < 2 ^ f.exponentBits - 1 := by
        rcases hf with rfl | rfl
        · have : Format.leastPlace single = -149 := by decide
          have : single.fractionBits = 23 := rfl
          have : top single = 127 := by decide
          have : (2 : Int) ^ single.exponentBits = 256 := by decide
          omega
        · have : Format.leastPlace double = -1074 := by decide
          have : double.fractionBits = 52 := rfl
          have : top double = 1023 := by decide
          have : (2 : Int) ^ double.exponentBits = 2048 := by decide
          omega
      have h8 : L + 3 ≤ 2 ^ f.exponentBits - 1 := by
        have : ((2 ^ f.exponentBits : Nat) : Int) = 2 ^ f.exponentBits := by push_cast; rfl
        omega
      have h9 : (L + 3) * f.binade ≤ f.infRung := Nat.mul_le_mul_right _ h8
      rw [Nat.add_mul] at h9
      omega
    have hmin : min (L * f.binade + c) f.infRung = L * f.binade + c := Nat.min_eq_left (by omega)
    rw [hmin]
    refine ⟨_, read_rung hf s L c hK hLK hlt, ?_⟩
    rw [← hll]
    have e1 : sv s c last = sv s (c * 2 ^ d) (last - d) := by rw [sv_up]; congr 1; omega
    have e2 : sv s m e = sv s n (last - d) := by rw [hn, sv_up]; congr 1; omega
    refine ⟨?_, ?_⟩
    · have hh := sv_diff s (e := last - d) hc.1 hc.2
      rw [e1, e2]
      have : ((2 ^ d : Nat) : Rat) * (2 : Rat) ^ (last - d - 1) = (2 : Rat) ^ (last - 1) := by
        rw [← pw_nat, ← pw_add]
        congr 1
        omega
      rw [this] at hh
      have h3 : (2 : Rat) ^ (last - 1) ≤ hu f J := pw_mono (by omega)
      exact Nr.mono hh h3
    · rintro ⟨z, t, hz, hz2, ht⟩
      rw [e1, e2]
      have : 2 ^ d ∣ n := by
        by_cases hd0 : d = 0
        · subst hd0; exact ⟨n, by simp⟩
        have hz3 : sv s n (last - d) = sv s z t := by rw [← e2]; exact hz
        have hlt2 : last ≤ t := by
          have hz0 : z ≠ 0 := by
            rintro rfl
            rw [sv_zero] at hz
            unfold sv at hz
            have hp := pw_pos e
            have hm' : (m : Rat) ≠ 0 := by exact_mod_cast hm
            have hne : (m : Rat) * (2 : Rat) ^ e ≠ 0 := mul_ne hm' (Rat.ne_of_gt hp)
            cases s with
            | true =>
              have hz : -(m : Rat) * (2 : Rat) ^ e = 0 := hz
              rw [Rat.neg_mul] at hz
              exact hne (neg_inj (hz.trans (by rfl)))
            | false => exact hne hz
          have habs : (m : Rat) * (2 : Rat) ^ e = (z : Rat) * (2 : Rat) ^ t := by
            unfold sv at hz
            cases s <;> simp at hz <;> grind
          have k1 : (2 : Rat) ^ ((m.log2 : Int) + e) ≤ (m : Rat) * (2 : Rat) ^ e := by
            rw [pw_add, pw_nat]
            exact Rat.mul_le_mul_of_nonneg_right (by exact_mod_cast hlow) (Rat.le_of_lt (pw_pos e))
          have k2 : (z : Rat) * (2 : Rat) ^ t < (2 : Rat) ^ ((f.fractionBits : Int) + 1 + t) := by
            have : (2 : Rat) ^ ((f.fractionBits : Int) + 1 + t) = ((2 ^ (f.fractionBits + 1) : Nat) : Rat) * (2 : Rat) ^ t := by
              rw [pw_add, ← pw_nat]
              congr 2
            rw [this]
            have hz4 : z < 2 ^ (f.fractionBits + 1) := by rw [Nat.pow_succ, Nat.mul_comm, ← hbp]; exact hz2
            exact Rat.mul_lt_mul_of_pos_right (by exact_mod_cast hz4) (pw_pos t)
          have := pw_lt (Std.lt_of_le_of_lt (habs ▸ k1) k2)
          omega
        have : n = z * 2 ^ (t - last + d).toNat := by
          obtain ⟨u, hu⟩ : ∃ u : Nat, u = (t - last + d).toNat := ⟨_, rfl⟩
          rw [← hu]
          have ht2 : t = last - d + (u : Int) := by omega
          rw [ht2, ← sv_up] at hz3
          unfold sv at hz3
          have hp := pw_pos (last - d)
          have : (n : Rat) = ((z * 2 ^ u : Nat) : Rat) := by
            have hz4 : (n : Rat) * (2 : Rat) ^ (last - d) = ((z * 2 ^ u : Nat) : Rat) * (2 : Rat) ^ (last - d) := by
              cases s with
              | true =>
                have hz3 : -(n : Rat) * (2 : Rat) ^ (last - d) = -((z * 2 ^ u : Nat) : Rat) * (2 : Rat) ^ (last - d) := hz3
                rw [Rat.neg_mul, Rat.neg_mul] at hz3
                exact neg_inj hz3
              | false => exact hz3
            exact mul_cancel (Rat.ne_of_gt hp) hz4
          exact_mod_cast this
        rw [this]
        refine Nat.dvd_trans ?_ (Nat.dvd_mul_left _ _)
        exact Nat.pow_dvd_pow 2 (by omega)
      rw [hcd, cut_whole s n d this]
def Bd (J : Int) (v : Rat) : Prop := -(2 : Rat) ^ J < v ∧ v < (2 : Rat) ^ J
def Rep (f : Format) (v : Rat) : Prop := ∃ (n t : Int), v = (n : Rat) * (2 : Rat) ^ t ∧ n.natAbs < 2 * f.binade ∧ f.leastPlace ≤ t
theorem Bd.mono {J K : Int} {v : Rat} (h : Bd J v) (hk : J ≤ K) : Bd K v := by
  have := pw_mono hk
  unfold Bd at *
  grind
theorem sv_bd {s : Bool} {m : Nat} {e J : Int} (h : Bd J (sv s m e)) (hm : m ≠ 0) : (m.log2 : Int) + e < J := by
  have hp := pw_pos e
  have hlow : 2 ^ m.log2 ≤ m := (Nat.le_log2 hm).1 (Nat.le_refl _)
  have k1 : (2 : Rat) ^ ((m.log2 : Int) + e) ≤ (m : Rat) * (2 : Rat) ^ e := by
    rw [pw_add, pw_nat]
    exact Rat.mul_le_mul_of_nonneg_right (by exact_mod_cast hlow) (Rat.le_of_lt (pw_pos e))
  have k2 : (m : Rat) * (2 : Rat) ^ e < (2 : Rat) ^ J := by
    unfold Bd sv at h
    cases s with
    | true =>
      have h1 := h.1
      simp at h1
      rw [Rat.neg_mul] at h1
      exact Rat.neg_lt_neg_iff.1 h1
    | false => exact h.2
  exact pw_lt (Std.lt_of_le_of_lt k1 k2)
theorem int_nat (n : Int) : (n : Rat) = if n < 0 then -(n.natAbs : Rat) else (n.natAbs : Rat) := by
  by_cases h : n < 0
  · rw [if_pos h]
    have : n = -(n.natAbs : Int) := by omega
    have h2 : (n : Rat) = ((-(n.natAbs : Int) : Int) : Rat) := by rw [← this]
    rw [h2]
    rfl
  · rw [if_neg h]
    have : n = (n.natAbs : Int) := by omega
    have h2 : (n : Rat) = (((n.natAbs : Int) : Int) : Rat) := by rw [← this]
    rw [h2]
    rfl
theorem near {f : Format} (hf : Good f) {s : Bool} {m : Nat} {e J : Int} (h : Bd J (sv s m e)) (hJ : J ≤ top f) :
    ∃ v, Fv f (f.nearest s m e) v ∧ Nr (hu f J) v (sv s m e) ∧ (Rep f (sv s m e) → v = sv s m e) := by
  obtain ⟨v, h1, h2, h3⟩ := near_val hf s m e J (sv_bd h) hJ
  refine ⟨v, h1, h2, fun hr => h3 ?_⟩
  obtain ⟨n, t, hn, hb, ht⟩ := hr
  refine ⟨n.natAbs, t, ?_, hb, ht⟩
  have hp := pw_pos e
  have hq := pw_pos t
  rw [hn, int_nat]
  have hm0 : (0 : Rat) ≤ (m : Rat) := by exact_mod_cast Nat.zero_le m
  have hn0 : (0 : Rat) ≤ (n.natAbs : Rat) := by exact_mod_cast Nat.zero_le _
  have a1 := Rat.mul_nonneg hm0 (Rat.le_of_lt hp)
  have a2 := Rat.mul_nonneg hn0 (Rat.le_of_lt hq)
  rw [int_nat] at hn
  unfold sv at hn ⊢
  clear h1 h2 h3 h hb ht hm0 hn0 hp hq
  cases s with
  | true =>
    simp only [if_true] at hn ⊢
    split at hn
    · rename_i hneg
      rw [if_pos hneg]
    · rename_i hneg
      rw [if_neg hneg]
      rw [Rat.neg_mul] at hn ⊢
      grind
  | false =>
    simp only [Bool.false_eq_true, if_false] at hn ⊢
    split at hn
    · rename_i hneg
      rw [if_pos hneg]
      rw [Rat.neg_mul] at hn ⊢
      grind
    · rename_i hneg
      rw [if_neg hneg]
theorem sv_opp (s : Bool) (m : Nat) (e : Int) : sv (!s) m e = -sv s m e := by
  unfold sv
  cases s <;> simp <;> grind
theorem signed_val (s : Bool) (m up : Nat) (e : Int) : ((signed s m up : Int) : Rat) * (2 : Rat) ^ e = sv s m (e + up) := by
  rw [← sv_up]
  unfold signed sv
  rw [Nat.shiftLeft_eq]
  cases s with
  | true =>
    simp only [if_true]
    congr 1
  | false =>
    simp only [Bool.false_eq_true, if_false]
    congr 1
theorem total_val (s : Bool) (z : Int) (e : Int) (hs : z ≠ 0 → s = decide (z < 0)) : sv s z.natAbs e = (z : Rat) * (2 : Rat) ^ e := by
  by_cases h : z = 0
  · subst h
    show sv s 0 e = _
    rw [sv_zero]
    have : ((0 : Int) : Rat) = 0 := rfl
    rw [this, Rat.zero_mul]
  · rw [hs h, int_nat]
    unfold sv
    by_cases hz : z < 0 <;> simp [hz]
theorem sum_val {f : Format} (hf : Good f) {d e : Datum} {s t : Bool} {m n : Nat} {i j : Int} {a b : Rat} (hd : d = .number s m i) (he : e = .number t n j) (ha : sv s m i = a) (hb : sv t n j = b) {J : Int} (h : Bd J (a + b)) (hJ : J ≤ top f) :
    ∃ r c, (d.sum e).map f.write = some r ∧ Fv f r c ∧ Nr (hu f J) c (a + b) ∧ (Rep f (a + b) → c = a + b) := by
  subst hd he
  have key : sv (if signed s m (i - min i j).toNat + signed t n (j - min i j).toNat = 0 then s && t else decide (signed s m (i - min i j).toNat + signed t n (j - min i j).toNat < 0)) (signed s m (i - min i j).toNat + signed t n (j - min i j).toNat).natAbs (min i j) = a + b := by
    rw [total_val _ _ _ (fun h => by rw [if_neg h])]
    rw [Rat.intCast_add, Rat.add_mul, signed_val, signed_val]
    rw [show min i j + ((i - min i j).toNat : Int) = i by omega, show min i j + ((j - min i j).toNat : Int) = j by omega, ha, hb]
  rw [← key] at h ⊢
  obtain ⟨v, h1, h2, h3⟩ := near hf h hJ
  exact ⟨_, v, rfl, h1, h2, h3⟩
theorem add_val {f : Format} (hf : Good f) {x y : Nat} {a b : Rat} (hx : Fv f x a) (hy : Fv f y b) {J : Int} (h : Bd J (a + b)) (hJ : J ≤ top f) :
    ∃ r c, f.add x y = some r ∧ Fv f r c ∧ Nr (hu f J) c (a + b) ∧ (Rep f (a + b) → c = a + b) := by
  obtain ⟨s, m, i, hx, ha⟩ := hx
  obtain ⟨t, n, j, hy, hb⟩ := hy
  exact sum_val hf hx hy ha hb h hJ
theorem sub_val {f : Format} (hf : Good f) {x y : Nat} {a b : Rat} (hx : Fv f x a) (hy : Fv f y b) {J : Int} (h : Bd J (a - b)) (hJ : J ≤ top f) :
    ∃ r c, f.sub x y = some r ∧ Fv f r c ∧ Nr (hu f J) c (a - b) ∧ (Rep f (a - b) → c = a - b) := by
  obtain ⟨s, m, i, hx, ha⟩ := hx
  obtain ⟨t, n, j, hy, hb⟩ := hy
  have hy2 : (f.read y).opposite = .number (!t) n j := by rw [hy]; rfl
  rw [Rat.sub_eq_add_neg] at h ⊢
  exact sum_val hf hx hy2 ha ((sv_opp _ _ _).trans (by rw [hb])) h hJ
theorem sv_mul (s t : Bool) (m n : Nat) (i j : Int) : sv (s ^^ t) (m * n) (i + j) = sv s m i * sv t n j := by
  unfold sv
  rw [pw_add, Rat.natCast_mul]
  cases s <;> cases t <;> simp <;> grind
theorem mul_val {f : Format} (hf : Good f) {x y : Nat} {a b : Rat} (hx : Fv f x a) (hy : Fv f y b) {J : Int} (h : Bd J (a * b)) (hJ : J ≤ top f) :
    ∃ r c, f.mul x y = some r ∧ Fv f r c ∧ Nr (hu f J) c (a * b) ∧ (Rep f (a * b) → c = a * b) := by
  obtain ⟨s, m, i, hx, ha⟩ := hx
  obtain ⟨t, n, j, hy, hb⟩ := hy
  rw [← ha, ← hb, ← sv_mul] at h ⊢
  obtain ⟨v, h1, h2, h3⟩ := near hf h hJ
  refine ⟨_, v, ?_, h1, h2, h3⟩
  unfold Format.mul
  rw [hx, hy]
  rfl
def cmp (a b : Rat) : Ordering := if a < b then .lt else if a = b then .eq else .gt
theorem order_val {f : Format} {x y : Nat} {a b : Rat} (hx : Fv f x a) (hy : Fv f y b) : f.order x y = some (cmp a b) := by
  obtain ⟨s, m, i, hx, ha⟩ := hx
  obtain ⟨t, n, j, hy, hb⟩ := hy
  unfold Format.order
  rw [hx, hy]
  show some (compare (signed s m (i - min i j).toNat) (signed t n (j - min i j).toNat)) = _
  have ea : ((signed s m (i - min i j).toNat : Int) : Rat) * (2 : Rat) ^ (min i j) = a := by
    rw [signed_val, show min i j + ((i - min i j).toNat : Int) = i by omega, ha]
  have eb : ((signed t n (j - min i j).toNat : Int) : Rat) * (2 : Rat) ^ (min i j) = b := by
    rw [signed_val, show min i j + ((j - min i j).toNat : Int) = j by omega, hb]
  have hp := pw_pos (min i j)
  generalize signed s m (i - min i j).toNat = p at *
  generalize signed t n (j - min i j).toNat = q at *
  subst ea eb
  unfold cmp
  by_cases h1 : p < q
  · have : (p : Rat) * (2 : Rat) ^ min i j < (q : Rat) * (2 : Rat) ^ min i j := Rat.mul_lt_mul_of_pos_right (by exact_mod_cast h1) hp
    rw [if_pos this]
    rw [Int.compare_eq_lt.2 h1]
  · by_cases h2 : p = q
    · subst h2
      rw [if_neg (Rat.lt_irrefl), if_pos rfl]
      rw [Int.compare_eq_eq.2 rfl]
    · have h3 : q < p := by omega
      have : (q : Rat) * (2 : Rat) ^ min i j < (p : Rat) * (2 : Rat) ^ min i j := Rat.mul_lt_mul_of_pos_right (by exact_mod_cast h3) hp
      rw [if_neg (by grind), if_neg (by grind)]
      rw [Int.compare_eq_gt.2 h3]
theorem int_val {f : Format} (hf : Good f) (n : Int) (h : n.natAbs < 2 * f.binade) : Fv f (f.nearest (decide (n < 0)) n.natAbs 0) (n : Rat) := by
  have hv : sv (decide (n < 0)) n.natAbs 0 = (n : Rat) := by
    rw [total_val _ _ _ (fun _ => rfl), Rat.zpow_zero, Rat.mul_one]
  obtain ⟨v, h1, -, h3⟩ := near_val hf (decide (n < 0)) n.natAbs 0 (f.fractionBits + 1) (by
    intro h0
    have : n.natAbs < 2 ^ (f.fractionBits + 1) := by rw [Nat.pow_succ, Nat.mul_comm]; exact h
    have := (Nat.log2_lt h0).2 this
    omega) (by rcases hf with rfl | rfl <;> decide)
  rw [hv] at h3
  have hl : f.leastPlace ≤ 0 := by rcases hf with rfl | rfl <;> decide
  have : v = (n : Rat) := h3 ⟨n.natAbs, 0, hv.symm, h, hl⟩
  rwa [this] at h1
theorem abs_eq {ε X W : Rat} (he : ε = 1 ∨ ε = -1) (hX : 0 ≤ W) (hW : 0 ≤ X) (h : X = ε * W ∨ -X = ε * W) : X = W := by
  rcases he with rfl | rfl <;> rcases h with h | h <;> grind
theorem quo_gap {Q R n : Nat} {P q ε w : Rat} (hn : 0 < n) (hR : R < n) (hP : 0 < P) (he : ε = 1 ∨ ε = -1) (hq : q * n = ε * ((Q * n + R : Nat) : Rat) * (2 * P)) (hw : w = ε * ((2 * Q + (R != 0).toNat : Nat) : Rat) * P) : Nr P w q ∧ (R = 0 → w = q) := by
  have hn' : (0 : Rat) < (n : Rat) := by exact_mod_cast hn
  have hR' : (R : Rat) ≤ (n : Rat) := by exact_mod_cast Nat.le_of_lt hR
  have hR0 : (0 : Rat) ≤ (R : Rat) := by exact_mod_cast Nat.zero_le R
  have b1 := Rat.mul_nonneg (Rat.le_of_lt hP) hR0
  have b2 := Rat.mul_le_mul_of_nonneg_left hR' (Rat.le_of_lt hP)
  rw [Rat.natCast_add, Rat.natCast_mul] at hq hw
  have e1 : w * n = ε * (2 * (P * (Q : Rat) * n) + (((R != 0).toNat : Nat) : Rat) * (P * n)) := by rw [hw]; grind
  have e2 : q * n = ε * (2 * (P * (Q : Rat) * n) + 2 * (P * R)) := by rw [hq]; grind
  have hs : (((R != 0).toNat : Nat) : Rat) = 1 ∨ ((((R != 0).toNat : Nat) : Rat) = 0 ∧ R = 0) := by
    by_cases h : R = 0
    · subst h
      exact .inr ⟨rfl, rfl⟩
    · left
      have : (R != 0) = true := by simp [h]
      rw [this]
      rfl
  have hz : R = 0 → (R : Rat) = 0 := by rintro rfl; rfl
  have hz2 : R = 0 → (((R != 0).toNat : Nat) : Rat) = 0 := by rintro rfl; rfl
  generalize hA : P * (Q : Rat) * n = A at *
  generalize hB : P * (R : Rat) = B at *
  generalize hC : P * (n : Rat) = C at *
  generalize (((R != 0).toNat : Nat) : Rat) = σ at *
  have e3 : (q + P) * n = q * n + C := by rw [Rat.add_mul, hC]
  have e4 : (w + P) * n = w * n + C := by rw [Rat.add_mul, hC]
  refine ⟨⟨?_, ?_⟩, ?_⟩
  · refine Rat.le_of_mul_le_mul_right ?_ hn'
    rw [e3, e1, e2]
    clear hq hw e1 e2 e3 e4 hz hz2 hA hC
    rcases hs with hs | ⟨hs, h0⟩
    · subst hs
      rcases he with rfl | rfl <;> grind
    · subst hs
      have : B = 0 := by rw [← hB, h0]; exact Rat.mul_zero _
      rcases he with rfl | rfl <;> grind
  · refine Rat.le_of_mul_le_mul_right ?_ hn'
    rw [e4, e1, e2]
    clear hq hw e1 e2 e3 e4 hz hz2 hA hC
    rcases hs with hs | ⟨hs, h0⟩
    · subst hs
      rcases he with rfl | rfl <;> grind
    · subst hs
      have : B = 0 := by rw [← hB, h0]; exact Rat.mul_zero _
      rcases he with rfl | rfl <;> grind
  · intro h0
    have hB0 : B = 0 := by rw [← hB, hz h0]; exact Rat.mul_zero _
    refine mul_cancel (Rat.ne_of_gt hn') ?_
    rw [e1, e2, hz2 h0, hB0]
    grind
theorem quo_val {f : Format} (hf : Good f) {x y : Nat} {a b q : Rat} (hx : Fv f x a) (hy : Fv f y b) (hb : b ≠ 0) (hq : q * b = a) {J : Int} (h : Bd J q) (hJ : J ≤ top f) :
    ∃ r c, f.div x y = some r ∧ Fv f r c ∧ Nr (2 * hu f J) c q ∧ (Rep f q → c = q) := by
  obtain ⟨s, m, i, hx, ha⟩ := hx
  obtain ⟨t, n, j, hy, hbb⟩ := hy
  have hn0 : n ≠ 0 := by
    rintro rfl
    rw [sv_zero] at hbb
    exact hb hbb.symm
  unfold Format.div
  rw [hx, hy]
  show ∃ r c, (Datum.quotient (f.fractionBits + 2) (.number s m i) (.number t n j)).map f.write = some r ∧ _
  unfold Datum.quotient
  simp only [hn0, if_false]
  obtain ⟨more, hmore⟩ : ∃ more, more = f.fractionBits + 2 + n.log2 - m.log2 := ⟨_, rfl⟩
  rw [← hmore, Nat.shiftLeft_eq]
  obtain ⟨Q, hQ⟩ : ∃ Q, Q = m * 2 ^ more / n := ⟨_, rfl⟩
  obtain ⟨R, hR⟩ : ∃ R, R = m * 2 ^ more % n := ⟨_, rfl⟩
  rw [← hQ, ← hR]
  have hnp : 0 < n := Nat.pos_of_ne_zero hn0
  have hdm : m * 2 ^ more = Q * n + R := by
    have := Nat.div_add_mod (m * 2 ^ more) n
    rw [← hQ, ← hR, Nat.mul_comm] at this
    exact this.symm
  have hRn : R < n := by rw [hR]; exact Nat.mod_lt _ hnp
  obtain ⟨p, hp⟩ : ∃ p : Int, p = i - j - more - 1 := ⟨_, rfl⟩
  rw [← hp]
  have hPp := pw_pos p
  obtain ⟨ε, hε⟩ : ∃ ε : Rat, ε = if (s ^^ t) = true then -1 else 1 := ⟨_, rfl⟩
  have he : ε = 1 ∨ ε = -1 := by rw [hε]; split <;> grind
  have hw : sv (s ^^ t) (2 * Q + (R != 0).toNat) p = ε * ((2 * Q + (R != 0).toNat : Nat) : Rat) * (2 : Rat) ^ p := by
    unfold sv
    rw [hε]
    split <;> grind
  have h2p : (2 : Rat) ^ (p + 1) = 2 * (2 : Rat) ^ p := by rw [pw_add]; rw [Rat.mul_comm]; rfl
  have hqn : q * n = ε * ((Q * n + R : Nat) : Rat) * (2 * (2 : Rat) ^ p) := by
    rw [← hdm, Rat.natCast_mul, ← pw_nat, ← h2p]
    have hpj := pw_pos j
    refine mul_cancel (Rat.ne_of_gt hpj) ?_
    have e5 : ε * ((m : Rat) * (2 : Rat) ^ (more : Int)) * (2 : Rat) ^ (p + 1) * (2 : Rat) ^ j = ε * (m : Rat) * (2 : Rat) ^ i := by
      have : (2 : Rat) ^ i = (2 : Rat) ^ (more : Int) * (2 : Rat) ^ (p + 1) * (2 : Rat) ^ j := by
        rw [← pw_add, ← pw_add]
        congr 1
        omega
      rw [this]
      grind
    rw [e5]
    rw [← ha, ← hbb] at hq
    unfold sv at hq
    rw [hε]
    clear hw e5 he
    cases s <;> cases t <;> simp at hq ⊢ <;> grind
  obtain ⟨hgap, hex⟩ := quo_gap hnp hRn hPp he hqn hw
  by_cases hm : m = 0
  · subst hm
    have hq0 : q = 0 := by
      rw [sv_zero] at ha
      subst ha
      exact (Rat.mul_eq_zero.1 hq).resolve_right hb
    have hR0 : R = 0 := by rw [hR, Nat.zero_mul, Nat.zero_mod]
    have hwq := hex hR0
    rw [← hwq] at h ⊢
    obtain ⟨v, h1, h2, h3⟩ := near hf h hJ
    refine ⟨_, v, rfl, h1, h2.mono ?_, h3⟩
    have := pw_pos (max (J - 1 - f.fractionBits) f.leastPlace - 1)
    show hu f J ≤ 2 * hu f J
    have : (0 : Rat) < hu f J := this
    grind
  · have hlow : 2 ^ m.log2 ≤ m := (Nat.le_log2 hm).1 (Nat.le_refl _)
    have hnhigh : n < 2 ^ (n.log2 + 1) := Nat.lt_log2_self
    have hQb : 2 ^ (f.fractionBits + 1) ≤ Q := by
      rw [hQ]
      refine (Nat.le_div_iff_mul_le hnp).2 ?_
      have k1 : 2 ^ (f.fractionBits + 1) * n ≤ 2 ^ (f.fractionBits + 1) * 2 ^ (n.log2 + 1) := Nat.mul_le_mul_left _ (by omega)
      have k2 : 2 ^ m.log2 * 2 ^ more ≤ m * 2 ^ more := Nat.mul_le_mul_right _ hlow
      rw [← Nat.pow_add] at k1 k2
      have k3 : 2 ^ (f.fractionBits + 1 + (n.log2 + 1)) ≤ 2 ^ (m.log2 + more) := Nat.pow_le_pow_right (by decide) (by omega)
      omega
    have hBw : Bd J (sv (s ^^ t) (2 * Q + (R != 0).toNat) p) := by
      have habs : ((Q * n : Nat) : Rat) * (2 : Rat) ^ (p + 1) < (2 : Rat) ^ J * n := by
        have hn' : (0 : Rat) < (n : Rat) := by exact_mod_cast hnp
        have g1 := Rat.mul_lt_mul_of_pos_right h.1 hn'
        have g2 := Rat.mul_lt_mul_of_pos_right h.2 hn'
        rw [hqn] at g1 g2
        have hR0 : (0 : Rat) ≤ (R : Rat) := by exact_mod_cast Nat.zero_le R
        have g3 := Rat.mul_nonneg hR0 (Rat.le_of_lt hPp)
        rw [h2p]
        rw [Rat.natCast_add] at g1 g2
        clear hw hqn hgap hex hε
        rcases he with rfl | rfl <;> grind
      have hQlt : (Q : Rat) * (2 : Rat) ^ (p + 1) < (2 : Rat) ^ J := by
        have hn' : (0 : Rat) < (n : Rat) := by exact_mod_cast hnp
        refine Rat.lt_of_mul_lt_mul_right (c := (n : Rat)) ?_ (Rat.le_of_lt hn')
        rw [Rat.natCast_mul] at habs
        grind
      have hexp : (f.fractionBits : Int) + 1 + (p + 1) < J := by
        refine pw_lt (Std.lt_of_le_of_lt ?_ hQlt)
        rw [pw_add, show ((f.fractionBits : Int) + 1) = ((f.fractionBits + 1 : Nat) : Int) by omega, pw_nat]
        exact Rat.mul_le_mul_of_nonneg_right (by exact_mod_cast hQb) (Rat.le_of_lt (pw_pos _))
      obtain ⟨u, hu⟩ : ∃ u : Nat, J = (u : Int) + (p + 1) := ⟨(J - (p + 1)).toNat, by omega⟩
      have hQu : Q + 1 ≤ 2 ^ u := by
        have : (Q : Rat) < ((2 ^ u : Nat) : Rat) := by
          rw [hu, pw_add (u : Int) (p + 1), pw_nat] at hQlt
          exact Rat.lt_of_mul_lt_mul_right hQlt (Rat.le_of_lt (pw_pos _))
        have : Q < 2 ^ u := by exact_mod_cast this
        omega
      have hlt : ((2 * Q + (R != 0).toNat : Nat) : Rat) * (2 : Rat) ^ p < (2 : Rat) ^ J := by
        rw [hu, pw_add, pw_nat, h2p]
        have k1 : 2 * Q + (R != 0).toNat < 2 ^ u * 2 := by
          have : (R != 0).toNat ≤ 1 := by cases (R != 0) <;> decide
          omega
        have k2 : ((2 * Q + (R != 0).toNat : Nat) : Rat) < ((2 ^ u * 2 : Nat) : Rat) := by exact_mod_cast k1
        have := Rat.mul_lt_mul_of_pos_right k2 hPp
        have k3 : ((2 ^ u * 2 : Nat) : Rat) = ((2 ^ u : Nat) : Rat) * 2 := by rw [Rat.natCast_mul]; rfl
        rw [k3, Rat.mul_assoc] at this
        exact this
      have hge : (0 : Rat) ≤ ((2 * Q + (R != 0).toNat : Nat) : Rat) * (2 : Rat) ^ p := Rat.mul_nonneg (by exact_mod_cast Nat.zero_le _) (Rat.le_of_lt hPp)
      rw [hw]
      have hJp := pw_pos J
      unfold Bd
      clear hw hqn hgap hex hε hQlt habs
      generalize ((2 * Q + (R != 0).toNat : Nat) : Rat) = W at *
      rcases he with rfl | rfl <;> grind
    obtain ⟨v, h1, h2, h3⟩ := near hf hBw hJ
    have htiny : (2 : Rat) ^ p ≤ hu f J := by
      have hexp : (f.fractionBits : Int) + 2 + p < J := by
        have hne : 2 * Q + (R != 0).toNat ≠ 0 := by have := Nat.two_pow_pos (f.fractionBits + 1); omega
        have := sv_bd hBw hne
        have h8 : f.fractionBits + 2 ≤ (2 * Q + (R != 0).toNat).log2 := (Nat.le_log2 hne).2 (by rw [Nat.pow_succ]; omega)
        omega
      exact pw_mono (by omega)
    refine ⟨_, v, rfl, h1, ?_, ?_⟩
    · unfold Nr at *
      generalize sv (s ^^ t) (2 * Q + (R != 0).toNat) p = w at *
      clear hw hqn
      grind
    · intro hrep
      have hR0 : R = 0 := by
        obtain ⟨z, t', hz, hzb, htl⟩ := hrep
        have hbin : f.binade = 2 ^ f.fractionBits := rfl
        have hzn : (z.natAbs : Rat) * n * (2 : Rat) ^ t' = ((Q * n + R : Nat) : Rat) * (2 : Rat) ^ (p + 1) := by
          rw [hz] at hqn
          rw [h2p]
          have hge : (0 : Rat) ≤ ((Q * n + R : Nat) : Rat) * (2 * (2 : Rat) ^ p) := Rat.mul_nonneg (by exact_mod_cast Nat.zero_le _) (by grind)
          have hge2 : (0 : Rat) ≤ (z.natAbs : Rat) * n * (2 : Rat) ^ t' := Rat.mul_nonneg (Rat.mul_nonneg (by exact_mod_cast Nat.zero_le _) (by exact_mod_cast Nat.zero_le _)) (Rat.le_of_lt (pw_pos _))
          rw [int_nat] at hqn
          have e7 : ε * ((Q * n + R : Nat) : Rat) * (2 * (2 : Rat) ^ p) = ε * (((Q * n + R : Nat) : Rat) * (2 * (2 : Rat) ^ p)) := Rat.mul_assoc _ _ _
          rw [e7] at hqn
          have e8 : ∀ c : Rat, c * (2 : Rat) ^ t' * n = c * n * (2 : Rat) ^ t' := fun c => by grind
          rw [e8] at hqn
          have e9 : (-(z.natAbs : Rat)) * n * (2 : Rat) ^ t' = -((z.natAbs : Rat) * n * (2 : Rat) ^ t') := by grind
          revert hge hge2 hqn
          generalize ((Q * n + R : Nat) : Rat) * (2 * (2 : Rat) ^ p) = W
          split
          · rw [e9]
            generalize (z.natAbs : Rat) * n * (2 : Rat) ^ t' = X
            intro g1 g2 g3
            exact abs_eq he g2 g3 (.inr g1)
          · generalize (z.natAbs : Rat) * n * (2 : Rat) ^ t' = X
            intro g1 g2 g3
            exact abs_eq he g2 g3 (.inl g1)
        have hu1 : p + 1 < t' := by
          have k1 : (2 : Rat) ^ ((f.fractionBits : Int) + 1 + (p + 1)) * n ≤ ((Q * n + R : Nat) : Rat) * (2 : Rat) ^ (p + 1) := by
            rw [pw_add, show ((f.fractionBits : Int) + 1) = ((f.fractionBits + 1 : Nat) : Int) by omega, pw_nat]
            have : 2 ^ (f.fractionBits + 1) * n ≤ Q * n + R := by
              have := Nat.mul_le_mul_right n hQb
              omega
            have k2 : ((2 ^ (f.fractionBits + 1) * n : Nat) : Rat) ≤ ((Q * n + R : Nat) : Rat) := by exact_mod_cast this
            have := Rat.mul_le_mul_of_nonneg_right k2 (Rat.le_of_lt (pw_pos (p + 1)))
            rw [Rat.natCast_mul] at this
            grind
          have k3 : (z.natAbs : Rat) * n * (2 : Rat) ^ t' < (2 : Rat) ^ ((f.fractionBits : Int) + 1 + t') * n := by
            rw [pw_add, show ((f.fractionBits : Int) + 1) = ((f.fractionBits + 1 : Nat) : Int) by omega, pw_nat]
            have hzb2 : z.natAbs < 2 ^ (f.fractionBits + 1) := by rw [Nat.pow_succ, Nat.mul_comm, ← hbin]; exact hzb
            have k2 : (z.natAbs : Rat) < ((2 ^ (f.fractionBits + 1) : Nat) : Rat) := by exact_mod_cast hzb2
            have hn' : (0 : Rat) < (n : Rat) := by exact_mod_cast hnp
            have k4 := Rat.mul_lt_mul_of_pos_right (Rat.mul_lt_mul_of_pos_right k2 hn') (pw_pos t')
            grind
          have hn' : (0 : Rat) < (n : Rat) := by exact_mod_cast hnp
          rw [hzn] at k3
          have := pw_lt (Rat.lt_of_mul_lt_mul_right (Std.lt_of_le_of_lt k1 k3) (Rat.le_of_lt hn'))
          omega
        obtain ⟨u, hu⟩ : ∃ u : Nat, t' = (u : Int) + (p + 1) := ⟨(t' - (p + 1)).toNat, by omega⟩
        have hdiv : z.natAbs * n * 2 ^ u = Q * n + R := by
          rw [hu, pw_add, pw_nat, ← Rat.mul_assoc] at hzn
          have := mul_cancel (Rat.ne_of_gt (pw_pos (p + 1))) hzn
          exact_mod_cast this
        have hmod : (Q * n + R) % n = 0 := by
          rw [← hdiv, Nat.mul_right_comm]
          exact Nat.mul_mod_left _ _
        rw [Nat.mul_comm, Nat.mul_add_mod, Nat.mod_eq_of_lt hRn] at hmod
        exact hmod
      have hwq := hex hR0
      rw [← hwq]
      rw [← hwq] at hrep
      exact h3 hrep
open Go
theorem good (k : FloatKind) : Good k.format := by
  cases k
  · exact .inl rfl
  · exact .inr rfl
def Fk (k : FloatKind) (x : Nat) (v : Rat) : Prop := Fv k.format x v
theorem read_bounds {f : Format} (hf : Good f) {x : Nat} {s : Bool} {m : Nat} {e : Int} (h : f.read x = .number s m e) : m < 2 * f.binade ∧ f.leastPlace ≤ e ∧ e ≤ f.leastPlace + 2 ^ f.exponentBits - 3 := by
  have hb := binade_pos hf
  unfold Format.read at h
  simp only [] at h
  split at h
  · cases h
    refine ⟨by omega, by omega, ?_⟩
    rcases hf with rfl | rfl <;> decide
  · split at h
    · rename_i h1 h2
      cases h
      refine ⟨by have := Nat.mod_lt (x % f.signWeight) hb; omega, by omega, ?_⟩
      have : x % f.signWeight / f.binade < 2 ^ f.exponentBits - 1 := (Nat.div_lt_iff_lt_mul hb).2 h2
      have h3 : 3 ≤ 2 ^ f.exponentBits := by rcases hf with rfl | rfl <;> decide
      have h4 : ((2 ^ f.exponentBits : Nat) : Int) = 2 ^ f.exponentBits := by push_cast; rfl
      omega
    · split at h <;> cases h
theorem Fv.rep {f : Format} (hf : Good f) {x : Nat} {v : Rat} (h : Fv f x v) : Rep f v := by
  obtain ⟨s, m, e, h1, h2⟩ := h
  have := read_bounds hf h1
  refine ⟨if s = true then -(m : Int) else m, e, ?_, ?_, this.2.1⟩
  · rw [← h2]
    unfold sv
    cases s <;> simp <;> rfl
  · cases s <;> simp <;> exact this.1
theorem rep_wide {v : Rat} (h : Rep single v) : Rep double v := by
  obtain ⟨n, t, h1, h2, h3⟩ := h
  have a1 : single.leastPlace = -149 := by decide
  have a2 : double.leastPlace = -1074 := by decide
  have a3 : single.binade = 8388608 := by decide
  have a4 : double.binade = 4503599627370496 := by decide
  exact ⟨n, t, h1, by omega, by omega⟩
theorem fin_single {x : Nat} {v : Rat} (h : Fv single x v) : Bd 128 v := by
  obtain ⟨s, m, e, h1, h2⟩ := h
  have hb := read_bounds (.inl rfl) h1
  have a1 : single.leastPlace = -149 := by decide
  have a2 : (2 : Int) ^ single.exponentBits = 256 := by decide
  have a3 : single.binade = 8388608 := by decide
  have hm : (m : Rat) < ((2 ^ 24 : Nat) : Rat) := by
    have : m < 2 ^ 24 := by omega
    exact_mod_cast this
  have k1 := Rat.mul_lt_mul_of_pos_right hm (pw_pos e)
  have k2 : ((2 ^ 24 : Nat) : Rat) * (2 : Rat) ^ e ≤ (2 : Rat) ^ (128 : Int) := by
    rw [← pw_nat, ← pw_add]
    exact pw_mono (by omega)
  have k3 := Rat.mul_nonneg (show (0 : Rat) ≤ (m : Rat) by exact_mod_cast Nat.zero_le m) (Rat.le_of_lt (pw_pos e))
  have k4 := pw_pos 128
  rw [← h2]
  unfold Bd sv
  generalize (2 : Rat) ^ (128 : Int) = T at *
  cases s with
  | true =>
    simp only [if_true]
    rw [Rat.neg_mul]
    constructor <;> grind
  | false =>
    simp only [Bool.false_eq_true, if_false]
    constructor <;> grind
theorem not_inf {f : Format} {x : Nat} {v : Rat} (h : Fv f x v) : (f.read x).isInfinity = false := by
  obtain ⟨s, m, e, h1, -⟩ := h
  rw [h1]
  rfl
theorem wide_val {x : Nat} {v : Rat} (h : Fk .f32 x v) : ∃ r, floatToFloatBits .f32 x .f64 = some r ∧ Fk .f64 r v := by
  have hrep := rep_wide (Fv.rep (.inl rfl) h)
  have hbd := fin_single h
  obtain ⟨s, m, e, h1, h2⟩ := h
  rw [← h2] at hbd
  obtain ⟨c, g1, -, g3⟩ := near (f := double) (.inr rfl) hbd (by decide)
  rw [h2] at g3
  obtain rfl := g3 hrep
  refine ⟨_, ?_, g1⟩
  unfold floatToFloatBits
  rw [if_neg (by decide)]
  unfold FloatKind.decode
  rw [h1]
  simp only []
  have : (FloatKind.f64.format.read (FloatKind.encode .f64 (.number s m e))).isInfinity = false := not_inf g1
  rw [if_neg (by rw [this]; decide)]
  rfl
theorem int_k {k : FloatKind} (n : Int) (h : n.natAbs < 2 * k.format.binade) : Fk k (floatOfInt k n) (n : Rat) := int_val (good k) n h
theorem read_neg (f : Format) (x : Nat) : f.read (x ^^^ f.signWeight) = (f.read x).opposite := by
  have hw : f.signWeight = 2 ^ (f.exponentBits + f.fractionBits) := rfl
  have e1 : (x ^^^ f.signWeight) % f.signWeight = x % f.signWeight := by
    rw [hw, Nat.xor_mod_two_pow]
    simp
  have e2 : (x ^^^ f.signWeight) / f.signWeight % 2 = (x / f.signWeight + 1) % 2 := by
    rw [hw]
    have : (x ^^^ 2 ^ (f.exponentBits + f.fractionBits)) / 2 ^ (f.exponentBits + f.fractionBits) = (x / 2 ^ (f.exponentBits + f.fractionBits)) ^^^ 1 := by
      rw [← Nat.shiftRight_eq_div_pow, ← Nat.shiftRight_eq_div_pow, Nat.shiftRight_xor_distrib]
      congr 1
      rw [Nat.shiftRight_eq_div_pow]
      exact Nat.div_self (Nat.two_pow_pos _)
    rw [this]
    generalize x / 2 ^ (f.exponentBits + f.fractionBits) = q
    rw [show (q ^^^ 1) % 2 = ((q ^^^ 1) % 2 ^ 1) from rfl, Nat.xor_mod_two_pow]
    have : q % 2 = 0 ∨ q % 2 = 1 := by omega
    have hq : q % 2 ^ 1 = q % 2 := rfl
    rcases this with h | h
    · rw [hq, h]; have : (q + 1) % 2 = 1 := by omega
      rw [this]; rfl
    · rw [hq, h]; have : (q + 1) % 2 = 0 := by omega
      rw [this]; rfl
  have e3 : ((x ^^^ f.signWeight) / f.signWeight % 2 == 1) = !(x / f.signWeight % 2 == 1) := by
    rw [e2]
    have : x / f.signWeight % 2 = 0 ∨ x / f.signWeight % 2 = 1 := by omega
    rcases this with h | h
    · have : (x / f.signWeight + 1) % 2 = 1 := by omega
      rw [h, this]; rfl
    · have : (x / f.signWeight + 1) % 2 = 0 := by omega
      rw [h, this]; rfl
  unfold Format.read
  simp only [e1, e3]
  split
  · rfl
  · split
    · rfl
    · split <;> rfl
theorem neg_val {k : FloatKind} {x : Nat} {v : Rat} (h : Fk k x v) : Fk k (Op.negFloat k x) (-v) := by
  obtain ⟨s, m, e, h1, h2⟩ := h
  refine ⟨!s, m, e, ?_, by rw [sv_opp, h2]⟩
  have : Op.negFloat k x = x ^^^ k.format.signWeight := by cases k <;> rfl
  rw [this, read_neg k.format, h1]
  rfl
end FR
end Go.Proofs.Ytelkklnfbfmecaa
end
section
set_option linter.unusedVariables false
set_option linter.unusedSimpArgs false
namespace Go.Proofs.Ytelkklnfbfmecaa
open Go.Proofs.YtelkklnfbfmecaaW.PrintWords Go.Proofs.YtelkklnfbfmecaaW.PrintLast
namespace PU
open FR
def U (x : Nat) (n : Int) : Prop := Fk .f32 x ((n : Rat) * (2 : Rat) ^ (-6 : Int))
theorem U_rep {n : Int} (h : n.natAbs < 16777216) : Rep Ieee.single ((n : Rat) * (2 : Rat) ^ (-6 : Int)) := by
  have a1 : Ieee.single.leastPlace = -149 := by decide
  have a3 : Ieee.single.binade = 8388608 := by decide
  exact ⟨n, -6, rfl, by omega, by omega⟩
theorem U_bd {n : Int} (h : n.natAbs < 16777216) : Bd 18 ((n : Rat) * (2 : Rat) ^ (-6 : Int)) := by
  have hp := pw_pos (-6)
  obtain ⟨M, hM, hM2⟩ : ∃ M : Nat, M = 2 ^ 24 ∧ M = 16777216 := ⟨2 ^ 24, rfl, by decide⟩
  have e : (2 : Rat) ^ (18 : Int) = (M : Rat) * (2 : Rat) ^ (-6 : Int) := by
    rw [show (18 : Int) = ((24 : Nat) : Int) + (-6) by decide, pw_add, pw_nat, hM]
  have h1 : (n : Rat) < (M : Rat) := by
    have : n < (M : Int) := by omega
    exact_mod_cast this
  have h2 : -(M : Rat) < (n : Rat) := by
    have h3 : -n < (M : Int) := by omega
    have h4 : ((-n : Int) : Rat) < (M : Rat) := by exact_mod_cast h3
    rw [Rat.intCast_neg] at h4
    exact Rat.neg_lt_iff.1 h4
  have k1 := Rat.mul_lt_mul_of_pos_right h1 hp
  have k2 := Rat.mul_lt_mul_of_pos_right h2 hp
  unfold Bd
  rw [e]
  constructor
  · rw [← Rat.neg_mul]
    exact k2
  · exact k1
theorem fok_of {op : BinOp} {k : FloatKind} {x y r : Nat} (h : floatBits op k x y = some r) : fok op k x y = true ∧ fop op k x y = r := by
  unfold fok fop
  rw [h]
  exact ⟨rfl, rfl⟩
theorem U_add {x y : Nat} {n m : Int} (hx : U x n) (hy : U y m) (h : (n + m).natAbs < 16777216) : fok .add .f32 x y = true ∧ U (fop .add .f32 x y) (n + m) := by
  have e : (n : Rat) * (2 : Rat) ^ (-6 : Int) + (m : Rat) * (2 : Rat) ^ (-6 : Int) = ((n + m : Int) : Rat) * (2 : Rat) ^ (-6 : Int) := by rw [Rat.intCast_add, Rat.add_mul]
  obtain ⟨r, c, h1, h2, -, h4⟩ := add_val (.inl rfl) hx hy (J := 18) (by rw [e]; exact U_bd h) (by decide)
  rw [e] at h4
  have := h4 (U_rep h)
  subst this
  obtain ⟨g1, g2⟩ := fok_of (op := .add) (k := .f32) h1
  rw [g2]
  exact ⟨g1, h2⟩
theorem U_sub {x y : Nat} {n m : Int} (hx : U x n) (hy : U y m) (h : (n - m).natAbs < 16777216) : fok .sub .f32 x y = true ∧ U (fop .sub .f32 x y) (n - m) := by
  have e : (n : Rat) * (2 : Rat) ^ (-6 : Int) - (m : Rat) * (2 : Rat) ^ (-6 : Int) = ((n - m : Int) : Rat) * (2 : Rat) ^ (-6 : Int) := by rw [Rat.intCast_sub]; grind
  obtain ⟨r, c, h1, h2, -, h4⟩ := sub_val (.inl rfl) hx hy (J := 18) (by rw [e]; exact U_bd h) (by decide)
  rw [e] at h4
  have := h4 (U_rep h)
  subst this
  obtain ⟨g1, g2⟩ := fok_of (op := .sub) (k := .f32) h1
  rw [g2]
  exact ⟨g1, h2⟩
theorem U_mul {x y : Nat} {n m : Int} (hx : U x n) (hy : Fk .f32 y (m : Rat)) (h : (n * m).natAbs < 16777216) : fok .mul .f32 x y = true ∧ U (fop .mul .f32 x y) (n * m) := by
  have e : (n : Rat) * (2 : Rat) ^ (-6 : Int) * (m : Rat) = ((n * m : Int) : Rat) * (2 : Rat) ^ (-6 : Int) := by rw [Rat.intCast_mul]; grind
  obtain ⟨r, c, h1, h2, -, h4⟩ := mul_val (.inl rfl) hx hy (J := 18) (by rw [e]; exact U_bd h) (by decide)
  rw [e] at h4
  have := h4 (U_rep h)
  subst this
  obtain ⟨g1, g2⟩ := fok_of (op := .mul) (k := .f32) h1
  rw [g2]
  exact ⟨g1, h2⟩
theorem U_mul' {x y : Nat} {n m : Int} (hx : Fk .f32 x (m : Rat)) (hy : U y n) (h : (m * n).natAbs < 16777216) : fok .mul .f32 x y = true ∧ U (fop .mul .f32 x y) (m * n) := by
  have e : (m : Rat) * ((n : Rat) * (2 : Rat) ^ (-6 : Int)) = ((m * n : Int) : Rat) * (2 : Rat) ^ (-6 : Int) := by rw [Rat.intCast_mul]; grind
  obtain ⟨r, c, h1, h2, -, h4⟩ := mul_val (.inl rfl) hx hy (J := 18) (by rw [e]; exact U_bd h) (by decide)
  rw [e] at h4
  have := h4 (U_rep h)
  subst this
  obtain ⟨g1, g2⟩ := fok_of (op := .mul) (k := .f32) h1
  rw [g2]
  exact ⟨g1, h2⟩
theorem U_sq {x y : Nat} {n m : Int} (hx : U x (16 * n)) (hy : U y (16 * m)) (h : (4 * (n * m)).natAbs < 16777216) : fok .mul .f32 x y = true ∧ U (fop .mul .f32 x y) (4 * (n * m)) := by
  have e : ((16 * n : Int) : Rat) * (2 : Rat) ^ (-6 : Int) * (((16 * m : Int) : Rat) * (2 : Rat) ^ (-6 : Int)) = ((4 * (n * m) : Int) : Rat) * (2 : Rat) ^ (-6 : Int) := by
    have e64 : (2 : Rat) ^ (-6 : Int) * 64 = 1 := by
      have : (64 : Rat) = (2 : Rat) ^ (6 : Int) := by rfl
      rw [this, ← pw_add]
      rfl
    simp only [Rat.intCast_mul]
    have a16 : ((16 : Int) : Rat) = 16 := rfl
    have a4 : ((4 : Int) : Rat) = 4 := rfl
    rw [a16, a4]
    generalize (2 : Rat) ^ (-6 : Int) = p at *
    have : 16 * (n : Rat) * p * (16 * (m : Rat) * p) = 4 * ((n : Rat) * m) * p * (p * 64) := by grind
    rw [this, e64, Rat.mul_one]
  obtain ⟨r, c, h1, h2, -, h4⟩ := mul_val (.inl rfl) hx hy (J := 18) (by rw [e]; exact U_bd h) (by decide)
  rw [e] at h4
  have := h4 (U_rep h)
  subst this
  obtain ⟨g1, g2⟩ := fok_of (op := .mul) (k := .f32) h1
  rw [g2]
  exact ⟨g1, h2⟩
theorem U_neg {x : Nat} {n : Int} (hx : U x n) : U (Op.negFloat .f32 x) (-n) := by
  have := neg_val hx
  have e : -((n : Rat) * (2 : Rat) ^ (-6 : Int)) = ((-n : Int) : Rat) * (2 : Rat) ^ (-6 : Int) := by rw [Rat.intCast_neg, Rat.neg_mul]
  rwa [e] at this
theorem U_zero : U 0 0 := ⟨false, 0, -149, by decide, by rw [sv_zero]; show (0 : Rat) = (0 : Rat) * _; rw [Rat.zero_mul]⟩
theorem U_quo {y : Nat} {n : Int} {j : Nat} (hj : j ≤ 6) (hy : Fk .f32 y ((2 : Rat) ^ (j : Int))) (h : n.natAbs < 262144) : fok .quo .f32 (floatOfInt .f32 n) y = true ∧ U (fop .quo .f32 (floatOfInt .f32 n) y) (n * 2 ^ (6 - j)) := by
  have hx : Fk .f32 (floatOfInt .f32 n) (n : Rat) := int_k n (by rw [show FloatKind.f32.format.binade = 8388608 by decide]; omega)
  have e : ((n * 2 ^ (6 - j) : Int) : Rat) * (2 : Rat) ^ (-6 : Int) * (2 : Rat) ^ (j : Int) = (n : Rat) := by
    have : ((2 ^ (6 - j) : Int) : Rat) = (2 : Rat) ^ (((6 - j : Nat)) : Int) := by
      rw [pw_nat]
      push_cast
      rfl
    rw [Rat.intCast_mul, this, Rat.mul_assoc, Rat.mul_assoc, ← Rat.mul_assoc, ← pw_add, Rat.mul_assoc, ← pw_add, show (((6 - j : Nat)) : Int) + (-6 + (j : Int)) = 0 by omega]
    exact Rat.mul_one _
  have hb : (n * 2 ^ (6 - j)).natAbs < 16777216 := by
    rw [Int.natAbs_mul, Int.natAbs_pow]
    have : (2 : Int).natAbs ^ (6 - j) ≤ 2 ^ 6 := Nat.pow_le_pow_right (by decide) (by omega)
    have := Nat.mul_le_mul (Nat.le_of_lt h) this
    have : n.natAbs * (2 : Int).natAbs ^ (6 - j) ≤ 262143 * 2 ^ 6 := Nat.mul_le_mul (by omega) (by assumption)
    omega
  obtain ⟨r, c, h1, h2, -, h4⟩ := quo_val (.inl rfl) hx hy (q := ((n * 2 ^ (6 - j) : Int) : Rat) * (2 : Rat) ^ (-6 : Int)) (Rat.ne_of_gt (pw_pos _)) e (J := 18) (U_bd hb) (by decide)
  have := h4 (U_rep hb)
  subst this
  obtain ⟨g1, g2⟩ := fok_of (op := .quo) (k := .f32) h1
  rw [g2]
  exact ⟨g1, h2⟩
theorem cmp_int {n m : Int} : FR.cmp ((n : Rat) * (2 : Rat) ^ (-6 : Int)) ((m : Rat) * (2 : Rat) ^ (-6 : Int)) = if n < m then .lt else if n = m then .eq else .gt := by
  have hp := pw_pos (-6)
  unfold FR.cmp
  by_cases h1 : n < m
  · have : (n : Rat) * (2 : Rat) ^ (-6 : Int) < (m : Rat) * (2 : Rat) ^ (-6 : Int) := Rat.mul_lt_mul_of_pos_right (by exact_mod_cast h1) hp
    rw [if_pos this, if_pos h1]
  · have hle : (m : Rat) * (2 : Rat) ^ (-6 : Int) ≤ (n : Rat) * (2 : Rat) ^ (-6 : Int) := Rat.mul_le_mul_of_nonneg_right (by exact_mod_cast (by omega : m ≤ n)) (Rat.le_of_lt hp)
    rw [if_neg (Rat.not_lt.2 hle), if_neg h1]
    by_cases h2 : n = m
    · rw [if_pos h2, if_pos (by rw [h2])]
    · rw [if_neg h2, if_neg]
      intro he
      have := mul_cancel (Rat.ne_of_gt hp) he
      exact h2 (by exact_mod_cast this)
theorem U_order {x y : Nat} {n m : Int} (hx : U x n) (hy : U y m) : FloatKind.f32.format.order x y = some (if n < m then .lt else if n = m then .eq else .gt) := by
  rw [← cmp_int]
  exact order_val hx hy
end PU
end Go.Proofs.Ytelkklnfbfmecaa
end
section
set_option linter.unusedVariables false
set_option linter.unusedSimpArgs false
namespace Go.Proofs.Ytelkklnfbfmecaa
open Go.RowKit Go.Proofs.YtelkklnfbfmecaaW.PrintWords Go.Proofs.YtelkklnfbfmecaaW.PrintLast Ieee
namespace PA
open FR PU XL
def Ret {α : Type} (o : Option α) (P : α → Prop) : Prop := ∃ a, o = some a ∧ P a
theorem Ret.bind {α β : Type} {o : Option α} {g : α → Option β} {P : α → Prop} {Q : β → Prop} (h : Ret o P) (k : ∀ a, P a → Ret (g a) Q) : Ret (o.bind g) Q := by
  obtain ⟨a, rfl, ha⟩ := h
  exact k a ha
theorem Ret.of {α : Type} {a : α} {P : α → Prop} (h : P a) : Ret (some a) P := ⟨a, rfl, h⟩
theorem Ret.mono {α : Type} {o : Option α} {P Q : α → Prop} (h : Ret o P) (k : ∀ a, P a → Q a) : Ret o Q := by
  obtain ⟨a, e, ha⟩ := h
  exact ⟨a, e, k a ha⟩
theorem w64 {n : Int} (h : -9223372036854775808 ≤ n) (h2 : n ≤ 9223372036854775807) : wrap64 n = n := by unfold wrap64; omega
theorem fin_of {x : Nat} {v : Rat} (h : Fk .f32 x v) : fin x = true := by
  have e : v - v = 0 := by grind
  obtain ⟨r, c, h1, h2, -, h4⟩ := sub_val (f := single) (.inl rfl) h h (J := 1) (by rw [e]; exact ⟨by decide +kernel, by decide +kernel⟩) (by decide)
  have : c = v - v := h4 (by rw [e]; exact ⟨0, 0, by rw [Rat.intCast_zero, Rat.zero_mul], by decide, by decide⟩)
  subst this
  rw [e] at h2
  unfold fin
  have h1' : floatBits .sub .f32 x x = some r := h1
  rw [h1']
  have := order_val (f := single) h2 (show Fv single 0 0 from ⟨false, 0, -149, by decide, sv_zero _ _⟩)
  have e2 : FloatKind.f32.format.order r 0 = some (FR.cmp 0 0) := this
  show (FloatKind.f32.format.order r 0 == some .eq) = true
  rw [e2]
  rfl
def Fin (x : Nat) : Prop := ∃ v, Fk .f32 x v
theorem U.fin {x : Nat} {n : Int} (h : U x n) : Fin x := ⟨_, h⟩
theorem finite_of {l : List Nat} (h : ∀ x ∈ l, Fin x) : XW.finite.f l = some true := by
  unfold XW.finite.f
  rw [Option.some.injEq, Bool.not_eq_true', List.any_eq_false]
  intro x hx
  obtain ⟨v, hv⟩ := h x hx
  rw [fin_of hv]
  decide
def mk (w h : Nat) (v : Int → Int → Nat) : List Nat := (List.range (w * h)).map fun i => v ((i % w : Nat) : Int) ((i / w : Nat) : Int)
theorem mk_len (w h : Nat) (v : Int → Int → Nat) : (mk w h v).length = w * h := by simp [mk]
theorem mk_get {w h : Nat} {v : Int → Int → Nat} {x y : Nat} (hx : x < w) (hy : y < h) : rdOf (0 : Nat) (mk w h v) ((x : Int) + (w : Int) * (y : Int)) = v x y := by
  have e : ((x : Int) + (w : Int) * (y : Int)) = ((x + w * y : Nat) : Int) := by push_cast; rfl
  have lt : x + w * y < w * h := by
    have := Nat.mul_le_mul_left w (show y + 1 ≤ h by omega)
    rw [Nat.mul_add, Nat.mul_one] at this
    omega
  unfold rdOf
  rw [e, Int.toNat_natCast]
  rw [List.getD_eq_getElem?_getD, List.getElem?_eq_getElem (by rw [mk_len]; exact lt)]
  simp only [mk, List.getElem_map, List.getElem_range, Option.getD_some]
  rw [Nat.add_mul_mod_self_left, Nat.mod_eq_of_lt hx, Nat.add_mul_div_left _ _ (by omega), Nat.div_eq_of_lt hx, Nat.zero_add]
def Per (w h : Nat) (v : Int → Int → Nat) : Prop := ∀ x y, v (x % (w : Int)) (y % (h : Int)) = v x y
structure Side (w : Nat) : Prop where
  lo : 3 ≤ w
  hi : w ≤ 6
theorem tmod_emod {a w : Int} (hw : 0 < w) (ha : -1000 ≤ a) (h2 : a ≤ 1000) (h3 : w ≤ 1000) : Int.tmod (wrap64 (Int.tmod a w + w)) w = a % w := by
  have h0 : -w < Int.tmod a w := Int.lt_tmod_of_pos a hw
  have h1 : Int.tmod a w < w := Int.tmod_lt_of_pos a hw
  rw [w64 (by omega) (by omega), Int.tmod_eq_emod_of_nonneg (by omega)]
  rw [Int.add_emod_right]
  have := Int.tmod_add_mul_tdiv a w
  have e : Int.tmod a w = a + w * (-(Int.tdiv a w)) := by rw [Int.mul_neg]; omega
  rw [e, Int.add_mul_emod_self_left]
theorem at_of {w h : Nat} (hw : Side w) (hh : Side h) {v : Int → Int → Nat} (hv : Per w h v) {x y : Int} (hx : -1000 ≤ x) (hx2 : x ≤ 1000) (hy : -1000 ≤ y) (hy2 : y ≤ 1000) :
    B0.impl_Basin_at.f w h (mk w h v) x y = some (v x y) := by
  obtain ⟨w1, w2⟩ := hw
  obtain ⟨h1, h2⟩ := hh
  unfold B0.impl_Basin_at.f B0.impl_Basin_place.f
  rw [if_neg (by omega), if_neg (by omega)]
  simp only [Option.bind_some]
  rw [tmod_emod (by omega) hx hx2 (by omega), tmod_emod (by omega) hy hy2 (by omega)]
  have a1 := Int.emod_nonneg x (show (w : Int) ≠ 0 by omega)
  have a2 := Int.emod_lt_of_pos x (show (0 : Int) < w by omega)
  have b1 := Int.emod_nonneg y (show (h : Int) ≠ 0 by omega)
  have b2 := Int.emod_lt_of_pos y (show (0 : Int) < h by omega)
  have hv' := hv x y
  obtain ⟨p, hp⟩ := Int.eq_ofNat_of_zero_le a1
  obtain ⟨q, hq⟩ := Int.eq_ofNat_of_zero_le b1
  rw [hp, hq] at hv' ⊢
  have m1 : w * q ≤ 6 * 5 := Nat.mul_le_mul w2 (by omega)
  have m2 : (w : Int) * (q : Int) ≤ 30 := by exact_mod_cast m1
  have m3 : 0 ≤ (w : Int) * (q : Int) := Int.mul_nonneg (by omega) (by omega)
  rw [w64 (n := (w : Int) * (q : Int)) (by omega) (by omega), w64 (by omega) (by omega), if_pos (by omega), mk_len]
  have lt : p + w * q < w * h := by
    have := Nat.mul_le_mul_left w (show q + 1 ≤ h by omega)
    rw [Nat.mul_add, Nat.mul_one] at this
    omega
  have lt' : (p : Int) + (w : Int) * (q : Int) < ((w * h : Nat) : Int) := by exact_mod_cast lt
  rw [if_pos lt', mk_get (by omega) (by omega), hv']
theorem in_of {a b c : Int} (h1 : b ≤ a) (h2 : a ≤ c) : B0.impl_in.f a b c = some true := by
  unfold B0.impl_in.f
  rw [if_pos h1, decide_eq_true h2]
theorem finite_mk {w h : Nat} {v : Int → Int → Nat} (hf : ∀ x y, Fin (v x y)) : XW.finite.f (mk w h v) = some true := by
  refine finite_of fun x hx => ?_
  unfold mk at hx
  obtain ⟨i, -, rfl⟩ := List.mem_map.1 hx
  exact hf _ _
theorem valid_l {w h : Int} {l : List Nat} (hw : 3 ≤ w) (hw2 : w ≤ 16) (hh : 3 ≤ h) (hh2 : h ≤ 16) (hl : (l.length : Int) = wrap64 (w * h)) (hf : XW.finite.f l = some true) : B0.impl_ValidBasin.f w h l = some true := by
  unfold B0.impl_ValidBasin.f B0.impl_sideOk.f
  rw [in_of hw hw2, in_of hh hh2]
  simp only [Option.bind_some, if_true]
  rw [if_pos hl, hf]
  simp only [Option.bind_some]
theorem size_of {w h : Nat} (hw : Side w) (hh : Side h) : ((w * h : Nat) : Int) = wrap64 ((w : Int) * (h : Int)) := by
  have m1 : w * h ≤ 6 * 6 := Nat.mul_le_mul hw.2 hh.2
  rw [← Int.natCast_mul, w64 (by omega) (by omega)]
theorem valid_of {w h : Nat} (hw : Side w) (hh : Side h) {v : Int → Int → Nat} (hf : ∀ x y, Fin (v x y)) : B0.impl_ValidBasin.f w h (mk w h v) = some true := by
  have a := hw.1
  have b := hw.2
  have c := hh.1
  have d := hh.2
  exact valid_l (by omega) (by omega) (by omega) (by omega) (by rw [mk_len]; exact size_of hw hh) (finite_mk hf)
theorem told_of {w h : Nat} (hw : Side w) (hh : Side h) {v : Int → Int → Nat} (hf : ∀ x y, Fin (v x y)) : B0.impl_toldBasin.f w h (mk w h v) = some ((w : Int), (h : Int), mk w h v, true) := by
  unfold B0.impl_toldBasin.f
  rw [valid_of hw hh hf]
  simp only [Option.bind_some, if_true]
end PA
end Go.Proofs.Ytelkklnfbfmecaa
end
section
set_option linter.unusedVariables false
set_option linter.unusedSimpArgs false
namespace Go.Proofs.Ytelkklnfbfmecaa
open Go.RowKit Go.Proofs.YtelkklnfbfmecaaW.PrintWords Go.Proofs.YtelkklnfbfmecaaW.PrintLast Ieee
namespace PA
open FR PU XL
def pre (w : Nat) (v : Int → Int → Nat) (n : Nat) : List Nat := (List.range n).map fun i => v ((i % w : Nat) : Int) ((i / w : Nat) : Int)
theorem pre_lt {w h x y : Nat} {v : Int → Int → Nat} (hw : Side w) (hh : Side h) (hx : x < w) (hy : y < h) : (pre w v (w * y + x)).length < 35184372088832 := by
  have a := hw.2
  have b := hh.2
  have : w * y ≤ 6 * 6 := Nat.mul_le_mul a (by omega)
  simp only [pre, List.length_map, List.length_range]
  omega
theorem pre_snoc {w x y : Nat} {v : Int → Int → Nat} (hw : Side w) (hx : x < w) : pre w v (w * y + x) ++ [v x y] = pre w v (w * y + (x + 1)) := by
  have a := hw.1
  rw [show w * y + (x + 1) = (w * y + x) + 1 by omega]
  unfold pre
  rw [List.range_succ, List.map_append, Nat.add_comm (w * y) x]
  simp only [List.map_cons, List.map_nil]
  rw [Nat.add_mul_mod_self_left, Nat.mod_eq_of_lt hx, Nat.add_mul_div_left _ _ (by omega), Nat.div_eq_of_lt hx, Nat.zero_add]
theorem row_BA {w h : Nat} (hw : Side w) (hh : Side h) (v : Int → Int → Nat) (a b : List Nat) (of : ∀ x y : Nat, x < w → y < h → BA.impl_AddBasins_1.f x y w h a w h b = some (v x y)) :
    ∀ n x y m : Nat, x + n = w → y < h → BA.impl_cells.l1 (n + 1 + m) w y h y w x w h a w h b w h (pre w v (w * y + x)) = BA.impl_cells.l0 m w h ((y + 1 : Nat) : Int) w h a w h b w h (pre w v (w * (y + 1))) := by
  have a1 := hw.2
  have a2 := hh.2
  intro n
  induction n with
  | zero =>
    intro x y m hx hy
    rw [show 0 + 1 + m = m + 1 by omega]
    unfold BA.impl_cells.l1
    rw [if_neg (by omega), w64 (by omega) (by omega), show w * y + x = w * (y + 1) by rw [Nat.mul_add]; omega]
    rfl
  | succ n ih =>
    intro x y m hx hy
    rw [show n + 1 + 1 + m = (n + 1 + m) + 1 by omega]
    unfold BA.impl_cells.l1
    rw [if_pos (by omega), of x y (by omega) hy]
    simp only [Option.bind_some]
    rw [if_pos (pre_lt hw hh (by omega) hy), pre_snoc hw (by omega), w64 (by omega) (by omega)]
    exact ih (x + 1) y m (by omega) hy
theorem all_BA {w h : Nat} (hw : Side w) (hh : Side h) (v : Int → Int → Nat) (a b : List Nat) (of : ∀ x y : Nat, x < w → y < h → BA.impl_AddBasins_1.f x y w h a w h b = some (v x y)) :
    ∀ n y m : Nat, y + n = h → BA.impl_cells.l0 (n * (w + 2) + 1 + m) w h y w h a w h b w h (pre w v (w * y)) = some ((w : Int), (h : Int), mk w h v) := by
  have a2 := hh.2
  intro n
  induction n with
  | zero =>
    intro y m hy
    rw [show 0 * (w + 2) + 1 + m = m + 1 by omega]
    unfold BA.impl_cells.l0
    rw [if_neg (by omega), show y = h by omega]
    rfl
  | succ n ih =>
    intro y m hy
    rw [show (n + 1) * (w + 2) + 1 + m = (w + 1 + (n * (w + 2) + 1 + m)) + 1 by rw [Nat.add_mul]; omega]
    unfold BA.impl_cells.l0
    rw [if_pos (by omega)]
    have := row_BA hw hh v a b of w 0 y (n * (w + 2) + 1 + m) (by omega) (by omega)
    rw [Nat.add_zero] at this
    exact this.trans (ih (y + 1) m (by omega))
theorem cells_BA {w h : Nat} (hw : Side w) (hh : Side h) (v : Int → Int → Nat) (a b : List Nat) (of : ∀ x y : Nat, x < w → y < h → BA.impl_AddBasins_1.f x y w h a w h b = some (v x y)) {k : Nat} (hk : 60 ≤ k) :
    BA.impl_cells.f k w h w h a w h b = some ((w : Int), (h : Int), mk w h v) := by
  have a2 := hh.2
  have m1 : h * (w + 2) ≤ 6 * 8 := Nat.mul_le_mul a2 (by have := hw.2; omega)
  have := all_BA hw hh v a b of h 0 (k - (h * (w + 2) + 1)) (by omega)
  rw [show h * (w + 2) + 1 + (k - (h * (w + 2) + 1)) = k by omega] at this
  exact this
theorem built_BA {w h : Nat} (hw : Side w) (hh : Side h) (v : Int → Int → Nat) (l : List Nat) (a b : List Nat) (of : ∀ x y : Nat, x < w → y < h → BA.impl_AddBasins_1.f x y w h a w h b = some (v x y)) (hv : ∀ x y, Fin (v x y)) (hl : B0.impl_ValidBasin.f w h l = some true) {k : Nat} (hk : 60 ≤ k) :
    BA.impl_rebuilt.f k w h l w h a w h b = some ((w : Int), (h : Int), mk w h v, true) := by
  unfold BA.impl_rebuilt.f
  rw [hl]
  simp only [Option.bind_some, if_true]
  rw [cells_BA hw hh v a b of hk]
  simp only [Option.bind_some]
  rw [told_of hw hh hv]
  simp only [Option.bind_some]
theorem row_BR {w h : Nat} (hw : Side w) (hh : Side h) (v : Int → Int → Nat) (a : List Nat) (p q : Int) (of : ∀ x y : Nat, x < w → y < h → BR.impl_RollBasin_1.f x y w h a p q = some (v x y)) :
    ∀ n x y m : Nat, x + n = w → y < h → BR.impl_cells.l1 (n + 1 + m) w y h y w x w h a p q w h (pre w v (w * y + x)) = BR.impl_cells.l0 m w h ((y + 1 : Nat) : Int) w h a p q w h (pre w v (w * (y + 1))) := by
  have a1 := hw.2
  have a2 := hh.2
  intro n
  induction n with
  | zero =>
    intro x y m hx hy
    rw [show 0 + 1 + m = m + 1 by omega]
    unfold BR.impl_cells.l1
    rw [if_neg (by omega), w64 (by omega) (by omega), show w * y + x = w * (y + 1) by rw [Nat.mul_add]; omega]
    rfl
  | succ n ih =>
    intro x y m hx hy
    rw [show n + 1 + 1 + m = (n + 1 + m) + 1 by omega]
    unfold BR.impl_cells.l1
    rw [if_pos (by omega), of x y (by omega) hy]
    simp only [Option.bind_some]
    rw [if_pos (pre_lt hw hh (by omega) hy), pre_snoc hw (by omega), w64 (by omega) (by omega)]
    exact ih (x + 1) y m (by omega) hy
theorem all_BR {w h : Nat} (hw : Side w) (hh : Side h) (v : Int → Int → Nat) (a : List Nat) (p q : Int) (of : ∀ x y : Nat, x < w → y < h → BR.impl_RollBasin_1.f x y w h a p q = some (v x y)) :
    ∀ n y m : Nat, y + n = h → BR.impl_cells.l0 (n * (w + 2) + 1 + m) w h y w h a p q w h (pre w v (w * y)) = some ((w : Int), (h : Int), mk w h v) := by
  have a2 := hh.2
  intro n
  induction n with
  | zero =>
    intro y m hy
    rw [show 0 * (w + 2) + 1 + m = m + 1 by omega]
    unfold BR.impl_cells.l0
    rw [if_neg (by omega), show y = h by omega]
    rfl
  | succ n ih =>
    intro y m hy
    rw [show (n + 1) * (w + 2) + 1 + m = (w + 1 + (n * (w + 2) + 1 + m)) + 1 by rw [Nat.add_mul]; omega]
    unfold BR.impl_cells.l0
    rw [if_pos (by omega)]
    have := row_BR hw hh v a p q of w 0 y (n * (w + 2) + 1 + m) (by omega) (by omega)
    rw [Nat.add_zero] at this
    exact this.trans (ih (y + 1) m (by omega))
theorem cells_BR {w h : Nat} (hw : Side w) (hh : Side h) (v : Int → Int → Nat) (a : List Nat) (p q : Int) (of : ∀ x y : Nat, x < w → y < h → BR.impl_RollBasin_1.f x y w h a p q = some (v x y)) {k : Nat} (hk : 60 ≤ k) :
    BR.impl_cells.f k w h w h a p q = some ((w : Int), (h : Int), mk w h v) := by
  have a2 := hh.2
  have m1 : h * (w + 2) ≤ 6 * 8 := Nat.mul_le_mul a2 (by have := hw.2; omega)
  have := all_BR hw hh v a p q of h 0 (k - (h * (w + 2) + 1)) (by omega)
  rw [show h * (w + 2) + 1 + (k - (h * (w + 2) + 1)) = k by omega] at this
  exact this
theorem built_BR {w h : Nat} (hw : Side w) (hh : Side h) (v : Int → Int → Nat) (l : List Nat) (a : List Nat) (p q : Int) (of : ∀ x y : Nat, x < w → y < h → BR.impl_RollBasin_1.f x y w h a p q = some (v x y)) (hv : ∀ x y, Fin (v x y)) (hl : B0.impl_ValidBasin.f w h l = some true) {k : Nat} (hk : 60 ≤ k) :
    BR.impl_rebuilt.f k w h l w h a p q = some ((w : Int), (h : Int), mk w h v, true) := by
  unfold BR.impl_rebuilt.f
  rw [hl]
  simp only [Option.bind_some, if_true]
  rw [cells_BR hw hh v a p q of hk]
  simp only [Option.bind_some]
  rw [told_of hw hh hv]
  simp only [Option.bind_some]
theorem row_BM {w h : Nat} (hw : Side w) (hh : Side h) (v : Int → Int → Nat) (a : List Nat) (of : ∀ x y : Nat, x < w → y < h → BM.impl_MirrorBasin_1.f x y w h a = some (v x y)) :
    ∀ n x y m : Nat, x + n = w → y < h → BM.impl_cells.l1 (n + 1 + m) w y h y w x w h a w h (pre w v (w * y + x)) = BM.impl_cells.l0 m w h ((y + 1 : Nat) : Int) w h a w h (pre w v (w * (y + 1))) := by
  have a1 := hw.2
  have a2 := hh.2
  intro n
  induction n with
  | zero =>
    intro x y m hx hy
    rw [show 0 + 1 + m = m + 1 by omega]
    unfold BM.impl_cells.l1
    rw [if_neg (by omega), w64 (by omega) (by omega), show w * y + x = w * (y + 1) by rw [Nat.mul_add]; omega]
    rfl
  | succ n ih =>
    intro x y m hx hy
    rw [show n + 1 + 1 + m = (n + 1 + m) + 1 by omega]
    unfold BM.impl_cells.l1
    rw [if_pos (by omega), of x y (by omega) hy]
    simp only [Option.bind_some]
    rw [if_pos (pre_lt hw hh (by omega) hy), pre_snoc hw (by omega), w64 (by omega) (by omega)]
    exact ih (x + 1) y m (by omega) hy
theorem all_BM {w h : Nat} (hw : Side w) (hh : Side h) (v : Int → Int → Nat) (a : List Nat) (of : ∀ x y : Nat, x < w → y < h → BM.impl_MirrorBasin_1.f x y w h a = some (v x y)) :
    ∀ n y m : Nat, y + n = h → BM.impl_cells.l0 (n * (w + 2) + 1 + m) w h y w h a w h (pre w v (w * y)) = some ((w : Int), (h : Int), mk w h v) := by
  have a2 := hh.2
  intro n
  induction n with
  | zero =>
    intro y m hy
    rw [show 0 * (w + 2) + 1 + m = m + 1 by omega]
    unfold BM.impl_cells.l0
    rw [if_neg (by omega), show y = h by omega]
    rfl
  | succ n ih =>
    intro y m hy
    rw [show (n + 1) * (w + 2) + 1 + m = (w + 1 + (n * (w + 2) + 1 + m)) + 1 by rw [Nat.add_mul]; omega]
    unfold BM.impl_cells.l0
    rw [if_pos (by omega)]
    have := row_BM hw hh v a of w 0 y (n * (w + 2) + 1 + m) (by omega) (by omega)
    rw [Nat.add_zero] at this
    exact this.trans (ih (y + 1) m (by omega))
theorem cells_BM {w h : Nat} (hw : Side w) (hh : Side h) (v : Int → Int → Nat) (a : List Nat) (of : ∀ x y : Nat, x < w → y < h → BM.impl_MirrorBasin_1.f x y w h a = some (v x y)) {k : Nat} (hk : 60 ≤ k) :
    BM.impl_cells.f k w h w h a = some ((w : Int), (h : Int), mk w h v) := by
  have a2 := hh.2
  have m1 : h * (w + 2) ≤ 6 * 8 := Nat.mul_le_mul a2 (by have := hw.2; omega)
  have := all_BM hw hh v a of h 0 (k - (h * (w + 2) + 1)) (by omega)
  rw [show h * (w + 2) + 1 + (k - (h * (w + 2) + 1)) = k by omega] at this
  exact this
theorem built_BM {w h : Nat} (hw : Side w) (hh : Side h) (v : Int → Int → Nat) (l : List Nat) (a : List Nat) (of : ∀ x y : Nat, x < w → y < h → BM.impl_MirrorBasin_1.f x y w h a = some (v x y)) (hv : ∀ x y, Fin (v x y)) (hl : B0.impl_ValidBasin.f w h l = some true) {k : Nat} (hk : 60 ≤ k) :
    BM.impl_rebuilt.f k w h l w h a = some ((w : Int), (h : Int), mk w h v, true) := by
  unfold BM.impl_rebuilt.f
  rw [hl]
  simp only [Option.bind_some, if_true]
  rw [cells_BM hw hh v a of hk]
  simp only [Option.bind_some]
  rw [told_of hw hh hv]
  simp only [Option.bind_some]
theorem row_BE {w h : Nat} (hw : Side w) (hh : Side h) (v : Int → Int → Nat) (a : List Nat) (e : Nat) (of : ∀ x y : Nat, x < w → y < h → BE.impl_EvenOut_1.f x y w h a e = some (v x y)) :
    ∀ n x y m : Nat, x + n = w → y < h → BE.impl_cells.l1 (n + 1 + m) w y h y w x w h a e w h (pre w v (w * y + x)) = BE.impl_cells.l0 m w h ((y + 1 : Nat) : Int) w h a e w h (pre w v (w * (y + 1))) := by
  have a1 := hw.2
  have a2 := hh.2
  intro n
  induction n with
  | zero =>
    intro x y m hx hy
    rw [show 0 + 1 + m = m + 1 by omega]
    unfold BE.impl_cells.l1
    rw [if_neg (by omega), w64 (by omega) (by omega), show w * y + x = w * (y + 1) by rw [Nat.mul_add]; omega]
    rfl
  | succ n ih =>
    intro x y m hx hy
    rw [show n + 1 + 1 + m = (n + 1 + m) + 1 by omega]
    unfold BE.impl_cells.l1
    rw [if_pos (by omega), of x y (by omega) hy]
    simp only [Option.bind_some]
    rw [if_pos (pre_lt hw hh (by omega) hy), pre_snoc hw (by omega), w64 (by omega) (by omega)]
    exact ih (x + 1) y m (by omega) hy
theorem all_BE {w h : Nat} (hw : Side w) (hh : Side h) (v : Int → Int → Nat) (a : List Nat) (e : Nat) (of : ∀ x y : Nat, x < w → y < h → BE.impl_EvenOut_1.f x y w h a e = some (v x y)) :
    ∀ n y m : Nat, y + n = h → BE.impl_cells.l0 (n * (w + 2) + 1 + m) w h y w h a e w h (pre w v (w * y)) = some ((w : Int), (h : Int), mk w h v) := by
  have a2 := hh.2
  intro n
  induction n with
  | zero =>
    intro y m hy
    rw [show 0 * (w + 2) + 1 + m = m + 1 by omega]
    unfold BE.impl_cells.l0
    rw [if_neg (by omega), show y = h by omega]
    rfl
  | succ n ih =>
    intro y m hy
    rw [show (n + 1) * (w + 2) + 1 + m = (w + 1 + (n * (w + 2) + 1 + m)) + 1 by rw [Nat.add_mul]; omega]
    unfold BE.impl_cells.l0
    rw [if_pos (by omega)]
    have := row_BE hw hh v a e of w 0 y (n * (w + 2) + 1 + m) (by omega) (by omega)
    rw [Nat.add_zero] at this
    exact this.trans (ih (y + 1) m (by omega))
theorem cells_BE {w h : Nat} (hw : Side w) (hh : Side h) (v : Int → Int → Nat) (a : List Nat) (e : Nat) (of : ∀ x y : Nat, x < w → y < h → BE.impl_EvenOut_1.f x y w h a e = some (v x y)) {k : Nat} (hk : 60 ≤ k) :
    BE.impl_cells.f k w h w h a e = some ((w : Int), (h : Int), mk w h v) := by
  have a2 := hh.2
  have m1 : h * (w + 2) ≤ 6 * 8 := Nat.mul_le_mul a2 (by have := hw.2; omega)
  have := all_BE hw hh v a e of h 0 (k - (h * (w + 2) + 1)) (by omega)
  rw [show h * (w + 2) + 1 + (k - (h * (w + 2) + 1)) = k by omega] at this
  exact this
theorem built_BE {w h : Nat} (hw : Side w) (hh : Side h) (v : Int → Int → Nat) (l : List Nat) (a : List Nat) (e : Nat) (of : ∀ x y : Nat, x < w → y < h → BE.impl_EvenOut_1.f x y w h a e = some (v x y)) (hv : ∀ x y, Fin (v x y)) (hl : B0.impl_ValidBasin.f w h l = some true) {k : Nat} (hk : 60 ≤ k) :
    BE.impl_rebuilt.f k w h l w h a e = some ((w : Int), (h : Int), mk w h v, true) := by
  unfold BE.impl_rebuilt.f
  rw [hl]
  simp only [Option.bind_some, if_true]
  rw [cells_BE hw hh v a e of hk]
  simp only [Option.bind_some]
  rw [told_of hw hh hv]
  simp only [Option.bind_some]
theorem row_BS {w h : Nat} (hw : Side w) (hh : Side h) (v : Int → Int → Nat) (a : List Nat) (e : Nat) (of : ∀ x y : Nat, x < w → y < h → BS.impl_ScaleBasin_1.f x y w h a e = some (v x y)) :
    ∀ n x y m : Nat, x + n = w → y < h → BS.impl_cells.l1 (n + 1 + m) w y h y w x w h a e w h (pre w v (w * y + x)) = BS.impl_cells.l0 m w h ((y + 1 : Nat) : Int) w h a e w h (pre w v (w * (y + 1))) := by
  have a1 := hw.2
  have a2 := hh.2
  intro n
  induction n with
  | zero =>
    intro x y m hx hy
    rw [show 0 + 1 + m = m + 1 by omega]
    unfold BS.impl_cells.l1
    rw [if_neg (by omega), w64 (by omega) (by omega), show w * y + x = w * (y + 1) by rw [Nat.mul_add]; omega]
    rfl
  | succ n ih =>
    intro x y m hx hy
    rw [show n + 1 + 1 + m = (n + 1 + m) + 1 by omega]
    unfold BS.impl_cells.l1
    rw [if_pos (by omega), of x y (by omega) hy]
    simp only [Option.bind_some]
    rw [if_pos (pre_lt hw hh (by omega) hy), pre_snoc hw (by omega), w64 (by omega) (by omega)]
    exact ih (x + 1) y m (by omega) hy
theorem all_BS {w h : Nat} (hw : Side w) (hh : Side h) (v : Int → Int → Nat) (a : List Nat) (e : Nat) (of : ∀ x y : Nat, x < w → y < h → BS.impl_ScaleBasin_1.f x y w h a e = some (v x y)) :
    ∀ n y m : Nat, y + n = h → BS.impl_cells.l0 (n * (w + 2) + 1 + m) w h y w h a e w h (pre w v (w * y)) = some ((w : Int), (h : Int), mk w h v) := by
  have a2 := hh.2
  intro n
  induction n with
  | zero =>
    intro y m hy
    rw [show 0 * (w + 2) + 1 + m = m + 1 by omega]
    unfold BS.impl_cells.l0
    rw [if_neg (by omega), show y = h by omega]
    rfl
  | succ n ih =>
    intro y m hy
    rw [show (n + 1) * (w + 2) + 1 + m = (w + 1 + (n * (w + 2) + 1 + m)) + 1 by rw [Nat.add_mul]; omega]
    unfold BS.impl_cells.l0
    rw [if_pos (by omega)]
    have := row_BS hw hh v a e of w 0 y (n * (w + 2) + 1 + m) (by omega) (by omega)
    rw [Nat.add_zero] at this
    exact this.trans (ih (y + 1) m (by omega))
theorem cells_BS {w h : Nat} (hw : Side w) (hh : Side h) (v : Int → Int → Nat) (a : List Nat) (e : Nat) (of : ∀ x y : Nat, x < w → y < h → BS.impl_ScaleBasin_1.f x y w h a e = some (v x y)) {k : Nat} (hk : 60 ≤ k) :
    BS.impl_cells.f k w h w h a e = some ((w : Int), (h : Int), mk w h v) := by
  have a2 := hh.2
  have m1 : h * (w + 2) ≤ 6 * 8 := Nat.mul_le_mul a2 (by have := hw.2; omega)
  have := all_BS hw hh v a e of h 0 (k - (h * (w + 2) + 1)) (by omega)
  rw [show h * (w + 2) + 1 + (k - (h * (w + 2) + 1)) = k by omega] at this
  exact this
theorem built_BS {w h : Nat} (hw : Side w) (hh : Side h) (v : Int → Int → Nat) (l : List Nat) (a : List Nat) (e : Nat) (of : ∀ x y : Nat, x < w → y < h → BS.impl_ScaleBasin_1.f x y w h a e = some (v x y)) (hv : ∀ x y, Fin (v x y)) (hl : B0.impl_ValidBasin.f w h l = some true) {k : Nat} (hk : 60 ≤ k) :
    BS.impl_rebuilt.f k w h l w h a e = some ((w : Int), (h : Int), mk w h v, true) := by
  unfold BS.impl_rebuilt.f
  rw [hl]
  simp only [Option.bind_some, if_true]
  rw [cells_BS hw hh v a e of hk]
  simp only [Option.bind_some]
  rw [told_of hw hh hv]
  simp only [Option.bind_some]
theorem row_BL {w h : Nat} (hw : Side w) (hh : Side h) (v : Int → Int → Nat) (a : List Nat) (of : ∀ x y : Nat, x < w → y < h → B0.impl_Basin_laplace.f w h a x y = some (v x y)) :
    ∀ n x y m : Nat, x + n = w → y < h → BL.impl_cells.l1 (n + 1 + m) w y h y w x w h a w h (pre w v (w * y + x)) = BL.impl_cells.l0 m w h ((y + 1 : Nat) : Int) w h a w h (pre w v (w * (y + 1))) := by
  have a1 := hw.2
  have a2 := hh.2
  intro n
  induction n with
  | zero =>
    intro x y m hx hy
    rw [show 0 + 1 + m = m + 1 by omega]
    unfold BL.impl_cells.l1
    rw [if_neg (by omega), w64 (by omega) (by omega), show w * y + x = w * (y + 1) by rw [Nat.mul_add]; omega]
    rfl
  | succ n ih =>
    intro x y m hx hy
    rw [show n + 1 + 1 + m = (n + 1 + m) + 1 by omega]
    unfold BL.impl_cells.l1
    rw [if_pos (by omega), of x y (by omega) hy]
    simp only [Option.bind_some]
    rw [if_pos (pre_lt hw hh (by omega) hy), pre_snoc hw (by omega), w64 (by omega) (by omega)]
    exact ih (x + 1) y m (by omega) hy
theorem all_BL {w h : Nat} (hw : Side w) (hh : Side h) (v : Int → Int → Nat) (a : List Nat) (of : ∀ x y : Nat, x < w → y < h → B0.impl_Basin_laplace.f w h a x y = some (v x y)) :
    ∀ n y m : Nat, y + n = h → BL.impl_cells.l0 (n * (w + 2) + 1 + m) w h y w h a w h (pre w v (w * y)) = some ((w : Int), (h : Int), mk w h v) := by
  have a2 := hh.2
  intro n
  induction n with
  | zero =>
    intro y m hy
    rw [show 0 * (w + 2) + 1 + m = m + 1 by omega]
    unfold BL.impl_cells.l0
    rw [if_neg (by omega), show y = h by omega]
    rfl
  | succ n ih =>
    intro y m hy
    rw [show (n + 1) * (w + 2) + 1 + m = (w + 1 + (n * (w + 2) + 1 + m)) + 1 by rw [Nat.add_mul]; omega]
    unfold BL.impl_cells.l0
    rw [if_pos (by omega)]
    have := row_BL hw hh v a of w 0 y (n * (w + 2) + 1 + m) (by omega) (by omega)
    rw [Nat.add_zero] at this
    exact this.trans (ih (y + 1) m (by omega))
theorem cells_BL {w h : Nat} (hw : Side w) (hh : Side h) (v : Int → Int → Nat) (a : List Nat) (of : ∀ x y : Nat, x < w → y < h → B0.impl_Basin_laplace.f w h a x y = some (v x y)) {k : Nat} (hk : 60 ≤ k) :
    BL.impl_cells.f k w h w h a = some ((w : Int), (h : Int), mk w h v) := by
  have a2 := hh.2
  have m1 : h * (w + 2) ≤ 6 * 8 := Nat.mul_le_mul a2 (by have := hw.2; omega)
  have := all_BL hw hh v a of h 0 (k - (h * (w + 2) + 1)) (by omega)
  rw [show h * (w + 2) + 1 + (k - (h * (w + 2) + 1)) = k by omega] at this
  exact this
theorem built_BL {w h : Nat} (hw : Side w) (hh : Side h) (v : Int → Int → Nat) (l : List Nat) (a : List Nat) (of : ∀ x y : Nat, x < w → y < h → B0.impl_Basin_laplace.f w h a x y = some (v x y)) (hv : ∀ x y, Fin (v x y)) (hl : B0.impl_ValidBasin.f w h l = some true) {k : Nat} (hk : 60 ≤ k) :
    BL.impl_rebuilt.f k w h l w h a = some ((w : Int), (h : Int), mk w h v, true) := by
  unfold BL.impl_rebuilt.f
  rw [hl]
  simp only [Option.bind_some, if_true]
  rw [cells_BL hw hh v a of hk]
  simp only [Option.bind_some]
  rw [told_of hw hh hv]
  simp only [Option.bind_some]
end PA
end Go.Proofs.Ytelkklnfbfmecaa
end
section
set_option linter.unusedVariables false
set_option linter.unusedSimpArgs false
namespace Go.Proofs.Ytelkklnfbfmecaa
open Go.RowKit Go.Proofs.YtelkklnfbfmecaaW.PrintWords Go.Proofs.YtelkklnfbfmecaaW.PrintLast Ieee
namespace PA
open FR PU XL
def okS (l : List Int) : Prop := ∀ b ∈ l, 0 ≤ b ∧ b ≤ 255
theorem wid {i : Int} (h0 : -9223372036854775808 ≤ i) (h : i ≤ 9223372036854775807) : wrap64 i = i := by unfold wrap64; omega
theorem rd_ok {l : List Int} (h : okS l) (i : Int) : 0 ≤ rd l i ∧ rd l i ≤ 255 := by
  unfold rd
  by_cases c : i.toNat < l.length
  · rw [List.getD_eq_getElem?_getD, List.getElem?_eq_getElem c, Option.getD_some]
    exact h _ (List.getElem_mem c)
  · rw [List.getD_eq_getElem?_getD, List.getElem?_eq_none (by omega), Option.getD_none]
    omega
theorem and255 (n : Int) : 0 ≤ Go.bits .and .u64 n 255 ∧ Go.bits .and .u64 n 255 ≤ 255 := by
  have h255 : (BitVec.ofInt 64 255).toNat = 2 ^ 8 - 1 := by decide
  have key : (BitVec.ofInt 64 n &&& BitVec.ofInt 64 255).toNat = (n % ((2 ^ 64 : Nat) : Int)).toNat % 2 ^ 8 := by
    rw [BitVec.toNat_and, BitVec.toNat_ofInt, h255, Nat.and_two_pow_sub_one_eq_mod]
  have e : Go.bits .and .u64 n 255 = IntKind.u64.wrap ((BitVec.ofInt 64 n &&& BitVec.ofInt 64 255).toNat : Nat) := rfl
  rw [e, key]
  have hb : (n % ((2 ^ 64 : Nat) : Int)).toNat % 2 ^ 8 < 256 := Nat.mod_lt _ (by decide)
  generalize (n % ((2 ^ 64 : Nat) : Int)).toNat % 2 ^ 8 = q at hb
  have e2 : IntKind.u64.wrap (q : Int) = q := by
    simp [IntKind.wrap, IntKind.bits, IntKind.signed]
    omega
  rw [e2]
  omega
theorem next_ok {l : List Int} (hl : okS l) (a s : Int) (h0 : 0 ≤ a) (h1 : a ≤ 1000000) : ∃ x s', B0.spec_l00Src_next.f l a s = some (x, a + 1, s') ∧ 0 ≤ x ∧ x ≤ 255 := by
  have hr := rd_ok hl a
  have hw1 : wrap64 (rd l a) = rd l a := wid (by omega) (by omega)
  have hw2 : wrap64 (a + 1) = a + 1 := wid (by omega) (by omega)
  have ha (n : Int) : wrap64 (Go.bits .and .u64 n 255) = Go.bits .and .u64 n 255 := by
    have := and255 n
    exact wid (by omega) (by omega)
  unfold B0.spec_l00Src_next.f
  rw [hw1, hw2]
  by_cases c : a < (l.length : Int)
  · rw [if_pos c, if_pos h0]
    by_cases c2 : a + 1 ≤ (l.length : Int)
    · rw [if_pos c2]
      exact ⟨_, _, rfl, hr.1, hr.2⟩
    · rw [if_neg c2, ha]
      exact ⟨_, _, rfl, (and255 _).1, (and255 _).2⟩
  · rw [if_neg c]
    by_cases c2 : a + 1 ≤ (l.length : Int)
    · rw [if_pos c2]
      exact ⟨_, _, rfl, by omega, by omega⟩
    · rw [if_neg c2, ha]
      exact ⟨_, _, rfl, (and255 _).1, (and255 _).2⟩
theorem tmod_ok {x n : Int} (h0 : 0 ≤ x) (hn : 0 < n) : 0 ≤ Int.tmod x n ∧ Int.tmod x n < n := by
  rw [Int.tmod_eq_emod_of_nonneg h0]
  exact ⟨Int.emod_nonneg _ (by omega), Int.emod_lt_of_pos _ hn⟩
theorem pick_ok {l : List Int} (hl : okS l) (a s n : Int) (h0 : 0 ≤ a) (h1 : a ≤ 100000) (hn : 1 < n) : ∃ v a' s', B0.spec_l00Src_pick.f l a s n = some (v, a', s') ∧ 0 ≤ v ∧ v < n ∧ 0 ≤ a' ∧ a' ≤ a + 2 := by
  unfold B0.spec_l00Src_pick.f
  rw [if_neg (by omega)]
  obtain ⟨x, s1, e1, hx0, hx1⟩ := next_ok hl a s h0 (by omega)
  rw [e1]
  simp only [Option.bind_some]
  by_cases c : n > 200
  · rw [if_pos c]
    obtain ⟨y, s2, e2, hy0, hy1⟩ := next_ok hl (a + 1) s1 (by omega) (by omega)
    rw [e2]
    simp only [Option.bind_some]
    rw [if_neg (by omega), wid (i := x * 256) (by omega) (by omega), wid (by omega) (by omega)]
    have := tmod_ok (x := x * 256 + y) (by omega) (by omega : 0 < n)
    exact ⟨_, _, _, rfl, this.1, this.2, by omega, by omega⟩
  · rw [if_neg c, if_neg (by omega)]
    have := tmod_ok hx0 (by omega : 0 < n)
    exact ⟨_, _, _, rfl, this.1, this.2, by omega, by omega⟩
theorem at_ok {l : List Int} (hl : okS l) (i n : Int) (h0 : 0 ≤ i) (h1 : 1 < n) (h2 : n ≤ 1000) : ∃ t, B0.laws_r8At.f l i n = some t ∧ 0 ≤ t ∧ t < n := by
  unfold B0.laws_r8At.f
  rw [if_neg (by omega)]
  by_cases c : i < (l.length : Int)
  · rw [if_neg (by omega), if_pos h0, if_pos c, if_neg (by omega)]
    have hr := rd_ok hl i
    rw [wid (by omega) (by omega)]
    have := tmod_ok hr.1 (by omega : 0 < n)
    exact ⟨_, rfl, this.1, this.2⟩
  · rw [if_pos (by omega)]
    exact ⟨0, rfl, by omega, by omega⟩
theorem f_two : Fk .f32 1073741824 ((2 : Int) : Rat) := ⟨false, 8388608, -22, by decide, by decide +kernel⟩
theorem f_four : Fk .f32 1082130432 ((4 : Int) : Rat) := ⟨false, 8388608, -21, by decide, by decide +kernel⟩
theorem f_four' : Fk .f32 1082130432 ((2 : Rat) ^ ((2 : Nat) : Int)) := ⟨false, 8388608, -21, by decide, by decide +kernel⟩
theorem f_eight' : Fk .f32 1090519040 ((2 : Rat) ^ ((3 : Nat) : Int)) := ⟨false, 8388608, -20, by decide, by decide +kernel⟩
theorem f_seven : Fk .f32 1088421888 (7 : Rat) := ⟨false, 14680064, -21, by decide, by decide +kernel⟩
def UB (v : Int → Int → Nat) (n : Int → Int → Int) (M : Int) : Prop := ∀ x y, U (v x y) (n x y) ∧ -M ≤ n x y ∧ n x y ≤ M
theorem UB.fin {v : Int → Int → Nat} {n : Int → Int → Int} {M : Int} (h : UB v n M) : ∀ x y, Fin (v x y) := fun x y => ⟨_, (h x y).1⟩
def addV (a b : Int → Int → Nat) : Int → Int → Nat := fun x y => fop .add .f32 (a x y) (b x y)
def lapV (a : Int → Int → Nat) : Int → Int → Nat := fun x y => fop .sub .f32 (fop .add .f32 (fop .add .f32 (a (x - 1) y) (a (x + 1) y)) (fop .add .f32 (a x (y - 1)) (a x (y + 1)))) (fop .mul .f32 1082130432 (a x y))
def rolV (a : Int → Int → Nat) (p q : Int) : Int → Int → Nat := fun x y => a (x - p) (y - q)
def mirV (w : Nat) (a : Int → Int → Nat) : Int → Int → Nat := fun x y => Op.negFloat .f32 (a (w - 1 - x) y)
def dblV (a : Int → Int → Nat) : Int → Int → Nat := fun x y => fop .mul .f32 (a x y) 1073741824
def lapN (n : Int → Int → Int) : Int → Int → Int := fun x y => n (x - 1) y + n (x + 1) y + (n x (y - 1) + n x (y + 1)) - 4 * n x y
theorem emod_off (x p w : Int) : (x % w - p) % w = (x - p) % w := by
  have := Int.emod_def x w
  rw [show x % w - p = x - p + w * (-(x / w)) by rw [Int.mul_neg]; omega, Int.add_mul_emod_self_left]
theorem emod_off' (x p w : Int) : (p - x % w) % w = (p - x) % w := by
  have := Int.emod_def x w
  rw [show p - x % w = p - x + w * (x / w) by omega, Int.add_mul_emod_self_left]
theorem Per.to {w h : Nat} {v : Int → Int → Nat} (hv : Per w h v) {x y x' y' : Int} (hx : x % w = x' % w) (hy : y % h = y' % h) : v x y = v x' y' := by rw [← hv x y, ← hv x' y', hx, hy]
theorem per_add {w h : Nat} {a b : Int → Int → Nat} (ha : Per w h a) (hb : Per w h b) : Per w h (addV a b) := fun x y => by unfold addV; rw [ha, hb]
theorem per_rol {w h : Nat} {a : Int → Int → Nat} (ha : Per w h a) (p q : Int) : Per w h (rolV a p q) := fun x y => ha.to (emod_off _ _ _) (emod_off _ _ _)
theorem per_mir {w h : Nat} {a : Int → Int → Nat} (ha : Per w h a) : Per w h (mirV w a) := fun x y => by
  unfold mirV
  rw [ha.to (x' := (w : Int) - 1 - x) (y' := y) (emod_off' _ _ _) (Int.emod_emod _ _)]
theorem per_lap {w h : Nat} {a : Int → Int → Nat} (ha : Per w h a) : Per w h (lapV a) := fun x y => by
  have e1 := ha.to (x := x % w - 1) (y := y % h) (x' := x - 1) (y' := y) (emod_off _ _ _) (Int.emod_emod _ _)
  have e2 := ha.to (x := x % w + 1) (y := y % h) (x' := x + 1) (y' := y) (by have := emod_off x (-1) w; rwa [Int.sub_neg, Int.sub_neg] at this) (Int.emod_emod _ _)
  have e3 := ha.to (x := x % w) (y := y % h - 1) (x' := x) (y' := y - 1) (Int.emod_emod _ _) (emod_off _ _ _)
  have e4 := ha.to (x := x % w) (y := y % h + 1) (x' := x) (y' := y + 1) (Int.emod_emod _ _) (by have := emod_off y (-1) h; rwa [Int.sub_neg, Int.sub_neg] at this)
  unfold lapV
  rw [e1, e2, e3, e4, ha]
theorem ub_add {a b : Int → Int → Nat} {n m : Int → Int → Int} {M K : Int} (ha : UB a n M) (hb : UB b m K) (hM : M + K < 16777216) : UB (addV a b) (fun x y => n x y + m x y) (M + K) := fun x y => by
  obtain ⟨a1, a2, a3⟩ := ha x y
  obtain ⟨b1, b2, b3⟩ := hb x y
  exact ⟨(U_add a1 b1 (by omega)).2, by show -(M + K) ≤ n x y + m x y; omega, by show n x y + m x y ≤ M + K; omega⟩
theorem ok_add {a b : Int → Int → Nat} {n m : Int → Int → Int} {M K : Int} (ha : UB a n M) (hb : UB b m K) (hM : M + K < 16777216) (x y : Int) : fok .add .f32 (a x y) (b x y) = true := by
  obtain ⟨a1, a2, a3⟩ := ha x y
  obtain ⟨b1, b2, b3⟩ := hb x y
  exact (U_add a1 b1 (by omega)).1
theorem ub_lap {w h : Nat} (hw : Side w) (hh : Side h) {a : Int → Int → Nat} {n : Int → Int → Int} {M : Int} (hp : Per w h a) (ha : UB a n M) (hM : 8 * M < 16777216) : UB (lapV a) (lapN n) (8 * M) ∧
    ∀ x y : Nat, x < w → y < h → B0.impl_Basin_laplace.f w h (mk w h a) x y = some (lapV a x y) := by
  have key : ∀ x y : Int, (fok .add .f32 (a (x - 1) y) (a (x + 1) y) = true) ∧ (fok .add .f32 (a x (y - 1)) (a x (y + 1)) = true) ∧ (fok .add .f32 (fop .add .f32 (a (x - 1) y) (a (x + 1) y)) (fop .add .f32 (a x (y - 1)) (a x (y + 1))) = true) ∧ (fok .mul .f32 1082130432 (a x y) = true) ∧
      (fok .sub .f32 (fop .add .f32 (fop .add .f32 (a (x - 1) y) (a (x + 1) y)) (fop .add .f32 (a x (y - 1)) (a x (y + 1)))) (fop .mul .f32 1082130432 (a x y)) = true) ∧ U (lapV a x y) (lapN n x y) ∧ -(8 * M) ≤ lapN n x y ∧ lapN n x y ≤ 8 * M := by
    intro x y
    obtain ⟨a1, a2, a3⟩ := ha (x - 1) y
    obtain ⟨b1, b2, b3⟩ := ha (x + 1) y
    obtain ⟨c1, c2, c3⟩ := ha x (y - 1)
    obtain ⟨d1, d2, d3⟩ := ha x (y + 1)
    obtain ⟨e1, e2, e3⟩ := ha x y
    obtain ⟨p1, p2⟩ := U_add a1 b1 (by omega)
    obtain ⟨q1, q2⟩ := U_add c1 d1 (by omega)
    obtain ⟨r1, r2⟩ := U_add p2 q2 (by omega)
    obtain ⟨s1, s2⟩ := U_mul' f_four e1 (by omega)
    obtain ⟨t1, t2⟩ := U_sub r2 s2 (by omega)
    refine ⟨p1, q1, r1, s1, t1, t2, ?_, ?_⟩ <;> unfold lapN <;> omega
  refine ⟨fun x y => (key x y).2.2.2.2.2, fun x y hx hy => ?_⟩
  obtain ⟨k1, k2, k3, k4, k5, -⟩ := key x y
  have := hw.2
  have := hh.2
  unfold B0.impl_Basin_laplace.f B0.impl_Basin_around.f
  rw [w64 (n := (x : Int) - 1) (by omega) (by omega), w64 (n := (x : Int) + 1) (by omega) (by omega), w64 (n := (y : Int) - 1) (by omega) (by omega), w64 (n := (y : Int) + 1) (by omega) (by omega)]
  rw [at_of hw hh hp (by omega) (by omega) (by omega) (by omega), at_of hw hh hp (by omega) (by omega) (by omega) (by omega), at_of hw hh hp (by omega) (by omega) (by omega) (by omega), at_of hw hh hp (by omega) (by omega) (by omega) (by omega), at_of hw hh hp (by omega) (by omega) (by omega) (by omega)]
  simp only [Option.bind_some]
  rw [if_pos k1, if_pos k2, if_pos k3]
  simp only [Option.bind_some]
  rw [if_pos k4, if_pos k5]
  rfl
end PA
end Go.Proofs.Ytelkklnfbfmecaa
end
section
set_option linter.unusedVariables false
set_option linter.unusedSimpArgs false
namespace Go.Proofs.Ytelkklnfbfmecaa
open Go.RowKit Go.Proofs.YtelkklnfbfmecaaW.PrintWords Go.Proofs.YtelkklnfbfmecaaW.PrintLast Ieee
namespace PA
open FR PU XL
theorem alike_of {w h : Nat} {a b : List Nat} (ha : B0.impl_ValidBasin.f w h a = some true) (hb : B0.impl_ValidBasin.f w h b = some true) {k : Nat} (hk : 10 ≤ k) :
    B0.impl_alike.f k [(⟨w, h, a⟩ : B0.S26), (⟨w, h, b⟩ : B0.S26)] = some true := by
  obtain ⟨j, rfl⟩ : ∃ j, k = j + 3 := ⟨k - 3, by omega⟩
  have hn : ((h : Int) != (h : Int)) = false := by simp
  have A (l : List Nat) (hl : B0.impl_ValidBasin.f w h l = some true) : B0.impl_alike_1.f w h l [(⟨w, h, a⟩ : B0.S26), (⟨w, h, b⟩ : B0.S26)] = some false := by
    unfold B0.impl_alike_1.f
    rw [hl]
    simp only [Option.bind_some, if_true]
    rw [if_pos (show (0 : Int) < (([(⟨w, h, a⟩ : B0.S26), (⟨w, h, b⟩ : B0.S26)] : List B0.S26).length : Int) by simp only [List.length_cons, List.length_nil]; omega)]
    rw [if_pos (show (w : Int) = (B0.rd_T26 [(⟨w, h, a⟩ : B0.S26), (⟨w, h, b⟩ : B0.S26)] 0).f0 from rfl)]
    exact congrArg some hn
  have B : B0.impl_Basin_74.l0 (j + 3) [(⟨w, h, a⟩ : B0.S26), (⟨w, h, b⟩ : B0.S26)] (([(⟨w, h, a⟩ : B0.S26), (⟨w, h, b⟩ : B0.S26)] : List B0.S26).length : Int) 0 [(⟨w, h, a⟩ : B0.S26), (⟨w, h, b⟩ : B0.S26)] = some (-1) := by
    have len : ((([(⟨w, h, a⟩ : B0.S26), (⟨w, h, b⟩ : B0.S26)] : List B0.S26).length : Nat) : Int) = 2 := rfl
    unfold B0.impl_Basin_74.l0
    rw [len, if_pos (by omega), if_pos (by omega), if_pos (by omega)]
    have e0 : B0.rd_T26 [(⟨w, h, a⟩ : B0.S26), (⟨w, h, b⟩ : B0.S26)] 0 = ⟨w, h, a⟩ := rfl
    have e1 : B0.rd_T26 [(⟨w, h, a⟩ : B0.S26), (⟨w, h, b⟩ : B0.S26)] 1 = ⟨w, h, b⟩ := rfl
    rw [e0, A a ha]
    simp only [Option.bind_some]
    rw [if_neg (by decide), w64 (by omega) (by omega)]
    unfold B0.impl_Basin_74.l0
    rw [show (0 : Int) + 1 = 1 from rfl, if_pos (by omega), if_pos (by omega), len, if_pos (by omega), e1, A b hb]
    simp only [Option.bind_some]
    rw [if_neg (by decide), w64 (by omega) (by omega)]
    unfold B0.impl_Basin_74.l0
    rw [show (1 : Int) + 1 = 2 from rfl, if_neg (by omega)]
  unfold B0.impl_alike.f B0.impl_Basin_61.f B0.impl_Basin_74.f
  rw [B]
  rfl
theorem add_of {w h : Nat} (hw : Side w) (hh : Side h) {a b : Int → Int → Nat} {n m : Int → Int → Int} {M K : Int} (hpa : Per w h a) (hpb : Per w h b) (ha : UB a n M) (hb : UB b m K) (hM : M + K < 16777216) {k : Nat} (hk : 60 ≤ k) :
    BA.impl_AddBasins.f k w h (mk w h a) w h (mk w h b) = some ((w : Int), (h : Int), mk w h (addV a b), true) := by
  unfold BA.impl_AddBasins.f
  rw [alike_of (valid_of hw hh ha.fin) (valid_of hw hh hb.fin) (by omega)]
  simp only [Option.bind_some, if_true]
  rw [built_BA hw hh (addV a b) (mk w h a) (mk w h a) (mk w h b) ?_ (ub_add ha hb hM).fin (valid_of hw hh ha.fin) hk]
  · simp only [Option.bind_some]
  · intro x y hx hy
    have := hw.2
    have := hh.2
    unfold BA.impl_AddBasins_1.f
    rw [at_of hw hh hpa (by omega) (by omega) (by omega) (by omega), at_of hw hh hpb (by omega) (by omega) (by omega) (by omega)]
    simp only [Option.bind_some]
    rw [if_pos (ok_add ha hb hM _ _)]
    rfl
theorem lap_of {w h : Nat} (hw : Side w) (hh : Side h) {a : Int → Int → Nat} {n : Int → Int → Int} {M : Int} (hp : Per w h a) (ha : UB a n M) (hM : 8 * M < 16777216) {k : Nat} (hk : 60 ≤ k) :
    BL.impl_LaplaceBasin.f k w h (mk w h a) = some ((w : Int), (h : Int), mk w h (lapV a), true) := by
  unfold BL.impl_LaplaceBasin.f
  have L := ub_lap hw hh hp ha hM
  rw [built_BL hw hh (lapV a) (mk w h a) (mk w h a) L.2 L.1.fin (valid_of hw hh ha.fin) hk]
  simp only [Option.bind_some]
theorem rol_of {w h : Nat} (hw : Side w) (hh : Side h) {a : Int → Int → Nat} (hp : Per w h a) (ha : ∀ x y, Fin (a x y)) {p q : Int} (hp1 : -16 ≤ p) (hp2 : p ≤ 16) (hq1 : -16 ≤ q) (hq2 : q ≤ 16) {k : Nat} (hk : 60 ≤ k) :
    BR.impl_RollBasin.f k w h (mk w h a) p q = some ((w : Int), (h : Int), mk w h (rolV a p q), true) := by
  unfold BR.impl_RollBasin.f
  rw [in_of hp1 hp2, in_of hq1 hq2]
  simp only [Option.bind_some, if_true]
  rw [built_BR hw hh (rolV a p q) (mk w h a) (mk w h a) p q ?_ (fun x y => ha _ _) (valid_of hw hh ha) hk]
  · simp only [Option.bind_some]
  · intro x y hx hy
    have := hw.2
    have := hh.2
    unfold BR.impl_RollBasin_1.f
    rw [w64 (by omega) (by omega), w64 (by omega) (by omega), at_of hw hh hp (by omega) (by omega) (by omega) (by omega)]
    rfl
theorem fin_neg {x : Nat} (h : Fin x) : Fin (Op.negFloat .f32 x) := by
  obtain ⟨v, hv⟩ := h
  exact ⟨_, neg_val hv⟩
theorem mir_of {w h : Nat} (hw : Side w) (hh : Side h) {a : Int → Int → Nat} (hp : Per w h a) (ha : ∀ x y, Fin (a x y)) {k : Nat} (hk : 60 ≤ k) :
    BM.impl_MirrorBasin.f k w h (mk w h a) = some ((w : Int), (h : Int), mk w h (mirV w a), true) := by
  unfold BM.impl_MirrorBasin.f
  rw [built_BM hw hh (mirV w a) (mk w h a) (mk w h a) ?_ (fun x y => fin_neg (ha _ _)) (valid_of hw hh ha) hk]
  · simp only [Option.bind_some]
  · intro x y hx hy
    have := hw.2
    have := hh.2
    unfold BM.impl_MirrorBasin_1.f
    rw [w64 (n := (w : Int) - 1) (by omega) (by omega), w64 (by omega) (by omega), at_of hw hh hp (by omega) (by omega) (by omega) (by omega)]
    rfl
theorem dbl_of {w h : Nat} (hw : Side w) (hh : Side h) {a : Int → Int → Nat} {n : Int → Int → Int} {M : Int} (hp : Per w h a) (ha : UB a n M) (hM : 2 * M < 16777216) {k : Nat} (hk : 60 ≤ k) :
    BS.impl_ScaleBasin.f k w h (mk w h a) 1073741824 = some ((w : Int), (h : Int), mk w h (dblV a), true) := by
  have key : ∀ x y, fok .mul .f32 (a x y) 1073741824 = true ∧ U (dblV a x y) (n x y * 2) := fun x y => U_mul (ha x y).1 f_two (by have := ha x y; omega)
  unfold BS.impl_ScaleBasin.f XL.IsFinite.f
  rw [fin_of f_two]
  simp only [Option.bind_some, if_true]
  rw [built_BS hw hh (dblV a) (mk w h a) (mk w h a) 1073741824 ?_ (fun x y => ⟨_, (key x y).2⟩) (valid_of hw hh ha.fin) hk]
  · simp only [Option.bind_some]
  · intro x y hx hy
    have := hw.2
    have := hh.2
    unfold BS.impl_ScaleBasin_1.f
    rw [at_of hw hh hp (by omega) (by omega) (by omega) (by omega)]
    simp only [Option.bind_some]
    rw [if_pos (key _ _).1]
    rfl
def S1 (f : Nat → Int) : Nat → Int
  | 0 => 0
  | r + 1 => S1 f r + f r
theorem S1_bd {f : Nat → Int} {M : Int} : ∀ r : Nat, (∀ i, i < r → -M ≤ f i ∧ f i ≤ M) → -(r * M) ≤ S1 f r ∧ S1 f r ≤ r * M
  | 0, _ => by simp [S1]
  | r + 1, h => by
    have ih := S1_bd r (fun i hi => h i (by omega))
    have := h r (by omega)
    simp only [S1]
    have e : ((r + 1 : Nat) : Int) * M = r * M + M := by rw [Int.natCast_add, Int.add_mul]; simp
    rw [e]
    omega
theorem S1_add (f g : Nat → Int) : ∀ r, S1 (fun i => f i + g i) r = S1 f r + S1 g r
  | 0 => rfl
  | r + 1 => by simp only [S1]; rw [S1_add f g r]; omega
theorem S1_mul (c : Int) (f : Nat → Int) : ∀ r, S1 (fun i => c * f i) r = c * S1 f r
  | 0 => by simp [S1]
  | r + 1 => by simp only [S1]; rw [S1_mul c f r, Int.mul_add]
theorem S1_congr {f g : Nat → Int} : ∀ r, (∀ i, i < r → f i = g i) → S1 f r = S1 g r
  | 0, _ => rfl
  | r + 1, h => by simp only [S1]; rw [S1_congr r (fun i hi => h i (by omega)), h r (by omega)]
theorem S1_shift (f : Nat → Int) : ∀ r, S1 (fun i => f (i + 1)) r = S1 f r + f r - f 0
  | 0 => by simp [S1]
  | r + 1 => by simp only [S1]; rw [S1_shift f r]; omega
theorem S1_cat (f : Nat → Int) (a : Nat) : ∀ r, S1 f (a + r) = S1 f a + S1 (fun j => f (a + j)) r
  | 0 => by simp [S1]
  | r + 1 => by rw [← Nat.add_assoc]; simp only [S1]; rw [S1_cat f a r]; omega
def S2 (w h : Nat) (n : Int → Int → Int) : Int := S1 (fun y => S1 (fun x => n x y) w) h
theorem S1_rows {w : Nat} (hw : 0 < w) (n : Int → Int → Int) : ∀ h, S1 (fun i => n ((i % w : Nat) : Int) ((i / w : Nat) : Int)) (w * h) = S2 w h n
  | 0 => rfl
  | h + 1 => by
    rw [Nat.mul_add, Nat.mul_one, S1_cat, S1_rows hw n h]
    unfold S2
    simp only [S1]
    congr 1
    refine S1_congr w fun j hj => ?_
    rw [Nat.add_comm (w * h) j, Nat.add_mul_mod_self_left, Nat.mod_eq_of_lt hj, Nat.add_mul_div_left _ _ hw, Nat.div_eq_of_lt hj, Nat.zero_add]
theorem S2_lap {w h : Nat} (n : Int → Int → Int) (hx : ∀ x y, n (x + w) y = n x y) (hy : ∀ x y, n x (y + h) = n x y) : S2 w h (lapN n) = 0 := by
  have r1 : ∀ y, S1 (fun x => n ((x : Int) + 1) y) w = S1 (fun x => n x y) w := fun y => by
    have := S1_shift (fun x => n x y) w
    have e := hx 0 y
    rw [Int.zero_add] at e
    rw [show (n ((0 : Nat) : Int) y) = n 0 y from rfl] at this
    have e2 : S1 (fun i => n ((i + 1 : Nat) : Int) y) w = S1 (fun x => n ((x : Int) + 1) y) w := S1_congr w fun i _ => by push_cast; rfl
    rw [← e2, this, e]
    omega
  have r2 : ∀ y, S1 (fun x => n ((x : Int) - 1) y) w = S1 (fun x => n x y) w := fun y => by
    have := S1_shift (fun x => n ((x : Int) - 1) y) w
    have e := hx (-1) y
    rw [show (-1 + (w : Int)) = (w : Int) - 1 by omega] at e
    have e2 : S1 (fun i => n (((i + 1 : Nat) : Int) - 1) y) w = S1 (fun x => n x y) w := S1_congr w fun i _ => by rw [show (((i + 1 : Nat) : Int) - 1) = (i : Int) by omega]
    have e3 : n (((0 : Nat) : Int) - 1) y = n (-1) y := rfl
    rw [e2, e, e3] at this
    omega
  have c1 : S1 (fun y => S1 (fun x => n x ((y : Int) + 1)) w) h = S2 w h n := by
    have := S1_shift (fun y => S1 (fun x => n x y) w) h
    have e : S1 (fun x => n x (h : Int)) w = S1 (fun x => n x 0) w := S1_congr w fun i _ => by have := hy i 0; rwa [Int.zero_add] at this
    have e2 : S1 (fun i => S1 (fun x => n x ((i + 1 : Nat) : Int)) w) h = S1 (fun y => S1 (fun x => n x ((y : Int) + 1)) w) h := S1_congr h fun i _ => by push_cast; rfl
    have e3 : S1 (fun x => n x ((0 : Nat) : Int)) w = S1 (fun x => n x 0) w := rfl
    rw [e2, e, e3] at this
    unfold S2
    omega
  have c2 : S1 (fun y => S1 (fun x => n x ((y : Int) - 1)) w) h = S2 w h n := by
    have := S1_shift (fun y => S1 (fun x => n x ((y : Int) - 1)) w) h
    have e : S1 (fun x => n x ((h : Int) - 1)) w = S1 (fun x => n x (-1)) w := S1_congr w fun i _ => by have := hy i (-1); rwa [show (-1 + (h : Int)) = (h : Int) - 1 by omega] at this
    have e2 : S1 (fun i => S1 (fun x => n x (((i + 1 : Nat) : Int) - 1)) w) h = S2 w h n := S1_congr h fun i _ => by rw [show (((i + 1 : Nat) : Int) - 1) = (i : Int) by omega]
    have e3 : S1 (fun x => n x (((0 : Nat) : Int) - 1)) w = S1 (fun x => n x (-1)) w := rfl
    rw [e2, e, e3] at this
    omega
  have row : ∀ y : Int, S1 (fun x => lapN n x y) w = S1 (fun x => n ((x : Int) - 1) y) w + S1 (fun x => n ((x : Int) + 1) y) w + (S1 (fun x => n x (y - 1)) w + S1 (fun x => n x (y + 1)) w) - 4 * S1 (fun x => n x y) w := by
    intro y
    have : (fun x : Nat => lapN n x y) = fun x : Nat => (n ((x : Int) - 1) y + n ((x : Int) + 1) y) + ((n x (y - 1) + n x (y + 1)) + (-4) * n x y) := by
      funext x
      unfold lapN
      omega
    rw [this, S1_add, S1_add, S1_add, S1_add, S1_mul]
    omega
  have : S2 w h (lapN n) = S1 (fun y => S1 (fun x => n x y) w + S1 (fun x => n x y) w + (S1 (fun x => n x ((y : Int) - 1)) w + S1 (fun x => n x ((y : Int) + 1)) w) + (-4) * S1 (fun x => n x y) w) h := by
    unfold S2
    refine S1_congr h fun y _ => ?_
    rw [row, r1, r2]
    omega
  rw [this, S1_add, S1_add, S1_add, S1_add, S1_mul, c1, c2]
  unfold S2
  omega
end PA
end Go.Proofs.Ytelkklnfbfmecaa
end
section
set_option linter.unusedVariables false
set_option linter.unusedSimpArgs false
namespace Go.Proofs.Ytelkklnfbfmecaa
open Go.RowKit Go.Proofs.YtelkklnfbfmecaaW.PrintWords Go.Proofs.YtelkklnfbfmecaaW.PrintLast Ieee
namespace PA
open FR PU XL
theorem rdOf_lt {l : List Nat} {i : Nat} (h : i < l.length) : rdOf (0 : Nat) l (i : Int) = l[i] := by
  unfold rdOf
  rw [Int.toNat_natCast, List.getD_eq_getElem?_getD, List.getElem?_eq_getElem h]
  rfl
theorem mk_i {w h i : Nat} {v : Int → Int → Nat} (hi : i < w * h) : rdOf (0 : Nat) (mk w h v) (i : Int) = v ((i % w : Nat) : Int) ((i / w : Nat) : Int) := by
  rw [rdOf_lt (by rw [mk_len]; exact hi)]
  simp [mk]
theorem sum_u {l : List Nat} {g : Nat → Int} {M : Int} (hM : 0 ≤ M) (hl : l.length ≤ 36) (hM2 : 36 * M < 16777216) (hg : ∀ i, i < l.length → U (rdOf (0 : Nat) l (i : Int)) (g i) ∧ -M ≤ g i ∧ g i ≤ M) :
    ∀ (r i s m : Nat), i + r = l.length → U s (S1 g i) → Ret (B0.impl_sum.l0 (r + 1 + m) s l (l.length : Int) (i : Int)) (fun t => U t (S1 g l.length)) := by
  intro r
  induction r with
  | zero =>
    intro i s m hi hs
    rw [show 0 + 1 + m = m + 1 by omega]
    unfold B0.impl_sum.l0
    rw [if_neg (by omega)]
    refine Ret.of ?_
    rwa [← hi, Nat.add_zero]
  | succ r ih =>
    intro i s m hi hs
    rw [show r + 1 + 1 + m = (r + 1 + m) + 1 by omega]
    unfold B0.impl_sum.l0
    obtain ⟨g1, g2, g3⟩ := hg i (by omega)
    have b := S1_bd (M := M) (i + 1) (f := g) (fun j hj => (hg j (by omega)).2)
    have b3 : ((i + 1 : Nat) : Int) * M ≤ 36 * M := Int.mul_le_mul_of_nonneg_right (by omega) hM
    have e : S1 g (i + 1) = S1 g i + g i := rfl
    obtain ⟨a1, a2⟩ := U_add hs g1 (by rw [← e]; omega)
    rw [if_pos (by omega), if_pos (by omega), if_pos (by omega), if_pos a1, w64 (by omega) (by omega)]
    exact ih (i + 1) _ m (by omega) a2
theorem sum_mk {w h : Nat} (hw : Side w) (hh : Side h) {v : Int → Int → Nat} {n : Int → Int → Int} {M : Int} (hv : UB v n M) (hM2 : 36 * M < 16777216) {k : Nat} (hk : 60 ≤ k) : Ret (B0.impl_sum.f k (mk w h v)) (fun t => U t (S2 w h n)) := by
  have hM : 0 ≤ M := by have := hv 0 0; omega
  have m1 : w * h ≤ 6 * 6 := Nat.mul_le_mul hw.2 hh.2
  have := sum_u (l := mk w h v) (g := fun i => n ((i % w : Nat) : Int) ((i / w : Nat) : Int)) hM (by rw [mk_len]; omega) hM2 (fun i hi => by rw [mk_len] at hi; rw [mk_i hi]; exact hv _ _) (w * h) 0 0 (k - (w * h + 1)) (by rw [mk_len]; omega) U_zero
  rw [show w * h + 1 + (k - (w * h + 1)) = k by omega] at this
  unfold B0.impl_sum.f
  refine this.mono fun t ht => ?_
  rwa [mk_len, S1_rows (by have := hw.1; omega)] at ht
theorem toldN_of {x : Nat} (h : Fin x) : B0.impl_toldNumber.f x = some (x, true) := by
  obtain ⟨v, hv⟩ := h
  unfold B0.impl_toldNumber.f XL.IsFinite.f
  rw [fin_of hv]
  rfl
theorem total_mk {w h : Nat} (hw : Side w) (hh : Side h) {v : Int → Int → Nat} {n : Int → Int → Int} {M : Int} (hv : UB v n M) (hM2 : 36 * M < 16777216) {k : Nat} (hk : 60 ≤ k) :
    Ret (B0.impl_TotalInBasin.f k w h (mk w h v)) (fun t => U t.1 (S2 w h n) ∧ t.2 = true) := by
  unfold B0.impl_TotalInBasin.f
  rw [valid_of hw hh hv.fin]
  simp only [Option.bind_some, if_true]
  refine (sum_mk hw hh hv hM2 hk).bind fun t ht => ?_
  rw [toldN_of ⟨_, ht⟩]
  exact Ret.of ⟨ht, rfl⟩
def D (x : Nat) (n : Int) : Prop := Fk .f64 x ((n : Rat) * (2 : Rat) ^ (-6 : Int))
theorem wide {x : Nat} {v : Rat} (h : Fk .f32 x v) : cok .f32 x .f64 = true ∧ Fk .f64 (cvt .f32 x .f64) v := by
  obtain ⟨r, h1, h2⟩ := wide_val h
  unfold cok cvt
  rw [h1]
  exact ⟨rfl, h2⟩
theorem D_rep {n : Int} (h : n.natAbs < 16777216) : Rep double ((n : Rat) * (2 : Rat) ^ (-6 : Int)) := rep_wide (U_rep h)
theorem D_add {x y : Nat} {n m : Int} (hx : D x n) (hy : D y m) (h : (n + m).natAbs < 16777216) : fok .add .f64 x y = true ∧ D (fop .add .f64 x y) (n + m) := by
  have e : (n : Rat) * (2 : Rat) ^ (-6 : Int) + (m : Rat) * (2 : Rat) ^ (-6 : Int) = ((n + m : Int) : Rat) * (2 : Rat) ^ (-6 : Int) := by rw [Rat.intCast_add, Rat.add_mul]
  obtain ⟨r, c, h1, h2, -, h4⟩ := add_val (.inr rfl) hx hy (J := 18) (by rw [e]; exact U_bd h) (by decide)
  rw [e] at h4
  have := h4 (D_rep h)
  subst this
  obtain ⟨g1, g2⟩ := fok_of (op := .add) (k := .f64) h1
  rw [g2]
  exact ⟨g1, h2⟩
theorem gap_of {x y : Nat} {a b : Rat} (hx : Fk .f64 x a) (hy : Fk .f64 y b) (hr : Rep double (a - b)) (hb : Bd 100 (a - b)) : Ret (B0.laws_r8Gap.f x y) (fun r => Fk .f64 r (if a - b < 0 then b - a else a - b)) := by
  have e : b - a = -(a - b) := by grind
  have hr2 : Rep double (b - a) := by
    obtain ⟨n, t, h1, h2, h3⟩ := hr
    exact ⟨-n, t, by rw [e, h1, Rat.intCast_neg, Rat.neg_mul], by rwa [Int.natAbs_neg], h3⟩
  have hb2 : Bd 100 (b - a) := by
    unfold Bd at hb ⊢
    rw [e]
    grind
  obtain ⟨r, c, h1, h2, -, h4⟩ := sub_val (f := double) (.inr rfl) hx hy hb (by decide)
  obtain ⟨r', c', h1', h2', -, h4'⟩ := sub_val (f := double) (.inr rfl) hy hx hb2 (by decide)
  have := h4 hr
  subst this
  have := h4' hr2
  subst this
  obtain ⟨g1, g2⟩ := fok_of (op := .sub) (k := .f64) h1
  obtain ⟨g1', g2'⟩ := fok_of (op := .sub) (k := .f64) h1'
  unfold B0.laws_r8Gap.f
  rw [if_pos g1, if_pos g1', g2, g2']
  have ho : FloatKind.f64.format.order r r' = some (FR.cmp (a - b) (b - a)) := order_val h2 h2'
  have hm : fmok .f64 r r' = true := by unfold fmok; rw [ho]; rfl
  rw [if_pos hm]
  refine Ret.of ?_
  unfold fmx
  rw [ho]
  unfold FR.cmp
  by_cases c1 : a - b < 0
  · rw [if_pos c1, if_pos (show a - b < b - a by grind)]
    exact h2'
  · rw [if_neg c1, if_neg (show ¬ a - b < b - a by grind)]
    by_cases c2 : a - b = b - a
    · rw [if_pos c2]
      show Fk .f64 (if _ then r' else r) _
      split
      · rw [c2]; exact h2'
      · exact h2
    · rw [if_neg c2]
      exact h2
theorem gap_D {x y : Nat} {n m : Int} (hx : D x n) (hy : D y m) (h : (n - m).natAbs < 16777216) : Ret (B0.laws_r8Gap.f x y) (fun r => D r (n - m).natAbs) := by
  have e : (n : Rat) * (2 : Rat) ^ (-6 : Int) - (m : Rat) * (2 : Rat) ^ (-6 : Int) = ((n - m : Int) : Rat) * (2 : Rat) ^ (-6 : Int) := by rw [Rat.intCast_sub]; grind
  have e' : (m : Rat) * (2 : Rat) ^ (-6 : Int) - (n : Rat) * (2 : Rat) ^ (-6 : Int) = ((m - n : Int) : Rat) * (2 : Rat) ^ (-6 : Int) := by rw [Rat.intCast_sub]; grind
  refine (gap_of hx hy (by rw [e]; exact D_rep h) (by rw [e]; exact (U_bd h).mono (by decide))).mono fun r hr => ?_
  rw [e, e'] at hr
  have hp := pw_pos (-6)
  unfold D
  by_cases c : n - m < 0
  · have c' : ((n - m : Int) : Rat) * (2 : Rat) ^ (-6 : Int) < 0 := by
      have := Rat.mul_lt_mul_of_pos_right (show ((n - m : Int) : Rat) < ((0 : Int) : Rat) from by exact_mod_cast c) hp
      rwa [Rat.intCast_zero, Rat.zero_mul] at this
    rw [if_pos c'] at hr
    rwa [show (((n - m).natAbs : Nat) : Int) = m - n by omega]
  · have c' : ¬ ((n - m : Int) : Rat) * (2 : Rat) ^ (-6 : Int) < 0 := by
      have := Rat.mul_le_mul_of_nonneg_right (show ((0 : Int) : Rat) ≤ ((n - m : Int) : Rat) from by exact_mod_cast (by omega : 0 ≤ n - m)) (Rat.le_of_lt hp)
      rw [Rat.intCast_zero, Rat.zero_mul] at this
      exact Rat.not_lt.2 this
    rw [if_neg c'] at hr
    rwa [show (((n - m).natAbs : Nat) : Int) = n - m by omega]
def kap : Rat := (4611686018427388 : Rat) * (2 : Rat) ^ (-62 : Int)
theorem f_kap : Fk .f64 4562254508917369340 kap := ⟨false, 4611686018427388, -62, by decide, by decide +kernel⟩
theorem kap_lo : (2 : Rat) ^ (-10 : Int) < kap := by unfold kap; decide +kernel
theorem small_lt {x : Nat} {v : Rat} (h : Fk .f64 x v) (hv : v < kap) : FloatKind.f64.format.order x 4562254508917369340 = some .lt := by
  rw [show FloatKind.f64.format.order x 4562254508917369340 = some (FR.cmp v kap) from order_val h f_kap]
  unfold FR.cmp
  rw [if_pos hv]
theorem D_zero_lt {x : Nat} (h : D x 0) : FloatKind.f64.format.order x 4562254508917369340 = some .lt := by
  refine small_lt h ?_
  rw [Rat.intCast_zero, Rat.zero_mul]
  exact Std.lt_trans (pw_pos (-10)) kap_lo
end PA
end Go.Proofs.Ytelkklnfbfmecaa
end
section
set_option linter.unusedVariables false
set_option linter.unusedSimpArgs false
namespace Go.Proofs.Ytelkklnfbfmecaa
open Go.RowKit Go.Proofs.YtelkklnfbfmecaaW.PrintWords Go.Proofs.YtelkklnfbfmecaaW.PrintLast Ieee
namespace PA
open FR PU XL
def ulp : Rat := (2 : Rat) ^ (-17 : Int)
theorem ulp_pos : 0 < ulp := pw_pos _
theorem hu8 : hu single 8 = ulp := by decide +kernel
theorem hu3 : hu single 3 = ulp * (1 / 32) := by decide +kernel
theorem hu2 : 2 * hu single 2 = ulp * (1 / 32) := by decide +kernel
theorem ulp_lo : ulp * 128 = (2 : Rat) ^ (-10 : Int) := by decide +kernel
theorem ulp_le : ulp ≤ 1 / 131072 := by decide +kernel
theorem bd_of {J : Int} {v c : Rat} (h : (2 : Rat) ^ J = c) (h1 : -c < v) (h2 : v < c) : Bd J v := by
  unfold Bd
  rw [h]
  exact ⟨h1, h2⟩
theorem sum_near {l : List Nat} {g : Nat → Rat} {G : Nat → Rat} (hG0 : G 0 = 0) (hG : ∀ i, G (i + 1) = G i + g i) (hb : ∀ i, i ≤ l.length → -200 ≤ G i ∧ G i ≤ 200) (hl : l.length ≤ 36)
    (hg : ∀ i, i < l.length → ∃ v, Fk .f32 (rdOf (0 : Nat) l (i : Int)) v ∧ v ≤ g i + ulp * (1 / 16) ∧ g i ≤ v + ulp * (1 / 16)) :
    ∀ (r i s m : Nat), i + r = l.length → (∃ c, Fk .f32 s c ∧ c ≤ G i + (i : Rat) * (ulp * (17 / 16)) ∧ G i ≤ c + (i : Rat) * (ulp * (17 / 16))) →
      Ret (B0.impl_sum.l0 (r + 1 + m) s l (l.length : Int) (i : Int)) (fun t => ∃ c, Fk .f32 t c ∧ c ≤ G l.length + (l.length : Rat) * (ulp * (17 / 16)) ∧ G l.length ≤ c + (l.length : Rat) * (ulp * (17 / 16))) := by
  intro r
  induction r with
  | zero =>
    intro i s m hi hs
    rw [show 0 + 1 + m = m + 1 by omega]
    unfold B0.impl_sum.l0
    rw [if_neg (by omega)]
    refine Ret.of ?_
    rwa [← hi, Nat.add_zero]
  | succ r ih =>
    intro i s m hi hs
    rw [show r + 1 + 1 + m = (r + 1 + m) + 1 by omega]
    unfold B0.impl_sum.l0
    obtain ⟨v, g1, g2, g3⟩ := hg i (by omega)
    obtain ⟨c, s1, s2, s3⟩ := hs
    have b := hb (i + 1) (by omega)
    have e : G (i + 1) = G i + g i := hG i
    have hu := ulp_pos
    have hu2 := ulp_le
    have hi36 : (i : Rat) ≤ 36 := by exact_mod_cast (by omega : i ≤ 36)
    have hi0 : (0 : Rat) ≤ i := by exact_mod_cast Nat.zero_le i
    have hiu : (i : Rat) * ulp ≤ 36 * ulp := Rat.mul_le_mul_of_nonneg_right hi36 (Rat.le_of_lt hu)
    obtain ⟨t, d, a1, a2, a3, -⟩ := add_val (f := single) (.inl rfl) s1 g1 (J := 8) (bd_of (c := 256) (by decide +kernel) (by grind) (by grind)) (by decide)
    rw [hu8] at a3
    obtain ⟨a4, a5⟩ := fok_of (op := .add) (k := .f32) a1
    rw [if_pos (by omega), if_pos (by omega), if_pos (by omega), if_pos a4, w64 (by omega) (by omega), a5]
    refine ih (i + 1) t m (by omega) ⟨d, a2, ?_, ?_⟩ <;> rw [e, show ((i + 1 : Nat) : Rat) = (i : Rat) + 1 by push_cast; rfl] <;> unfold Nr at a3 <;> grind
theorem S1_rat (f : Nat → Int) (q p : Rat) : ∀ r : Nat, ((S1 f (r + 1) : Int) : Rat) * p - ((r + 1 : Nat) : Rat) * q = (((S1 f r : Int) : Rat) * p - (r : Rat) * q) + (((f r : Int) : Rat) * p - q) := by
  intro r
  simp only [S1]
  rw [Rat.intCast_add, show ((r + 1 : Nat) : Rat) = (r : Rat) + 1 by push_cast; rfl]
  grind
def evnV (a : Int → Int → Nat) (e : Nat) : Int → Int → Nat := fun x y => fop .sub .f32 (a x y) e
theorem even_of {w h : Nat} (hw : Side w) (hh : Side h) {a : Int → Int → Nat} {n : Int → Int → Int} (hp : Per w h a) (ha : UB a n 128) {k : Nat} (hk : 60 ≤ k) :
    ∃ e, BE.impl_EvenOut.f k w h (mk w h a) = some ((w : Int), (h : Int), mk w h (evnV a e), true) ∧ (∀ x y, Fin (evnV a e x y)) ∧
      Ret (B0.impl_TotalInBasin.f k w h (mk w h (evnV a e))) (fun t => t.2 = true ∧ ∃ c, Fk .f32 t.1 c ∧ -(2 : Rat) ^ (-10 : Int) < c ∧ c < (2 : Rat) ^ (-10 : Int)) := by
  have m0 : 3 * 3 ≤ w * h := Nat.mul_le_mul hw.1 hh.1
  have m1 : w * h ≤ 6 * 6 := Nat.mul_le_mul hw.2 hh.2
  obtain ⟨s, hs, us⟩ := sum_mk hw hh ha (by decide) hk
  obtain ⟨g, hg⟩ : ∃ g : Nat → Int, g = fun i => n ((i % w : Nat) : Int) ((i / w : Nat) : Int) := ⟨_, rfl⟩
  have gb : ∀ i, -128 ≤ g i ∧ g i ≤ 128 := fun i => by rw [hg]; exact (ha _ _).2
  have hS : S2 w h n = S1 g (w * h) := by rw [hg, S1_rows (by have := hw.1; omega)]
  rw [hS] at us
  obtain ⟨N, hN⟩ : ∃ N : Nat, N = w * h := ⟨_, rfl⟩
  have Sb := S1_bd (M := 128) N (f := g) (fun i _ => gb i)
  have hN0 : (9 : Rat) ≤ N := by exact_mod_cast (by omega : 9 ≤ N)
  have hN1 : (N : Rat) ≤ 36 := by exact_mod_cast (by omega : N ≤ 36)
  have hNn : (N : Rat) ≠ 0 := fun hc => by rw [hc] at hN0; exact absurd hN0 (by decide +kernel)
  have hpp : (2 : Rat) ^ (-6 : Int) = 1 / 64 := by decide +kernel
  have p0 : (0 : Rat) < 1 / 64 := by decide +kernel
  obtain ⟨q, hq⟩ : ∃ q : Rat, q = ((S1 g N : Int) : Rat) * (1 / 64) / (N : Rat) := ⟨_, rfl⟩
  have qN : q * (N : Rat) = ((S1 g N : Int) : Rat) * (1 / 64) := by rw [hq]; exact Rat.div_mul_cancel hNn
  have sI : -((N : Rat) * 128) ≤ ((S1 g N : Int) : Rat) ∧ ((S1 g N : Int) : Rat) ≤ (N : Rat) * 128 := by
    obtain ⟨x1, x2⟩ := Sb
    constructor
    · have : ((-( (N : Int) * 128) : Int) : Rat) ≤ ((S1 g N : Int) : Rat) := by exact_mod_cast x1
      rw [Rat.intCast_neg, Rat.intCast_mul] at this
      exact this
    · have : ((S1 g N : Int) : Rat) ≤ (((N : Int) * 128 : Int) : Rat) := by exact_mod_cast x2
      rw [Rat.intCast_mul] at this
      exact this
  have q1 : q ≤ 2 := by
    have : q * (N : Rat) ≤ 2 * (N : Rat) := by
      rw [qN]
      have := Rat.mul_le_mul_of_nonneg_right sI.2 (Rat.le_of_lt p0)
      grind
    exact Rat.le_of_mul_le_mul_right this (by grind)
  have q2 : -2 ≤ q := by
    have : -2 * (N : Rat) ≤ q * (N : Rat) := by
      rw [qN]
      have := Rat.mul_le_mul_of_nonneg_right sI.1 (Rat.le_of_lt p0)
      grind
    exact Rat.le_of_mul_le_mul_right this (by grind)
  have fN : Fk .f32 (floatOfInt .f32 ((mk w h a).length : Int)) (N : Rat) := by
    rw [mk_len, ← hN]
    have := int_k (k := .f32) (N : Int) (by rw [show FloatKind.f32.format.binade = 8388608 by decide]; omega)
    rwa [Rat.intCast_natCast] at this
  rw [← hN] at us
  unfold U at us
  rw [hpp] at us
  obtain ⟨e, m, e1, e2, e3, -⟩ := quo_val (f := single) (.inl rfl) us fN hNn qN (J := 2) (bd_of (c := 4) (by decide +kernel) (by grind) (by grind)) (by decide)
  rw [hu2] at e3
  unfold Nr at e3
  obtain ⟨e4, e5⟩ := fok_of (op := .quo) (k := .f32) e1
  have hu := ulp_pos
  have hule := ulp_le
  have cell : ∀ x y, fok .sub .f32 (a x y) e = true ∧ ∃ v, Fk .f32 (evnV a e x y) v ∧ v ≤ ((n x y : Int) : Rat) * (1 / 64) - q + ulp * (1 / 16) ∧ ((n x y : Int) : Rat) * (1 / 64) - q ≤ v + ulp * (1 / 16) := by
    intro x y
    obtain ⟨a1, a2, a3⟩ := ha x y
    have a2' : ((-128 : Int) : Rat) ≤ ((n x y : Int) : Rat) := by exact_mod_cast a2
    have a3' : ((n x y : Int) : Rat) ≤ ((128 : Int) : Rat) := by exact_mod_cast a3
    have b2 := Rat.mul_le_mul_of_nonneg_right a2' (Rat.le_of_lt p0)
    have b3 := Rat.mul_le_mul_of_nonneg_right a3' (Rat.le_of_lt p0)
    have c2 : ((-128 : Int) : Rat) = -128 := rfl
    have c3 : ((128 : Int) : Rat) = 128 := rfl
    rw [c2] at b2
    rw [c3] at b3
    unfold U at a1
    rw [hpp] at a1
    obtain ⟨r, v, d1, d2, d3, -⟩ := sub_val (f := single) (.inl rfl) a1 e2 (J := 3) (bd_of (c := 8) (by decide +kernel) (by grind) (by grind)) (by decide)
    rw [hu3] at d3
    unfold Nr at d3
    obtain ⟨d4, d5⟩ := fok_of (op := .sub) (k := .f32) d1
    refine ⟨d4, v, ?_, ?_, ?_⟩
    · unfold evnV; rw [d5]; exact d2
    · grind
    · grind
  have fe : ∀ x y, Fin (evnV a e x y) := fun x y => by obtain ⟨-, v, hv, -⟩ := cell x y; exact ⟨v, hv⟩
  refine ⟨e, ?_, fe, ?_⟩
  · unfold BE.impl_EvenOut.f
    rw [valid_of hw hh ha.fin]
    simp only [Option.bind_some, if_true]
    rw [hs]
    simp only [Option.bind_some]
    rw [if_pos e4, e5]
    rw [built_BE hw hh (evnV a e) (mk w h a) (mk w h a) e ?_ fe (valid_of hw hh ha.fin) hk]
    · simp only [Option.bind_some]
    · intro x y hx hy
      have := hw.2
      have := hh.2
      unfold BE.impl_EvenOut_1.f
      rw [at_of hw hh hp (by omega) (by omega) (by omega) (by omega)]
      simp only [Option.bind_some]
      rw [if_pos (cell _ _).1]
      rfl
  · unfold B0.impl_TotalInBasin.f
    rw [valid_of hw hh fe]
    simp only [Option.bind_some, if_true]
    have Gb : ∀ i, i ≤ N → -200 ≤ ((S1 g i : Int) : Rat) * (1 / 64) - (i : Rat) * q ∧ ((S1 g i : Int) : Rat) * (1 / 64) - (i : Rat) * q ≤ 200 := by
      intro i hi
      obtain ⟨x1, x2⟩ := S1_bd (M := 128) i (f := g) (fun i _ => gb i)
      have y1 : ((-( (i : Int) * 128) : Int) : Rat) ≤ ((S1 g i : Int) : Rat) := by exact_mod_cast x1
      have y2 : ((S1 g i : Int) : Rat) ≤ (((i : Int) * 128 : Int) : Rat) := by exact_mod_cast x2
      rw [Rat.intCast_neg, Rat.intCast_mul] at y1
      rw [Rat.intCast_mul] at y2
      have z1 := Rat.mul_le_mul_of_nonneg_right y1 (Rat.le_of_lt p0)
      have z2 := Rat.mul_le_mul_of_nonneg_right y2 (Rat.le_of_lt p0)
      have i0 : (0 : Rat) ≤ (i : Rat) := by exact_mod_cast Nat.zero_le i
      have i1 : (i : Rat) ≤ 36 := by exact_mod_cast (by omega : i ≤ 36)
      have k1 := Rat.mul_le_mul_of_nonneg_left q1 i0
      have k2 := Rat.mul_le_mul_of_nonneg_left q2 i0
      have c3 : ((128 : Int) : Rat) = 128 := rfl
      have c4 : (((i : Int)) : Rat) = (i : Rat) := Rat.intCast_natCast i
      rw [c3, c4] at z1 z2
      constructor <;> grind
    have := sum_near (l := mk w h (evnV a e)) (g := fun i => ((g i : Int) : Rat) * (1 / 64) - q) (G := fun i => ((S1 g i : Int) : Rat) * (1 / 64) - (i : Rat) * q) (by simp only [S1, Rat.intCast_zero, show (((0 : Nat)) : Rat) = 0 from rfl]; grind) (S1_rat g q (1 / 64))
      (fun i hi => Gb i (by rw [mk_len, ← hN] at hi; exact hi)) (by rw [mk_len]; omega) (fun i hi => by
        rw [mk_len] at hi
        rw [mk_i hi, hg]
        exact (cell _ _).2) (w * h) 0 0 (k - (w * h + 1)) (by rw [mk_len]; omega) ⟨0, ⟨false, 0, -149, by decide, sv_zero _ _⟩, by simp only [S1, Rat.intCast_zero, show (((0 : Nat)) : Rat) = 0 from rfl]; grind, by simp only [S1, Rat.intCast_zero, show (((0 : Nat)) : Rat) = 0 from rfl]; grind⟩
    rw [show w * h + 1 + (k - (w * h + 1)) = k by omega] at this
    refine Ret.bind (P := fun t => ∃ c, Fk .f32 t c ∧ -(2 : Rat) ^ (-10 : Int) < c ∧ c < (2 : Rat) ^ (-10 : Int)) ?_ fun t ht => ?_
    · refine this.mono fun t ht => ?_
      obtain ⟨c, c1, c2, c3⟩ := ht
      rw [mk_len, ← hN] at c2 c3
      have z : ((S1 g N : Int) : Rat) * (1 / 64) - (N : Rat) * q = 0 := by rw [← qN]; grind
      have zz : (fun i : Nat => ((S1 g i : Int) : Rat) * (1 / 64) - (i : Rat) * q) N = 0 := z
      rw [z] at c2 c3
      have := ulp_lo
      have nu := Rat.mul_le_mul_of_nonneg_right hN1 (Rat.le_of_lt hu)
      refine ⟨c, c1, ?_, ?_⟩ <;> rw [← this] <;> grind
    · obtain ⟨c, c1, c2⟩ := ht
      rw [toldN_of ⟨c, c1⟩]
      exact Ret.of ⟨rfl, c, c1, c2⟩
end PA
end Go.Proofs.Ytelkklnfbfmecaa
end
section
set_option linter.unusedVariables false
set_option linter.unusedSimpArgs false
namespace Go.Proofs.Ytelkklnfbfmecaa
open Go.RowKit Go.Proofs.YtelkklnfbfmecaaW.PrintWords Go.Proofs.YtelkklnfbfmecaaW.PrintLast Ieee
namespace PA
open FR PU XL
theorem range_loop {l : List Nat} {g : Nat → Int} (hl : l.length ≤ 36) (hg : ∀ i, i < l.length → U (rdOf (0 : Nat) l (i : Int)) (g i)) :
    ∀ (r i a b m : Nat) (p q : Int), i + r = l.length → U a p → U b q → p ≤ q → Ret (B0.impl_RangeInBasin.l0 (r + 1 + m) a b l (l.length : Int) (i : Int)) (fun t => t.2.2 = true ∧ ∃ p q, U t.1 p ∧ U t.2.1 q ∧ p ≤ q) := by
  intro r
  induction r with
  | zero =>
    intro i a b m p q hi ha hb hpq
    rw [show 0 + 1 + m = m + 1 by omega]
    unfold B0.impl_RangeInBasin.l0
    rw [if_neg (by omega)]
    exact Ret.of ⟨rfl, p, q, ha, hb, hpq⟩
  | succ r ih =>
    intro i a b m p q hi ha hb hpq
    rw [show r + 1 + 1 + m = (r + 1 + m) + 1 by omega]
    unfold B0.impl_RangeInBasin.l0
    have g1 := hg i (by omega)
    rw [if_pos (by omega), if_pos (by omega), if_pos (by omega), U_order g1 ha, U_order g1 hb, w64 (by omega) (by omega)]
    by_cases c1 : g i < p
    · rw [if_pos c1]
      have c2 : g i < q := by omega
      rw [if_pos c2, if_pos (show ((some Ordering.lt : Option Ordering) == some .lt) = true from rfl), if_neg (show ¬ ((some Ordering.lt : Option Ordering) == some .gt) = true by decide)]
      exact ih (i + 1) _ _ m _ _ (by omega) g1 hb (by omega)
    · rw [if_neg c1]
      have e1 : ((some (if g i = p then Ordering.eq else Ordering.gt) : Option Ordering) == some .lt) = false := by split <;> rfl
      rw [e1, if_neg (by decide)]
      by_cases c2 : g i < q
      · rw [if_pos c2, if_neg (show ¬ ((some Ordering.lt : Option Ordering) == some .gt) = true by decide)]
        exact ih (i + 1) _ _ m _ _ (by omega) ha hb hpq
      · rw [if_neg c2]
        by_cases c3 : g i = q
        · rw [if_pos c3, if_neg (show ¬ ((some Ordering.eq : Option Ordering) == some .gt) = true by decide)]
          exact ih (i + 1) _ _ m _ _ (by omega) ha hb hpq
        · rw [if_neg c3, if_pos (show ((some Ordering.gt : Option Ordering) == some .gt) = true by decide)]
          exact ih (i + 1) _ _ m _ _ (by omega) ha g1 (by omega)
theorem range_of {w h : Nat} (hw : Side w) (hh : Side h) {v : Int → Int → Nat} {n : Int → Int → Int} {M : Int} (hv : UB v n M) {k : Nat} (hk : 60 ≤ k) :
    Ret (B0.impl_RangeInBasin.f k w h (mk w h v)) (fun t => t.2.2 = true ∧ ∃ p q, U t.1 p ∧ U t.2.1 q ∧ p ≤ q) := by
  have m0 : 3 * 3 ≤ w * h := Nat.mul_le_mul hw.1 hh.1
  have m1 : w * h ≤ 6 * 6 := Nat.mul_le_mul hw.2 hh.2
  have hg : ∀ i, i < (mk w h v).length → U (rdOf (0 : Nat) (mk w h v) (i : Int)) ((fun i : Nat => n ((i % w : Nat) : Int) ((i / w : Nat) : Int)) i) := fun i hi => by rw [mk_len] at hi; rw [mk_i hi]; exact (hv _ _).1
  have u0 := hg 0 (by rw [mk_len]; omega)
  unfold B0.impl_RangeInBasin.f
  rw [valid_of hw hh hv.fin]
  simp only [Option.bind_some, if_true]
  rw [if_pos (by rw [mk_len]; omega)]
  have := range_loop (by rw [mk_len]; omega) hg (w * h) 0 _ _ (k - (w * h + 1)) _ _ (by rw [mk_len]; omega) u0 u0 (Int.le_refl _)
  rwa [show w * h + 1 + (k - (w * h + 1)) = k by omega] at this
theorem dot_u {l : List Nat} {g : Nat → Int} (hl : l.length ≤ 36) (hg : ∀ i, i < l.length → U (rdOf (0 : Nat) l (i : Int)) (16 * g i) ∧ -8 ≤ g i ∧ g i ≤ 8) :
    ∀ (r i s m : Nat) (S : Int), i + r = l.length → U s S → 0 ≤ S → S ≤ i * 256 → Ret (B0.impl_dot.l0 (r + 1 + m) l s l (l.length : Int) (i : Int)) (fun t => ∃ S, U t S ∧ 0 ≤ S ∧ S ≤ l.length * 256) := by
  intro r
  induction r with
  | zero =>
    intro i s m S hi hs h0 h1
    rw [show 0 + 1 + m = m + 1 by omega]
    unfold B0.impl_dot.l0
    rw [if_neg (by omega)]
    exact Ret.of ⟨S, hs, h0, by rw [← hi]; simpa using h1⟩
  | succ r ih =>
    intro i s m S hi hs h0 h1
    rw [show r + 1 + 1 + m = (r + 1 + m) + 1 by omega]
    unfold B0.impl_dot.l0
    obtain ⟨g1, g2, g3⟩ := hg i (by omega)
    have q0 : 0 ≤ g i * g i := by
      rcases Int.le_total 0 (g i) with c | c
      · exact Int.mul_nonneg c c
      · exact Int.mul_nonneg_of_nonpos_of_nonpos c c
    have q1 : g i * g i ≤ 64 := by
      have t : (8 - g i) * (8 + g i) ≥ 0 := Int.mul_nonneg (by omega) (by omega)
      have e : (8 - g i) * (8 + g i) = 64 - g i * g i := by grind
      omega
    obtain ⟨a1, a2⟩ := U_sq g1 g1 (by omega)
    obtain ⟨b1, b2⟩ := U_add hs a2 (by omega)
    rw [if_pos (by omega), if_pos (by omega), if_pos (by omega), if_pos (by omega), if_pos a1, if_pos b1, w64 (by omega) (by omega)]
    exact ih (i + 1) _ m _ (by omega) b2 (by omega) (by push_cast; omega)
theorem squares_of {w h : Nat} (hw : Side w) (hh : Side h) {v : Int → Int → Nat} {n : Int → Int → Int} (hv : ∀ x y, U (v x y) (16 * n x y) ∧ -8 ≤ n x y ∧ n x y ≤ 8) {k : Nat} (hk : 60 ≤ k) :
    Ret (B0.impl_SquaresInBasin.f k w h (mk w h v)) (fun t => t.2 = true ∧ ∃ S, U t.1 S ∧ 0 ≤ S) := by
  have m1 : w * h ≤ 6 * 6 := Nat.mul_le_mul hw.2 hh.2
  unfold B0.impl_SquaresInBasin.f B0.impl_dot.f
  rw [valid_of hw hh (fun x y => ⟨_, (hv x y).1⟩)]
  simp only [Option.bind_some, if_true]
  have := dot_u (l := mk w h v) (g := fun i : Nat => n ((i % w : Nat) : Int) ((i / w : Nat) : Int)) (by rw [mk_len]; omega) (fun i hi => by rw [mk_len] at hi; rw [mk_i hi]; exact hv _ _) (w * h) 0 0 (k - (w * h + 1)) 0 (by rw [mk_len]; omega) U_zero (by omega) (by omega)
  rw [show w * h + 1 + (k - (w * h + 1)) = k by omega] at this
  refine this.bind fun t ht => ?_
  obtain ⟨S, h1, h2, h3⟩ := ht
  rw [toldN_of ⟨_, h1⟩]
  exact Ret.of ⟨rfl, S, h1, h2⟩
theorem nan_of {x : Nat} {v : Rat} (h : Fk .f32 x v) : XF.isn .f32 x = false := by
  obtain ⟨s, m, e, h1, -⟩ := h
  unfold XF.isn
  rw [h1]
  rfl
theorem same_of {l : List Nat} (hl : l.length ≤ 36) (hf : ∀ i, i < l.length → Fin (rdOf (0 : Nat) l (i : Int))) :
    ∀ (r i m : Nat), i + r = l.length → B0.slices_EqualFunc_float32_float32_float32_float32.l0 (r + 1 + m) l l (l.length : Int) (i : Int) = some true := by
  intro r
  induction r with
  | zero =>
    intro i m hi
    rw [show 0 + 1 + m = m + 1 by omega]
    unfold B0.slices_EqualFunc_float32_float32_float32_float32.l0
    rw [if_neg (by omega)]
  | succ r ih =>
    intro i m hi
    rw [show r + 1 + 1 + m = (r + 1 + m) + 1 by omega]
    unfold B0.slices_EqualFunc_float32_float32_float32_float32.l0
    obtain ⟨v, hv⟩ := hf i (by omega)
    have e : XM.SameNumber.f (rdOf (0 : Nat) l (i : Int)) (rdOf (0 : Nat) l (i : Int)) = some true := by
      unfold XM.SameNumber.f XM.smn
      rw [nan_of hv]
      simp
    rw [if_pos (by omega), if_pos (by omega), if_pos (by omega), if_pos (by omega), e]
    simp only [Option.bind_some, if_true]
    rw [w64 (by omega) (by omega)]
    exact ih (i + 1) m (by omega)
theorem sameB_of {w h : Nat} (hw : Side w) (hh : Side h) {v : Int → Int → Nat} (hf : ∀ x y, Fin (v x y)) {k : Nat} (hk : 60 ≤ k) : B0.impl_SameBasin.f k w h (mk w h v) w h (mk w h v) = some true := by
  have m1 : w * h ≤ 6 * 6 := Nat.mul_le_mul hw.2 hh.2
  have := same_of (l := mk w h v) (by rw [mk_len]; omega) (fun i hi => by rw [mk_len] at hi; rw [mk_i hi]; exact hf _ _) (w * h) 0 (k - (w * h + 1)) (by rw [mk_len]; omega)
  rw [show w * h + 1 + (k - (w * h + 1)) = k by omega] at this
  unfold B0.impl_SameBasin.f B0.impl_sameList.f B0.slices_EqualFunc_float32_float32_float32_float32.f
  rw [if_pos rfl, if_pos rfl, if_pos rfl]
  have e0 : ((0 : Nat) : Int) = 0 := rfl
  rw [e0] at this
  rw [this]
  rfl
theorem put_of {w h : Nat} (hw : Side w) (hh : Side h) {v : Int → Int → Nat} (hf : ∀ x y, Fin (v x y)) {x y : Int} (hx : 0 ≤ x) (hx2 : x < w) (hy : 0 ≤ y) (hy2 : y < h) {s : Nat} (hs : Fin s) :
    ∃ l, B0.impl_PutSpin.f w h (mk w h v) x y s = some ((w : Int), (h : Int), l, true) ∧ B0.impl_SpinAt.f w h l x y = some (s, true) := by
  obtain ⟨p, rfl⟩ := Int.eq_ofNat_of_zero_le hx
  obtain ⟨q, rfl⟩ := Int.eq_ofNat_of_zero_le hy
  have w1 := hw.1
  have w2 := hw.2
  have h1 := hh.1
  have h2 := hh.2
  have m1 : w * h ≤ 6 * 6 := Nat.mul_le_mul w2 h2
  have lt : p + w * q < w * h := by
    have := Nat.mul_le_mul_left w (show q + 1 ≤ h by omega)
    rw [Nat.mul_add, Nat.mul_one] at this
    omega
  have pl (l : List Nat) : B0.impl_Basin_place.f w h l p q = some ((p + w * q : Nat) : Int) := by
    unfold B0.impl_Basin_place.f
    rw [if_neg (by omega), if_neg (by omega), tmod_emod (by omega) (by omega) (by omega) (by omega), tmod_emod (by omega) (by omega) (by omega) (by omega), Int.emod_eq_of_lt (by omega) (by omega), Int.emod_eq_of_lt (by omega) (by omega)]
    have : w * q ≤ 6 * 6 := Nat.mul_le_mul w2 (by omega)
    rw [← Int.natCast_mul, w64 (n := ((w * q : Nat) : Int)) (by omega) (by omega), w64 (by omega) (by omega)]
    push_cast
    rfl
  have has (l : List Nat) (hl : B0.impl_ValidBasin.f w h l = some true) : B0.impl_Basin_has.f w h l p q = some true := by
    unfold B0.impl_Basin_has.f
    rw [hl]
    simp only [Option.bind_some, if_true]
    rw [w64 (n := (w : Int) - 1) (by omega) (by omega), w64 (n := (h : Int) - 1) (by omega) (by omega), in_of (by omega) (by omega), in_of (by omega) (by omega)]
    rfl
  have V : B0.impl_ValidBasin.f w h ((mk w h v).set (p + w * q) s) = some true := by
    refine valid_l (by omega) (by omega) (by omega) (by omega) (by rw [List.length_set, mk_len]; exact size_of hw hh) (finite_of fun z hz => ?_)
    rcases List.mem_or_eq_of_mem_set hz with c | rfl
    · unfold mk at c
      obtain ⟨i, -, rfl⟩ := List.mem_map.1 c
      exact hf _ _
    · exact hs
  refine ⟨(mk w h v).set (p + w * q) s, ?_, ?_⟩
  · unfold B0.impl_PutSpin.f XK.cloneF.f
    rw [has _ (valid_of hw hh hf)]
    simp only [Option.bind_some, if_true]
    rw [if_pos (by rw [mk_len]; omega)]
    simp only [Option.bind_some]
    rw [pl]
    simp only [Option.bind_some]
    rw [if_pos (by omega), if_pos (by rw [mk_len]; omega), Int.toNat_natCast]
    unfold B0.impl_toldBasin.f
    rw [V]
    rfl
  · unfold B0.impl_SpinAt.f B0.impl_Basin_at.f
    rw [has _ V, pl]
    simp only [Option.bind_some, if_true]
    rw [if_pos (by omega), if_pos (by rw [List.length_set, mk_len]; omega), rdOf_lt (by rw [List.length_set, mk_len]; omega), List.getElem_set_self]
    rfl
theorem mk_of {w h : Nat} (hw : Side w) (hh : Side h) {l : List Nat} (hl : l.length = w * h) : ∃ v, Per w h v ∧ l = mk w h v ∧ ∀ x y, v x y ∈ l := by
  have w1 := hw.1
  have h1 := hh.1
  have lt : ∀ x y : Int, ((x % (w : Int)).toNat + w * (y % (h : Int)).toNat) < l.length := by
    intro x y
    have a2 := Int.emod_lt_of_pos x (show (0 : Int) < w by omega)
    have b2 := Int.emod_lt_of_pos y (show (0 : Int) < h by omega)
    have a1 := Int.emod_nonneg x (show (w : Int) ≠ 0 by omega)
    have b1 := Int.emod_nonneg y (show (h : Int) ≠ 0 by omega)
    have := Nat.mul_le_mul_left w (show (y % (h : Int)).toNat + 1 ≤ h by omega)
    rw [Nat.mul_add, Nat.mul_one] at this
    omega
  refine ⟨fun x y => l[(x % (w : Int)).toNat + w * (y % (h : Int)).toNat]'(lt x y), ?_, ?_, fun x y => List.getElem_mem _⟩
  · intro x y
    simp only [Int.emod_emod]
  · refine List.ext_getElem (by rw [mk_len, hl]) fun i hi hi2 => ?_
    simp only [mk, List.getElem_map, List.getElem_range]
    congr 1
    have d : i / w < h := Nat.div_lt_of_lt_mul (by rw [← hl]; exact hi)
    have m : i % w < w := Nat.mod_lt _ (by omega)
    rw [Int.emod_eq_of_lt (Int.natCast_nonneg _) (Int.ofNat_lt.2 m), Int.emod_eq_of_lt (Int.natCast_nonneg _) (Int.ofNat_lt.2 d), Int.toNat_natCast, Int.toNat_natCast]
    exact (Nat.mod_add_div i w).symm
def Qs (j : Nat) (l : List Nat) : Prop := ∀ x ∈ l, ∃ m : Int, U x (m * 2 ^ (6 - j)) ∧ -8 ≤ m ∧ m ≤ 8
theorem draw_ok {b : List Int} (hb : okS b) {w h : Nat} (hw : Side w) (hh : Side h) :
    ∀ (r i m : Nat) (p s : Int) (l : List Nat), i + r = w * h → l.length = i → 0 ≤ p → p ≤ 1000 + 2 * i → Qs 2 l →
      Ret (B0.spec_l04DrawOk.l0 (r + 1 + m) i b p s w h l) (fun t => t.1 = w ∧ t.2.1 = h ∧ t.2.2.1.length = w * h ∧ Qs 2 t.2.2.1) := by
  have m1 : w * h ≤ 6 * 6 := Nat.mul_le_mul hw.2 hh.2
  have e : wrap64 ((w : Int) * (h : Int)) = ((w * h : Nat) : Int) := (size_of hw hh).symm
  intro r
  induction r with
  | zero =>
    intro i m p s l hi hl hp hp2 hq
    rw [show 0 + 1 + m = m + 1 by omega]
    unfold B0.spec_l04DrawOk.l0
    rw [e, if_neg (by omega)]
    exact Ret.of ⟨rfl, rfl, by show l.length = w * h; omega, hq⟩
  | succ r ih =>
    intro i m p s l hi hl hp hp2 hq
    rw [show r + 1 + 1 + m = (r + 1 + m) + 1 by omega]
    unfold B0.spec_l04DrawOk.l0
    obtain ⟨v, p', s', e1, v0, v1, p0, p1⟩ := pick_ok hb p s 17 hp (by omega) (by omega)
    rw [e, if_pos (by omega), e1]
    simp only [Option.bind_some]
    rw [w64 (n := v - 8) (by omega) (by omega)]
    obtain ⟨q1, q2⟩ := U_quo (j := 2) (n := v - 8) (by decide) f_four' (by omega)
    rw [if_pos q1, if_pos (by omega), w64 (by omega) (by omega)]
    refine ih (i + 1) m p' s' _ (by omega) (by rw [List.length_append, hl]; rfl) p0 (by push_cast; omega) fun x hx => ?_
    rcases List.mem_append.1 hx with c | c
    · exact hq x c
    · rw [List.mem_singleton.1 c]
      exact ⟨_, q2, by omega, by omega⟩
theorem basin_ok {b : List Int} (hb : okS b) {k : Nat} (hk : 60 ≤ k) : ∃ (w h : Nat) (l : List Nat), B0.spec_R8Basin.f k b = some ((w : Int), (h : Int), l) ∧ Side w ∧ Side h ∧ l.length = w * h ∧ Qs 2 l := by
  unfold B0.spec_R8Basin.f B0.spec_l00From.f B0.spec_l04DrawOk.f
  simp only [Option.bind_some]
  obtain ⟨v, p, s, e1, v0, v1, p0, p1⟩ := pick_ok hb 0 0 4 (by omega) (by omega) (by omega)
  rw [e1]
  simp only [Option.bind_some]
  obtain ⟨u, p', s', e2, u0, u1, p0', p1'⟩ := pick_ok hb p s 4 (by omega) (by omega) (by omega)
  rw [e2]
  unfold B0.spec_l04New.f
  simp only [Option.bind_some]
  rw [w64 (n := 3 + v) (by omega) (by omega), w64 (n := 3 + u) (by omega) (by omega)]
  obtain ⟨w, hw⟩ := Int.eq_ofNat_of_zero_le (show 0 ≤ 3 + v by omega)
  obtain ⟨h, hh⟩ := Int.eq_ofNat_of_zero_le (show 0 ≤ 3 + u by omega)
  rw [hw, hh]
  have sw : Side w := ⟨by omega, by omega⟩
  have sh : Side h := ⟨by omega, by omega⟩
  have m1 : w * h ≤ 6 * 6 := Nat.mul_le_mul sw.2 sh.2
  obtain ⟨t, ht, t1, t2, t3, t4⟩ := draw_ok hb sw sh (w * h) 0 (k - (w * h + 1)) p' s' [] (by omega) rfl (by omega) (by omega) (fun x hx => by cases hx)
  rw [show w * h + 1 + (k - (w * h + 1)) = k by omega] at ht
  have e0 : ((0 : Nat) : Int) = 0 := rfl
  rw [e0] at ht
  rw [ht]
  exact ⟨w, h, t.2.2.1, by simp only [Option.bind_some]; rw [t1, t2], sw, sh, t3, t4⟩
theorem like_loop {b : List Int} (hb : okS b) {w h : Nat} (hw : Side w) (hh : Side h) {a : List Nat} (ha : a.length = w * h) :
    ∀ (r i m : Nat) (p s : Int) (l : List Nat), i + r = w * h → l.length = i → 0 ≤ p → p ≤ 1000 + 2 * i → Qs 3 l →
      Ret (BK.spec_l04DrawLike.l0 (r + 1 + m) i b p s w h a w h l) (fun t => t.1 = w ∧ t.2.1 = h ∧ t.2.2.1.length = w * h ∧ Qs 3 t.2.2.1) := by
  have m1 : w * h ≤ 6 * 6 := Nat.mul_le_mul hw.2 hh.2
  intro r
  induction r with
  | zero =>
    intro i m p s l hi hl hp hp2 hq
    rw [show 0 + 1 + m = m + 1 by omega]
    unfold BK.spec_l04DrawLike.l0
    rw [ha, if_neg (by omega)]
    exact Ret.of ⟨rfl, rfl, by show l.length = w * h; omega, hq⟩
  | succ r ih =>
    intro i m p s l hi hl hp hp2 hq
    rw [show r + 1 + 1 + m = (r + 1 + m) + 1 by omega]
    unfold BK.spec_l04DrawLike.l0
    obtain ⟨v, p', s', e1, v0, v1, p0, p1⟩ := pick_ok hb p s 17 hp (by omega) (by omega)
    rw [ha, if_pos (by omega), e1]
    simp only [Option.bind_some]
    rw [w64 (n := v - 8) (by omega) (by omega)]
    obtain ⟨q1, q2⟩ := U_quo (j := 3) (n := v - 8) (by decide) f_eight' (by omega)
    rw [if_pos q1, if_pos (by omega), w64 (by omega) (by omega)]
    refine ih (i + 1) m p' s' _ (by omega) (by rw [List.length_append, hl]; rfl) p0 (by push_cast; omega) fun x hx => ?_
    rcases List.mem_append.1 hx with c | c
    · exact hq x c
    · rw [List.mem_singleton.1 c]
      exact ⟨_, q2, by omega, by omega⟩
theorem like_ok {b : List Int} (hb : okS b) {w h : Nat} (hw : Side w) (hh : Side h) {a : List Nat} (ha : a.length = w * h) {k : Nat} (hk : 60 ≤ k) : ∃ l, BK.spec_R8Like.f k b w h a = some ((w : Int), (h : Int), l) ∧ l.length = w * h ∧ Qs 3 l := by
  have m1 : w * h ≤ 6 * 6 := Nat.mul_le_mul hw.2 hh.2
  unfold BK.spec_R8Like.f B0.spec_l00From.f BK.spec_l04DrawLike.f B0.spec_l04New.f
  simp only [Option.bind_some]
  obtain ⟨t, ht, t1, t2, t3, t4⟩ := like_loop hb hw hh ha (w * h) 0 (k - (w * h + 1)) 0 0 [] (by omega) rfl (by omega) (by omega) (fun x hx => by cases hx)
  rw [show w * h + 1 + (k - (w * h + 1)) = k by omega] at ht
  have e0 : ((0 : Nat) : Int) = 0 := rfl
  rw [e0] at ht
  rw [ht]
  exact ⟨t.2.2.1, by simp only [Option.bind_some]; rw [t1, t2], t3, t4⟩
theorem qs_ub {w h : Nat} {j : Nat} {v : Int → Int → Nat} (hq : Qs j (mk w h v)) (hm : ∀ x y, v x y ∈ mk w h v) : ∃ n : Int → Int → Int, ∀ x y, U (v x y) (n x y * 2 ^ (6 - j)) ∧ -8 ≤ n x y ∧ n x y ≤ 8 :=
  ⟨fun x y => (hq _ (hm x y)).choose, fun x y => (hq _ (hm x y)).choose_spec⟩
end PA
end Go.Proofs.Ytelkklnfbfmecaa
end
section
set_option linter.unusedVariables false
set_option linter.unusedSimpArgs false
namespace Go.Proofs.Ytelkklnfbfmecaa
open Go.RowKit Go.Proofs.YtelkklnfbfmecaaW.PrintWords Go.Proofs.YtelkklnfbfmecaaW.PrintLast Ieee
namespace PA
open FR PU XL
theorem sane_eq {x : Nat} (h : Fin x) : FloatKind.f32.format.order x x = some .eq := by
  obtain ⟨v, hv⟩ := h
  rw [show FloatKind.f32.format.order x x = some (FR.cmp v v) from order_val hv hv]
  unfold FR.cmp
  rw [if_neg (by grind), if_pos rfl]
theorem per_n {w h : Nat} {v : Int → Int → Nat} {n : Int → Int → Int} {M : Int} (hp : Per w h v) (hv : UB v n M) : (∀ x y, n (x + w) y = n x y) ∧ (∀ x y, n x (y + h) = n x y) := by
  have one {x : Nat} {a b : Int} (ha : U x a) (hb : U x b) : a = b := by
    have := U_order ha hb
    have e := sane_eq ⟨_, ha⟩
    rw [e] at this
    by_cases c : a < b
    · rw [if_pos c] at this; exact absurd this (by decide)
    · rw [if_neg c] at this
      by_cases c2 : a = b
      · exact c2
      · rw [if_neg c2] at this; exact absurd this (by decide)
  constructor
  · intro x y
    have e : v (x + w) y = v x y := hp.to (Int.add_emod_right _ _) rfl
    have a := (hv (x + w) y).1
    rw [e] at a
    exact one a (hv x y).1
  · intro x y
    have e : v x (y + h) = v x y := hp.to rfl (Int.add_emod_right _ _)
    have a := (hv x (y + h)).1
    rw [e] at a
    exact one a (hv x y).1
theorem f_zero64 : Fk .f64 0 (0 : Rat) := ⟨false, 0, -1074, by decide, sv_zero _ _⟩
section
variable {w h : Nat} (hw : Side w) (hh : Side h) {a : Int → Int → Nat} {n : Int → Int → Int} (hpa : Per w h a) (ha : ∀ x y, U (a x y) (16 * n x y) ∧ -8 ≤ n x y ∧ n x y ≤ 8)
include hw hh hpa ha
theorem last_ok {l1 : List Int} (h1 : okS l1) {X Y Z M1 M2 : List Nat} {k : Nat} (hk : 60 ≤ k) : LW.laws_FnBasins.l0 (k + 1) l1 ((mk w h a).length : Int) w h (mk w h a) w h X w h Y w h Z w h M1 w h M2 = some true := by
  have w1 := hw.1
  have w2 := hw.2
  have h1' := hh.1
  have h2' := hh.2
  have m0 : 3 * 3 ≤ w * h := Nat.mul_le_mul hw.1 hh.1
  have ub : UB a (fun x y => 16 * n x y) 128 := fun x y => ⟨(ha x y).1, by have := ha x y; show -128 ≤ 16 * n x y; omega, by have := ha x y; show 16 * n x y ≤ 128; omega⟩
  obtain ⟨e, E1, E2, t, E3, E4, c, E5, E6, E7⟩ := even_of hw hh hpa ub hk
  obtain ⟨r, R1, R2, p, q, R3, R4, R5⟩ := range_of hw hh ub hk
  obtain ⟨s, Q1, Q2, S, Q3, Q4⟩ := squares_of hw hh ha hk
  obtain ⟨px, P1, P2, P3⟩ := at_ok h1 42 (w : Int) (by omega) (by omega) (by omega)
  obtain ⟨py, P4, P5, P6⟩ := at_ok h1 43 (h : Int) (by omega) (by omega) (by omega)
  obtain ⟨l, L1, L2⟩ := put_of hw hh ub.fin P2 P3 P5 P6 (s := 1088421888) ⟨_, f_seven⟩
  have D1 := dbl_of hw hh hpa ub (by decide) hk
  obtain ⟨C1, C2⟩ := wide E5
  have r0 : Rep double (c - 0) := by rw [show c - 0 = c by grind]; exact Fv.rep (.inr rfl) C2
  have b0 : Bd 100 (c - 0) := by
    rw [show c - 0 = c by grind]
    have := pw_mono (show (-10 : Int) ≤ 100 by decide)
    unfold Bd
    constructor <;> grind
  obtain ⟨g, G1, G2⟩ := gap_of C2 f_zero64 r0 b0
  have G3 : FloatKind.f64.format.order g 4562254508917369340 = some .lt := by
    refine small_lt G2 ?_
    have := kap_lo
    split <;> grind
  have o1 : fle .f32 r.1 r.2.1 = true := by
    unfold fle
    rw [U_order R3 R4]
    by_cases c : p < q
    · rw [if_pos c]; rfl
    · rw [if_neg c, if_pos (by omega)]; rfl
  have o2 : fge .f32 s.1 0 = true := by
    unfold fge
    rw [U_order Q3 U_zero, if_neg (by omega)]
    by_cases c : S = 0
    · rw [if_pos c]; rfl
    · rw [if_neg c]; rfl
  have ok2 : fok .mul .f32 1073741824 (a 0 0) = true ∧ U (fop .mul .f32 1073741824 (a 0 0)) (2 * (16 * n 0 0)) := U_mul' f_two (ha 0 0).1 (by have := ha 0 0; omega)
  have ok3 : U (dblV a 0 0) (16 * n 0 0 * 2) := (U_mul (ha 0 0).1 f_two (by have := ha 0 0; omega)).2
  have i0 : rdOf (0 : Nat) (mk w h a) 0 = a 0 0 := by
    have := mk_get (v := a) (show 0 < w by omega) (show 0 < h by omega)
    simpa using this
  have i1 : rdOf (0 : Nat) (mk w h (dblV a)) 0 = dblV a 0 0 := by
    have := mk_get (v := dblV a) (show 0 < w by omega) (show 0 < h by omega)
    simpa using this
  have o3 : FloatKind.f32.format.order (dblV a 0 0) (fop .mul .f32 1073741824 (a 0 0)) = some .eq := by
    rw [U_order ok3 ok2.2, if_neg (by omega), if_pos (by omega)]
  have o4 : FloatKind.f32.format.order 1088421888 1088421888 = some .eq := sane_eq ⟨_, f_seven⟩
  unfold LW.laws_FnBasins.l0
  rw [if_neg (by omega), E1]
  simp only [Option.bind_some]
  rw [E3]
  simp only [Option.bind_some]
  rw [R1]
  simp only [Option.bind_some]
  rw [Q1]
  simp only [Option.bind_some]
  rw [P1]
  simp only [Option.bind_some]
  rw [P4]
  simp only [Option.bind_some]
  rw [L1]
  simp only [Option.bind_some]
  rw [L2]
  simp only [Option.bind_some]
  rw [D1]
  simp only [Option.bind_some]
  rw [if_pos trivial, if_pos E4, if_pos R2, if_pos Q2, if_pos trivial, if_pos trivial, if_pos trivial, if_pos C1, G1]
  simp only [Option.bind_some]
  rw [G3, if_pos (by decide), if_pos o1, if_pos o2, o4, if_pos (by decide), if_pos (by rw [mk_len]; omega), if_pos (by rw [mk_len]; omega), i0, i1, if_pos ok2.1, o3]
  rfl
theorem loop_ok {l1 : List Int} (h1 : okS l1) {X Y Z : Int → Int → Nat} {nx ny : Int → Int → Int} (hX : UB X nx 1024) (hY : UB Y ny 1024) (hZ : UB Z (fun x y => nx x y + ny x y) 2048) {M1 : Int → Int → Nat} (hM : ∀ x y, Fin (M1 x y)) :
    ∀ (r i m : Nat), i + r = w * h → 60 ≤ m → LW.laws_FnBasins.l0 (r + 1 + m) l1 (i : Int) w h (mk w h a) w h (mk w h X) w h (mk w h Y) w h (mk w h Z) w h (mk w h M1) w h (mk w h M1) = some true := by
  have m1 : w * h ≤ 6 * 6 := Nat.mul_le_mul hw.2 hh.2
  intro r
  induction r with
  | zero =>
    intro i m hi hm
    rw [show 0 + 1 + m = m + 1 by omega]
    have := last_ok hw hh hpa ha h1 (X := mk w h X) (Y := mk w h Y) (Z := mk w h Z) (M1 := mk w h M1) (M2 := mk w h M1) hm
    rwa [mk_len, ← hi, Nat.add_zero] at this
  | succ r ih =>
    intro i m hi hm
    rw [show r + 1 + 1 + m = (r + 1 + m) + 1 by omega]
    unfold LW.laws_FnBasins.l0
    have hi2 : i < w * h := by omega
    rw [mk_i hi2, mk_i hi2, mk_i hi2, mk_i hi2]
    simp only [mk_len]
    obtain ⟨x1, x2, x3⟩ := hX ((i % w : Nat) : Int) ((i / w : Nat) : Int)
    obtain ⟨y1, y2, y3⟩ := hY ((i % w : Nat) : Int) ((i / w : Nat) : Int)
    obtain ⟨z1, z2, z3⟩ := hZ ((i % w : Nat) : Int) ((i / w : Nat) : Int)
    have f1 := hM ((i % w : Nat) : Int) ((i / w : Nat) : Int)
    simp only at z1 z2 z3
    generalize X ((i % w : Nat) : Int) ((i / w : Nat) : Int) = bx at *
    generalize Y ((i % w : Nat) : Int) ((i / w : Nat) : Int) = yb at *
    generalize Z ((i % w : Nat) : Int) ((i / w : Nat) : Int) = bz at *
    generalize M1 ((i % w : Nat) : Int) ((i / w : Nat) : Int) = bm at *
    generalize nx ((i % w : Nat) : Int) ((i / w : Nat) : Int) = p at *
    generalize ny ((i % w : Nat) : Int) ((i / w : Nat) : Int) = q at *
    obtain ⟨c1, d1⟩ := wide x1
    obtain ⟨c2, d2⟩ := wide y1
    obtain ⟨c3, d3⟩ := wide z1
    obtain ⟨a1, a2⟩ := D_add (n := p) (m := q) d1 d2 (by omega)
    obtain ⟨g, g1, g2⟩ := gap_D (n := p + q) (m := p + q) d3 a2 (by omega)
    rw [show ((p + q - (p + q)).natAbs : Int) = 0 by omega] at g2
    rw [if_pos (by omega), if_pos (by omega), if_pos (by omega), if_pos c3, if_pos (by omega), if_pos c1, if_pos (by omega), if_pos c2, if_pos a1, g1]
    simp only [Option.bind_some]
    rw [D_zero_lt g2, if_neg (by decide), if_pos (by omega), if_pos (by omega), sane_eq f1, if_neg (by decide), w64 (by omega) (by omega)]
    exact ih (i + 1) m (by omega) hm
end
theorem r8Long_ok (l0 l1 : List Int) : ∃ b, LW.laws_r8Long.f l0 l1 = some b := by
  unfold LW.laws_r8Long.f
  split <;> exact ⟨_, rfl⟩
theorem j0_of (k : Nat) (a : List Int) (b c : Int) (d : List Nat) (e f : Int) (g : List Nat) (h i : Int) (j : List Nat) (l m : Int) (n : List Nat) (o p : Int) (q : List Nat) (r s : Int) (t : List Nat) :
    LW.laws_FnBasins.j0 (k + 1) a false b c d e f g h i j l m n o p q r s t = LW.laws_FnBasins.l0 k a 0 b c d e f g h i j l m n o p q r s t := by
  rw [LW.laws_FnBasins.j0]
  rw [if_neg (by decide)]
theorem law_ok {l0 l1 : List Int} (h0 : okS l0) (h1 : okS l1) : LW.laws_FnBasins.f 300 l0 l1 = some true := by
  unfold LW.laws_FnBasins.f
  obtain ⟨lg, hlg⟩ := r8Long_ok l0 l1
  rw [hlg]
  simp only [Option.bind_some]
  cases lg with
  | true => rw [if_pos rfl]
  | false =>
    rw [if_neg (by decide)]
    obtain ⟨w, h, l, B1, hw, hh, B2, B3⟩ := basin_ok h0 (k := 300) (by decide)
    obtain ⟨b, C1, C2, C3⟩ := like_ok h1 hw hh B2 (k := 300) (by decide)
    obtain ⟨a, hpa, rfl, ma⟩ := mk_of hw hh B2
    obtain ⟨c, hpc, rfl, mc⟩ := mk_of hw hh C2
    obtain ⟨n, hn⟩ := qs_ub B3 ma
    obtain ⟨m, hm⟩ := qs_ub C3 mc
    have hn' : ∀ x y, U (a x y) (16 * n x y) ∧ -8 ≤ n x y ∧ n x y ≤ 8 := fun x y => by have := hn x y; rwa [show n x y * 2 ^ (6 - 2) = 16 * n x y by omega] at this
    have ua : UB a (fun x y => 16 * n x y) 128 := fun x y => ⟨(hn' x y).1, by have := hn' x y; show -128 ≤ 16 * n x y; omega, by have := hn' x y; show 16 * n x y ≤ 128; omega⟩
    have uc : UB c (fun x y => 8 * m x y) 128 := fun x y => ⟨by have := (hm x y).1; rwa [show m x y * 2 ^ (6 - 3) = 8 * m x y by omega] at this, by have := hm x y; show -128 ≤ 8 * m x y; omega, by have := hm x y; show 8 * m x y ≤ 128; omega⟩
    have us := ub_add ua uc (by decide)
    have k0 : 60 ≤ 300 := by decide
    have S1 := add_of hw hh hpa hpc ua uc (by decide) k0
    have hps := per_add hpa hpc
    have X1 := lap_of hw hh hpa ua (by decide) k0
    have Y1 := lap_of hw hh hpc uc (by decide) k0
    have Z1 := lap_of hw hh hps us (by decide) k0
    have uX := (ub_lap hw hh hpa ua (by decide)).1
    have uY := (ub_lap hw hh hpc uc (by decide)).1
    have uZ := (ub_lap hw hh hps us (by decide)).1
    obtain ⟨t, T1, T2, T3⟩ := total_mk hw hh uX (by decide) k0
    have pn := per_n hpa ua
    rw [S2_lap _ pn.1 pn.2] at T2
    obtain ⟨u, U1, U2, U3⟩ := at_ok h1 40 13 (by decide) (by decide) (by decide)
    obtain ⟨v, V1, V2, V3⟩ := at_ok h1 41 13 (by decide) (by decide) (by decide)
    have R1 := rol_of hw hh hpa ua.fin (p := u - 6) (q := v - 6) (by omega) (by omega) (by omega) (by omega) k0
    have hpr := per_rol hpa (u - 6) (v - 6)
    have ur : UB (rolV a (u - 6) (v - 6)) (fun x y => 16 * n (x - (u - 6)) (y - (v - 6))) 128 := fun x y => ua _ _
    have R2 := rol_of hw hh hpr ur.fin (p := -(u - 6)) (q := -(v - 6)) (by omega) (by omega) (by omega) (by omega) k0
    have eb : rolV (rolV a (u - 6) (v - 6)) (-(u - 6)) (-(v - 6)) = a := by
      funext x y
      unfold rolV
      congr 1 <;> omega
    rw [eb] at R2
    have M1 := lap_of hw hh hpr ur (by decide) k0
    have W1 := rol_of hw hh (per_lap hpa) uX.fin (p := u - 6) (q := v - 6) (by omega) (by omega) (by omega) (by omega) k0
    have em : lapV (rolV a (u - 6) (v - 6)) = rolV (lapV a) (u - 6) (v - 6) := by
      funext x y
      unfold lapV rolV
      rw [show x - 1 - (u - 6) = x - (u - 6) - 1 by omega, show x + 1 - (u - 6) = x - (u - 6) + 1 by omega, show y - 1 - (v - 6) = y - (v - 6) - 1 by omega, show y + 1 - (v - 6) = y - (v - 6) + 1 by omega]
    rw [em] at M1
    have I1 := mir_of hw hh hpa ua.fin k0
    have hpi := per_mir hpa
    have ui : UB (mirV w a) (fun x y => -(16 * n (w - 1 - x) y)) 128 := fun x y => ⟨U_neg (ua _ _).1, by have := ua (w - 1 - x) y; show -128 ≤ -(16 * n (w - 1 - x) y); simp only at this; omega, by have := ua (w - 1 - x) y; show -(16 * n (w - 1 - x) y) ≤ 128; simp only at this; omega⟩
    have I2 := mir_of hw hh hpi ui.fin k0
    have negneg : ∀ x : Nat, Op.negFloat .f32 (Op.negFloat .f32 x) = x := fun x => by
      unfold Op.negFloat
      rw [Nat.xor_assoc, Nat.xor_self, Nat.xor_zero]
    have ei : mirV w (mirV w a) = a := by
      funext x y
      unfold mirV
      rw [negneg]
      congr 1
      omega
    rw [ei] at I2
    have I3 := lap_of hw hh hpi ui (by decide) k0
    have uI := (ub_lap hw hh hpi ui (by decide)).1
    obtain ⟨g1, g2⟩ := wide T2
    obtain ⟨g, G1, G2⟩ := gap_D (n := 0) (m := 0) g2 (show D 0 0 by unfold D; rw [Rat.intCast_zero, Rat.zero_mul]; exact f_zero64) (by decide)
    have G3 := D_zero_lt (x := g) (by simpa using G2)
    have LN : LW.laws_FnBasins.l0 299 l1 0 w h (mk w h a) w h (mk w h (lapV a)) w h (mk w h (lapV c)) w h (mk w h (lapV (addV a c))) w h (mk w h (rolV (lapV a) (u - 6) (v - 6))) w h (mk w h (rolV (lapV a) (u - 6) (v - 6))) = some true := by
      have m1 : w * h ≤ 6 * 6 := Nat.mul_le_mul hw.2 hh.2
      have hZ : UB (lapV (addV a c)) (fun x y => lapN (fun x y => 16 * n x y) x y + lapN (fun x y => 8 * m x y) x y) 2048 := fun x y => by
        obtain ⟨z1, z2, z3⟩ := uZ x y
        have e : lapN (fun x y => 16 * n x y + 8 * m x y) x y = lapN (fun x y => 16 * n x y) x y + lapN (fun x y => 8 * m x y) x y := by simp only [lapN]; omega
        rw [e] at z1 z2 z3
        exact ⟨z1, z2, z3⟩
      have := loop_ok hw hh hpa hn' h1 uX uY hZ (M1 := rolV (lapV a) (u - 6) (v - 6)) (fun x y => uX.fin _ _) (w * h) 0 (299 - (w * h + 1)) (by omega) (by omega)
      rwa [show w * h + 1 + (299 - (w * h + 1)) = 299 by omega] at this
    rw [B1]
    simp only [Option.bind_some]
    rw [C1]
    simp only [Option.bind_some]
    rw [S1]
    simp only [Option.bind_some]
    rw [X1]
    simp only [Option.bind_some]
    rw [Y1]
    simp only [Option.bind_some]
    rw [Z1]
    simp only [Option.bind_some]
    rw [T1]
    simp only [Option.bind_some]
    rw [U1]
    simp only [Option.bind_some]
    rw [V1]
    simp only [Option.bind_some]
    rw [w64 (n := u - 6) (by omega) (by omega), w64 (n := v - 6) (by omega) (by omega), w64 (n := -(u - 6)) (by omega) (by omega), w64 (n := -(v - 6)) (by omega) (by omega)]
    rw [R1]
    simp only [Option.bind_some]
    rw [R2]
    simp only [Option.bind_some]
    rw [M1]
    simp only [Option.bind_some]
    rw [W1]
    simp only [Option.bind_some]
    rw [I1]
    simp only [Option.bind_some]
    rw [I2]
    simp only [Option.bind_some]
    rw [I3]
    simp only [Option.bind_some, if_true]
    rw [if_pos T3, if_pos g1, G1]
    simp only [Option.bind_some]
    rw [G3, if_neg (by decide), sameB_of hw hh ua.fin k0]
    simp only [Option.bind_some, if_true]
    rw [valid_of hw hh uI.fin]
    simp only [Option.bind_some]
    exact (j0_of 299 _ _ _ _ _ _ _ _ _ _ _ _ _ _ _ _ _ _ _).trans LN
end PA
end Go.Proofs.Ytelkklnfbfmecaa
end
section
set_option linter.unusedVariables false
set_option linter.unusedSimpArgs false
namespace Go.Proofs.Ytelkklnfbfmecaa.LW
open Go.RowKit Go.Proofs.YtelkklnfbfmecaaW.PrintWords Go.Proofs.YtelkklnfbfmecaaW.PrintLast Go.Proofs.YtelkklnfbfmecaaW.PrintMore
def laws_FnBasins.Pure : Prop := ∀ (l0 : List Int) (l1 : List Int), l0.length ≤ maxLen → l0.length * 1 ≤ 140737488351232 → (∀ x ∈ l0, (Lit.int .u8 x).wf = true) → l1.length ≤ maxLen → l1.length * 1 ≤ 140737488351232 → (∀ x ∈ l1, (Lit.int .u8 x).wf = true) → ∃ k, laws_FnBasins.f k l0 l1 = some true
theorem laws_FnBasins.walk (P : laws_FnBasins.Pure) (a0 : Option Addr) (len0 cap0 : Nat) (z0 : List Int) (a1 : Option Addr) (len1 cap1 : Nat) (z1 : List Int) (w : World) (w0 : (a0 = none ∧ len0 = 0 ∧ cap0 = 0 ∧ z0 = []) ∨ ∃ x, a0 = some x ∧ len0 ≤ cap0 ∧ cap0 ≤ maxLen ∧ z0.length = cap0 ∧ (∀ i, i < z0.length → w.cell? (x.add i) = some (.int .u8 (z0.getD i 0))) ∧ ∀ n ∈ z0, (Lit.int .u8 n).wf = true) (y0 : len0 * 1 ≤ 140737488351232) (w1 : (a1 = none ∧ len1 = 0 ∧ cap1 = 0 ∧ z1 = []) ∨ ∃ x, a1 = some x ∧ len1 ≤ cap1 ∧ cap1 ≤ maxLen ∧ z1.length = cap1 ∧ (∀ i, i < z1.length → w.cell? (x.add i) = some (.int .u8 (z1.getD i 0))) ∧ ∀ n ∈ z1, (Lit.int .u8 n).wf = true) (y1 : len1 * 1 ≤ 140737488351232) :
    Calls Try.prog 3 #[.slice a0 len0 cap0, .slice a1 len1 cap1] w fun e w' => e = .returned (.bool true) ∧ Below w.heap.size w w' := by
  obtain ⟨l0, rfl, hr0, hm0, hw0, hc0⟩ := ReadsInt.ofRowC w0
  obtain ⟨l1, rfl, hr1, hm1, hw1, hc1⟩ := ReadsInt.ofRowC w1
  obtain ⟨k, h⟩ := P l0 l1 hm0 y0 hw0 hm1 y1 hw1
  refine (laws_FnBasins.calls k _ _ l0 _ _ l1 w (Kd.C_of_reads (d := (0 : Int)) (h1 := fun _ => rfl) hr0) hc0 (Kd.C_of_reads (d := (0 : Int)) (h1 := fun _ => rfl) hr1) hc1 h).mono ?_
  rintro e w' ⟨rfl, hd⟩
  exact ⟨rfl, hd⟩
theorem pure : laws_FnBasins.Pure := by
  intro l0 l1 _ _ g0 _ _ g1
  have ok : ∀ l : List Int, (∀ x ∈ l, (Lit.int .u8 x).wf = true) → PA.okS l := fun l h x hx => by
    have := h x hx
    simp only [Lit.wf, IntKind.min, IntKind.max, IntKind.signed, IntKind.bits, Bool.and_eq_true, decide_eq_true_eq] at this
    simpa using this
  exact ⟨300, PA.law_ok (ok l0 g0) (ok l1 g1)⟩
end Go.Proofs.Ytelkklnfbfmecaa.LW
end
