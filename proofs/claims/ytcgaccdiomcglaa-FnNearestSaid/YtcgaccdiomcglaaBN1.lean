/- Words, walks and plain laws that a claim of this seat needs, one text after the other (part 1). -/
import Derived.Laws.FloatArith
import Derived.Below
import Derived.Deep.Draws
import Derived.Deep.AppendLies
import Derived.Maps.AppendAt
import Derived.OwnWalk
import Derived.Laws.BytesArg
import Derived.Laws.MakeOwn
import Derived.Laws.OwnMore
import Derived.Deep.OwnRows
import Derived.Tactics
import Derived.Lib.ConvBytes
import Derived.Laws.Slices
import Derived.WalkKit
import Derived.KernelRfl
import Derived.RowKit3
import Derived.Deep.LoopGhost
import Derived.Deep.QuietTactic
import Derived.BigQuiet
import Derived.WideLaws
import Derived.Deep.DeepCutAuto
import Derived.Deep.CutBlock
import Derived.Deep.RegionHeld3
import Derived.Laws.Rows
import Derived.Lib.AppendStr
import Derived.ArgAppend
import Derived.Laws.IdiomCopy
import Derived.RowKit
set_option linter.unusedVariables false
set_option linter.unusedSimpArgs false
section
set_option linter.unusedVariables false
set_option linter.unusedSimpArgs false
namespace Go.Proofs.Ytcgaccdiomcglaa
namespace FR
theorem two_ne : (2 : Rat) ≠ 0 := by decide
theorem pw_pos (e : Int) : (0 : Rat) < (2 : Rat) ^ e := Rat.zpow_pos (by decide)
theorem pw_add (a b : Int) : (2 : Rat) ^ (a + b) = (2 : Rat) ^ a * (2 : Rat) ^ b := Rat.zpow_add two_ne a b
theorem pw_nat (n : Nat) : (2 : Rat) ^ (n : Int) = ((2 ^ n : Nat) : Rat) := by
  rw [Rat.zpow_natCast]
  induction n with
  | zero => rfl
  | succ n ih => rw [Rat.pow_succ, ih, Nat.pow_succ, Rat.natCast_mul]; rfl
theorem pw_mono {a b : Int} (h : a ≤ b) : (2 : Rat) ^ a ≤ (2 : Rat) ^ b := by
  obtain ⟨n, rfl⟩ : ∃ n : Nat, b = a + n := ⟨(b - a).toNat, by omega⟩
  rw [pw_add, pw_nat]
  have h1 : (1 : Rat) ≤ ((2 ^ n : Nat) : Rat) := by
    have : 1 ≤ 2 ^ n := Nat.one_le_two_pow
    exact_mod_cast this
  have := Rat.mul_le_mul_of_nonneg_left h1 (Rat.le_of_lt (pw_pos a))
  rwa [Rat.mul_one] at this
theorem pw_lt {a b : Int} (h : (2 : Rat) ^ a < (2 : Rat) ^ b) : a < b := by
  apply Classical.byContradiction
  intro hn
  have := pw_mono (a := b) (b := a) (by omega)
  exact absurd h (Rat.not_lt.2 this)
open Ieee
def sv (s : Bool) (m : Nat) (e : Int) : Rat := (if s = true then -(m : Rat) else (m : Rat)) * (2 : Rat) ^ e
def Fv (f : Format) (x : Nat) (v : Rat) : Prop := ∃ s m e, f.read x = .number s m e ∧ sv s m e = v
theorem sv_zero (s : Bool) (e : Int) : sv s 0 e = 0 := by
  unfold sv
  cases s <;> simp <;> grind
theorem sv_up (s : Bool) (m k : Nat) (e : Int) : sv s (m * 2 ^ k) e = sv s m (e + k) := by
  unfold sv
  rw [pw_add, pw_nat]
  cases s <;> simp [Rat.natCast_mul] <;> grind
theorem cut_near (neg : Bool) (n d : Nat) : 2 * (Toward.even.cut neg n d * 2 ^ d) ≤ 2 * n + 2 ^ d ∧ 2 * n ≤ 2 * (Toward.even.cut neg n d * 2 ^ d) + 2 ^ d := by
  unfold Toward.cut
  by_cases hd : d ≤ n.log2 + 2
  · have hm : min d (n.log2 + 2) = d := Nat.min_eq_left hd
    simp only [hm, Nat.shiftLeft_eq, Nat.one_mul]
    have hp : 0 < 2 ^ d := Nat.two_pow_pos d
    have h1 := Nat.div_add_mod n (2 ^ d)
    have h2 := Nat.mod_lt n hp
    generalize 2 ^ d = g at *
    generalize n / g = q at *
    generalize n % g = r at *
    subst h1
    have e1 : q * g = g * q := Nat.mul_comm _ _
    have e2 : (q + 1) * g = g * q + g := by rw [Nat.add_mul, e1]; omega
    cases hc : (decide (g < 2 * r) || g == 2 * r && q % 2 == 1) with
    | true =>
      simp at hc
      show 2 * ((q + 1) * g) ≤ _ ∧ _ ≤ 2 * ((q + 1) * g) + g
      rw [e2]
      omega
    | false =>
      simp at hc
      show 2 * ((q + 0) * g) ≤ _ ∧ _ ≤ 2 * ((q + 0) * g) + g
      rw [Nat.add_zero, e1]
      omega
  · have hm : min d (n.log2 + 2) = n.log2 + 2 := Nat.min_eq_right (by omega)
    have hn : 2 * n < 2 ^ (n.log2 + 2) := by
      have := @Nat.lt_log2_self n
      rw [Nat.pow_succ]
      omega
    have hle : 2 ^ (n.log2 + 2) ≤ 2 ^ d := Nat.pow_le_pow_right (by decide) (by omega)
    simp only [hm, Nat.shiftLeft_eq, Nat.one_mul]
    have q0 : n / 2 ^ (n.log2 + 2) = 0 := Nat.div_eq_of_lt (by omega)
    have r0 : n % 2 ^ (n.log2 + 2) = n := Nat.mod_eq_of_lt (by omega)
    rw [q0, r0]
    have : (decide (2 ^ (n.log2 + 2) < 2 * n) || 2 ^ (n.log2 + 2) == 2 * n && 0 % 2 == 1) = false := by
      simp
      omega
    rw [this]
    show 2 * ((0 + 0) * 2 ^ d) ≤ _ ∧ _ ≤ 2 * ((0 + 0) * 2 ^ d) + _
    rw [Nat.add_zero, Nat.zero_mul]
    omega
theorem cut_whole (neg : Bool) (n d : Nat) (h : 2 ^ d ∣ n) : Toward.even.cut neg n d * 2 ^ d = n := by
  obtain ⟨q, rfl⟩ := h
  by_cases hq : q = 0
  · subst hq
    have := cut_near neg (2 ^ d * 0) d
    rw [Nat.mul_zero] at this ⊢
    have h2 := this.1
    have hp : 0 < 2 ^ d := Nat.two_pow_pos d
    cases hc : Toward.even.cut neg 0 d with
    | zero => simp
    | succ c =>
      rw [hc, Nat.add_mul, Nat.one_mul] at h2
      exfalso
      omega
  · have hl : d ≤ (2 ^ d * q).log2 := by
      have : 2 ^ d ≤ 2 ^ d * q := Nat.le_mul_of_pos_right _ (by omega)
      exact (Nat.le_log2 (by have := Nat.two_pow_pos d; omega)).2 this
    unfold Toward.cut
    have hm : min d ((2 ^ d * q).log2 + 2) = d := Nat.min_eq_left (by omega)
    have hp : 0 < 2 ^ d := Nat.two_pow_pos d
    simp only [hm, Nat.shiftLeft_eq, Nat.one_mul]
    rw [Nat.mul_div_cancel_left _ hp, Nat.mul_mod_right]
    have : (decide (2 ^ d < 2 * 0) || 2 ^ d == 2 * 0 && q % 2 == 1) = false := by
      have h1 : decide (2 ^ d < 2 * 0) = false := by simp
      have h2 : (2 ^ d == 2 * 0) = false := by
        rw [beq_eq_false_iff_ne]
        omega
      rw [h1, h2]
      rfl
    rw [this]
    show (q + 0) * 2 ^ d = _
    rw [Nat.add_zero, Nat.mul_comm]
def Good (f : Format) : Prop := f = single ∨ f = double
def top (f : Format) : Int := 2 ^ (f.exponentBits - 1) - 1
theorem read_word {f : Format} (hf : Good f) (neg : Bool) (r : Nat) (h : r < f.infRung) : f.read (f.word neg r) = if r < f.binade then .number neg r f.leastPlace else .number neg (f.binade + r % f.binade) (f.leastPlace + (r / f.binade - 1 : Nat)) := by
  have hs : f.infRung ≤ f.signWeight := by rcases hf with rfl | rfl <;> decide
  have hp : 0 < f.signWeight := by rcases hf with rfl | rfl <;> decide
  have e1 : (f.word neg r) / f.signWeight % 2 = if neg = true then 1 else 0 := by
    unfold Format.word
    cases neg with
    | true => rw [if_pos rfl, Nat.add_div_left _ hp, Nat.div_eq_of_lt (by omega)]; rfl
    | false => rw [if_neg (by simp), Nat.div_eq_of_lt (by omega)]; rfl
  have e2 : (f.word neg r) % f.signWeight = r := by
    unfold Format.word
    cases neg with
    | true => rw [if_pos rfl, Nat.add_mod_left, Nat.mod_eq_of_lt (by omega)]
    | false => rw [if_neg (by simp), Nat.mod_eq_of_lt (by omega)]
  unfold Format.read
  simp only [e1, e2]
  have e3 : ((if neg = true then 1 else 0) == 1) = neg := by cases neg <;> rfl
  rw [e3, if_pos h]
theorem binade_pos {f : Format} (hf : Good f) : 0 < f.binade := by rcases hf with rfl | rfl <;> decide
theorem read_rung {f : Format} (hf : Good f) (neg : Bool) (L K : Nat) (hK : K ≤ 2 * f.binade) (hL : L = 0 ∨ f.binade ≤ K) (h : L * f.binade + K < f.infRung) : Fv f (f.word neg (L * f.binade + K)) (sv neg K (f.leastPlace + (L : Int))) := by
  have hb := binade_pos hf
  unfold Fv
  rw [read_word hf neg _ h]
  by_cases h1 : L * f.binade + K < f.binade
  · rw [if_pos h1]
    have hL0 : L = 0 := by
      rcases hL with h | h
      · exact h
      · omega
    subst hL0
    refine ⟨_, _, _, rfl, ?_⟩
    simp
  · rw [if_neg h1]
    refine ⟨_, _, _, rfl, ?_⟩
    have key : ∀ q t : Nat, q * f.binade + t = L * f.binade + K → t < f.binade → 1 ≤ q → sv neg (f.binade + t) (f.leastPlace + ((q - 1 : Nat) : Int)) = sv neg K (f.leastPlace + (L : Int)) := by
      intro q t he ht hq
      by_cases hqL : q = L + 2
      · subst hqL
        have : (L + 2) * f.binade = L * f.binade + 2 * f.binade := by rw [Nat.add_mul]
        obtain rfl : t = 0 := by omega
        obtain rfl : K = f.binade * 2 ^ 1 := by omega
        rw [sv_up]
        congr 1
        omega
      · by_cases hqL : q = L + 1
        · subst hqL
          have : (L + 1) * f.binade = L * f.binade + f.binade := by rw [Nat.add_mul]; omega
          obtain rfl : K = f.binade + t := by omega
          congr 1
        · exfalso
          have hlt : q < L + 1 ∨ L + 3 ≤ q := by omega
          rcases hlt with h | h
          · have : q * f.binade ≤ L * f.binade := Nat.mul_le_mul_right _ (by omega)
            rcases hL with h0 | h0
            · omega
            · omega
          · have : (L + 3) * f.binade ≤ q * f.binade := Nat.mul_le_mul_right _ h
            rw [Nat.add_mul] at this
            omega
    refine key _ _ ?_ (Nat.mod_lt _ hb) ?_
    · have := Nat.div_add_mod (L * f.binade + K) f.binade
      rw [Nat.mul_comm] at this
      exact this
    · exact (Nat.le_div_iff_mul_le hb).2 (by omega)
def hu (f : Format) (J : Int) : Rat := (2 : Rat) ^ (max (J - 1 - f.fractionBits) f.leastPlace - 1)
theorem neg_inj {a b : Rat} (h : -a = -b) : a = b := by grind
def Nr (h a b : Rat) : Prop := a ≤ b + h ∧ b ≤ a + h
theorem Nr.mono {h k a b : Rat} (hn : Nr h a b) (hk : h ≤ k) : Nr k a b := by unfold Nr at *; grind
theorem mul_ne {a b : Rat} (ha : a ≠ 0) (hb : b ≠ 0) : a * b ≠ 0 := fun h => (Rat.mul_eq_zero.1 h).elim ha hb
theorem mul_cancel {a b c : Rat} (hc : c ≠ 0) (h : a * c = b * c) : a = b := by
  have : a * c / c = b * c / c := by rw [h]
  rwa [Rat.mul_div_cancel hc, Rat.mul_div_cancel hc] at this
theorem sv_diff (s : Bool) {m n : Nat} {e : Int} {b : Nat} (h1 : 2 * m ≤ 2 * n + b) (h2 : 2 * n ≤ 2 * m + b) : Nr ((b : Rat) * (2 : Rat) ^ (e - 1)) (sv s m e) (sv s n e) := by
  have hp := pw_pos (e - 1)
  have he : (2 : Rat) ^ e = 2 * (2 : Rat) ^ (e - 1) := by
    have : e = 1 + (e - 1) := by omega
    rw [this, pw_add]
    have : (1 : Int) + (e - 1) - 1 = e - 1 := by omega
    rw [this]
    rfl
  have g1 : 2 * (m : Rat) ≤ 2 * (n : Rat) + b := by exact_mod_cast h1
  have g2 : 2 * (n : Rat) ≤ 2 * (m : Rat) + b := by exact_mod_cast h2
  have k1 := Rat.mul_le_mul_of_nonneg_right g1 (Rat.le_of_lt hp)
  have k2 := Rat.mul_le_mul_of_nonneg_right g2 (Rat.le_of_lt hp)
  unfold sv Nr
  rw [he]
  clear h1 h2 g1 g2 he
  cases s <;> simp <;> grind
theorem near_val {f : Format} (hf : Good f) (s : Bool) (m : Nat) (e J : Int) (h : m ≠ 0 → (m.log2 : Int) + e < J) (hJ : J ≤ top f) :
    ∃ v, Fv f (f.nearest s m e) v ∧ Nr (hu f J) v (sv s m e) ∧ ((∃ (z : Nat) (t : Int), sv s m e = sv s z t ∧ z < 2 * f.binade ∧ f.leastPlace ≤ t) → v = sv s m e) := by
  have hb := binade_pos hf
  have hbp : f.binade = 2 ^ f.fractionBits := rfl
  by_cases hm : m = 0
  · subst hm
    have : f.nearest s 0 e = f.word s (0 * f.binade + 0) := by unfold Format.nearest; simp
    rw [this]
    refine ⟨_, read_rung hf s 0 0 (by omega) (.inl rfl) (by rcases hf with rfl | rfl <;> decide), ?_, ?_⟩
    · rw [sv_zero, sv_zero]
      have := Rat.le_of_lt (pw_pos (max (J - 1 - f.fractionBits) f.leastPlace - 1))
      have hz : (0 : Rat) ≤ 0 + hu f J := by rw [Rat.zero_add]; exact this
      exact ⟨hz, hz⟩
    · intro _
      rw [sv_zero, sv_zero]
  · have hlg := h hm
    have hlow : 2 ^ m.log2 ≤ m := (Nat.le_log2 hm).1 (Nat.le_refl _)
    have hhigh : m < 2 ^ (m.log2 + 1) := Nat.lt_log2_self
    unfold Format.nearest
    rw [if_neg hm]
    simp only []
    have hlastdef : ∃ last : Int, last = max (e + m.log2 - f.fractionBits) f.leastPlace := ⟨_, rfl⟩
    obtain ⟨last, hlast⟩ := hlastdef
    rw [← hlast, Nat.shiftLeft_eq]
    obtain ⟨a, ha⟩ : ∃ a : Nat, a = (e - last).toNat := ⟨_, rfl⟩
    obtain ⟨d, hd⟩ : ∃ d : Nat, d = (last - e).toNat := ⟨_, rfl⟩
    obtain ⟨L, hL⟩ : ∃ L : Nat, L = (last - f.leastPlace).toNat := ⟨_, rfl⟩
    rw [← ha, ← hd, ← hL]
    have hll : last = f.leastPlace + (L : Int) := by omega
    have he : e = last + (a : Int) - d := by omega
    obtain ⟨n, hn⟩ : ∃ n : Nat, n = m * 2 ^ a := ⟨_, rfl⟩
    rw [← hn]
    have hc := cut_near s n d
    have up : n < 2 ^ (f.fractionBits + 1) * 2 ^ d := by
      have : n < 2 ^ (m.log2 + 1) * 2 ^ a := by rw [hn]; exact Nat.mul_lt_mul_of_pos_right hhigh (Nat.two_pow_pos a)
      rw [← Nat.pow_add] at this ⊢
      exact Nat.lt_of_lt_of_le this (Nat.pow_le_pow_right (by decide) (by omega))
    have low : 0 < L → 2 ^ f.fractionBits * 2 ^ d ≤ n := by
      intro h0
      have : 2 ^ m.log2 * 2 ^ a ≤ n := by rw [hn]; exact Nat.mul_le_mul_right _ hlow
      rw [← Nat.pow_add] at this ⊢
      exact Nat.le_trans (Nat.pow_le_pow_right (by decide) (by omega)) this
    have hd0 : 0 < 2 ^ d := Nat.two_pow_pos d
    obtain ⟨c, hcd⟩ : ∃ c, c = Toward.even.cut s n d := ⟨_, rfl⟩
    rw [← hcd] at hc ⊢
    have hK : c ≤ 2 * f.binade := by
      rw [hbp]
      rw [Nat.pow_succ] at up
      apply Classical.byContradiction
      intro hn2
      have : (2 * 2 ^ f.fractionBits + 1) * 2 ^ d ≤ c * 2 ^ d := Nat.mul_le_mul_right _ (by omega)
      rw [Nat.add_mul] at this
      have e5 : 2 ^ f.fractionBits * 2 * 2 ^ d = 2 * 2 ^ f.fractionBits * 2 ^ d := by rw [Nat.mul_comm (2 ^ f.fractionBits) 2]
      omega
    have hLK : L = 0 ∨ f.binade ≤ c := by
      by_cases h0 : L = 0
      · exact .inl h0
      · right
        have := low (by omega)
        rw [hbp]
        apply Classical.byContradiction
        intro hn2
        have h6 : (c + 1) * 2 ^ d ≤ 2 ^ f.fractionBits * 2 ^ d := Nat.mul_le_mul_right _ (by omega)
        rw [Nat.add_mul] at h6
        omega
    have hlt : L * f.binade + c < f.infRung := by
      have h7 : (L : Int) + 2 < 2 ^ f.exponentBits - 1 := by
        rcases hf with rfl | rfl
        · have : Format.leastPlace single = -149 := by decide
          have : single.fractionBits = 23 := rfl
          have : top single = 127 := by decide
          have : (2 : Int) ^ single.exponentBits = 256 := by decide
          omega
        · have : Format.leastPlace double = -1074 := by decide
          have : double.fractionBits = 52 := rfl
          have : top double = 1023 := by decide
          have : (2 : Int) ^ double.exponentBits = 2048 := by decide
          omega
      have h8 : L + 3 ≤ 2 ^ f.exponentBits - 1 := by
        have : ((2 ^ f.exponentBits : Nat) : Int) = 2 ^ f.exponentBits := by push_cast; rfl
        omega
      have h9 : (L + 3) * f.binade ≤ f.infRung := Nat.mul_le_mul_right _ h8
      rw [Nat.add_mul] at h9
      omega
    have hmin : min (L * f.binade + c) f.infRung = L * f.binade + c := Nat.min_eq_left (by omega)
    rw [hmin]
    refine ⟨_, read_rung hf s L c hK hLK hlt, ?_⟩
    rw [← hll]
    have e1 : sv s c last = sv s (c * 2 ^ d) (last - d) := by rw [sv_up]; congr 1; omega
    have e2 : sv s m e = sv s n (last - d) := by rw [hn, sv_up]; congr 1; omega
    refine ⟨?_, ?_⟩
    · have hh := sv_diff s (e := last - d) hc.1 hc.2
      rw [e1, e2]
      have : ((2 ^ d : Nat) : Rat) * (2 : Rat) ^ (last - d - 1) = (2 : Rat) ^ (last - 1) := by
        rw [← pw_nat, ← pw_add]
        congr 1
        omega
      rw [this] at hh
      have h3 : (2 : Rat) ^ (last - 1) ≤ hu f J := pw_mono (by omega)
      exact Nr.mono hh h3
    · rintro ⟨z, t, hz, hz2, ht⟩
      rw [e1, e2]
      have : 2 ^ d ∣ n := by
        by_cases hd0 : d = 0
        · subst hd0; exact ⟨n, by simp⟩
        have hz3 : sv s n (last - d) = sv s z t := by rw [← e2]; exact hz
        have hlt2 : last ≤ t := by
          have hz0 : z ≠ 0 := by
            rintro rfl
            rw [sv_zero] at hz
            unfold sv at hz
            have hp := pw_pos e
            have hm' : (m : Rat) ≠ 0 := by exact_mod_cast hm
            have hne : (m : Rat) * (2 : Rat) ^ e ≠ 0 := mul_ne hm' (Rat.ne_of_gt hp)
            cases s with
            | true =>
              have hz : -(m : Rat) * (2 : Rat) ^ e = 0 := hz
              rw [Rat.neg_mul] at hz
              exact hne (neg_inj (hz.trans (by rfl)))
            | false => exact hne hz
          have habs : (m : Rat) * (2 : Rat) ^ e = (z : Rat) * (2 : Rat) ^ t := by
            unfold sv at hz
            cases s <;> simp at hz <;> grind
          have k1 : (2 : Rat) ^ ((m.log2 : Int) + e) ≤ (m : Rat) * (2 : Rat) ^ e := by
            rw [pw_add, pw_nat]
            exact Rat.mul_le_mul_of_nonneg_right (by exact_mod_cast hlow) (Rat.le_of_lt (pw_pos e))
          have k2 : (z : Rat) * (2 : Rat) ^ t < (2 : Rat) ^ ((f.fractionBits : Int) + 1 + t) := by
            have : (2 : Rat) ^ ((f.fractionBits : Int) + 1 + t) = ((2 ^ (f.fractionBits + 1) : Nat) : Rat) * (2 : Rat) ^ t := by
              rw [pw_add, ← pw_nat]
              congr 2
            rw [this]
            have hz4 : z < 2 ^ (f.fractionBits + 1) := by rw [Nat.pow_succ, Nat.mul_comm, ← hbp]; exact hz2
            exact Rat.mul_lt_mul_of_pos_right (by exact_mod_cast hz4) (pw_pos t)
          have := pw_lt (Std.lt_of_le_of_lt (habs ▸ k1) k2)
          omega
        have : n = z * 2 ^ (t - last + d).toNat := by
          obtain ⟨u, hu⟩ : ∃ u : Nat, u = (t - last + d).toNat := ⟨_, rfl⟩
          rw [← hu]
          have ht2 : t = last - d + (u : Int) := by omega
          rw [ht2, ← sv_up] at hz3
          unfold sv at hz3
          have hp := pw_pos (last - d)
          have : (n : Rat) = ((z * 2 ^ u : Nat) : Rat) := by
            have hz4 : (n : Rat) * (2 : Rat) ^ (last - d) = ((z * 2 ^ u : Nat) : Rat) * (2 : Rat) ^ (last - d) := by
              cases s with
              | true =>
                have hz3 : -(n : Rat) * (2 : Rat) ^ (last - d) = -((z * 2 ^ u : Nat) : Rat) * (2 : Rat) ^ (last - d) := hz3
                rw [Rat.neg_mul, Rat.neg_mul] at hz3
                exact neg_inj hz3
              | false => exact hz3
            exact mul_cancel (Rat.ne_of_gt hp) hz4
          exact_mod_cast this
        rw [this]
        refine Nat.dvd_trans ?_ (Nat.dvd_mul_left _ _)
        exact Nat.pow_dvd_pow 2 (by omega)
      rw [hcd, cut_whole s n d this]
def Bd (J : Int) (v : Rat) : Prop := -(2 : Rat) ^ J < v ∧ v < (2 : Rat) ^ J
def Rep (f : Format) (v : Rat) : Prop := ∃ (n t : Int), v = (n : Rat) * (2 : Rat) ^ t ∧ n.natAbs < 2 * f.binade ∧ f.leastPlace ≤ t
theorem sv_bd {s : Bool} {m : Nat} {e J : Int} (h : Bd J (sv s m e)) (hm : m ≠ 0) : (m.log2 : Int) + e < J := by
  have hp := pw_pos e
  have hlow : 2 ^ m.log2 ≤ m := (Nat.le_log2 hm).1 (Nat.le_refl _)
  have k1 : (2 : Rat) ^ ((m.log2 : Int) + e) ≤ (m : Rat) * (2 : Rat) ^ e := by
    rw [pw_add, pw_nat]
    exact Rat.mul_le_mul_of_nonneg_right (by exact_mod_cast hlow) (Rat.le_of_lt (pw_pos e))
  have k2 : (m : Rat) * (2 : Rat) ^ e < (2 : Rat) ^ J := by
    unfold Bd sv at h
    cases s with
    | true =>
      have h1 := h.1
      simp at h1
      rw [Rat.neg_mul] at h1
      exact Rat.neg_lt_neg_iff.1 h1
    | false => exact h.2
  exact pw_lt (Std.lt_of_le_of_lt k1 k2)
theorem int_nat (n : Int) : (n : Rat) = if n < 0 then -(n.natAbs : Rat) else (n.natAbs : Rat) := by
  by_cases h : n < 0
  · rw [if_pos h]
    have : n = -(n.natAbs : Int) := by omega
    have h2 : (n : Rat) = ((-(n.natAbs : Int) : Int) : Rat) := by rw [← this]
    rw [h2]
    rfl
  · rw [if_neg h]
    have : n = (n.natAbs : Int) := by omega
    have h2 : (n : Rat) = (((n.natAbs : Int) : Int) : Rat) := by rw [← this]
    rw [h2]
    rfl
theorem near {f : Format} (hf : Good f) {s : Bool} {m : Nat} {e J : Int} (h : Bd J (sv s m e)) (hJ : J ≤ top f) :
    ∃ v, Fv f (f.nearest s m e) v ∧ Nr (hu f J) v (sv s m e) ∧ (Rep f (sv s m e) → v = sv s m e) := by
  obtain ⟨v, h1, h2, h3⟩ := near_val hf s m e J (sv_bd h) hJ
  refine ⟨v, h1, h2, fun hr => h3 ?_⟩
  obtain ⟨n, t, hn, hb, ht⟩ := hr
  refine ⟨n.natAbs, t, ?_, hb, ht⟩
  have hp := pw_pos e
  have hq := pw_pos t
  rw [hn, int_nat]
  have hm0 : (0 : Rat) ≤ (m : Rat) := by exact_mod_cast Nat.zero_le m
  have hn0 : (0 : Rat) ≤ (n.natAbs : Rat) := by exact_mod_cast Nat.zero_le _
  have a1 := Rat.mul_nonneg hm0 (Rat.le_of_lt hp)
  have a2 := Rat.mul_nonneg hn0 (Rat.le_of_lt hq)
  rw [int_nat] at hn
  unfold sv at hn ⊢
  clear h1 h2 h3 h hb ht hm0 hn0 hp hq
  cases s with
  | true =>
    simp only [if_true] at hn ⊢
    split at hn
    · rename_i hneg
      rw [if_pos hneg]
    · rename_i hneg
      rw [if_neg hneg]
      rw [Rat.neg_mul] at hn ⊢
      grind
  | false =>
    simp only [Bool.false_eq_true, if_false] at hn ⊢
    split at hn
    · rename_i hneg
      rw [if_pos hneg]
      rw [Rat.neg_mul] at hn ⊢
      grind
    · rename_i hneg
      rw [if_neg hneg]
theorem sv_opp (s : Bool) (m : Nat) (e : Int) : sv (!s) m e = -sv s m e := by
  unfold sv
  cases s <;> simp <;> grind
theorem signed_val (s : Bool) (m up : Nat) (e : Int) : ((signed s m up : Int) : Rat) * (2 : Rat) ^ e = sv s m (e + up) := by
  rw [← sv_up]
  unfold signed sv
  rw [Nat.shiftLeft_eq]
  cases s with
  | true =>
    simp only [if_true]
    congr 1
  | false =>
    simp only [Bool.false_eq_true, if_false]
    congr 1
theorem total_val (s : Bool) (z : Int) (e : Int) (hs : z ≠ 0 → s = decide (z < 0)) : sv s z.natAbs e = (z : Rat) * (2 : Rat) ^ e := by
  by_cases h : z = 0
  · subst h
    show sv s 0 e = _
    rw [sv_zero]
    have : ((0 : Int) : Rat) = 0 := rfl
    rw [this, Rat.zero_mul]
  · rw [hs h, int_nat]
    unfold sv
    by_cases hz : z < 0 <;> simp [hz]
theorem sum_val {f : Format} (hf : Good f) {d e : Datum} {s t : Bool} {m n : Nat} {i j : Int} {a b : Rat} (hd : d = .number s m i) (he : e = .number t n j) (ha : sv s m i = a) (hb : sv t n j = b) {J : Int} (h : Bd J (a + b)) (hJ : J ≤ top f) :
    ∃ r c, (d.sum e).map f.write = some r ∧ Fv f r c ∧ Nr (hu f J) c (a + b) ∧ (Rep f (a + b) → c = a + b) := by
  subst hd he
  have key : sv (if signed s m (i - min i j).toNat + signed t n (j - min i j).toNat = 0 then s && t else decide (signed s m (i - min i j).toNat + signed t n (j - min i j).toNat < 0)) (signed s m (i - min i j).toNat + signed t n (j - min i j).toNat).natAbs (min i j) = a + b := by
    rw [total_val _ _ _ (fun h => by rw [if_neg h])]
    rw [Rat.intCast_add, Rat.add_mul, signed_val, signed_val]
    rw [show min i j + ((i - min i j).toNat : Int) = i by omega, show min i j + ((j - min i j).toNat : Int) = j by omega, ha, hb]
  rw [← key] at h ⊢
  obtain ⟨v, h1, h2, h3⟩ := near hf h hJ
  exact ⟨_, v, rfl, h1, h2, h3⟩
theorem add_val {f : Format} (hf : Good f) {x y : Nat} {a b : Rat} (hx : Fv f x a) (hy : Fv f y b) {J : Int} (h : Bd J (a + b)) (hJ : J ≤ top f) :
    ∃ r c, f.add x y = some r ∧ Fv f r c ∧ Nr (hu f J) c (a + b) ∧ (Rep f (a + b) → c = a + b) := by
  obtain ⟨s, m, i, hx, ha⟩ := hx
  obtain ⟨t, n, j, hy, hb⟩ := hy
  exact sum_val hf hx hy ha hb h hJ
theorem sub_val {f : Format} (hf : Good f) {x y : Nat} {a b : Rat} (hx : Fv f x a) (hy : Fv f y b) {J : Int} (h : Bd J (a - b)) (hJ : J ≤ top f) :
    ∃ r c, f.sub x y = some r ∧ Fv f r c ∧ Nr (hu f J) c (a - b) ∧ (Rep f (a - b) → c = a - b) := by
  obtain ⟨s, m, i, hx, ha⟩ := hx
  obtain ⟨t, n, j, hy, hb⟩ := hy
  have hy2 : (f.read y).opposite = .number (!t) n j := by rw [hy]; rfl
  rw [Rat.sub_eq_add_neg] at h ⊢
  exact sum_val hf hx hy2 ha ((sv_opp _ _ _).trans (by rw [hb])) h hJ
theorem sv_mul (s t : Bool) (m n : Nat) (i j : Int) : sv (s ^^ t) (m * n) (i + j) = sv s m i * sv t n j := by
  unfold sv
  rw [pw_add, Rat.natCast_mul]
  cases s <;> cases t <;> simp <;> grind
theorem mul_val {f : Format} (hf : Good f) {x y : Nat} {a b : Rat} (hx : Fv f x a) (hy : Fv f y b) {J : Int} (h : Bd J (a * b)) (hJ : J ≤ top f) :
    ∃ r c, f.mul x y = some r ∧ Fv f r c ∧ Nr (hu f J) c (a * b) ∧ (Rep f (a * b) → c = a * b) := by
  obtain ⟨s, m, i, hx, ha⟩ := hx
  obtain ⟨t, n, j, hy, hb⟩ := hy
  rw [← ha, ← hb, ← sv_mul] at h ⊢
  obtain ⟨v, h1, h2, h3⟩ := near hf h hJ
  refine ⟨_, v, ?_, h1, h2, h3⟩
  unfold Format.mul
  rw [hx, hy]
  rfl
theorem Fv.one {f : Format} {x : Nat} {a b : Rat} (h : Fv f x a) (k : Fv f x b) : a = b := by
  obtain ⟨s, m, e, h1, h2⟩ := h
  obtain ⟨t, n, j, k1, k2⟩ := k
  rw [h1] at k1
  cases k1
  exact h2.symm.trans k2
def cmp (a b : Rat) : Ordering := if a < b then .lt else if a = b then .eq else .gt
theorem order_val {f : Format} {x y : Nat} {a b : Rat} (hx : Fv f x a) (hy : Fv f y b) : f.order x y = some (cmp a b) := by
  obtain ⟨s, m, i, hx, ha⟩ := hx
  obtain ⟨t, n, j, hy, hb⟩ := hy
  unfold Format.order
  rw [hx, hy]
  show some (compare (signed s m (i - min i j).toNat) (signed t n (j - min i j).toNat)) = _
  have ea : ((signed s m (i - min i j).toNat : Int) : Rat) * (2 : Rat) ^ (min i j) = a := by
    rw [signed_val, show min i j + ((i - min i j).toNat : Int) = i by omega, ha]
  have eb : ((signed t n (j - min i j).toNat : Int) : Rat) * (2 : Rat) ^ (min i j) = b := by
    rw [signed_val, show min i j + ((j - min i j).toNat : Int) = j by omega, hb]
  have hp := pw_pos (min i j)
  generalize signed s m (i - min i j).toNat = p at *
  generalize signed t n (j - min i j).toNat = q at *
  subst ea eb
  unfold cmp
  by_cases h1 : p < q
  · have : (p : Rat) * (2 : Rat) ^ min i j < (q : Rat) * (2 : Rat) ^ min i j := Rat.mul_lt_mul_of_pos_right (by exact_mod_cast h1) hp
    rw [if_pos this]
    rw [Int.compare_eq_lt.2 h1]
  · by_cases h2 : p = q
    · subst h2
      rw [if_neg (Rat.lt_irrefl), if_pos rfl]
      rw [Int.compare_eq_eq.2 rfl]
    · have h3 : q < p := by omega
      have : (q : Rat) * (2 : Rat) ^ min i j < (p : Rat) * (2 : Rat) ^ min i j := Rat.mul_lt_mul_of_pos_right (by exact_mod_cast h3) hp
      rw [if_neg (by grind), if_neg (by grind)]
      rw [Int.compare_eq_gt.2 h3]
theorem int_val {f : Format} (hf : Good f) (n : Int) (h : n.natAbs < 2 * f.binade) : Fv f (f.nearest (decide (n < 0)) n.natAbs 0) (n : Rat) := by
  have hv : sv (decide (n < 0)) n.natAbs 0 = (n : Rat) := by
    rw [total_val _ _ _ (fun _ => rfl), Rat.zpow_zero, Rat.mul_one]
  obtain ⟨v, h1, -, h3⟩ := near_val hf (decide (n < 0)) n.natAbs 0 (f.fractionBits + 1) (by
    intro h0
    have : n.natAbs < 2 ^ (f.fractionBits + 1) := by rw [Nat.pow_succ, Nat.mul_comm]; exact h
    have := (Nat.log2_lt h0).2 this
    omega) (by rcases hf with rfl | rfl <;> decide)
  rw [hv] at h3
  have hl : f.leastPlace ≤ 0 := by rcases hf with rfl | rfl <;> decide
  have : v = (n : Rat) := h3 ⟨n.natAbs, 0, hv.symm, h, hl⟩
  rwa [this] at h1
theorem abs_eq {ε X W : Rat} (he : ε = 1 ∨ ε = -1) (hX : 0 ≤ W) (hW : 0 ≤ X) (h : X = ε * W ∨ -X = ε * W) : X = W := by
  rcases he with rfl | rfl <;> rcases h with h | h <;> grind
theorem quo_gap {Q R n : Nat} {P q ε w : Rat} (hn : 0 < n) (hR : R < n) (hP : 0 < P) (he : ε = 1 ∨ ε = -1) (hq : q * n = ε * ((Q * n + R : Nat) : Rat) * (2 * P)) (hw : w = ε * ((2 * Q + (R != 0).toNat : Nat) : Rat) * P) : Nr P w q ∧ (R = 0 → w = q) := by
  have hn' : (0 : Rat) < (n : Rat) := by exact_mod_cast hn
  have hR' : (R : Rat) ≤ (n : Rat) := by exact_mod_cast Nat.le_of_lt hR
  have hR0 : (0 : Rat) ≤ (R : Rat) := by exact_mod_cast Nat.zero_le R
  have b1 := Rat.mul_nonneg (Rat.le_of_lt hP) hR0
  have b2 := Rat.mul_le_mul_of_nonneg_left hR' (Rat.le_of_lt hP)
  rw [Rat.natCast_add, Rat.natCast_mul] at hq hw
  have e1 : w * n = ε * (2 * (P * (Q : Rat) * n) + (((R != 0).toNat : Nat) : Rat) * (P * n)) := by rw [hw]; grind
  have e2 : q * n = ε * (2 * (P * (Q : Rat) * n) + 2 * (P * R)) := by rw [hq]; grind
  have hs : (((R != 0).toNat : Nat) : Rat) = 1 ∨ ((((R != 0).toNat : Nat) : Rat) = 0 ∧ R = 0) := by
    by_cases h : R = 0
    · subst h
      exact .inr ⟨rfl, rfl⟩
    · left
      have : (R != 0) = true := by simp [h]
      rw [this]
      rfl
  have hz : R = 0 → (R : Rat) = 0 := by rintro rfl; rfl
  have hz2 : R = 0 → (((R != 0).toNat : Nat) : Rat) = 0 := by rintro rfl; rfl
  generalize hA : P * (Q : Rat) * n = A at *
  generalize hB : P * (R : Rat) = B at *
  generalize hC : P * (n : Rat) = C at *
  generalize (((R != 0).toNat : Nat) : Rat) = σ at *
  have e3 : (q + P) * n = q * n + C := by rw [Rat.add_mul, hC]
  have e4 : (w + P) * n = w * n + C := by rw [Rat.add_mul, hC]
  refine ⟨⟨?_, ?_⟩, ?_⟩
  · refine Rat.le_of_mul_le_mul_right ?_ hn'
    rw [e3, e1, e2]
    clear hq hw e1 e2 e3 e4 hz hz2 hA hC
    rcases hs with hs | ⟨hs, h0⟩
    · subst hs
      rcases he with rfl | rfl <;> grind
    · subst hs
      have : B = 0 := by rw [← hB, h0]; exact Rat.mul_zero _
      rcases he with rfl | rfl <;> grind
  · refine Rat.le_of_mul_le_mul_right ?_ hn'
    rw [e4, e1, e2]
    clear hq hw e1 e2 e3 e4 hz hz2 hA hC
    rcases hs with hs | ⟨hs, h0⟩
    · subst hs
      rcases he with rfl | rfl <;> grind
    · subst hs
      have : B = 0 := by rw [← hB, h0]; exact Rat.mul_zero _
      rcases he with rfl | rfl <;> grind
  · intro h0
    have hB0 : B = 0 := by rw [← hB, hz h0]; exact Rat.mul_zero _
    refine mul_cancel (Rat.ne_of_gt hn') ?_
    rw [e1, e2, hz2 h0, hB0]
    grind
theorem quo_val {f : Format} (hf : Good f) {x y : Nat} {a b q : Rat} (hx : Fv f x a) (hy : Fv f y b) (hb : b ≠ 0) (hq : q * b = a) {J : Int} (h : Bd J q) (hJ : J ≤ top f) :
    ∃ r c, f.div x y = some r ∧ Fv f r c ∧ Nr (2 * hu f J) c q ∧ (Rep f q → c = q) := by
  obtain ⟨s, m, i, hx, ha⟩ := hx
  obtain ⟨t, n, j, hy, hbb⟩ := hy
  have hn0 : n ≠ 0 := by
    rintro rfl
    rw [sv_zero] at hbb
    exact hb hbb.symm
  unfold Format.div
  rw [hx, hy]
  show ∃ r c, (Datum.quotient (f.fractionBits + 2) (.number s m i) (.number t n j)).map f.write = some r ∧ _
  unfold Datum.quotient
  simp only [hn0, if_false]
  obtain ⟨more, hmore⟩ : ∃ more, more = f.fractionBits + 2 + n.log2 - m.log2 := ⟨_, rfl⟩
  rw [← hmore, Nat.shiftLeft_eq]
  obtain ⟨Q, hQ⟩ : ∃ Q, Q = m * 2 ^ more / n := ⟨_, rfl⟩
  obtain ⟨R, hR⟩ : ∃ R, R = m * 2 ^ more % n := ⟨_, rfl⟩
  rw [← hQ, ← hR]
  have hnp : 0 < n := Nat.pos_of_ne_zero hn0
  have hdm : m * 2 ^ more = Q * n + R := by
    have := Nat.div_add_mod (m * 2 ^ more) n
    rw [← hQ, ← hR, Nat.mul_comm] at this
    exact this.symm
  have hRn : R < n := by rw [hR]; exact Nat.mod_lt _ hnp
  obtain ⟨p, hp⟩ : ∃ p : Int, p = i - j - more - 1 := ⟨_, rfl⟩
  rw [← hp]
  have hPp := pw_pos p
  obtain ⟨ε, hε⟩ : ∃ ε : Rat, ε = if (s ^^ t) = true then -1 else 1 := ⟨_, rfl⟩
  have he : ε = 1 ∨ ε = -1 := by rw [hε]; split <;> grind
  have hw : sv (s ^^ t) (2 * Q + (R != 0).toNat) p = ε * ((2 * Q + (R != 0).toNat : Nat) : Rat) * (2 : Rat) ^ p := by
    unfold sv
    rw [hε]
    split <;> grind
  have h2p : (2 : Rat) ^ (p + 1) = 2 * (2 : Rat) ^ p := by rw [pw_add]; rw [Rat.mul_comm]; rfl
  have hqn : q * n = ε * ((Q * n + R : Nat) : Rat) * (2 * (2 : Rat) ^ p) := by
    rw [← hdm, Rat.natCast_mul, ← pw_nat, ← h2p]
    have hpj := pw_pos j
    refine mul_cancel (Rat.ne_of_gt hpj) ?_
    have e5 : ε * ((m : Rat) * (2 : Rat) ^ (more : Int)) * (2 : Rat) ^ (p + 1) * (2 : Rat) ^ j = ε * (m : Rat) * (2 : Rat) ^ i := by
      have : (2 : Rat) ^ i = (2 : Rat) ^ (more : Int) * (2 : Rat) ^ (p + 1) * (2 : Rat) ^ j := by
        rw [← pw_add, ← pw_add]
        congr 1
        omega
      rw [this]
      grind
    rw [e5]
    rw [← ha, ← hbb] at hq
    unfold sv at hq
    rw [hε]
    clear hw e5 he
    cases s <;> cases t <;> simp at hq ⊢ <;> grind
  obtain ⟨hgap, hex⟩ := quo_gap hnp hRn hPp he hqn hw
  by_cases hm : m = 0
  · subst hm
    have hq0 : q = 0 := by
      rw [sv_zero] at ha
      subst ha
      exact (Rat.mul_eq_zero.1 hq).resolve_right hb
    have hR0 : R = 0 := by rw [hR, Nat.zero_mul, Nat.zero_mod]
    have hwq := hex hR0
    rw [← hwq] at h ⊢
    obtain ⟨v, h1, h2, h3⟩ := near hf h hJ
    refine ⟨_, v, rfl, h1, h2.mono ?_, h3⟩
    have := pw_pos (max (J - 1 - f.fractionBits) f.leastPlace - 1)
    show hu f J ≤ 2 * hu f J
    have : (0 : Rat) < hu f J := this
    grind
  · have hlow : 2 ^ m.log2 ≤ m := (Nat.le_log2 hm).1 (Nat.le_refl _)
    have hnhigh : n < 2 ^ (n.log2 + 1) := Nat.lt_log2_self
    have hQb : 2 ^ (f.fractionBits + 1) ≤ Q := by
      rw [hQ]
      refine (Nat.le_div_iff_mul_le hnp).2 ?_
      have k1 : 2 ^ (f.fractionBits + 1) * n ≤ 2 ^ (f.fractionBits + 1) * 2 ^ (n.log2 + 1) := Nat.mul_le_mul_left _ (by omega)
      have k2 : 2 ^ m.log2 * 2 ^ more ≤ m * 2 ^ more := Nat.mul_le_mul_right _ hlow
      rw [← Nat.pow_add] at k1 k2
      have k3 : 2 ^ (f.fractionBits + 1 + (n.log2 + 1)) ≤ 2 ^ (m.log2 + more) := Nat.pow_le_pow_right (by decide) (by omega)
      omega
    have hBw : Bd J (sv (s ^^ t) (2 * Q + (R != 0).toNat) p) := by
      have habs : ((Q * n : Nat) : Rat) * (2 : Rat) ^ (p + 1) < (2 : Rat) ^ J * n := by
        have hn' : (0 : Rat) < (n : Rat) := by exact_mod_cast hnp
        have g1 := Rat.mul_lt_mul_of_pos_right h.1 hn'
        have g2 := Rat.mul_lt_mul_of_pos_right h.2 hn'
        rw [hqn] at g1 g2
        have hR0 : (0 : Rat) ≤ (R : Rat) := by exact_mod_cast Nat.zero_le R
        have g3 := Rat.mul_nonneg hR0 (Rat.le_of_lt hPp)
        rw [h2p]
        rw [Rat.natCast_add] at g1 g2
        clear hw hqn hgap hex hε
        rcases he with rfl | rfl <;> grind
      have hQlt : (Q : Rat) * (2 : Rat) ^ (p + 1) < (2 : Rat) ^ J := by
        have hn' : (0 : Rat) < (n : Rat) := by exact_mod_cast hnp
        refine Rat.lt_of_mul_lt_mul_right (c := (n : Rat)) ?_ (Rat.le_of_lt hn')
        rw [Rat.natCast_mul] at habs
        grind
      have hexp : (f.fractionBits : Int) + 1 + (p + 1) < J := by
        refine pw_lt (Std.lt_of_le_of_lt ?_ hQlt)
        rw [pw_add, show ((f.fractionBits : Int) + 1) = ((f.fractionBits + 1 : Nat) : Int) by omega, pw_nat]
        exact Rat.mul_le_mul_of_nonneg_right (by exact_mod_cast hQb) (Rat.le_of_lt (pw_pos _))
      obtain ⟨u, hu⟩ : ∃ u : Nat, J = (u : Int) + (p + 1) := ⟨(J - (p + 1)).toNat, by omega⟩
      have hQu : Q + 1 ≤ 2 ^ u := by
        have : (Q : Rat) < ((2 ^ u : Nat) : Rat) := by
          rw [hu, pw_add (u : Int) (p + 1), pw_nat] at hQlt
          exact Rat.lt_of_mul_lt_mul_right hQlt (Rat.le_of_lt (pw_pos _))
        have : Q < 2 ^ u := by exact_mod_cast this
        omega
      have hlt : ((2 * Q + (R != 0).toNat : Nat) : Rat) * (2 : Rat) ^ p < (2 : Rat) ^ J := by
        rw [hu, pw_add, pw_nat, h2p]
        have k1 : 2 * Q + (R != 0).toNat < 2 ^ u * 2 := by
          have : (R != 0).toNat ≤ 1 := by cases (R != 0) <;> decide
          omega
        have k2 : ((2 * Q + (R != 0).toNat : Nat) : Rat) < ((2 ^ u * 2 : Nat) : Rat) := by exact_mod_cast k1
        have := Rat.mul_lt_mul_of_pos_right k2 hPp
        have k3 : ((2 ^ u * 2 : Nat) : Rat) = ((2 ^ u : Nat) : Rat) * 2 := by rw [Rat.natCast_mul]; rfl
        rw [k3, Rat.mul_assoc] at this
        exact this
      have hge : (0 : Rat) ≤ ((2 * Q + (R != 0).toNat : Nat) : Rat) * (2 : Rat) ^ p := Rat.mul_nonneg (by exact_mod_cast Nat.zero_le _) (Rat.le_of_lt hPp)
      rw [hw]
      have hJp := pw_pos J
      unfold Bd
      clear hw hqn hgap hex hε hQlt habs
      generalize ((2 * Q + (R != 0).toNat : Nat) : Rat) = W at *
      rcases he with rfl | rfl <;> grind
    obtain ⟨v, h1, h2, h3⟩ := near hf hBw hJ
    have htiny : (2 : Rat) ^ p ≤ hu f J := by
      have hexp : (f.fractionBits : Int) + 2 + p < J := by
        have hne : 2 * Q + (R != 0).toNat ≠ 0 := by have := Nat.two_pow_pos (f.fractionBits + 1); omega
        have := sv_bd hBw hne
        have h8 : f.fractionBits + 2 ≤ (2 * Q + (R != 0).toNat).log2 := (Nat.le_log2 hne).2 (by rw [Nat.pow_succ]; omega)
        omega
      exact pw_mono (by omega)
    refine ⟨_, v, rfl, h1, ?_, ?_⟩
    · unfold Nr at *
      generalize sv (s ^^ t) (2 * Q + (R != 0).toNat) p = w at *
      clear hw hqn
      grind
    · intro hrep
      have hR0 : R = 0 := by
        obtain ⟨z, t', hz, hzb, htl⟩ := hrep
        have hbin : f.binade = 2 ^ f.fractionBits := rfl
        have hzn : (z.natAbs : Rat) * n * (2 : Rat) ^ t' = ((Q * n + R : Nat) : Rat) * (2 : Rat) ^ (p + 1) := by
          rw [hz] at hqn
          rw [h2p]
          have hge : (0 : Rat) ≤ ((Q * n + R : Nat) : Rat) * (2 * (2 : Rat) ^ p) := Rat.mul_nonneg (by exact_mod_cast Nat.zero_le _) (by grind)
          have hge2 : (0 : Rat) ≤ (z.natAbs : Rat) * n * (2 : Rat) ^ t' := Rat.mul_nonneg (Rat.mul_nonneg (by exact_mod_cast Nat.zero_le _) (by exact_mod_cast Nat.zero_le _)) (Rat.le_of_lt (pw_pos _))
          rw [int_nat] at hqn
          have e7 : ε * ((Q * n + R : Nat) : Rat) * (2 * (2 : Rat) ^ p) = ε * (((Q * n + R : Nat) : Rat) * (2 * (2 : Rat) ^ p)) := Rat.mul_assoc _ _ _
          rw [e7] at hqn
          have e8 : ∀ c : Rat, c * (2 : Rat) ^ t' * n = c * n * (2 : Rat) ^ t' := fun c => by grind
          rw [e8] at hqn
          have e9 : (-(z.natAbs : Rat)) * n * (2 : Rat) ^ t' = -((z.natAbs : Rat) * n * (2 : Rat) ^ t') := by grind
          revert hge hge2 hqn
          generalize ((Q * n + R : Nat) : Rat) * (2 * (2 : Rat) ^ p) = W
          split
          · rw [e9]
            generalize (z.natAbs : Rat) * n * (2 : Rat) ^ t' = X
            intro g1 g2 g3
            exact abs_eq he g2 g3 (.inr g1)
          · generalize (z.natAbs : Rat) * n * (2 : Rat) ^ t' = X
            intro g1 g2 g3
            exact abs_eq he g2 g3 (.inl g1)
        have hu1 : p + 1 < t' := by
          have k1 : (2 : Rat) ^ ((f.fractionBits : Int) + 1 + (p + 1)) * n ≤ ((Q * n + R : Nat) : Rat) * (2 : Rat) ^ (p + 1) := by
            rw [pw_add, show ((f.fractionBits : Int) + 1) = ((f.fractionBits + 1 : Nat) : Int) by omega, pw_nat]
            have : 2 ^ (f.fractionBits + 1) * n ≤ Q * n + R := by
              have := Nat.mul_le_mul_right n hQb
              omega
            have k2 : ((2 ^ (f.fractionBits + 1) * n : Nat) : Rat) ≤ ((Q * n + R : Nat) : Rat) := by exact_mod_cast this
            have := Rat.mul_le_mul_of_nonneg_right k2 (Rat.le_of_lt (pw_pos (p + 1)))
            rw [Rat.natCast_mul] at this
            grind
          have k3 : (z.natAbs : Rat) * n * (2 : Rat) ^ t' < (2 : Rat) ^ ((f.fractionBits : Int) + 1 + t') * n := by
            rw [pw_add, show ((f.fractionBits : Int) + 1) = ((f.fractionBits + 1 : Nat) : Int) by omega, pw_nat]
            have hzb2 : z.natAbs < 2 ^ (f.fractionBits + 1) := by rw [Nat.pow_succ, Nat.mul_comm, ← hbin]; exact hzb
            have k2 : (z.natAbs : Rat) < ((2 ^ (f.fractionBits + 1) : Nat) : Rat) := by exact_mod_cast hzb2
            have hn' : (0 : Rat) < (n : Rat) := by exact_mod_cast hnp
            have k4 := Rat.mul_lt_mul_of_pos_right (Rat.mul_lt_mul_of_pos_right k2 hn') (pw_pos t')
            grind
          have hn' : (0 : Rat) < (n : Rat) := by exact_mod_cast hnp
          rw [hzn] at k3
          have := pw_lt (Rat.lt_of_mul_lt_mul_right (Std.lt_of_le_of_lt k1 k3) (Rat.le_of_lt hn'))
          omega
        obtain ⟨u, hu⟩ : ∃ u : Nat, t' = (u : Int) + (p + 1) := ⟨(t' - (p + 1)).toNat, by omega⟩
        have hdiv : z.natAbs * n * 2 ^ u = Q * n + R := by
          rw [hu, pw_add, pw_nat, ← Rat.mul_assoc] at hzn
          have := mul_cancel (Rat.ne_of_gt (pw_pos (p + 1))) hzn
          exact_mod_cast this
        have hmod : (Q * n + R) % n = 0 := by
          rw [← hdiv, Nat.mul_right_comm]
          exact Nat.mul_mod_left _ _
        rw [Nat.mul_comm, Nat.mul_add_mod, Nat.mod_eq_of_lt hRn] at hmod
        exact hmod
      have hwq := hex hR0
      rw [← hwq]
      rw [← hwq] at hrep
      exact h3 hrep
theorem root_low (n : Nat) : ∀ (todo root : Nat), root * root ≤ n → Datum.rootFrom n todo root * Datum.rootFrom n todo root ≤ n
  | 0, root, h => h
  | todo + 1, root, h => by
    unfold Datum.rootFrom
    simp only []
    split
    · rename_i hl
      exact root_low n todo _ hl
    · exact root_low n todo _ h
theorem root_high (n : Nat) : ∀ (todo root : Nat), n < (root + 2 ^ todo) * (root + 2 ^ todo) → n < (Datum.rootFrom n todo root + 1) * (Datum.rootFrom n todo root + 1)
  | 0, root, h => h
  | todo + 1, root, h => by
    unfold Datum.rootFrom
    simp only [Nat.shiftLeft_eq, Nat.one_mul]
    split
    · rename_i hl
      refine root_high n todo _ ?_
      have : root + 2 ^ todo + 2 ^ todo = root + 2 ^ (todo + 1) := by rw [Nat.pow_succ]; omega
      rw [this]
      exact h
    · rename_i hl
      exact root_high n todo _ (by omega)
theorem root_whole (n : Nat) : Datum.rootFrom n (n.log2 / 2 + 1) 0 * Datum.rootFrom n (n.log2 / 2 + 1) 0 ≤ n ∧ n < (Datum.rootFrom n (n.log2 / 2 + 1) 0 + 1) * (Datum.rootFrom n (n.log2 / 2 + 1) 0 + 1) := by
  refine ⟨root_low n _ 0 (by omega), root_high n _ 0 ?_⟩
  rw [Nat.zero_add, ← Nat.pow_add]
  have : n < 2 ^ (n.log2 + 1) := Nat.lt_log2_self
  exact Nat.lt_of_lt_of_le this (Nat.pow_le_pow_right (by decide) (by omega))
theorem sq_lt {a b : Nat} (h : a * a < b * b) : a < b := by
  apply Classical.byContradiction
  intro hn
  have := Nat.mul_self_le_mul_self (show b ≤ a by omega)
  omega
theorem rsq_le {a b : Rat} (hb : 0 ≤ b) (h : a * a ≤ b * b) : a ≤ b := by
  apply Classical.byContradiction
  intro hn
  have hlt : b < a := by grind
  have h1 := Rat.mul_le_mul_of_nonneg_left (Rat.le_of_lt hlt) hb
  have h2 := Rat.mul_lt_mul_of_pos_right hlt (show 0 < a by grind)
  grind
theorem rsq_lt {a b : Rat} (hb : 0 ≤ b) (h : a * a < b * b) : a < b := by
  apply Classical.byContradiction
  intro hn
  have hlt : b ≤ a := by grind
  have h1 := Rat.mul_le_mul_of_nonneg_left hlt hb
  have h2 := Rat.mul_le_mul_of_nonneg_right hlt (show 0 ≤ a by grind)
  grind
theorem root_val {f : Format} (hf : Good f) {x : Nat} {a : Rat} (hx : Fv f x a) (ha : 0 ≤ a) {J : Int} (h : a < (2 : Rat) ^ J * (2 : Rat) ^ J) (hJ : J ≤ top f) :
    ∃ r c, f.sqrt x = some r ∧ Fv f r c ∧ 0 ≤ c ∧ (∀ u, 0 ≤ u → u * u ≤ a → u ≤ c + 2 * hu f J) ∧ (∀ u, 0 ≤ u → a ≤ u * u → c ≤ u + 2 * hu f J) ∧ (∀ u, 0 ≤ u → u * u = a → Rep f u → c = u) := by
  obtain ⟨s, m, i, hx, hv⟩ := hx
  have hhu : (0 : Rat) < hu f J := pw_pos _
  unfold Format.sqrt
  rw [hx]
  unfold Datum.root
  by_cases hm : m = 0
  · subst hm
    have ha0 : a = 0 := by rw [← hv, sv_zero]
    subst ha0
    have : f.nearest s 0 i = f.word s (0 * f.binade + 0) := by unfold Format.nearest; simp
    refine ⟨f.nearest s 0 i, 0, rfl, ?_, Rat.le_refl, ?_, ?_, ?_⟩
    · rw [this]
      have := read_rung hf s 0 0 (by omega) (.inl rfl) (by rcases hf with rfl | rfl <;> decide)
      rw [sv_zero] at this
      exact this
    · intro u h0 h1
      have : u ≤ 0 := rsq_le Rat.le_refl (by grind)
      grind
    · intro u h0 _
      grind
    · intro u h0 h1 _
      have := Rat.mul_eq_zero.1 h1
      grind
  · have hs : s = false := by
      cases s with
      | false => rfl
      | true =>
        exfalso
        have h1 : (0 : Rat) < (m : Rat) := by exact_mod_cast Nat.pos_of_ne_zero hm
        have h2 := Rat.mul_pos h1 (pw_pos i)
        unfold sv at hv
        simp at hv
        rw [Rat.neg_mul] at hv
        grind
    subst hs
    simp only [hm, if_false, Bool.false_eq_true]
    obtain ⟨more0, hmore0⟩ : ∃ more0, more0 = 2 * (f.fractionBits + 2) - m.log2 := ⟨_, rfl⟩
    rw [← hmore0]
    obtain ⟨more, hmore⟩ : ∃ more : Nat, more = more0 + ((i - (more0 : Int)) % 2).toNat := ⟨_, rfl⟩
    rw [← hmore, Nat.shiftLeft_eq]
    obtain ⟨n, hn⟩ : ∃ n : Nat, n = m * 2 ^ more := ⟨_, rfl⟩
    rw [← hn]
    obtain ⟨W, hW⟩ : ∃ W : Nat, W = Datum.rootFrom n (n.log2 / 2 + 1) 0 := ⟨_, rfl⟩
    have hroot := root_whole n
    rw [← hW] at hroot ⊢
    obtain ⟨k, hk⟩ : ∃ k : Int, k = (i - more) / 2 := ⟨_, rfl⟩
    have hk2 : i - more = k + k := by omega
    rw [← hk]
    have hp := pw_pos k
    have hp1 := pw_pos (k - 1)
    have hkk : (2 : Rat) ^ k = 2 * (2 : Rat) ^ (k - 1) := by
      have : k = 1 + (k - 1) := by omega
      rw [this, pw_add]
      have : (1 : Int) + (k - 1) - 1 = k - 1 := by omega
      rw [this]
      rfl
    have hav : a = (n : Rat) * ((2 : Rat) ^ k * (2 : Rat) ^ k) := by
      rw [← hv, hn, Rat.natCast_mul, ← pw_nat, ← pw_add, Rat.mul_assoc, ← pw_add]
      unfold sv
      simp only [Bool.false_eq_true, if_false]
      congr 2
      omega
    have hlow : 2 ^ m.log2 ≤ m := (Nat.le_log2 hm).1 (Nat.le_refl _)
    have hnlow : 2 ^ (f.fractionBits + 2) * 2 ^ (f.fractionBits + 2) ≤ n := by
      have k2 : 2 ^ m.log2 * 2 ^ more ≤ m * 2 ^ more := Nat.mul_le_mul_right _ hlow
      rw [← Nat.pow_add] at k2 ⊢
      have k3 : 2 ^ (f.fractionBits + 2 + (f.fractionBits + 2)) ≤ 2 ^ (m.log2 + more) := Nat.pow_le_pow_right (by decide) (by omega)
      omega
    have hWlow : 2 ^ (f.fractionBits + 2) ≤ W := by
      have := sq_lt (Nat.lt_of_le_of_lt hnlow hroot.2)
      omega
    obtain ⟨σ, hσ⟩ : ∃ σ : Nat, σ = (W * W != n).toNat := ⟨_, rfl⟩
    rw [← hσ]
    have hσ01 : (σ = 0 ∧ W * W = n) ∨ (σ = 1 ∧ W * W ≠ n) := by
      by_cases he : W * W = n
      · left
        refine ⟨?_, he⟩
        rw [hσ, he]
        simp
      · right
        refine ⟨?_, he⟩
        rw [hσ]
        have : (W * W != n) = true := by simp [he]
        rw [this]
        rfl
    obtain ⟨w, hw⟩ : ∃ w : Rat, w = sv false (2 * W + σ) (k - 1) := ⟨_, rfl⟩
    have hw2 : w = (W : Rat) * (2 : Rat) ^ k + (σ : Rat) * (2 : Rat) ^ (k - 1) := by
      rw [hw, hkk]
      unfold sv
      simp only [Bool.false_eq_true, if_false]
      rw [Rat.natCast_add, Rat.natCast_mul]
      have : ((2 : Nat) : Rat) = 2 := rfl
      rw [this]
      grind
    have hWJ : ((W * W : Nat) : Rat) * ((2 : Rat) ^ k * (2 : Rat) ^ k) ≤ a := by
      rw [hav]
      exact Rat.mul_le_mul_of_nonneg_right (by exact_mod_cast hroot.1) (Rat.le_of_lt (Rat.mul_pos hp hp))
    have hWlt : (W : Rat) * (2 : Rat) ^ k < (2 : Rat) ^ J := by
      refine rsq_lt (Rat.le_of_lt (pw_pos J)) ?_
      rw [Rat.natCast_mul] at hWJ
      have e : (W : Rat) * (2 : Rat) ^ k * ((W : Rat) * (2 : Rat) ^ k) = (W : Rat) * (W : Rat) * ((2 : Rat) ^ k * (2 : Rat) ^ k) := by grind
      rw [e]
      exact Std.lt_of_le_of_lt hWJ h
    have hexp : (f.fractionBits : Int) + 2 + k < J := by
      refine pw_lt (Std.lt_of_le_of_lt ?_ hWlt)
      rw [pw_add, show ((f.fractionBits : Int) + 2) = ((f.fractionBits + 2 : Nat) : Int) by omega, pw_nat]
      exact Rat.mul_le_mul_of_nonneg_right (by exact_mod_cast hWlow) (Rat.le_of_lt hp)
    have hBw : Bd J w := by
      obtain ⟨u, hu⟩ : ∃ u : Nat, J = (u : Int) + k := ⟨(J - k).toNat, by omega⟩
      have hWu : W + 1 ≤ 2 ^ u := by
        have : (W : Rat) < ((2 ^ u : Nat) : Rat) := by
          rw [hu, pw_add, pw_nat] at hWlt
          exact Rat.lt_of_mul_lt_mul_right hWlt (Rat.le_of_lt hp)
        have : W < 2 ^ u := by exact_mod_cast this
        omega
      have h1 : ((W + 1 : Nat) : Rat) * (2 : Rat) ^ k ≤ (2 : Rat) ^ J := by
        rw [hu, pw_add, pw_nat]
        exact Rat.mul_le_mul_of_nonneg_right (by exact_mod_cast hWu) (Rat.le_of_lt hp)
      rw [Rat.natCast_add, Rat.add_mul] at h1
      have h2 : (0 : Rat) ≤ (W : Rat) * (2 : Rat) ^ k := Rat.mul_nonneg (by exact_mod_cast Nat.zero_le _) (Rat.le_of_lt hp)
      have h3 : ((1 : Nat) : Rat) = 1 := rfl
      have h4 : (0 : Rat) < (2 : Rat) ^ J := pw_pos J
      rw [h3] at h1
      unfold Bd
      rw [hw2]
      have h5 : (σ : Rat) = 0 ∨ (σ : Rat) = 1 := by
        rcases hσ01 with ⟨h, -⟩ | ⟨h, -⟩
        · left; rw [h]; rfl
        · right; rw [h]; rfl
      clear hw2 hw hWJ hWlt hav
      rcases h5 with h5 | h5 <;> rw [h5] <;> grind
    obtain ⟨v, h1, h2, h3⟩ := near hf (s := false) (m := 2 * W + σ) (e := k - 1) (by rw [← hw]; exact hBw) hJ
    rw [← hw] at h2 h3
    have htiny : (2 : Rat) ^ (k - 1) ≤ hu f J := pw_mono (by omega)
    have hσr : (σ : Rat) = 0 ∨ (σ : Rat) = 1 := by
      rcases hσ01 with ⟨h, -⟩ | ⟨h, -⟩
      · left; rw [h]; rfl
      · right; rw [h]; rfl
    have hv0 : 0 ≤ v := by
      obtain ⟨s', m', e', hr, hvv⟩ := h1
      have : s' = false := by
        have hneg : (f.read (f.nearest false (2 * W + σ) (k - 1))).neg = false := by
          have hle : ∃ r, r ≤ f.infRung ∧ f.nearest false (2 * W + σ) (k - 1) = f.word false r := by
            unfold Format.nearest
            split
            · exact ⟨0, Nat.zero_le _, rfl⟩
            · exact ⟨_, Nat.min_le_right _ _, rfl⟩
          obtain ⟨r, hr1, hr2⟩ := hle
          rw [hr2]
          unfold Format.read Format.word
          have hi : f.infRung < f.signWeight := by rcases hf with rfl | rfl <;> decide
          simp only [Bool.false_eq_true, if_false]
          have hq : r / f.signWeight = 0 := Nat.div_eq_of_lt (by omega)
          rw [hq]
          split
          · rfl
          · split
            · rfl
            · split
              · rfl
              · rfl
        rw [hr] at hneg
        exact hneg
      rw [← hvv, this]
      unfold sv
      simp only [Bool.false_eq_true, if_false]
      exact Rat.mul_nonneg (by exact_mod_cast Nat.zero_le _) (Rat.le_of_lt (pw_pos _))
    refine ⟨_, v, rfl, h1, hv0, ?_, ?_, ?_⟩
    · intro u hu0 hua
      have hub : u ≤ w + (2 : Rat) ^ (k - 1) := by
        rcases hσ01 with ⟨hs0, he⟩ | ⟨hs1, -⟩
        · have : u ≤ (W : Rat) * (2 : Rat) ^ k := by
            refine rsq_le (Rat.mul_nonneg (by exact_mod_cast Nat.zero_le _) (Rat.le_of_lt hp)) ?_
            have e : (W : Rat) * (2 : Rat) ^ k * ((W : Rat) * (2 : Rat) ^ k) = ((W * W : Nat) : Rat) * ((2 : Rat) ^ k * (2 : Rat) ^ k) := by rw [Rat.natCast_mul]; grind
            rw [e, he, ← hav]
            exact hua
          rw [hw2, hs0]
          have : ((0 : Nat) : Rat) = 0 := rfl
          grind
        · have : u ≤ ((W + 1 : Nat) : Rat) * (2 : Rat) ^ k := by
            refine rsq_le (Rat.mul_nonneg (by exact_mod_cast Nat.zero_le _) (Rat.le_of_lt hp)) ?_
            have e : ((W + 1 : Nat) : Rat) * (2 : Rat) ^ k * (((W + 1 : Nat) : Rat) * (2 : Rat) ^ k) = (((W + 1) * (W + 1) : Nat) : Rat) * ((2 : Rat) ^ k * (2 : Rat) ^ k) := by rw [Rat.natCast_mul]; grind
            rw [e]
            refine Rat.le_trans hua ?_
            rw [hav]
            exact Rat.mul_le_mul_of_nonneg_right (by exact_mod_cast Nat.le_of_lt hroot.2) (Rat.le_of_lt (Rat.mul_pos hp hp))
          rw [Rat.natCast_add, Rat.add_mul] at this
          rw [hw2, hs1]
          have h3 : ((1 : Nat) : Rat) = 1 := rfl
          rw [h3] at this ⊢
          clear hw2 hw hWJ hWlt hav
          grind
      unfold Nr at h2
      clear hw2 hw hWJ hWlt hav hua
      grind
    · intro u hu0 hua
      have hub : (W : Rat) * (2 : Rat) ^ k ≤ u := by
        refine rsq_le hu0 ?_
        have e : (W : Rat) * (2 : Rat) ^ k * ((W : Rat) * (2 : Rat) ^ k) = ((W * W : Nat) : Rat) * ((2 : Rat) ^ k * (2 : Rat) ^ k) := by rw [Rat.natCast_mul]; grind
        rw [e]
        exact Rat.le_trans hWJ hua
      have : w ≤ u + (2 : Rat) ^ (k - 1) := by
        rw [hw2]
        clear hw2 hw hWJ hWlt hav hua
        rcases hσr with h | h <;> rw [h] <;> grind
      unfold Nr at h2
      clear hw2 hw hWJ hWlt hav hua
      grind
    · intro u hu0 hua hrep
      have : w = u := by
        obtain ⟨z, t, hz, hzb, htl⟩ := hrep
        have hbin : f.binade = 2 ^ f.fractionBits := rfl
        have hz0 : (z.natAbs : Rat) * (2 : Rat) ^ t = u := by
          rw [int_nat] at hz
          have hge2 : (0 : Rat) ≤ (z.natAbs : Rat) * (2 : Rat) ^ t := Rat.mul_nonneg (by exact_mod_cast Nat.zero_le _) (Rat.le_of_lt (pw_pos _))
          split at hz
          · rw [Rat.neg_mul] at hz
            grind
          · exact hz.symm
        have hWu : (W : Rat) * (2 : Rat) ^ k ≤ u := by
          refine rsq_le hu0 ?_
          have e : (W : Rat) * (2 : Rat) ^ k * ((W : Rat) * (2 : Rat) ^ k) = ((W * W : Nat) : Rat) * ((2 : Rat) ^ k * (2 : Rat) ^ k) := by rw [Rat.natCast_mul]; grind
          rw [e, hua]
          exact hWJ
        have hkt : k < t := by
          have hzb2 : z.natAbs < 2 ^ (f.fractionBits + 1) := by rw [Nat.pow_succ, Nat.mul_comm, ← hbin]; exact hzb
          have k1 : (2 : Rat) ^ ((f.fractionBits : Int) + 2 + k) ≤ u := by
            refine Rat.le_trans ?_ hWu
            rw [pw_add, show ((f.fractionBits : Int) + 2) = ((f.fractionBits + 2 : Nat) : Int) by omega, pw_nat]
            exact Rat.mul_le_mul_of_nonneg_right (by exact_mod_cast hWlow) (Rat.le_of_lt hp)
          have k2 : u < (2 : Rat) ^ ((f.fractionBits : Int) + 1 + t) := by
            rw [← hz0, pw_add, show ((f.fractionBits : Int) + 1) = ((f.fractionBits + 1 : Nat) : Int) by omega, pw_nat]
            exact Rat.mul_lt_mul_of_pos_right (by exact_mod_cast hzb2) (pw_pos t)
          have := pw_lt (Std.lt_of_le_of_lt k1 k2)
          omega
        obtain ⟨d, hd⟩ : ∃ d : Nat, t = (d : Int) + k := ⟨(t - k).toNat, by omega⟩
        have hzd : ((z.natAbs * 2 ^ d : Nat) : Rat) * (2 : Rat) ^ k = u := by
          rw [← hz0, hd, pw_add, pw_nat, Rat.natCast_mul]
          grind
        have hsq : (z.natAbs * 2 ^ d) * (z.natAbs * 2 ^ d) = n := by
          have : (((z.natAbs * 2 ^ d) * (z.natAbs * 2 ^ d) : Nat) : Rat) * ((2 : Rat) ^ k * (2 : Rat) ^ k) = (n : Rat) * ((2 : Rat) ^ k * (2 : Rat) ^ k) := by
            rw [← hav, ← hua, ← hzd, Rat.natCast_mul]
            grind
          have := mul_cancel (Rat.ne_of_gt (Rat.mul_pos hp hp)) this
          exact_mod_cast this
        have hWe : W = z.natAbs * 2 ^ d := by
          have g1 := hroot.1
          have g2 := hroot.2
          rw [← hsq] at g1 g2
          have := sq_lt g2
          have : ¬ z.natAbs * 2 ^ d < W := by
            intro hlt
            have := Nat.mul_self_lt_mul_self hlt
            omega
          omega
        have hs0 : σ = 0 := by
          rcases hσ01 with ⟨h, -⟩ | ⟨-, h⟩
          · exact h
          · exact absurd (by rw [hWe]; exact hsq) h
        rw [hw2, hs0, hWe]
        have : ((0 : Nat) : Rat) = 0 := rfl
        rw [this, Rat.zero_mul, Rat.add_zero]
        exact hzd
      rw [← this] at hrep ⊢
      exact h3 hrep
open Go
theorem good (k : FloatKind) : Good k.format := by
  cases k
  · exact .inl rfl
  · exact .inr rfl
def Fk (k : FloatKind) (x : Nat) (v : Rat) : Prop := Fv k.format x v
theorem read_bounds {f : Format} (hf : Good f) {x : Nat} {s : Bool} {m : Nat} {e : Int} (h : f.read x = .number s m e) : m < 2 * f.binade ∧ f.leastPlace ≤ e ∧ e ≤ f.leastPlace + 2 ^ f.exponentBits - 3 := by
  have hb := binade_pos hf
  unfold Format.read at h
  simp only [] at h
  split at h
  · cases h
    refine ⟨by omega, by omega, ?_⟩
    rcases hf with rfl | rfl <;> decide
  · split at h
    · rename_i h1 h2
      cases h
      refine ⟨by have := Nat.mod_lt (x % f.signWeight) hb; omega, by omega, ?_⟩
      have : x % f.signWeight / f.binade < 2 ^ f.exponentBits - 1 := (Nat.div_lt_iff_lt_mul hb).2 h2
      have h3 : 3 ≤ 2 ^ f.exponentBits := by rcases hf with rfl | rfl <;> decide
      have h4 : ((2 ^ f.exponentBits : Nat) : Int) = 2 ^ f.exponentBits := by push_cast; rfl
      omega
    · split at h <;> cases h
theorem Fv.rep {f : Format} (hf : Good f) {x : Nat} {v : Rat} (h : Fv f x v) : Rep f v := by
  obtain ⟨s, m, e, h1, h2⟩ := h
  have := read_bounds hf h1
  refine ⟨if s = true then -(m : Int) else m, e, ?_, ?_, this.2.1⟩
  · rw [← h2]
    unfold sv
    cases s <;> simp <;> rfl
  · cases s <;> simp <;> exact this.1
theorem rep_wide {v : Rat} (h : Rep single v) : Rep double v := by
  obtain ⟨n, t, h1, h2, h3⟩ := h
  have a1 : single.leastPlace = -149 := by decide
  have a2 : double.leastPlace = -1074 := by decide
  have a3 : single.binade = 8388608 := by decide
  have a4 : double.binade = 4503599627370496 := by decide
  exact ⟨n, t, h1, by omega, by omega⟩
theorem fin_single {x : Nat} {v : Rat} (h : Fv single x v) : Bd 128 v := by
  obtain ⟨s, m, e, h1, h2⟩ := h
  have hb := read_bounds (.inl rfl) h1
  have a1 : single.leastPlace = -149 := by decide
  have a2 : (2 : Int) ^ single.exponentBits = 256 := by decide
  have a3 : single.binade = 8388608 := by decide
  have hm : (m : Rat) < ((2 ^ 24 : Nat) : Rat) := by
    have : m < 2 ^ 24 := by omega
    exact_mod_cast this
  have k1 := Rat.mul_lt_mul_of_pos_right hm (pw_pos e)
  have k2 : ((2 ^ 24 : Nat) : Rat) * (2 : Rat) ^ e ≤ (2 : Rat) ^ (128 : Int) := by
    rw [← pw_nat, ← pw_add]
    exact pw_mono (by omega)
  have k3 := Rat.mul_nonneg (show (0 : Rat) ≤ (m : Rat) by exact_mod_cast Nat.zero_le m) (Rat.le_of_lt (pw_pos e))
  have k4 := pw_pos 128
  rw [← h2]
  unfold Bd sv
  generalize (2 : Rat) ^ (128 : Int) = T at *
  cases s with
  | true =>
    simp only [if_true]
    rw [Rat.neg_mul]
    constructor <;> grind
  | false =>
    simp only [Bool.false_eq_true, if_false]
    constructor <;> grind
theorem not_inf {f : Format} {x : Nat} {v : Rat} (h : Fv f x v) : (f.read x).isInfinity = false := by
  obtain ⟨s, m, e, h1, -⟩ := h
  rw [h1]
  rfl
theorem wide_val {x : Nat} {v : Rat} (h : Fk .f32 x v) : ∃ r, floatToFloatBits .f32 x .f64 = some r ∧ Fk .f64 r v := by
  have hrep := rep_wide (Fv.rep (.inl rfl) h)
  have hbd := fin_single h
  obtain ⟨s, m, e, h1, h2⟩ := h
  rw [← h2] at hbd
  obtain ⟨c, g1, -, g3⟩ := near (f := double) (.inr rfl) hbd (by decide)
  rw [h2] at g3
  obtain rfl := g3 hrep
  refine ⟨_, ?_, g1⟩
  unfold floatToFloatBits
  rw [if_neg (by decide)]
  unfold FloatKind.decode
  rw [h1]
  simp only []
  have : (FloatKind.f64.format.read (FloatKind.encode .f64 (.number s m e))).isInfinity = false := not_inf g1
  rw [if_neg (by rw [this]; decide)]
  rfl
theorem narrow_val {x : Nat} {v : Rat} (h : Fk .f64 x v) {J : Int} (hb : Bd J v) (hJ : J ≤ 127) : ∃ r c, floatToFloatBits .f64 x .f32 = some r ∧ Fk .f32 r c ∧ Nr (hu single J) c v ∧ (Rep single v → c = v) := by
  obtain ⟨s, m, e, h1, h2⟩ := h
  rw [← h2] at hb ⊢
  obtain ⟨c, g1, g2, g3⟩ := near (f := single) (.inl rfl) hb (by rw [show top single = 127 by decide]; exact hJ)
  refine ⟨_, c, ?_, g1, g2, g3⟩
  unfold floatToFloatBits
  rw [if_neg (by decide)]
  unfold FloatKind.decode
  rw [h1]
  simp only []
  have : (FloatKind.f32.format.read (FloatKind.encode .f32 (.number s m e))).isInfinity = false := not_inf g1
  rw [if_neg (by rw [this]; decide)]
  rfl
theorem int_k {k : FloatKind} (n : Int) (h : n.natAbs < 2 * k.format.binade) : Fk k (floatOfInt k n) (n : Rat) := int_val (good k) n h
theorem read_neg (f : Format) (x : Nat) : f.read (x ^^^ f.signWeight) = (f.read x).opposite := by
  have hw : f.signWeight = 2 ^ (f.exponentBits + f.fractionBits) := rfl
  have e1 : (x ^^^ f.signWeight) % f.signWeight = x % f.signWeight := by
    rw [hw, Nat.xor_mod_two_pow]
    simp
  have e2 : (x ^^^ f.signWeight) / f.signWeight % 2 = (x / f.signWeight + 1) % 2 := by
    rw [hw]
    have : (x ^^^ 2 ^ (f.exponentBits + f.fractionBits)) / 2 ^ (f.exponentBits + f.fractionBits) = (x / 2 ^ (f.exponentBits + f.fractionBits)) ^^^ 1 := by
      rw [← Nat.shiftRight_eq_div_pow, ← Nat.shiftRight_eq_div_pow, Nat.shiftRight_xor_distrib]
      congr 1
      rw [Nat.shiftRight_eq_div_pow]
      exact Nat.div_self (Nat.two_pow_pos _)
    rw [this]
    generalize x / 2 ^ (f.exponentBits + f.fractionBits) = q
    rw [show (q ^^^ 1) % 2 = ((q ^^^ 1) % 2 ^ 1) from rfl, Nat.xor_mod_two_pow]
    have : q % 2 = 0 ∨ q % 2 = 1 := by omega
    have hq : q % 2 ^ 1 = q % 2 := rfl
    rcases this with h | h
    · rw [hq, h]; have : (q + 1) % 2 = 1 := by omega
      rw [this]; rfl
    · rw [hq, h]; have : (q + 1) % 2 = 0 := by omega
      rw [this]; rfl
  have e3 : ((x ^^^ f.signWeight) / f.signWeight % 2 == 1) = !(x / f.signWeight % 2 == 1) := by
    rw [e2]
    have : x / f.signWeight % 2 = 0 ∨ x / f.signWeight % 2 = 1 := by omega
    rcases this with h | h
    · have : (x / f.signWeight + 1) % 2 = 1 := by omega
      rw [h, this]; rfl
    · have : (x / f.signWeight + 1) % 2 = 0 := by omega
      rw [h, this]; rfl
  unfold Format.read
  simp only [e1, e3]
  split
  · rfl
  · split
    · rfl
    · split <;> rfl
theorem neg_val {k : FloatKind} {x : Nat} {v : Rat} (h : Fk k x v) : Fk k (Op.negFloat k x) (-v) := by
  obtain ⟨s, m, e, h1, h2⟩ := h
  refine ⟨!s, m, e, ?_, by rw [sv_opp, h2]⟩
  have : Op.negFloat k x = x ^^^ k.format.signWeight := by cases k <;> rfl
  rw [this, read_neg k.format, h1]
  rfl
end FR
end Go.Proofs.Ytcgaccdiomcglaa
end
section
set_option linter.unusedVariables false
set_option linter.unusedSimpArgs false
namespace Go.Proofs.YtcgaccdiomcglaaW.PrintWords
open Go.RowKit
structure Aside0 (p : Prop) : Prop where mk :: (out : p)
structure Drawn0 (w w' : World) : Prop where mk :: (out : ∃ n, w' = w.drewN n)
theorem Drawn0.refl (w : World) : Drawn0 w w := ⟨⟨0, rfl⟩⟩
theorem Drawn0.step {w w' : World} (h : Drawn0 w w') (n : Nat) : Drawn0 w (w'.drewN n) := by
  obtain ⟨m, rfl⟩ := h
  exact ⟨⟨m + n, World.drewN_drewN ..⟩⟩
def rd (xs : List Int) (i : Int) : Int := xs.getD i.toNat 0
theorem below_alloc {w W : World} (h : Below w.heap.size w W) (o : Obj) : Below w.heap.size w (W.alloc o) := h.alloc h.size o
theorem below_drew {B : Nat} {w W : World} (h : Below B w W) : Below B w W.drew := ⟨h.os, h.tape, h.output, h.size, h.block⟩
theorem pw_below_drewN {B : Nat} {w W : World} (h : Below B w W) (n : Nat) : Below B w (W.drewN n) := ⟨h.os, h.tape, h.output, h.size, h.block⟩
theorem below_then {B : Nat} {w w1 w2 : World} (h : Below B w w1) (hB : B ≤ w1.heap.size) (k : Below w1.heap.size w1 w2) : Below B w w2 :=
  h.trans ⟨k.os, k.tape, k.output, k.size, fun i hi => k.block i (Nat.lt_of_lt_of_le hi hB)⟩
theorem grown_of_below {w w1 : World} (h : Below w.heap.size w w1) (row : Option Nat) : w.grownBy w1 row := ⟨h.os, h.tape, h.output, h.size, fun i hi _ => h.block i hi⟩
theorem pw_cell_below {w w1 : World} (h : Below w.heap.size w w1) {a : Addr} {v : Value} (hc : w.cell? a = some v) : w1.cell? a = some v := (h.cell (World.block_lt_of_cell? w a hc)).trans hc
theorem add_plain (g j : Nat) : (⟨g, 0, none⟩ : Addr).add j = ⟨g, j, none⟩ := by unfold Addr.add; split <;> simp_all
def ReadsInt (w : World) (k : IntKind) (A : Option Addr) (n : Nat) (xs : List Int) : Prop :=
  xs.length = n ∧ n ≤ 9223372036854775807 ∧ (0 < n → ∃ ad, A = some ad ∧ ∀ j, j < n → w.cell? (ad.add j) = some (.int k (xs.getD j 0)))
theorem own_nil (W : World) (base : Nat) (e : TypeId) (size : Nat) : W.ownsRow base e size (.slice none 0 0) 0 [] := ⟨by simp, .inl ⟨rfl, rfl⟩⟩
theorem own_base {w : World} {base : Nat} {e : TypeId} {size n : Nat} {v : Value} {xs : List Value} (h : w.ownsRow base e size v n xs) (k : Nat) (hk : v.ownBlock = some k) : base ≤ k := by
  rcases h.2 with ⟨rfl, _⟩ | ⟨g, cap, cur, rfl, hb, _⟩
  · simp [Value.ownBlock] at hk
  · have : g = k := by simpa [Value.ownBlock] using hk
    omega
theorem own_lt {w : World} {base : Nat} {e : TypeId} {size n : Nat} {v : Value} {xs : List Value} (h : w.ownsRow base e size v n xs) (k : Nat) (hk : v.ownBlock = some k) : k < w.heap.size := by
  rcases h.2 with ⟨rfl, _⟩ | ⟨g, cap, cur, rfl, hb, hh, _⟩
  · simp [Value.ownBlock] at hk
  · have : g = k := by simpa [Value.ownBlock] using hk
    subst this
    exact (Array.getElem?_eq_some_iff.1 hh).1
section
variable {P : Program} {ops : Array Oper} {rest : List Oper} {o : Oper} {a : Act} {Q : Exit → Act → World → Prop}
end
section
variable {P : Program}
end
section
variable {P : Program} {ops : Array Oper} {rest : List Oper} {o : Oper} {a : Act} {Q : Exit → Act → World → Prop}
end
def LeO {α : Type} (a b : Option α) : Prop := ∀ r, a = some r → b = some r
theorem LeO.refl {α : Type} (a : Option α) : LeO a a := fun _ h => h
theorem LeO.ite {α : Type} {c : Prop} [Decidable c] {a a' b b' : Option α} (h : LeO a a') (k : LeO b b') : LeO (if c then a else b) (if c then a' else b') := by
  split
  · exact h
  · exact k
theorem LeO.bind {α β : Type} {a a' : Option α} {f f' : α → Option β} (h : LeO a a') (k : ∀ x, LeO (f x) (f' x)) : LeO (a.bind f) (a'.bind f') := by
  intro r hr
  obtain ⟨x, hx, hf⟩ := Option.bind_eq_some_iff.1 hr
  exact Option.bind_eq_some_iff.2 ⟨x, h x hx, k x r hf⟩
def Reps {α : Type} (R : α → List Value → Prop) (size : Nat) (ps : List α) (cs : List Value) : Prop :=
  cs.length = ps.length * size ∧ ∀ j p, ps[j]? = some p → R p ((cs.drop (j * size)).take size)
theorem Reps.none {α : Type} (R : α → List Value → Prop) (size : Nat) : Reps R size [] [] := ⟨by simp, fun j p h => by simp at h⟩
theorem Reps.snoc {α : Type} {R : α → List Value → Prop} {size : Nat} {ps : List α} {cs c : List Value} {p : α} (h : Reps R size ps cs) (hp : R p c) (hc : c.length = size) : Reps R size (ps ++ [p]) (cs ++ c) := by
  refine ⟨by rw [List.length_append, h.1, hc, List.length_append, List.length_singleton, Nat.add_mul, Nat.one_mul], fun j q hq => ?_⟩
  rcases Nat.lt_or_ge j ps.length with hj | hj
  · rw [List.getElem?_append_left hj] at hq
    have h1 : j * size + size ≤ cs.length := by rw [h.1, ← Nat.succ_mul]; exact Nat.mul_le_mul_right _ hj
    have h2 := h.2 j q hq
    rw [List.drop_append_of_le_length (by omega), List.take_append_of_le_length (by rw [List.length_drop]; omega)]
    exact h2
  · have hj' : j = ps.length := by
      have := (List.getElem?_eq_some_iff.1 hq).1
      rw [List.length_append, List.length_singleton] at this
      omega
    subst hj'
    have hq' : p = q := by simpa using hq
    subst hq'
    rw [← h.1, List.drop_left, ← hc, List.take_length]
    exact hp
theorem Reps.imp_ {α : Type} {R R' : α → List Value → Prop} {size : Nat} {ps : List α} {cs : List Value} (h : Reps R size ps cs) (hR : ∀ p c, R p c → R' p c) : Reps R' size ps cs := ⟨h.1, fun j p hj => hR _ _ (h.2 j p hj)⟩
def ReadsRow {α : Type} (R : α → List Value → Prop) (size : Nat) (w : World) (A : Option Addr) (n : Nat) (ps : List α) : Prop :=
  ps.length = n ∧ n ≤ 9223372036854775807 ∧ (0 < n → ∃ ad, A = some ad ∧ ∀ j p, ps[j]? = some p → ∃ c, c.length = size ∧ R p c ∧ ∀ i u, c[i]? = some u → w.cell? (ad.add (j * size + i)) = some u)
theorem ReadsRow.get_ {α : Type} {R : α → List Value → Prop} {size : Nat} {w : World} {A : Option Addr} {n : Nat} {ps : List α} (h : ReadsRow R size w A n ps) (d : α) (i : Int) (h0 : 0 ≤ i) (h1 : i < n) :
    ∃ ad c, A = some ad ∧ c.length = size ∧ R (ps.getD i.toNat d) c ∧ ∀ j u, c[j]? = some u → w.cell? (ad.add (i.toNat * size + j)) = some u := by
  obtain ⟨ad, e, hc⟩ := h.2.2 (by omega)
  have hl : i.toNat < ps.length := by have := h.1; omega
  obtain ⟨c, hs, hr, hcell⟩ := hc i.toNat _ (List.getElem?_eq_getElem hl)
  refine ⟨ad, c, e, hs, ?_, hcell⟩
  rw [List.getD_eq_getElem?_getD, List.getElem?_eq_getElem hl]
  exact hr
theorem ReadsRow.imp_ {α : Type} {R R' : α → List Value → Prop} {size : Nat} {w w1 : World} {A : Option Addr} {n : Nat} {ps : List α} (h : ReadsRow R size w A n ps) (hb : Below w.heap.size w w1) (hR : ∀ p c, R p c → R' p c) : ReadsRow R' size w1 A n ps :=
  ⟨h.1, h.2.1, fun hn => by
    obtain ⟨ad, e, hc⟩ := h.2.2 hn
    refine ⟨ad, e, fun j p hj => ?_⟩
    obtain ⟨c, hs, hr, hcell⟩ := hc j p hj
    exact ⟨c, hs, hR _ _ hr, fun i u hu => pw_cell_below hb (hcell i u hu)⟩⟩
theorem own_reads_row {α : Type} {R : α → List Value → Prop} {w : World} {base n size : Nat} {e : TypeId} {v : Value} {ps : List α} {cs : List Value} (h : w.ownsRow base e size v n cs) (hR : Reps R size ps cs) (hn : ps.length = n) :
    ∃ A c, v = .slice A n c ∧ ReadsRow R size w A n ps := by
  rcases Nat.eq_zero_or_pos n with h0 | h0
  · rcases h.2 with ⟨rfl, rfl⟩ | ⟨g, cap, cur, rfl, _⟩
    · exact ⟨none, 0, rfl, hn, by omega, fun hp => absurd hp (by omega)⟩
    · exact ⟨_, cap, rfl, hn, by omega, fun hp => absurd hp (by omega)⟩
  · obtain ⟨g, cap, rfl, _, _⟩ := h.form h0
    have hm : n ≤ 9223372036854775807 := by
      rcases h.2 with ⟨_, h1⟩ | ⟨g', cap', cur, he, _, _, h1, h2, _⟩
      · omega
      · simp only [maxLen] at h2
        omega
    refine ⟨_, cap, rfl, hn, hm, fun _ => ⟨_, rfl, fun j p hj => ⟨(cs.drop (j * size)).take size, ?_, hR.2 j p hj, fun i u hu => ?_⟩⟩⟩
    · have hjl := (List.getElem?_eq_some_iff.1 hj).1
      have h1 : j * size + size ≤ cs.length := by rw [hR.1, ← Nat.succ_mul]; exact Nat.mul_le_mul_right _ hjl
      rw [List.length_take, List.length_drop]
      omega
    · refine h.cells (g := g) rfl _ u ?_
      rw [List.getElem?_take] at hu
      split at hu
      · rw [List.getElem?_drop] at hu
        exact hu
      · cases hu
theorem add_field (ad : Addr) (m j : Nat) (hj : 0 < j) : ad.add (m + j) = ⟨(ad.add m).block, (ad.add m).off + j, none⟩ := by
  unfold Addr.add
  by_cases hm : m = 0
  · subst hm
    simp [Nat.ne_of_gt hj]
  · simp [hm, Nat.add_assoc]
section
variable {P : Program} {ops : Array Oper} {rest : List Oper} {o : Oper} {a : Act} {Q : Exit → Act → World → Prop}
theorem print_append_cells {w0 W : World} (base : Nat) (hgd : o.guard = none) (s x : Operand) (t e : TypeId) (z : Value) (size bytes : Nat)
    (ho : o.op = .call { callee := .builtin .append, args := #[s, x], argTypes := #[t, t] })
    (ht : P.underlying t = some (.slice e)) (hinfo : (P.info? e).map (fun i => (i.zero, i.size, i.bytes)) = some (some z, size, bytes)) (hz : z.cells.size = size) (hs0 : 0 < size) (hb0 : 0 < bytes)
    (v : Value) (n : Nat) (xs ys : List Value) (hs : a.eval s = v) (hx : a.eval x = .slice (some ⟨W.heap.size, 0, none⟩) 1 1) (hys : ys.length = size) (h1 : ∀ u ∈ ys, u.oneCell' = true)
    (HO : W.ownsRow base e size v n xs) (HB : Below base w0 W) (hbase : base ≤ W.heap.size) (hl : (n + 1) * bytes ≤ 140737488355328)
    (h : ∀ v1 w1, w1.ownsRow base e size v1 (n + 1) (xs ++ ys) → Below base w0 w1 → W.grownBy w1 v.ownBlock → (v1.ownBlock = v.ownBlock ∨ ∃ b, v1.ownBlock = some b ∧ W.heap.size ≤ b) → wpList P ops Q rest (a.put o.dst v1) w1) :
    wpList P ops Q (o :: rest) a (W.alloc (.cells ys.toArray e)) := by
  obtain ⟨i0, hi, hzz⟩ := Option.map_eq_some_iff.1 hinfo
  simp only [Prod.mk.injEq] at hzz
  obtain ⟨hz0, hz1, hz2⟩ := hzz
  have hlen : n + 1 ≤ 140737488355328 := Nat.le_trans (Nat.le_mul_of_pos_right _ hb0) hl
  refine wpList_append_own_at (W.alloc (.cells ys.toArray e)) hgd s x t ho base e i0 z size bytes ht hi hz0 hz1 hz2 hz hs0 v n xs hs (HO.alloc _) ⟨W.heap.size, 0, none⟩ 1 1 ys hx (by rw [hys]; simp)
    (by simpa using World.news_of_block (cs := ys.toArray) (t := e) (fr := (0, 0)) (heap_alloc_new W (.cells ys.toArray e))) h1 (by simp only [maxLen]; omega) hl (by simp; omega) ?_
  intro v1 w1 hown hg _ hat
  refine h v1 w1 hown ((HB.alloc hbase _).grown hg (by simp; omega) (own_base HO)) (World.grownBy.trans (World.grownBy_alloc W _ _) hg) ?_
  rcases hat with hat | hat
  · exact .inl hat
  · exact .inr ⟨_, hat, by simp⟩
end
theorem own_ne {w : World} {base : Nat} {e t : TypeId} {size n g : Nat} {v : Value} {xs : List Value} {cs : Array Value} (h : w.ownsRow base e size v n xs) (hg : w.heap[g]? = some (.cells cs t (0, 0))) (hne : e ≠ t) : some g ≠ v.ownBlock := by
  rcases h.2 with ⟨rfl, _⟩ | ⟨g', cap, cur, rfl, _, hh, _⟩
  · simp [Value.ownBlock]
  · intro he
    have : g = g' := by simpa [Value.ownBlock] using he
    subst this
    rw [hg] at hh
    injection hh with hh
    injection hh with _ ht
    exact hne ht.symm
theorem blk_set {w : World} {g : Nat} {t : TypeId} {cs : Array Value} (h : w.heap[g]? = some (.cells cs t (0, 0))) (i : Nat) (u : Value) : (w.setCell ⟨g, i, none⟩ u).heap[g]? = some (.cells (cs.setIfInBounds i u) t (0, 0)) := by
  simp [World.setCell, Array.getElem?_modify, h]
theorem blk_far {w : World} {g : Nat} {t : TypeId} {cs : Array Value} (h : w.heap[g]? = some (.cells cs t (0, 0))) {p : Addr} (hp : g ≠ p.block) (u : Value) : (w.setCell p u).heap[g]? = some (.cells cs t (0, 0)) := (Below.heap_setCell w p u g hp).trans h
theorem blk_lt {w : World} {g : Nat} {o : Obj} (h : w.heap[g]? = some o) : g < w.heap.size := (Array.getElem?_eq_some_iff.1 h).1
theorem blk_cell {w : World} {g : Nat} {t : TypeId} {cs : Array Value} (h : w.heap[g]? = some (.cells cs t (0, 0))) (i : Nat) : w.cell? ⟨g, i, none⟩ = cs[i]? := cell_of_row w g i cs t (0, 0) h
theorem blk_frozen {w : World} {g : Nat} {t : TypeId} {cs : Array Value} (h : w.heap[g]? = some (.cells cs t (0, 0))) (i : Nat) : w.frozen? ⟨g, i, none⟩ = false := by simp [World.frozen?, h]
theorem blk_grown {w w1 : World} {g : Nat} {o : Obj} {row : Option Nat} (h : w.heap[g]? = some o) (hg : w.grownBy w1 row) (hne : some g ≠ row) : w1.heap[g]? = some o := (hg.block g (blk_lt h) hne).trans h
def KeepBut (w w' : World) (g : Nat) (row : Option Nat) : Prop := w.heap.size ≤ w'.heap.size ∧ ∀ i, i < w.heap.size → i ≠ g → some i ≠ row → w'.heap[i]? = w.heap[i]?
theorem KeepBut.refl (w : World) (g : Nat) (row : Option Nat) : KeepBut w w g row := ⟨Nat.le_refl _, fun _ _ _ _ => rfl⟩
theorem KeepBut.set_ {w w1 : World} {g : Nat} {row : Option Nat} (h : KeepBut w w1 g row) (j : Nat) (u : Value) : KeepBut w (w1.setCell ⟨g, j, none⟩ u) g row :=
  ⟨by simpa [World.setCell] using h.1, fun i hi hg hr => (Below.heap_setCell w1 ⟨g, j, none⟩ u i hg).trans (h.2 i hi hg hr)⟩
theorem KeepBut.trans {w w1 w2 : World} {g : Nat} {row row1 : Option Nat} (h : KeepBut w w1 g row) (k : KeepBut w1 w2 g row1) (hr : row1 = row ∨ ∃ b, row1 = some b ∧ w.heap.size ≤ b) : KeepBut w w2 g row :=
  ⟨Nat.le_trans h.1 k.1, fun i hi hg hn => by
    refine (k.2 i (Nat.lt_of_lt_of_le hi h.1) hg ?_).trans (h.2 i hi hg hn)
    rcases hr with rfl | ⟨b, rfl, hb⟩
    · exact hn
    · intro e
      injection e with e
      omega⟩
theorem KeepBut.blk {w w1 : World} {g g' : Nat} {row : Option Nat} {o : Obj} (h : KeepBut w w1 g row) (hb : w.heap[g']? = some o) (hg : g' ≠ g) (hr : some g' ≠ row) : w1.heap[g']? = some o := (h.2 g' (blk_lt hb) hg hr).trans hb
section
variable {P : Program} {ops : Array Oper} {o : Oper} {a : Act} {Q : Exit → Act → World → Prop} {K : Act → World → Prop}
theorem step_append_cells {w0 W : World} (base : Nat) (hw : Region.wanted o (yielded ops a.tmps) = true) (s x : Operand) (t e : TypeId) (z : Value) (size bytes : Nat)
    (ho : o.op = .call { callee := .builtin .append, args := #[s, x], argTypes := #[t, t] })
    (ht : P.underlying t = some (.slice e)) (hinfo : (P.info? e).map (fun i => (i.zero, i.size, i.bytes)) = some (some z, size, bytes)) (hz : z.cells.size = size) (hs0 : 0 < size) (hb0 : 0 < bytes)
    (v : Value) (n : Nat) (xs ys : List Value) (hs : a.eval s = v) (hx : a.eval x = .slice (some ⟨W.heap.size, 0, none⟩) 1 1) (hys : ys.length = size) (h1 : ∀ u ∈ ys, u.oneCell' = true)
    (HO : W.ownsRow base e size v n xs) (HB : Below base w0 W) (hbase : base ≤ W.heap.size) (hl : (n + 1) * bytes ≤ 140737488355328)
    (h : ∀ v1 w1, w1.ownsRow base e size v1 (n + 1) (xs ++ ys) → Below base w0 w1 → W.grownBy w1 v.ownBlock → (v1.ownBlock = v.ownBlock ∨ ∃ b, v1.ownBlock = some b ∧ W.heap.size ≤ b) → K (a.put o.dst v1) w1) :
    if Region.wanted o (yielded ops a.tmps) = true then Oper.wp P o a (W.alloc (.cells ys.toArray e)) K Q else K (a.put o.dst undef) (W.alloc (.cells ys.toArray e)) := by
  obtain ⟨i0, hi, hzz⟩ := Option.map_eq_some_iff.1 hinfo
  simp only [Prod.mk.injEq] at hzz
  obtain ⟨hz0, hz1, hz2⟩ := hzz
  have hlen : n + 1 ≤ 140737488355328 := Nat.le_trans (Nat.le_mul_of_pos_right _ hb0) hl
  rw [if_pos hw]
  obtain ⟨v1, w1, hr, hown, hg, _, hat⟩ := run_append_own_at (P := P) (W.alloc (.cells ys.toArray e)) base t o.type e i0 z size bytes ht hi hz0 hz1 hz2 hz hs0 v n xs (HO.alloc _) ⟨W.heap.size, 0, none⟩ 1 1 ys (by rw [hys]; simp)
    (by simpa using World.news_of_block (cs := ys.toArray) (t := e) (fr := (0, 0)) (heap_alloc_new W (.cells ys.toArray e))) h1 (by simp only [maxLen]; omega) hl (by simp; omega)
  unfold Oper.wp execOp
  simp only [ho, resolve, invoke, builtin, Sem.run_bind, Sem.run_pure, Result.andThen_ok, List.map_toArray, List.map_cons, List.map_nil, hs, hx, hr]
  refine h v1 w1 hown ((HB.alloc hbase _).grown hg (by simp; omega) (own_base HO)) (World.grownBy.trans (World.grownBy_alloc W _ _) hg) ?_
  rcases hat with hat | hat
  · exact .inl hat
  · exact .inr ⟨_, hat, by simp⟩
end
theorem own_weaken {w : World} {base base' : Nat} {e : TypeId} {size n : Nat} {v : Value} {xs : List Value} (h : w.ownsRow base e size v n xs) (hb : base' ≤ base) : w.ownsRow base' e size v n xs := by
  obtain ⟨h1, h2⟩ := h
  refine ⟨h1, ?_⟩
  rcases h2 with h2 | ⟨g, cap, cur, rfl, hg, r⟩
  · exact .inl h2
  · exact .inr ⟨g, cap, cur, rfl, Nat.le_trans hb hg, r⟩
section
variable {α : Type} {enc : α → Value} {d : α}
def rdOf (d : α) (xs : List α) (i : Int) : α := xs.getD i.toNat d
def ReadsOf (enc : α → Value) (d : α) (w : World) (A : Option Addr) (n : Nat) (xs : List α) : Prop :=
  xs.length = n ∧ n ≤ 9223372036854775807 ∧ (0 < n → ∃ ad, A = some ad ∧ ∀ j, j < n → w.cell? (ad.add j) = some (enc (xs.getD j d)))
theorem ReadsOf.at_ {w : World} {A : Option Addr} {n : Nat} {xs : List α} (h : ReadsOf enc d w A n xs) (i : Int) (h0 : 0 ≤ i) (h1 : i < n) : ∃ ad, A = some ad ∧ w.cell? (ad.add i.toNat) = some (enc (rdOf d xs i)) := by
  obtain ⟨ad, e, hc⟩ := h.2.2 (by omega)
  exact ⟨ad, e, hc _ (by omega)⟩
end
section
variable {α : Type} {P : Program} {ops : Array Oper} {rest : List Oper} {o : Oper} {a : Act} {Q : Exit → Act → World → Prop}
end
theorem blk_alloc {w : World} {g : Nat} {o : Obj} (h : w.heap[g]? = some o) (o' : Obj) : (w.alloc o').heap[g]? = some o := (Below.heap_alloc w o' g (blk_lt h)).trans h
theorem blk_drew {w : World} {g : Nat} {o : Obj} (h : w.heap[g]? = some o) : w.drew.heap[g]? = some o := h
theorem blk_below {w w1 : World} {g : Nat} {o : Obj} (h : w.heap[g]? = some o) (hb : Below w.heap.size w w1) : w1.heap[g]? = some o := (hb.block g (blk_lt h)).trans h
theorem blk_new (w : World) (o : Obj) : (w.alloc o).heap[w.heap.size]? = some o := heap_alloc_new w o
section
variable {P : Program}
theorem results_ct {fn : Func} {p u : Tmp} {ty : TypeId} (h : fn.results = #[.cell p ty, .tmp u]) (tmps : Array Value) (w : World) (g : Nat) (t : TypeId) (cs : Array Value) (fr : Nat × Nat) (d : TypeDesc)
    (hp : tmps.getD p undef = .pointer (some ⟨g, 0, none⟩)) (hg : w.heap[g]? = some (.cells cs t fr))
    (hu : P.underlying ty = some d) (hd : (match d with | .struct _ | .array _ _ => true | _ => false) = true) (hi : (P.info? ty).map (·.size) = some cs.size) :
    (results fn tmps).run P w = .ok (.tuple #[.agg cs, tmps.getD u undef]) w := by
  have hp' : tmps[p]?.getD undef = .pointer (some ⟨g, 0, none⟩) := by simpa using hp
  simp [results, h, hp', asAddr, run_loadVar_row w g t ty cs fr d hg hu hd hi]
end
theorem own_le {w : World} {base n m c size : Nat} {e : TypeId} {A : Option Addr} {xs : List Value} (h : w.ownsRow base e size (.slice A m c) n xs) : m ≤ c := by
  rcases h.2 with ⟨he, _⟩ | ⟨g, cap, cur, he, _, _, hnc, _⟩
  · injection he with _ h2 h3
    omega
  · injection he with _ h2 h3
    omega
def OwnRow {α : Type} (R : α → List Value → Prop) (e : TypeId) (size : Nat) (w : World) (base : Nat) (v : Value) (ps : List α) : Prop :=
  ∃ inner, w.ownsRow base e size v ps.length inner ∧ Reps R size ps inner
section
variable {α : Type} {R R' : α → List Value → Prop} {e : TypeId} {size : Nat} {w w1 : World} {base : Nat} {v : Value} {ps : List α}
theorem OwnRow.none_ (R : α → List Value → Prop) (e : TypeId) (size : Nat) (w : World) (base : Nat) : OwnRow R e size w base (.slice none 0 0) [] := ⟨[], own_nil _ _ _ _, Reps.none _ _⟩
theorem OwnRow.imp_ (h : OwnRow R e size w base v ps) (hR : ∀ p c, R p c → R' p c) : OwnRow R' e size w base v ps := by
  obtain ⟨inner, ho, hr⟩ := h
  exact ⟨inner, ho, hr.imp_ hR⟩
theorem OwnRow.reads (h : OwnRow R e size w base v ps) : ∃ A c, v = .slice A ps.length c ∧ ps.length ≤ c ∧ ReadsRow R size w A ps.length ps := by
  obtain ⟨inner, ho, hr⟩ := h
  obtain ⟨A, c, rfl, hrow⟩ := own_reads_row ho hr rfl
  exact ⟨A, c, rfl, own_le ho, hrow⟩
theorem OwnRow.ne_block (h : OwnRow R e size w base v ps) {g : Nat} {t : TypeId} {cells : Array Value} (hb : w.heap[g]? = some (.cells cells t (0, 0))) (ht : e ≠ t) : some g ≠ v.ownBlock := by
  obtain ⟨inner, ho, hr⟩ := h
  exact own_ne ho hb ht
end
section
variable {P : Program} {ops : Array Oper} {rest : List Oper} {o : Oper} {a : Act} {Q : Exit → Act → World → Prop} {α : Type} {R : α → List Value → Prop}
end
section
variable {P : Program} {ops : Array Oper} {o : Oper} {a : Act} {Q : Exit → Act → World → Prop} {K : Act → World → Prop} {α : Type} {R : α → List Value → Prop}
end
theorem ReadsRow.inner_ {α : Type} {R : α → List Value → Prop} {size : Nat} {w : World} {ad : Addr} {n : Nat} {ps : List α} (h : ReadsRow R size w (some ad) n ps) :
    ∃ inner, Reps R size ps inner ∧ ∀ j u, inner[j]? = some u → w.cell? (ad.add j) = some u := by
  have key : ∀ m, m ≤ ps.length → ∃ inner, Reps R size (ps.take m) inner ∧ ∀ j u, inner[j]? = some u → w.cell? (ad.add j) = some u := by
    intro m
    induction m with
    | zero => exact fun _ => ⟨[], Reps.none _ _, fun j u hu => by simp at hu⟩
    | succ m ih =>
      intro hm
      obtain ⟨inner, hr, hc⟩ := ih (by omega)
      obtain ⟨ad', he, hcell⟩ := h.2.2 (by have := h.1; omega)
      injection he with he
      subst he
      obtain ⟨c, hcl, hp, hcc⟩ := hcell m _ (List.getElem?_eq_getElem (show m < ps.length by omega))
      refine ⟨inner ++ c, ?_, fun j u hu => ?_⟩
      · rw [List.take_succ_eq_append_getElem (show m < ps.length by omega)]
        exact hr.snoc hp hcl
      · have hil : inner.length = m * size := by rw [hr.1, List.length_take, Nat.min_eq_left (by omega)]
        rcases Nat.lt_or_ge j inner.length with hj | hj
        · rw [List.getElem?_append_left hj] at hu
          exact hc j u hu
        · rw [List.getElem?_append_right hj] at hu
          have := hcc (j - inner.length) u hu
          rwa [hil, Nat.add_sub_cancel' (by omega)] at this
  obtain ⟨inner, hr, hc⟩ := key ps.length (Nat.le_refl _)
  rw [List.take_length] at hr
  exact ⟨inner, hr, hc⟩
section
variable {α : Type} {P : Program}
end
section
variable {P : Program} {ops : Array Oper} {rest : List Oper} {o : Oper} {a : Act} {Q : Exit → Act → World → Prop}
end
structure Kd (α : Type) where
  sz : Nat
  E : List Nat
  K : World → α → List Value → Prop
  M : World → Nat → (Nat → Prop) → α → List Value → Prop
  K_len : ∀ {w x cs}, K w x cs → cs.length = sz
  K_one : ∀ {w x cs}, K w x cs → ∀ u ∈ cs, u.oneCell' = true
  K_below : ∀ {w w1 : World} {x cs}, Below w.heap.size w w1 → K w x cs → K w1 x cs
  K_of_M : ∀ {w base ok x cs}, M w base ok x cs → K w x cs
  M_mono : ∀ {w base ok ok' x cs}, (∀ k, ok k → ok' k) → M w base ok x cs → M w base ok' x cs
  M_bound : ∀ {w : World} {base ok x cs}, M w base ok x cs → M w base (fun k => ok k ∧ base ≤ k ∧ k < w.heap.size ∧ ∃ q, q ∈ E ∧ ∃ cells, w.heap[k]? = some (.cells cells q (0, 0))) x cs
  M_move : ∀ {w w1 : World} {base ok x cs}, (∀ k, ok k → w1.heap[k]? = w.heap[k]?) → M w base ok x cs → M w1 base ok x cs
  M_lower : ∀ {w base base' ok x cs}, base' ≤ base → M w base ok x cs → M w base' ok x cs
theorem own_move {w w1 : World} {base : Nat} {e : TypeId} {size n : Nat} {v : Value} {xs : List Value} (h : w.ownsRow base e size v n xs) (hm : ∀ k, v.ownBlock = some k → w1.heap[k]? = w.heap[k]?) : w1.ownsRow base e size v n xs := by
  obtain ⟨h1, h2⟩ := h
  refine ⟨h1, ?_⟩
  rcases h2 with h2 | ⟨g, cap, cur, rfl, hg, hh, r⟩
  · exact .inl h2
  · exact .inr ⟨g, cap, cur, rfl, hg, (hm g (by simp [Value.ownBlock])).trans hh, r⟩
theorem own_typed {w : World} {base : Nat} {e : TypeId} {size n : Nat} {v : Value} {xs : List Value} (h : w.ownsRow base e size v n xs) (k : Nat) (hk : v.ownBlock = some k) : ∃ cells, w.heap[k]? = some (.cells cells e (0, 0)) := by
  rcases h.2 with ⟨rfl, _⟩ | ⟨g, cap, cur, rfl, hg, hh, r⟩
  · simp [Value.ownBlock] at hk
  · have : g = k := by simpa [Value.ownBlock] using hk
    subst this
    exact ⟨cur, hh⟩
namespace Kd
def C {α : Type} (d : Kd α) (w : World) (A : Option Addr) (n : Nat) (xs : List α) : Prop := ReadsRow (d.K w) d.sz w A n xs
def R {α : Type} (d : Kd α) (e : Nat) (w : World) (base : Nat) (ok : Nat → Prop) (v : Value) (xs : List α) : Prop :=
  (∀ k, v.ownBlock = some k → ok k) ∧ OwnRow (d.M w base (fun k => ok k ∧ some k ≠ v.ownBlock)) e d.sz w base v xs
section
variable {α : Type} {d : Kd α} {e : Nat} {w w1 : World} {base : Nat} {ok ok' : Nat → Prop} {v : Value} {xs : List α}
theorem C_below {A : Option Addr} {n : Nat} (h : d.C w A n xs) (hb : Below w.heap.size w w1) : d.C w1 A n xs := ReadsRow.imp_ h hb (fun _ _ hp => d.K_below hb hp)
theorem R_nil (d : Kd α) (e : Nat) (w : World) (base : Nat) (ok : Nat → Prop) : d.R e w base ok (.slice none 0 0) [] := ⟨fun k hk => by simp [Value.ownBlock] at hk, OwnRow.none_ _ _ _ _ _⟩
theorem R_mono (h : d.R e w base ok v xs) (hok : ∀ k, ok k → ok' k) : d.R e w base ok' v xs := ⟨fun k hk => hok k (h.1 k hk), h.2.imp_ (fun _ _ hp => d.M_mono (fun k hk => ⟨hok k hk.1, hk.2⟩) hp)⟩
theorem R_bound (h : d.R e w base ok v xs) : d.R e w base (fun k => ok k ∧ base ≤ k ∧ k < w.heap.size ∧ ∃ q, q ∈ e :: d.E ∧ ∃ cells, w.heap[k]? = some (.cells cells q (0, 0))) v xs := by
  obtain ⟨h0, inner, ho, hr⟩ := h
  refine ⟨fun k hk => ?_, inner, ho, hr.imp_ (fun _ _ hp => d.M_mono (fun k hk => ?_) (d.M_bound hp))⟩
  · obtain ⟨cells, hc⟩ := own_typed ho k hk
    exact ⟨h0 k hk, own_base ho k hk, own_lt ho k hk, e, List.mem_cons_self, cells, hc⟩
  · obtain ⟨⟨h1, h2⟩, h3, h4, q, hq, hc⟩ := hk
    exact ⟨⟨h1, h3, h4, q, List.mem_cons_of_mem _ hq, hc⟩, h2⟩
theorem R_move (h : d.R e w base ok v xs) (hm : ∀ k, ok k → w1.heap[k]? = w.heap[k]?) : d.R e w1 base ok v xs := by
  obtain ⟨h0, inner, ho, hr⟩ := h
  exact ⟨h0, inner, own_move ho (fun k hk => hm k (h0 k hk)), hr.imp_ (fun _ _ hp => d.M_move (fun k hk => hm k hk.1) hp)⟩
theorem R_lower {base' : Nat} (h : d.R e w base ok v xs) (hb : base' ≤ base) : d.R e w base' ok v xs := by
  obtain ⟨h0, inner, ho, hr⟩ := h
  exact ⟨h0, inner, own_weaken ho hb, hr.imp_ (fun _ _ hp => d.M_lower hb hp)⟩
theorem R_step (h : d.R e w base ok v xs) (hm : ∀ k, ok k → k < w.heap.size → w1.heap[k]? = w.heap[k]?) : d.R e w1 base ok v xs :=
  R_mono (R_move (R_bound h) (fun k hk => hm k hk.1 hk.2.2.1)) (fun _ hk => hk.1)
theorem M_step {x : α} {cs : List Value} (h : d.M w base ok x cs) (hm : ∀ k, ok k → k < w.heap.size → w1.heap[k]? = w.heap[k]?) : d.M w1 base ok x cs :=
  d.M_mono (fun _ hk => hk.1) (d.M_move (fun k hk => hm k hk.1 hk.2.2.1) (d.M_bound h))
theorem R_below (h : d.R e w base ok v xs) (hb : Below w.heap.size w w1) : d.R e w1 base ok v xs := R_step h (fun k _ hk => hb.block k hk)
theorem M_below {x : α} {cs : List Value} (h : d.M w base ok x cs) (hb : Below w.heap.size w w1) : d.M w1 base ok x cs := M_step h (fun k _ hk => hb.block k hk)
theorem R_far (h : d.R e w base ok v xs) {p : Addr} (hok : ∀ k, ok k → k ≠ p.block) (u : Value) : d.R e (w.setCell p u) base ok v xs := R_step h (fun k ho _ => Below.heap_setCell w p u k (hok k ho))
theorem R_keep (h : d.R e w base ok v xs) {g : Nat} (hk : KeepBut w w1 g none) (hok : ∀ k, ok k → k ≠ g) : d.R e w1 base ok v xs := R_step h (fun k ho hlt => hk.2 k hlt (hok k ho) (by simp))
theorem R_types (h : d.R e w base ok v xs) {g t : Nat} {cells : Array Value} (hb : w.heap[g]? = some (.cells cells t (0, 0))) (ht : ∀ q, q ∈ e :: d.E → q ≠ t) : d.R e w base (fun k => ok k ∧ k ≠ g) v xs :=
  R_mono (R_bound h) (fun k hk => ⟨hk.1, by
    obtain ⟨_, _, _, q, hq, cells', hc⟩ := hk
    rintro rfl
    rw [hc] at hb
    injection hb with hb
    injection hb with _ hb
    exact ht q hq hb⟩)
theorem R_reads (h : d.R e w base ok v xs) : ∃ A c, v = .slice A xs.length c ∧ xs.length ≤ c ∧ d.C w A xs.length xs := by
  obtain ⟨A, c, he, hl, hr⟩ := OwnRow.reads h.2
  exact ⟨A, c, he, hl, hr.imp_ (Below.refl _ _) (fun _ _ hp => d.K_of_M hp)⟩
theorem R_slice (h : d.R e w base ok v xs) : ∃ A c, v = .slice A xs.length c := by
  obtain ⟨A, c, he, _⟩ := R_reads h
  exact ⟨A, c, he⟩
theorem R_own (h : d.R e w base ok v xs) : ∃ inner, w.ownsRow base e d.sz v xs.length inner := by
  obtain ⟨_, inner, ho, _⟩ := h
  exact ⟨inner, ho⟩
theorem R_ne (h : d.R e w base ok v xs) {g t : Nat} {cells : Array Value} (hb : w.heap[g]? = some (.cells cells t (0, 0))) (ht : e ≠ t) : some g ≠ v.ownBlock := OwnRow.ne_block h.2 hb ht
end
def scalar {α : Type} (enc : α → Value) (h1 : ∀ x, (enc x).oneCell' = true) : Kd α where
  sz := 1
  E := []
  K := fun _ x cs => cs = [enc x]
  M := fun _ _ _ x cs => cs = [enc x]
  K_len := fun h => by rw [h]; rfl
  K_one := fun h u hu => by
    rw [h] at hu
    rw [List.mem_singleton.1 hu]
    exact h1 _
  K_below := fun _ h => h
  K_of_M := fun h => h
  M_mono := fun _ h => h
  M_bound := fun h => h
  M_move := fun _ h => h
  M_lower := fun _ h => h
def int (k : IntKind) : Kd Int := scalar (Value.int k) (fun _ => rfl)
def bool : Kd Bool := scalar Value.bool (fun _ => rfl)
def slice {α : Type} (e : Nat) (d : Kd α) : Kd (List α) where
  sz := 1
  E := e :: d.E
  K := fun w xs cs => ∃ A c, cs = [.slice A xs.length c] ∧ xs.length ≤ c ∧ d.C w A xs.length xs
  M := fun w base ok xs cs => ∃ v, cs = [v] ∧ d.R e w base ok v xs
  K_len := by
    rintro w x cs ⟨A, c, rfl, _⟩
    rfl
  K_one := by
    rintro w x cs ⟨A, c, rfl, _⟩ u hu
    rw [List.mem_singleton.1 hu]
    rfl
  K_below := by
    rintro w w1 x cs hb ⟨A, c, rfl, hl, hr⟩
    exact ⟨A, c, rfl, hl, C_below hr hb⟩
  K_of_M := by
    rintro w base ok x cs ⟨v, rfl, h⟩
    obtain ⟨A, c, rfl, hl, hr⟩ := R_reads h
    exact ⟨A, c, rfl, hl, hr⟩
  M_mono := by
    rintro w base ok ok' x cs hok ⟨v, rfl, h⟩
    exact ⟨v, rfl, R_mono h hok⟩
  M_bound := by
    rintro w base ok x cs ⟨v, rfl, h⟩
    exact ⟨v, rfl, R_bound h⟩
  M_move := by
    rintro w w1 base ok x cs hm ⟨v, rfl, h⟩
    exact ⟨v, rfl, R_move h hm⟩
  M_lower := by
    rintro w base base' ok x cs hb ⟨v, rfl, h⟩
    exact ⟨v, rfl, R_lower h hb⟩
def pair {α β : Type} (a : Kd α) (b : Kd β) : Kd (α × β) where
  sz := a.sz + b.sz
  E := a.E ++ b.E
  K := fun w x cs => ∃ c0 c1, cs = c0 ++ c1 ∧ a.K w x.1 c0 ∧ b.K w x.2 c1
  M := fun w base ok x cs => ∃ c0 c1, cs = c0 ++ c1 ∧ a.M w base ok x.1 c0 ∧ b.M w base ok x.2 c1
  K_len := by
    rintro w x cs ⟨c0, c1, rfl, h0, h1⟩
    rw [List.length_append, a.K_len h0, b.K_len h1]
  K_one := by
    rintro w x cs ⟨c0, c1, rfl, h0, h1⟩ u hu
    rcases List.mem_append.1 hu with hu | hu
    · exact a.K_one h0 u hu
    · exact b.K_one h1 u hu
  K_below := by
    rintro w w1 x cs hb ⟨c0, c1, rfl, h0, h1⟩
    exact ⟨c0, c1, rfl, a.K_below hb h0, b.K_below hb h1⟩
  K_of_M := by
    rintro w base ok x cs ⟨c0, c1, rfl, h0, h1⟩
    exact ⟨c0, c1, rfl, a.K_of_M h0, b.K_of_M h1⟩
  M_mono := by
    rintro w base ok ok' x cs hok ⟨c0, c1, rfl, h0, h1⟩
    exact ⟨c0, c1, rfl, a.M_mono hok h0, b.M_mono hok h1⟩
  M_bound := by
    rintro w base ok x cs ⟨c0, c1, rfl, h0, h1⟩
    refine ⟨c0, c1, rfl, a.M_mono ?_ (a.M_bound h0), b.M_mono ?_ (b.M_bound h1)⟩
    · rintro k ⟨h2, h3, h4, q, hq, hc⟩
      exact ⟨h2, h3, h4, q, List.mem_append_left _ hq, hc⟩
    · rintro k ⟨h2, h3, h4, q, hq, hc⟩
      exact ⟨h2, h3, h4, q, List.mem_append_right _ hq, hc⟩
  M_move := by
    rintro w w1 base ok x cs hm ⟨c0, c1, rfl, h0, h1⟩
    exact ⟨c0, c1, rfl, a.M_move hm h0, b.M_move hm h1⟩
  M_lower := by
    rintro w base base' ok x cs hb ⟨c0, c1, rfl, h0, h1⟩
    exact ⟨c0, c1, rfl, a.M_lower hb h0, b.M_lower hb h1⟩
def iso {α β : Type} (d : Kd α) (f : β → α) : Kd β where
  sz := d.sz
  E := d.E
  K := fun w x cs => d.K w (f x) cs
  M := fun w base ok x cs => d.M w base ok (f x) cs
  K_len := d.K_len
  K_one := d.K_one
  K_below := d.K_below
  K_of_M := d.K_of_M
  M_mono := d.M_mono
  M_bound := d.M_bound
  M_move := d.M_move
  M_lower := d.M_lower
def bot {α : Type} (sz : Nat) (E : List Nat) : Kd α where
  sz := sz
  E := E
  K := fun _ _ _ => False
  M := fun _ _ _ _ _ => False
  K_len := fun h => h.elim
  K_one := fun h => h.elim
  K_below := fun _ h => h
  K_of_M := fun h => h
  M_mono := fun _ h => h
  M_bound := fun h => h
  M_move := fun _ h => h
  M_lower := fun _ h => h
def upto {α : Type} (F : Kd α → Kd α) (sz : Nat) (E : List Nat) : Nat → Kd α
  | 0 => bot sz E
  | n + 1 => F (upto F sz E n)
theorem C_get {α : Type} {d : Kd α} {w : World} {A : Option Addr} {n : Nat} {xs : List α} (h : d.C w A n xs) (z : α) (i : Int) (h0 : 0 ≤ i) (h1 : i < n) :
    ∃ ad c, A = some ad ∧ c.length = d.sz ∧ d.K w (xs.getD i.toNat z) c ∧ ∀ j u, c[j]? = some u → w.cell? (ad.add (i.toNat * d.sz + j)) = some u := ReadsRow.get_ h z i h0 h1
theorem R_appended {α : Type} {d : Kd α} {e base : Nat} {ok okp : Nat → Prop} {W w1 : World} {v v1 : Value} {xs : List α} {p : α} {inner cs : List Value} (h0 : ∀ k, v.ownBlock = some k → ok k) (hr : Reps (d.M W base (fun k => ok k ∧ some k ≠ v.ownBlock)) d.sz xs inner) (hp : d.M W base okp p cs) (hokp : ∀ k, okp k → ok k ∧ some k ≠ v.ownBlock) (hfresh : ∀ k, W.heap.size ≤ k → ok k)
    (hown : w1.ownsRow base e d.sz v1 (xs.length + 1) (inner ++ cs)) (hg : W.grownBy w1 v.ownBlock) (hat : v1.ownBlock = v.ownBlock ∨ ∃ b, v1.ownBlock = some b ∧ W.heap.size ≤ b) : d.R e w1 base ok v1 (xs ++ [p]) := by
  have hne : ∀ k, some k ≠ v.ownBlock → k < W.heap.size → some k ≠ v1.ownBlock := by
    intro k hk hlt
    rcases hat with hat | ⟨b, hb, hle⟩
    · rw [hat]; exact hk
    · rw [hb]
      intro he
      injection he with he
      omega
  have step : ∀ {q : α} {c : List Value} {o : Nat → Prop}, d.M W base o q c → (∀ k, o k → ok k ∧ some k ≠ v.ownBlock) → d.M w1 base (fun k => ok k ∧ some k ≠ v1.ownBlock) q c := by
    intro q c o hq ho
    have h1 := d.M_move (w1 := w1) (fun k hk => hg.block k hk.2.2.1 (ho k hk.1).2) (d.M_bound hq)
    exact d.M_mono (fun k hk => ⟨(ho k hk.1).1, hne k (ho k hk.1).2 hk.2.2.1⟩) h1
  refine ⟨fun k hk => ?_, inner ++ cs, by rw [List.length_append, List.length_singleton]; exact hown, ?_⟩
  · rcases hat with hat | ⟨b, hb, hle⟩
    · exact h0 k (hat ▸ hk)
    · rw [hb] at hk
      injection hk with hk
      exact hfresh k (by omega)
  · exact (hr.imp_ (fun _ _ hq => step hq (fun _ hk => hk))).snoc (step hp hokp) (d.K_len (d.K_of_M hp))
section
variable {P : Program} {ops : Array Oper} {rest : List Oper} {o : Oper} {a : Act} {Q : Exit → Act → World → Prop} {α : Type}
theorem R_append (d : Kd α) {w0 W : World} (base : Nat) (hgd : o.guard = none) (s x : Operand) (t e : TypeId) (z : Value) (bytes : Nat)
    (ho : o.op = .call { callee := .builtin .append, args := #[s, x], argTypes := #[t, t] })
    (ht : P.underlying t = some (.slice e)) (hinfo : (P.info? e).map (fun i => (i.zero, i.size, i.bytes)) = some (some z, d.sz, bytes)) (hz : z.cells.size = d.sz) (hs0 : 0 < d.sz) (hb0 : 0 < bytes)
    (v : Value) (xs : List α) (p : α) (cs : List Value) (ok okp : Nat → Prop) (hs : a.eval s = v) (hx : a.eval x = .slice (some ⟨W.heap.size, 0, none⟩) 1 1) (hp : d.M W base okp p cs) (hokp : ∀ k, okp k → ok k ∧ some k ≠ v.ownBlock) (hfresh : ∀ k, W.heap.size ≤ k → ok k)
    (HO : d.R e W base ok v xs) (HB : Below base w0 W) (hbase : base ≤ W.heap.size) (hl : (xs.length + 1) * bytes ≤ 140737488355328)
    (h : ∀ v1 w1, d.R e w1 base ok v1 (xs ++ [p]) → Below base w0 w1 → W.grownBy w1 v.ownBlock → (v1.ownBlock = v.ownBlock ∨ ∃ b, v1.ownBlock = some b ∧ W.heap.size ≤ b) → wpList P ops Q rest (a.put o.dst v1) w1) :
    wpList P ops Q (o :: rest) a (W.alloc (.cells cs.toArray e)) := by
  obtain ⟨h0, inner, hown, hr⟩ := HO
  refine print_append_cells base hgd s x t e z d.sz bytes ho ht hinfo hz hs0 hb0 v xs.length inner cs hs hx (d.K_len (d.K_of_M hp)) (d.K_one (d.K_of_M hp)) hown HB hbase hl ?_
  intro v1 w1 hown1 hb1 hg1 hat1
  exact h v1 w1 (R_appended h0 hr hp hokp hfresh hown1 hg1 hat1) hb1 hg1 hat1
end
section
variable {P : Program} {ops : Array Oper} {o : Oper} {a : Act} {Q : Exit → Act → World → Prop} {Kc : Act → World → Prop} {α : Type}
theorem R_append_step (d : Kd α) {w0 W : World} (base : Nat) (hw : Region.wanted o (yielded ops a.tmps) = true) (s x : Operand) (t e : TypeId) (z : Value) (bytes : Nat)
    (ho : o.op = .call { callee := .builtin .append, args := #[s, x], argTypes := #[t, t] })
    (ht : P.underlying t = some (.slice e)) (hinfo : (P.info? e).map (fun i => (i.zero, i.size, i.bytes)) = some (some z, d.sz, bytes)) (hz : z.cells.size = d.sz) (hs0 : 0 < d.sz) (hb0 : 0 < bytes)
    (v : Value) (xs : List α) (p : α) (cs : List Value) (ok okp : Nat → Prop) (hs : a.eval s = v) (hx : a.eval x = .slice (some ⟨W.heap.size, 0, none⟩) 1 1) (hp : d.M W base okp p cs) (hokp : ∀ k, okp k → ok k ∧ some k ≠ v.ownBlock) (hfresh : ∀ k, W.heap.size ≤ k → ok k)
    (HO : d.R e W base ok v xs) (HB : Below base w0 W) (hbase : base ≤ W.heap.size) (hl : (xs.length + 1) * bytes ≤ 140737488355328)
    (h : ∀ v1 w1, d.R e w1 base ok v1 (xs ++ [p]) → Below base w0 w1 → W.grownBy w1 v.ownBlock → (v1.ownBlock = v.ownBlock ∨ ∃ b, v1.ownBlock = some b ∧ W.heap.size ≤ b) → Kc (a.put o.dst v1) w1) :
    if Region.wanted o (yielded ops a.tmps) = true then Oper.wp P o a (W.alloc (.cells cs.toArray e)) Kc Q else Kc (a.put o.dst undef) (W.alloc (.cells cs.toArray e)) := by
  obtain ⟨h0, inner, hown, hr⟩ := HO
  refine step_append_cells base hw s x t e z d.sz bytes ho ht hinfo hz hs0 hb0 v xs.length inner cs hs hx (d.K_len (d.K_of_M hp)) (d.K_one (d.K_of_M hp)) hown HB hbase hl ?_
  intro v1 w1 hown1 hb1 hg1 hat1
  exact h v1 w1 (R_appended h0 hr hp hokp hfresh hown1 hg1 hat1) hb1 hg1 hat1
end
theorem C_of_reads {α : Type} {enc : α → Value} {d : α} {h1 : ∀ x, (enc x).oneCell' = true} {w : World} {A : Option Addr} {n : Nat} {xs : List α} (h : ReadsOf enc d w A n xs) : (scalar enc h1).C w A n xs := by
  refine ⟨h.1, h.2.1, fun hn => ?_⟩
  obtain ⟨ad, e, hc⟩ := h.2.2 hn
  refine ⟨ad, e, fun j p hj => ⟨[enc p], rfl, rfl, fun i u hu => ?_⟩⟩
  obtain ⟨hl, hp⟩ := List.getElem?_eq_some_iff.1 hj
  have h2 := hc j (by have := h.1; omega)
  rw [List.getD_eq_getElem?_getD, hj] at h2
  cases i with
  | zero =>
    have : enc p = u := by simpa using hu
    subst this
    simpa [scalar] using h2
  | succ i => simp at hu
theorem reads_of_C {α : Type} {enc : α → Value} {d : α} {h1 : ∀ x, (enc x).oneCell' = true} {w : World} {A : Option Addr} {n : Nat} {xs : List α} (h : (scalar enc h1).C w A n xs) : ReadsOf enc d w A n xs := by
  refine ⟨h.1, h.2.1, fun hn => ?_⟩
  obtain ⟨ad, e, hc⟩ := h.2.2 hn
  refine ⟨ad, e, fun j hj => ?_⟩
  have hl : j < xs.length := by have := h.1; omega
  obtain ⟨c, _, hK, hcell⟩ := hc j _ (List.getElem?_eq_getElem hl)
  have hK' : c = [enc xs[j]] := hK
  subst hK'
  have := hcell 0 _ rfl
  simpa [scalar, List.getD_eq_getElem?_getD, List.getElem?_eq_getElem hl] using this
end Kd
namespace Kd
section
variable {α : Type} {F : Kd α → Kd α} {sz : Nat} {E : List Nat} {hs : ∀ n, (upto F sz E n).sz = sz} {hE : ∀ n q, q ∈ (upto F sz E n).E → q ∈ E}
end
end Kd
namespace Kd
end Kd
namespace Kd
section
variable {α β : Type} {d : Kd α} {d' : Kd β} {e e' : Nat} {w w1 W : World} {base b b' : Nat} {ok ok' okv oku : Nat → Prop} {v u : Value} {xs : List α} {ys : List β}
theorem R_drew (h : d.R e w base ok v xs) : d.R e w.drew base ok v xs := R_below h (below_drew (Below.refl _ _))
theorem R_drewN (h : d.R e w base ok v xs) (m : Nat) : d.R e (w.drewN m) base ok v xs := R_below h (pw_below_drewN (Below.refl _ _) m)
theorem C_max {A : Option Addr} {n : Nat} (h : d.C w A n xs) : n ≤ 9223372036854775807 := h.2.1
theorem R_reads' {A : Option Addr} {n c : Nat} (h : d.R e w base ok (.slice A n c) xs) : n = xs.length ∧ n ≤ c ∧ d.C w A xs.length xs := by
  obtain ⟨A', c', he, hl, hr⟩ := R_reads h
  injection he with h1 h2 h3
  subst h1
  exact ⟨h2, by omega, hr⟩
theorem R_lt (h : d.R e w base ok v xs) : ∀ k, v.ownBlock = some k → k < w.heap.size := by
  obtain ⟨inner, ho⟩ := R_own h
  exact own_lt ho
theorem R_base (h : d.R e w base ok v xs) : ∀ k, v.ownBlock = some k → base ≤ k := by
  obtain ⟨inner, ho⟩ := R_own h
  exact own_base ho
theorem R_away (h : d.R e w base ok v xs) {g : Nat} (hok : ∀ k, ok k → k ≠ g) : some g ≠ v.ownBlock := fun e => hok g (h.1 g e.symm) rfl
theorem R_form (h : d.R e w base ok v xs) (hp : 0 < xs.length) : ∃ g cap, v = .slice (some ⟨g, 0, none⟩) xs.length cap ∧ base ≤ g ∧ g < w.heap.size ∧ ∃ cells, w.heap[g]? = some (.cells cells e (0, 0)) := by
  obtain ⟨inner, ho⟩ := R_own h
  obtain ⟨g, cap, he, hb, hl⟩ := ho.form hp
  obtain ⟨cells, hc⟩ := own_typed ho g (by rw [he]; simp [Value.ownBlock])
  exact ⟨g, cap, he, hb, hl, cells, hc⟩
end
section
variable {w W : World} {A : Option Addr} {n : Nat}
theorem at_int {k : IntKind} {xs : List Int} (h : (Kd.int k).C w A n xs) (i : Int) (h0 : 0 ≤ i) (h1 : i < n) : ∃ ad, A = some ad ∧ w.cell? (ad.add i.toNat) = some (.int k (rd xs i)) :=
  ReadsOf.at_ (reads_of_C (enc := Value.int k) (d := (0 : Int)) (h1 := fun _ => rfl) h) i h0 h1
variable {α : Type} {enc : α → Value} {h1 : ∀ x, (enc x).oneCell' = true} {e base g cap : Nat} {ok : Nat → Prop} {xs : List α}
end
section
variable {P : Program} {ops : Array Oper} {rest : List Oper} {o : Oper} {a : Act} {Q : Exit → Act → World → Prop}
theorem event_run {W w1 : World} {v : Value} (hgd : o.guard = none) (hrun : (execOp a.eval o).run P W = .ok (.value v) w1) (h : wpList P ops Q rest (a.put o.dst v) w1) : wpList P ops Q (o :: rest) a W := by
  refine wpList_plain hgd fun K hK => ?_
  unfold Oper.wp
  rw [hrun]
  exact hK _ _ h
variable {α : Type}
theorem R_lit (d : Kd α) {w0 W : World} (base e : Nat) (hgd : o.guard = none) {N : Tmp} (_hd : o.dst = some N) {xs : List α} {inner : List Value} {ok okp : Nat → Prop}
    (hrun : (execOp a.eval o).run P W = .ok (.value (.slice (some ⟨W.heap.size, 0, none⟩) xs.length xs.length)) (W.alloc (.cells inner.toArray e)))
    (hrep : Reps (d.M W base okp) d.sz xs inner) (hok : ∀ k, okp k → ok k) (hfresh : ok W.heap.size) (HB : Below base w0 W) (hbase : base ≤ W.heap.size) (hm : xs.length ≤ 9223372036854775807)
    (h : ∀ v1 w1, d.R e w1 base ok v1 xs → Below base w0 w1 → W.grownBy w1 none → (∃ b, v1.ownBlock = some b ∧ W.heap.size ≤ b) → wpList P ops Q rest (a.put o.dst v1) w1) : wpList P ops Q (o :: rest) a W := by
  refine event_run hgd hrun (h _ _ ⟨fun k hk => ?_, inner, ?_, ?_⟩ (HB.alloc hbase _) (World.grownBy_alloc W _ none) ⟨W.heap.size, by simp [Value.ownBlock], Nat.le_refl _⟩)
  · have : W.heap.size = k := by simpa [Value.ownBlock] using hk
    subst this
    exact hfresh
  · have h2 := World.ownsRow_lit (base := base) (e := e) (size := d.sz) W inner.toArray xs.length hbase (by simpa [maxLen] using hm) (by simpa using hrep.1)
    simpa using h2
  · refine hrep.imp_ (fun p c hp => d.M_mono (fun k hk => ⟨hok k hk.1, fun he => ?_⟩) (M_below (d.M_bound hp) (below_alloc (Below.refl _ _) _)))
    have h3 : k = W.heap.size := by simpa [Value.ownBlock] using he
    have := hk.2.2.1
    omega
end
end Kd
section
variable {P : Program}
theorem cut_to (t e : TypeId) (kh : IntKind) {i : TypeInfo} (ht : P.underlying t = some (.slice e)) (hi : P.info? e = some i) (A : Option Addr) (n c : Nat) (j : Int) (h0 : 0 ≤ j) (hm : j ≤ n) (hc : n ≤ c) :
    ∀ W : World, (Instr.slice t (.slice A n c) none (some (.int kh j)) none).run P W = .ok (.slice A j.toNat c) W := by
  intro W
  have hel : P.elem t = e := by simp [Program.elem, ht]
  have hu : P.underlying t = some (.slice (P.elem t)) := by rw [hel]; exact ht
  have ha : (A.map fun x => x.add 0) = A := by cases A <;> simp [Addr.add]
  rw [run_slice_h W t A n c hu kh j h0 (by omega), hel]
  simp [sizeOf, typeInfo, hi, sliced, Result.andThen, ha]
theorem cut_from (t e : TypeId) (kl : IntKind) {i : TypeInfo} (ht : P.underlying t = some (.slice e)) (hi : P.info? e = some i) (size : Nat) (hsz : i.size = size) (A : Option Addr) (n c : Nat) (j : Int) (h0 : 0 ≤ j) (hm : j ≤ n) :
    ∀ W : World, (Instr.slice t (.slice A n c) (some (.int kl j)) none none).run P W = .ok (.slice (if c = j.toNat then A else A.map (·.add (j.toNat * size))) (n - j.toNat) (c - j.toNat)) W := by
  intro W
  have hel : P.elem t = e := by simp [Program.elem, ht]
  have hu : P.underlying t = some (.slice (P.elem t)) := by rw [hel]; exact ht
  rw [run_slice_l W t A n c hu kl j h0 hm, hel]
  simp [sizeOf, typeInfo, hi, hsz, sliced, Result.andThen]
end
def QRow (w : World) (base : Nat) (e : TypeId) (size : Nat) (v : Value) (n : Nat) (xs : List Value) : Prop :=
  xs.length = n * size ∧
  ((n = 0 ∧ ∃ A, v = .slice A 0 0 ∧ ∀ a, A = some a → base ≤ a.block ∧ ∃ cur, w.heap[a.block]? = some (.cells cur e (0, 0))) ∨
   ∃ g off cap cur, v = .slice (some ⟨g, off * size, none⟩) n cap ∧ base ≤ g ∧ w.heap[g]? = some (.cells cur e (0, 0)) ∧ n ≤ cap ∧ off + cap ≤ maxLen ∧ cur.size = (off + cap) * size ∧ (cur.toList.drop (off * size)).take (n * size) = xs)
section
variable {w w1 : World} {base n size : Nat} {e : TypeId} {v : Value} {xs : List Value}
theorem setCells_far {g : Nat} : ∀ (vs : List Value) (o : Nat) {w : World} (k : Nat), k ≠ g → (w.setCells g o vs).heap[k]? = w.heap[k]?
  | [], _, _, _, _ => rfl
  | v :: r, o, w, k, hk => by
    rw [World.setCells, setCells_far r (o + 1) k hk]
    exact Below.heap_setCell w ⟨g, o, none⟩ v k hk
theorem setCells_same (g : Nat) : ∀ (vs : List Value) (o : Nat) (w : World), (w.setCells g o vs).os = w.os ∧ (w.setCells g o vs).tape = w.tape ∧ (w.setCells g o vs).output = w.output ∧ (w.setCells g o vs).heap.size = w.heap.size
  | [], _, _ => ⟨rfl, rfl, rfl, rfl⟩
  | v :: r, o, w => by
    obtain ⟨h1, h2, h3, h4⟩ := setCells_same g r (o + 1) (w.setCell ⟨g, o, none⟩ v)
    rw [World.setCells]
    exact ⟨h1, h2, h3, by rw [h4]; simp [World.setCell]⟩
theorem setCells_row {g : Nat} {e : TypeId} : ∀ (vs : List Value) (o : Nat) (w : World) (cur : Array Value), w.heap[g]? = some (.cells cur e (0, 0)) → o + vs.length ≤ cur.size →
    ∃ cur', (w.setCells g o vs).heap[g]? = some (.cells cur' e (0, 0)) ∧ cur'.size = cur.size ∧ cur'.toList = cur.toList.take o ++ vs ++ cur.toList.drop (o + vs.length)
  | [], o, w, cur, h, _ => ⟨cur, h, rfl, by simp⟩
  | v :: r, o, w, cur, h, hl => by
    have h2 := blk_set h o v
    simp only [List.length_cons] at hl
    obtain ⟨cur', h3, h4, h5⟩ := setCells_row r (o + 1) (w.setCell ⟨g, o, none⟩ v) _ h2 (by simp; omega)
    refine ⟨cur', h3, by rw [h4]; simp, ?_⟩
    rw [h5, Array.toList_setIfInBounds]
    have ho : o < cur.toList.length := by rw [Array.length_toList]; omega
    rw [List.take_set, List.drop_set_of_lt (by omega)]
    simp only [List.length_cons]
    rw [show o + 1 + r.length = o + (r.length + 1) by omega]
    congr 1
    rw [List.take_succ_eq_append_getElem ho, List.set_append_right _ _ (by rw [List.length_take]; omega)]
    have ho' : o < cur.size := by omega
    simp [Nat.min_eq_left (Nat.le_of_lt ho')]
end
section
variable {P : Program}
end
namespace Kd
def Q {α : Type} (d : Kd α) (e : Nat) (w : World) (base : Nat) (ok : Nat → Prop) (v : Value) (xs : List α) : Prop :=
  (∀ k, v.ownBlock = some k → ok k) ∧ ∃ inner, QRow w base e d.sz v xs.length inner ∧ Reps (d.M w base (fun k => ok k ∧ some k ≠ v.ownBlock)) d.sz xs inner
section
variable {α : Type} {d : Kd α} {e : Nat} {w w1 W : World} {base : Nat} {ok ok' : Nat → Prop} {v : Value} {xs : List α}
end
section
variable {P : Program} {ops : Array Oper} {rest : List Oper} {o : Oper} {a : Act} {Q' : Exit → Act → World → Prop} {Kc : Act → World → Prop} {α : Type}
end
end Kd
namespace Kd
section
variable {α : Type} {d : Kd α} {e e' : Nat} {w w1 W : World} {base : Nat} {ok : Nat → Prop} {u v : Value} {xs : List α}
theorem R_elder' (hu : d.R e W base ok u xs) (hbase : ∀ k, v.ownBlock = some k → W.heap.size ≤ k) (hb : Below W.heap.size W w1) : d.R e w1 base (fun k => ok k ∧ some k ≠ v.ownBlock) u xs :=
  R_mono (R_move (R_bound hu) (fun k hk => hb.block k hk.2.2.1)) (fun k hk => ⟨hk.1, fun he => by have := hbase k he.symm; have := hk.2.2.1; omega⟩)
theorem R_new' (h : d.R e w1 W.heap.size ok v xs) (hlt : ∀ k, u.ownBlock = some k → k < W.heap.size) : d.R e w1 W.heap.size (fun k => ok k ∧ some k ≠ u.ownBlock) v xs :=
  R_mono (R_bound h) (fun k hk => ⟨hk.1, fun he => by have := hlt k he.symm; have := hk.2.1; omega⟩)
end
end Kd
theorem seg_get {α : Type} (a seg : List α) (o : Nat) (h : o + seg.length ≤ a.length) (q : Nat) :
    (a.take o ++ seg ++ a.drop (o + seg.length))[q]? = if q < o then a[q]? else if q < o + seg.length then seg[q - o]? else a[q]? := by
  have hl : (a.take o).length = o := by rw [List.length_take]; omega
  rw [List.append_assoc]
  by_cases h1 : q < o
  · rw [if_pos h1, List.getElem?_append_left (by omega), List.getElem?_take, if_pos h1]
  · rw [if_neg h1, List.getElem?_append_right (by omega), hl]
    by_cases h2 : q < o + seg.length
    · rw [if_pos h2, List.getElem?_append_left (by omega)]
    · rw [if_neg h2, List.getElem?_append_right (by omega), List.getElem?_drop]
      congr 1
      omega
namespace Kd
section
variable {α : Type} {d : Kd α} {e base g n cap : Nat} {ok okp : Nat → Prop} {W : World} {xs : List α}
theorem R_elem (h : d.R e W base ok (.slice (some ⟨g, 0, none⟩) n cap) xs) (z : α) (i : Int) (h0 : 0 ≤ i) (h1 : i < n) :
    ∃ c, c.length = d.sz ∧ d.M W base (fun k => ok k ∧ k ≠ g) (xs.getD i.toNat z) c ∧ (∀ j u, c[j]? = some u → W.cell? ⟨g, i.toNat * d.sz + j, none⟩ = some u) ∧ ∀ j, W.frozen? ⟨g, i.toNat * d.sz + j, none⟩ = false := by
  obtain ⟨hn, hnc, hC⟩ := R_reads' h
  obtain ⟨_, inner, ho, hr⟩ := h
  have hil : i.toNat < xs.length := by omega
  have hseg : i.toNat * d.sz + d.sz ≤ inner.length := by rw [hr.1, ← Nat.succ_mul]; exact Nat.mul_le_mul_right _ hil
  have hM := hr.2 i.toNat _ (List.getElem?_eq_getElem hil)
  refine ⟨(inner.drop (i.toNat * d.sz)).take d.sz, by rw [List.length_take, List.length_drop]; omega, ?_, fun j u hu => ?_, fun j => ?_⟩
  · rw [List.getD_eq_getElem?_getD, List.getElem?_eq_getElem hil]
    exact d.M_mono (fun k hk => ⟨hk.1, fun he => hk.2 (by rw [he]; simp [Value.ownBlock])⟩) hM
  · rw [List.getElem?_take] at hu
    split at hu
    · rw [List.getElem?_drop] at hu
      have := ho.cells (g := g) (by simp [Value.ownBlock]) _ u hu
      rwa [add_plain] at this
    · cases hu
  · obtain ⟨cells, hc⟩ := own_typed ho g (by simp [Value.ownBlock])
    exact blk_frozen hc _
theorem R_seg (h : d.R e W base ok (.slice (some ⟨g, 0, none⟩) n cap) xs) (i : Int) (h0 : 0 ≤ i) (h1 : i < n) {c seg : List Value} {j : Nat} (hcl : c.length = d.sz) (hcc : ∀ j u, c[j]? = some u → W.cell? ⟨g, i.toNat * d.sz + j, none⟩ = some u)
    (hj : j + seg.length ≤ d.sz) {x' : α} (hM : d.M W base okp x' (c.take j ++ seg ++ c.drop (j + seg.length))) (hokp : ∀ k, okp k → ok k ∧ k ≠ g) :
    d.R e (W.setCells g (i.toNat * d.sz + j) seg) base ok (.slice (some ⟨g, 0, none⟩) n cap) (xs.set i.toNat x') ∧ W.grownBy (W.setCells g (i.toNat * d.sz + j) seg) (some g) := by
  obtain ⟨hn, hnc, _⟩ := R_reads' h
  obtain ⟨hok, inner, ho, hr⟩ := h
  have hil : i.toNat < xs.length := by omega
  have hseg : i.toNat * d.sz + d.sz ≤ inner.length := by rw [hr.1, ← Nat.succ_mul]; exact Nat.mul_le_mul_right _ hil
  have hin : inner.length = n * d.sz := by rw [hr.1, hn]
  obtain ⟨ho1, ho2⟩ := ho
  rcases ho2 with ⟨hv, _⟩ | ⟨g', cap', cur, hv, hb, hh, hnc', hcm, hcs, ht⟩
  · cases hv
  injection hv with ha _ hc
  injection ha with ha
  injection ha with hg
  subst hg; subst hc
  have hfit : i.toNat * d.sz + j + seg.length ≤ cur.size := by
    have : n * d.sz ≤ cap * d.sz := Nat.mul_le_mul_right _ hnc
    omega
  obtain ⟨cur', h3, h4, h5⟩ := setCells_row seg (i.toNat * d.sz + j) W cur hh hfit
  obtain ⟨s1, s2, s3, s4⟩ := setCells_same g seg (i.toNat * d.sz + j) W
  have hfar : ∀ k, k ≠ g → (W.setCells g (i.toNat * d.sz + j) seg).heap[k]? = W.heap[k]? := fun k hk => setCells_far seg _ k hk
  have hcin : ∀ q, q < d.sz → c[q]? = inner[i.toNat * d.sz + q]? := by
    intro q hq
    have hq' : q < c.length := by omega
    have h6 := hcc q _ (List.getElem?_eq_getElem hq')
    rw [cell_of_row W g _ cur e (0, 0) hh] at h6
    rw [List.getElem?_eq_getElem hq', ← h6, ← ht, List.getElem?_take, if_pos (by rw [← hn]; omega), Array.getElem?_toList]
  refine ⟨⟨hok, inner.take (i.toNat * d.sz + j) ++ seg ++ inner.drop (i.toNat * d.sz + j + seg.length), ⟨?_, .inr ⟨g, cap, cur', by rw [List.length_set, hn], hb, h3, by rw [List.length_set, ← hn]; exact hnc, hcm, by rw [h4, hcs], ?_⟩⟩, ?_⟩,
    ⟨s1, s2, s3, by rw [s4]; exact Nat.le_refl _, fun k _ hk => hfar k (fun he => hk (by rw [he]))⟩⟩
  · rw [List.length_set]
    simp only [List.length_append, List.length_take, List.length_drop]
    rw [hr.1] at hseg ⊢
    omega
  · rw [List.length_set, ← hn]
    apply List.ext_getElem?
    intro q
    rw [List.getElem?_take, h5]
    rw [seg_get cur.toList seg (i.toNat * d.sz + j) (by rw [Array.length_toList]; omega) q, seg_get inner seg (i.toNat * d.sz + j) (by omega) q]
    have hcur : ∀ q, q < n * d.sz → cur.toList[q]? = inner[q]? := by
      intro q hq
      rw [← ht, List.getElem?_take, if_pos (by rw [← hn]; exact hq)]
    by_cases hq : q < n * d.sz
    · rw [if_pos hq, hcur q hq]
    · rw [if_neg hq, if_neg (by omega), if_neg (by omega), List.getElem?_eq_none (by omega)]
  · refine ⟨?_, fun m p hm => ?_⟩
    · rw [List.length_set]
      simp only [List.length_append, List.length_take, List.length_drop]
      rw [hr.1] at hseg ⊢
      omega
    · have hml : m < xs.length := by
        have := (List.getElem?_eq_some_iff.1 hm).1
        rwa [List.length_set] at this
      have hmfit : m * d.sz + d.sz ≤ inner.length := by rw [hr.1, ← Nat.succ_mul]; exact Nat.mul_le_mul_right _ hml
      have hgo : some g = (Value.slice (some ⟨g, 0, none⟩) n cap).ownBlock := by simp [Value.ownBlock]
      by_cases hmi : m = i.toNat
      · subst hmi
        rw [List.getElem?_set_self (by omega)] at hm
        injection hm with hm
        subst hm
        have hcells : ((inner.take (i.toNat * d.sz + j) ++ seg ++ inner.drop (i.toNat * d.sz + j + seg.length)).drop (i.toNat * d.sz)).take d.sz = c.take j ++ seg ++ c.drop (j + seg.length) := by
          apply List.ext_getElem?
          intro q
          rw [List.getElem?_take, List.getElem?_drop, seg_get inner seg _ (by omega), seg_get c seg j (by omega) q]
          by_cases hq : q < d.sz
          · rw [if_pos hq, hcin q hq]
            by_cases hq1 : q < j
            · rw [if_pos (by omega), if_pos hq1]
            · rw [if_neg (by omega), if_neg hq1]
              by_cases hq2 : q < j + seg.length
              · rw [if_pos (by omega), if_pos hq2]
                congr 1
                omega
              · rw [if_neg (by omega), if_neg hq2]
          · rw [if_neg hq, if_neg (by omega), if_neg (by omega), List.getElem?_eq_none (by omega)]
        rw [hcells]
        refine d.M_mono (fun k hk => ?_) (d.M_move (w1 := W.setCells g (i.toNat * d.sz + j) seg) (fun k hk => hfar k (hokp k hk).2) hM)
        exact ⟨(hokp k hk).1, fun he => (hokp k hk).2 (by rw [← hgo] at he; injection he)⟩
      · rw [List.getElem?_set_ne (by omega)] at hm
        have hold := hr.2 m p hm
        have hcells : ((inner.take (i.toNat * d.sz + j) ++ seg ++ inner.drop (i.toNat * d.sz + j + seg.length)).drop (m * d.sz)).take d.sz = (inner.drop (m * d.sz)).take d.sz := by
          apply List.ext_getElem?
          intro q
          rw [List.getElem?_take, List.getElem?_take, List.getElem?_drop, List.getElem?_drop, seg_get inner seg _ (by omega)]
          by_cases hq : q < d.sz
          · rw [if_pos hq, if_pos hq]
            rcases Nat.lt_or_gt_of_ne hmi with hlt | hgt
            · have : m * d.sz + d.sz ≤ i.toNat * d.sz := by rw [← Nat.succ_mul]; exact Nat.mul_le_mul_right _ hlt
              rw [if_pos (by omega)]
            · have : i.toNat * d.sz + d.sz ≤ m * d.sz := by rw [← Nat.succ_mul]; exact Nat.mul_le_mul_right _ hgt
              rw [if_neg (by omega), if_neg (by omega)]
          · rw [if_neg hq, if_neg hq]
        rw [hcells]
        refine d.M_move (fun k hk => hfar k (fun he => hk.2 (by rw [he]; exact hgo))) hold
end
end Kd
namespace Kd
section
variable {α : Type} {F : Kd α → Kd α} {sz : Nat} {E : List Nat} {hs : ∀ n, (upto F sz E n).sz = sz} {hE : ∀ n q, q ∈ (upto F sz E n).E → q ∈ E}
end
end Kd
namespace Kd
theorem reps_append {α : Type} {R : α → List Value → Prop} {size : Nat} {ps qs : List α} {cs ds : List Value} (h : Reps R size ps cs) (h' : Reps R size qs ds) : Reps R size (ps ++ qs) (cs ++ ds) := by
  refine ⟨by rw [List.length_append, List.length_append, h.1, h'.1, Nat.add_mul], fun j p hj => ?_⟩
  rcases Nat.lt_or_ge j ps.length with hlt | hge
  · rw [List.getElem?_append_left hlt] at hj
    have hle : j * size + size ≤ cs.length := by rw [h.1, ← Nat.succ_mul]; exact Nat.mul_le_mul_right _ hlt
    rw [List.drop_append_of_le_length (by omega), List.take_append_of_le_length (by rw [List.length_drop]; omega)]
    exact h.2 j p hj
  · rw [List.getElem?_append_right hge] at hj
    have h2 := h'.2 (j - ps.length) p hj
    have hle : ps.length * size ≤ j * size := Nat.mul_le_mul_right _ hge
    rw [List.drop_append, List.drop_eq_nil_of_le (by rw [h.1]; exact hle), List.nil_append, h.1, ← Nat.sub_mul]
    exact h2
section
variable {P : Program} {ops : Array Oper} {rest : List Oper} {o : Oper} {a : Act} {Q : Exit → Act → World → Prop} {α : Type}
theorem R_append_rows (d : Kd α) {Rr : α → List Value → Prop} {w0 W : World} (base : Nat) (hgd : o.guard = none) (s x : Operand) (t e : TypeId) (z : Value) (bytes : Nat)
    (ho : o.op = .call { callee := .builtin .append, args := #[s, x], argTypes := #[t, t] })
    (ht : P.underlying t = some (.slice e)) (hinfo : (P.info? e).map (fun i => (i.zero, i.size, i.bytes)) = some (some z, d.sz, bytes)) (hz : z.cells.size = d.sz) (hs0 : 0 < d.sz) (hb0 : 0 < bytes)
    (v : Value) (xs ys : List α) (A : Option Addr) (m c : Nat) (ok okp : Nat → Prop) (hs : a.eval s = v) (hx : a.eval x = .slice A m c)
    (HO : d.R e W base ok v xs) (HR : ReadsRow Rr d.sz W A m ys) (hKM : ∀ x cs, Rr x cs → d.M W base okp x cs) (hokp : ∀ k, okp k → ok k ∧ some k ≠ v.ownBlock) (hfresh : ∀ k, W.heap.size ≤ k → ok k)
    (HB : Below base w0 W) (hbase : base ≤ W.heap.size) (hl : (xs.length + m) * bytes ≤ 140737488355328)
    (h : ∀ v1 w1, d.R e w1 base ok v1 (xs ++ ys) → Below base w0 w1 → W.grownBy w1 v.ownBlock → (v1.ownBlock = v.ownBlock ∨ ∃ b, v1.ownBlock = some b ∧ W.heap.size ≤ b) → wpList P ops Q rest (a.put o.dst v1) w1) :
    wpList P ops Q (o :: rest) a W := by
  obtain ⟨i0, hi, hzz⟩ := Option.map_eq_some_iff.1 hinfo
  simp only [Prod.mk.injEq] at hzz
  obtain ⟨hz0, hz1, hz2⟩ := hzz
  have hm : ys.length = m := HR.1
  have hlen : xs.length + m ≤ 140737488355328 := Nat.le_trans (Nat.le_mul_of_pos_right _ hb0) hl
  obtain ⟨hok, inner, hown, hr⟩ := HO
  have hrun : ∃ v1 w1, (Builtin.append_ #[t, t] o.type #[v, .slice A m c]).run P W = .ok v1 w1 ∧ d.R e w1 base ok v1 (xs ++ ys) ∧ W.grownBy w1 v.ownBlock ∧ (v1.ownBlock = v.ownBlock ∨ ∃ b, v1.ownBlock = some b ∧ W.heap.size ≤ b) := by
    rcases A with _ | ad
    · have h0 : m = 0 := by
        rcases Nat.eq_zero_or_pos m with h0 | h0
        · exact h0
        · obtain ⟨ad, h, _⟩ := HR.2.2 h0
          cases h
      subst h0
      obtain rfl : ys = [] := List.eq_nil_of_length_eq_zero hm
      refine ⟨v, W, ?_, by rw [List.append_nil]; exact ⟨hok, inner, hown, hr⟩, World.grownBy.refl W _, .inl rfl⟩
      rcases hown.2 with ⟨rfl, hn⟩ | ⟨g, cap, cur, rfl, _, _, hnc, _⟩
      · simp [Builtin.append_, run_underlying ht, sizeOf, typeInfo, hi, Builtin.lenOf, Builtin.firstCells]
      · simp [Builtin.append_, run_underlying ht, sizeOf, typeInfo, hi, Builtin.lenOf, Builtin.firstCells, hnc, storeCells]
    · obtain ⟨news, hnr, hnc⟩ := ReadsRow.inner_ HR
      have hnM : Reps (d.M W base okp) d.sz ys news := hnr.imp_ (fun p c hp => hKM p c hp)
      have hone : ∀ u ∈ news, u.oneCell' = true := by
        intro u hu
        obtain ⟨q, hq, rfl⟩ := List.mem_iff_getElem.1 hu
        have hql : q / d.sz < ys.length := by
          rw [Nat.div_lt_iff_lt_mul hs0]
          rw [← hnM.1]
          exact hq
        have hc := hnM.2 (q / d.sz) _ (List.getElem?_eq_getElem hql)
        refine d.K_one (d.K_of_M hc) _ ?_
        rw [List.mem_iff_getElem?]
        refine ⟨q % d.sz, ?_⟩
        rw [List.getElem?_take, if_pos (Nat.mod_lt _ hs0), List.getElem?_drop, Nat.mul_comm, Nat.div_add_mod, List.getElem?_eq_getElem hq]
      obtain ⟨v1, w1, hrun, h2, hg, _, hat⟩ := run_append_own_at (P := P) W base t o.type e i0 z d.sz bytes ht hi hz0 hz1 hz2 hz hs0 v xs.length inner hown ad m c news (by rw [hnM.1, hm]) hnc hone (by simp only [maxLen]; omega) hl hbase
      have hat' : v1.ownBlock = v.ownBlock ∨ ∃ b, v1.ownBlock = some b ∧ W.heap.size ≤ b := by
        rcases hat with hat | hat
        · exact .inl hat
        · exact .inr ⟨_, hat, Nat.le_refl _⟩
      have hne : ∀ k, some k ≠ v.ownBlock → k < W.heap.size → some k ≠ v1.ownBlock := by
        intro k hk hlt
        rcases hat' with hat | ⟨b, hb, hle⟩
        · rw [hat]; exact hk
        · rw [hb]
          intro he
          injection he with he
          omega
      have step : ∀ {q : α} {c : List Value} {o : Nat → Prop}, d.M W base o q c → (∀ k, o k → ok k ∧ some k ≠ v.ownBlock) → d.M w1 base (fun k => ok k ∧ some k ≠ v1.ownBlock) q c := by
        intro q c o hq ho
        have h1 := d.M_move (w1 := w1) (fun k hk => hg.block k hk.2.2.1 (ho k hk.1).2) (d.M_bound hq)
        exact d.M_mono (fun k hk => ⟨(ho k hk.1).1, hne k (ho k hk.1).2 hk.2.2.1⟩) h1
      refine ⟨v1, w1, hrun, ⟨fun k hk => ?_, inner ++ news, by rw [List.length_append, hm]; exact h2, reps_append (hr.imp_ (fun _ _ hq => step hq (fun _ hk => hk))) (hnM.imp_ (fun _ _ hq => step hq hokp))⟩, hg, hat'⟩
      rcases hat' with hat | ⟨b, hb, hle⟩
      · exact hok k (hat ▸ hk)
      · rw [hb] at hk
        injection hk with hk
        exact hfresh k (by omega)
  obtain ⟨v1, w1, hr1, h1, hg, hat⟩ := hrun
  refine wpList_plain hgd fun K hK => ?_
  unfold Oper.wp execOp
  simp only [ho, resolve, invoke, builtin, Sem.run_bind, Sem.run_pure, Result.andThen_ok, List.map_toArray, List.map_cons, List.map_nil, hs, hx, hr1]
  exact hK _ _ (h v1 w1 h1 (HB.grown hg hbase (own_base hown)) hg hat)
end
end Kd
namespace Kd
section
variable {P : Program} {ops : Array Oper} {rest : List Oper} {o : Oper} {a : Act} {Q : Exit → Act → World → Prop} {α : Type}
end
end Kd
namespace Kd
section
variable {α : Type} {k : Kd α} {w : World} {A : Option Addr} {xs : List α} {m c : Nat}
end
end Kd
section
variable {P : Program}
end
theorem below_size {w W : World} (h : Below w.heap.size w W) : w.heap.size ≤ W.heap.size := h.size
theorem below_step {w W w2 : World} (h : Below w.heap.size w W) (k : Below W.heap.size W w2) : Below w.heap.size w w2 := below_then h h.size k
theorem ReadsInt.nil (W : World) (k : IntKind) : ReadsInt W k none ([] : List Int).length [] := ⟨rfl, by simp, fun h => absurd h (Nat.lt_irrefl 0)⟩
theorem ReadsInt.ofRow {k : IntKind} {w : World} {a : Option Addr} {len cap : Nat} {zs : List Int} (h : (a = none ∧ len = 0 ∧ cap = 0 ∧ zs = []) ∨ ∃ x, a = some x ∧ len ≤ cap ∧ cap ≤ maxLen ∧ zs.length = cap ∧ (∀ i, i < zs.length → w.cell? (x.add i) = some (.int k (zs.getD i 0))) ∧ ∀ n ∈ zs, (Lit.int k n).wf = true) :
    ∃ l : List Int, len = l.length ∧ ReadsInt w k a l.length l ∧ l.length ≤ maxLen ∧ ∀ x ∈ l, (Lit.int k x).wf = true := by
  rcases h with ⟨rfl, rfl, rfl, rfl⟩ | ⟨x, rfl, hl, hm, hz, hc, hw⟩
  · exact ⟨[], rfl, ReadsInt.nil _ _, Nat.zero_le _, fun x hx => by simp at hx⟩
  · have e : (zs.take len).length = len := by simp; omega
    have hm' : len ≤ maxLen := Nat.le_trans hl hm
    refine ⟨zs.take len, e.symm, ⟨rfl, by rw [e]; simpa [maxLen] using hm', fun _ => ⟨x, rfl, fun j hj => ?_⟩⟩, by rw [e]; exact hm', fun y hy => hw y (List.mem_of_mem_take hy)⟩
    rw [e] at hj
    rw [hc j (by omega)]
    simp [List.getD, List.getElem?_take, hj]
theorem below_set {w W : World} {g j : Nat} {v : Value} (h : Below w.heap.size w W) (hg : w.heap.size ≤ g) : Below w.heap.size w (W.setCell ⟨g, j, none⟩ v) := h.setCell hg _
theorem keep_drewN {w W : World} {g : Nat} {row : Option Nat} (h : KeepBut w W g row) (m : Nat) : KeepBut w (W.drewN m) g row := h
theorem add_block (a : Addr) (i : Nat) : (a.add i).block = a.block := by unfold Addr.add; split <;> rfl
theorem cell_far {W : World} {p a : Addr} (h : a.block ≠ p.block) (u : Value) : (W.setCell p u).cell? a = W.cell? a := by
  have := Below.heap_setCell W p u a.block h
  simp [World.cell?, this]
theorem blk_put {w : World} {g : Nat} {t : TypeId} {cs cs' : Array Value} (h : w.heap[g]? = some (.cells cs t (0, 0))) (i : Nat) (u : Value) (e : cs.setIfInBounds i u = cs') : (w.setCell ⟨g, i, none⟩ u).heap[g]? = some (.cells cs' t (0, 0)) := e ▸ blk_set h i u
theorem ReadsInt.ofRowC {k : IntKind} {w : World} {a : Option Addr} {len cap : Nat} {zs : List Int} (h : (a = none ∧ len = 0 ∧ cap = 0 ∧ zs = []) ∨ ∃ x, a = some x ∧ len ≤ cap ∧ cap ≤ maxLen ∧ zs.length = cap ∧ (∀ i, i < zs.length → w.cell? (x.add i) = some (.int k (zs.getD i 0))) ∧ ∀ n ∈ zs, (Lit.int k n).wf = true) :
    ∃ l : List Int, len = l.length ∧ ReadsInt w k a l.length l ∧ l.length ≤ maxLen ∧ (∀ x ∈ l, (Lit.int k x).wf = true) ∧ l.length ≤ cap := by
  have hl : len ≤ cap := by
    rcases h with ⟨_, rfl, rfl, _⟩ | ⟨_, _, h, _⟩
    · exact Nat.le_refl _
    · exact h
  obtain ⟨l, e, h1, h2, h3⟩ := ReadsInt.ofRow h
  exact ⟨l, e, h1, h2, h3, e ▸ hl⟩
theorem below_drew1 {base : Nat} {w W : World} (h : Below base w W) : Below base w W.drew := h.drew
namespace Kd
section
variable {α β : Type} {d : Kd α} {d' : Kd β} {e e' base base' n : Nat} {ok ok' : Nat → Prop} {w W w1 W1 : World} {v u : Value} {xs : List α} {ys : List β} {A : Option Addr} {c : Nat}
end
section
variable {α : Type} {enc : α → Value} {h1 : ∀ x, (enc x).oneCell' = true} {w W : World} {A : Option Addr} {n g : Nat} {xs : List α}
end
end Kd
namespace Kd
section
variable {α : Type} {d : Kd α} {e base g : Nat} {ok : Nat → Prop} {w w1 : World} {v : Value} {xs : List α} {o : Obj}
theorem R_elderB (h : d.R e w base ok v xs) (a : Nat) (ha : w.heap.size ≤ a) : d.R e w base (fun k => ok k ∧ k ≠ a) v xs := R_mono (R_bound h) (fun k hk => ⟨hk.1, by have := hk.2.2.1; omega⟩)
theorem freshB (hb : w.heap[g]? = some o) : ∀ k, w.heap.size ≤ k → k ≠ g := fun k hk => by have := blk_lt hb; omega
end
end Kd
section
variable {P : Program} {ops : Array Oper} {rest : List Oper} {o : Oper} {a : Act} {Q : Exit → Act → World → Prop}
theorem box_event {W : World} (hgd : o.guard = none) {N : Tmp} (_hd : o.dst = some N) {cs : Array Value} {t : TypeId}
    (hrun : (execOp a.eval o).run P W = .ok (.value (.pointer (some ⟨W.heap.size, 0, none⟩))) (W.alloc (.cells cs t (0, 0))))
    (h : ∀ g, g = W.heap.size → ∀ w1, w1.heap[g]? = some (.cells cs t (0, 0)) → Below W.heap.size W w1 → wpList P ops Q rest (a.put o.dst (.pointer (some ⟨g, 0, none⟩))) w1) : wpList P ops Q (o :: rest) a W :=
  Kd.event_run hgd hrun (h _ rfl _ (blk_new W _) (below_alloc (Below.refl _ _) _))
end
namespace Kd
section
variable {α : Type} {enc : α → Value} {h1 : ∀ x, (enc x).oneCell' = true} {e base g n cap : Nat} {ok : Nat → Prop} {W : World} {xs : List α}
end
end Kd
section
variable {P : Program} {ops : Array Oper} {rest : List Oper} {o : Oper} {a : Act} {Q : Exit → Act → World → Prop}
theorem store_event {W w1 : World} (hgd : o.guard = none) {t : TypeId} {p : Tmp} {v : Operand} (_ho : o.op = .store t (.tmp p) v) (hN : o.dst = none)
    (hrun : (execOp a.eval o).run P W = .ok .skip w1) (h : ∀ w', w' = w1 → wpList P ops Q rest a w') : wpList P ops Q (o :: rest) a W := by
  refine wpList_plain hgd fun K hK => ?_
  unfold Oper.wp
  rw [hrun]
  show K (a.put o.dst undef) w1
  rw [hN]
  exact hK _ _ (h _ rfl)
end
namespace Kd
section
variable {α : Type} {enc : α → Value} {h1 : ∀ x, (enc x).oneCell' = true} {e base g n cap : Nat} {ok : Nat → Prop} {W : World} {xs : List α}
end
end Kd
section
variable {P : Program} {ops : Array Oper} {rest : List Oper} {o : Oper} {a : Act} {Q : Exit → Act → World → Prop} {W : World}
theorem gate_dst {N : Tmp} (_hN : o.dst = some N) (h : wpList P ops Q (o :: rest) a W) : wpList P ops Q (o :: rest) a W := h
theorem gate_store {t : TypeId} {p : Tmp} {v : Operand} (_ho : o.op = .store t (.tmp p) v) (h : wpList P ops Q (o :: rest) a W) : wpList P ops Q (o :: rest) a W := h
end
section
variable {P : Program} {ops : Array Oper} {o : Oper} {a : Act} {Q : Exit → Act → World → Prop} {Kc : Act → World → Prop}
theorem event_step {W w1 : World} {v : Value} (hw : Region.wanted o (yielded ops a.tmps) = true) (hrun : (execOp a.eval o).run P W = .ok (.value v) w1) (h : Kc (a.put o.dst v) w1) : if Region.wanted o (yielded ops a.tmps) = true then Oper.wp P o a W Kc Q else Kc (a.put o.dst undef) W := by
  rw [if_pos hw]
  unfold Oper.wp
  rw [hrun]
  exact h
theorem box_step {W : World} (hw : Region.wanted o (yielded ops a.tmps) = true) {N : Tmp} (_hd : o.dst = some N) {cs : Array Value} {t : TypeId}
    (hrun : (execOp a.eval o).run P W = .ok (.value (.pointer (some ⟨W.heap.size, 0, none⟩))) (W.alloc (.cells cs t (0, 0))))
    (h : ∀ g, g = W.heap.size → ∀ w1, w1.heap[g]? = some (.cells cs t (0, 0)) → Below W.heap.size W w1 → Kc (a.put o.dst (.pointer (some ⟨g, 0, none⟩))) w1) : if Region.wanted o (yielded ops a.tmps) = true then Oper.wp P o a W Kc Q else Kc (a.put o.dst undef) W :=
  event_step hw hrun (h _ rfl _ (blk_new W _) (below_alloc (Below.refl _ _) _))
namespace Kd
variable {α : Type}
end Kd
end
inductive Vals (P : Program) (tmps : Array Value) (w : World) : List ResultVar → List Value → Prop where
  | nil : Vals P tmps w [] []
  | tmp {u : Tmp} {rs : List ResultVar} {vs : List Value} (h : Vals P tmps w rs vs) : Vals P tmps w (.tmp u :: rs) (tmps.getD u undef :: vs)
  | cell {p : Tmp} {ty : TypeId} {rs : List ResultVar} {vs : List Value} (g : Nat) (t : TypeId) (cs : Array Value) (fr : Nat × Nat) (d : TypeDesc)
      (hp : tmps.getD p undef = .pointer (some ⟨g, 0, none⟩)) (hg : w.heap[g]? = some (.cells cs t fr))
      (hu : P.underlying ty = some d) (hd : (match d with | .struct _ | .array _ _ => true | _ => false) = true) (hi : (P.info? ty).map (·.size) = some cs.size)
      (h : Vals P tmps w rs vs) : Vals P tmps w (.cell p ty :: rs) (.agg cs :: vs)
section
variable {P : Program} {tmps : Array Value} {w : World}
theorem vals_run {rs : List ResultVar} {vs : List Value} (hv : Vals P tmps w rs vs) (f : ResultVar → Sem Value) (hf : ∀ u, f (.tmp u) = pure (tmps.getD u undef)) (hc : ∀ a t, f (.cell a t) = (do loadVar t (← asAddr (tmps.getD a undef)))) :
    (rs.mapM f).run P w = .ok vs w := by
  induction hv with
  | nil => simp
  | tmp h ih => simp [List.mapM_cons, hf, ih]
  | cell g t cs fr d hp hg hu hd hi h ih =>
    rw [List.mapM_cons, hc, hp]
    simp [asAddr, run_loadVar_row w g t _ cs fr d hg hu hd hi, ih]
theorem results_list {fn : Func} {rs : List ResultVar} {vs : List Value} (h : fn.results = rs.toArray) (hl : vs.length ≠ 1) (hv : Vals P tmps w rs vs) : (results fn tmps).run P w = .ok (.tuple vs.toArray) w := by
  unfold results
  rw [h, List.mapM_toArray]
  simp only [Sem.run_bind, Sem.run_map]
  rw [vals_run hv]
  · simp [hl]
  · intro u
    rfl
  · intro a t
    rfl
end
namespace Kd
section
variable {P : Program} {α : Type}
end
section
variable {P : Program} {ops : Array Oper} {rest : List Oper} {o : Oper} {a : Act} {Q : Exit → Act → World → Prop} {Kc : Act → World → Prop} {α : Type}
end
end Kd
end Go.Proofs.YtcgaccdiomcglaaW.PrintWords
end
