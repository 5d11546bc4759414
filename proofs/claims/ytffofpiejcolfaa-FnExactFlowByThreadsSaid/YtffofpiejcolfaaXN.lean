/- Plain laws on IEEE words: what is written is no NaN and keeps its sign; bounds of what is rounded; roots. No program in sight. -/
import Derived.Laws.FloatArith
import Derived.Laws.Cover2
import Derived.Laws.Cover3
namespace Go.Proofs.Ytffofpiejcolfaa.XN
open Go
theorem f64s : FloatKind.f64.format.signWeight = 9223372036854775808 := by decide
theorem f64i : FloatKind.f64.format.infRung = 9218868437227405312 := by decide
theorem f64b : FloatKind.f64.format.binade = 4503599627370496 := by decide
theorem f64l : FloatKind.f64.format.leastPlace = -1074 := by decide
theorem f64f : FloatKind.f64.format.fractionBits = 52 := by decide
theorem f32s : FloatKind.f32.format.signWeight = 2147483648 := by decide
theorem f32i : FloatKind.f32.format.infRung = 2139095040 := by decide
theorem f32b : FloatKind.f32.format.binade = 8388608 := by decide
theorem f32l : FloatKind.f32.format.leastPlace = -149 := by decide
theorem f32f : FloatKind.f32.format.fractionBits = 23 := by decide
/-- A number or an infinity of this sign. -/
def Is (neg : Bool) (d : Ieee.Datum) : Prop := (∃ m e, d = .number neg m e) ∨ d = .infinity neg
theorem read_word32 (neg : Bool) (r : Nat) (h : r ≤ 2139095040) : Is neg (FloatKind.f32.format.read (FloatKind.f32.format.word neg r)) := by
  unfold Ieee.Format.read Ieee.Format.word
  simp only [f32s, f32i, f32b, f32l]
  have e : (if neg = true then 2147483648 + r else r) % 2147483648 = r := by cases neg <;> simp <;> omega
  have e2 : ((if neg = true then 2147483648 + r else r) / 2147483648 % 2 == 1) = neg := by
    cases neg
    · have : r / 2147483648 = 0 := Nat.div_eq_of_lt (by omega)
      simp [this]
    · have : (2147483648 + r) / 2147483648 = 1 := by omega
      simp [this]
  simp only [e, e2]
  split
  · exact .inl ⟨_, _, rfl⟩
  · split
    · exact .inl ⟨_, _, rfl⟩
    · split
      · exact .inr rfl
      · omega
theorem read_word64 (neg : Bool) (r : Nat) (h : r ≤ 9218868437227405312) : Is neg (FloatKind.f64.format.read (FloatKind.f64.format.word neg r)) := by
  unfold Ieee.Format.read Ieee.Format.word
  simp only [f64s, f64i, f64b, f64l]
  have e : (if neg = true then 9223372036854775808 + r else r) % 9223372036854775808 = r := by cases neg <;> simp <;> omega
  have e2 : ((if neg = true then 9223372036854775808 + r else r) / 9223372036854775808 % 2 == 1) = neg := by
    cases neg
    · have : r / 9223372036854775808 = 0 := Nat.div_eq_of_lt (by omega)
      simp [this]
    · have : (9223372036854775808 + r) / 9223372036854775808 = 1 := by omega
      simp [this]
  simp only [e, e2]
  split
  · exact .inl ⟨_, _, rfl⟩
  · split
    · exact .inl ⟨_, _, rfl⟩
    · split
      · exact .inr rfl
      · omega
theorem near32 (neg : Bool) (m : Nat) (e : Int) : Is neg (FloatKind.f32.format.read (FloatKind.f32.format.nearest neg m e)) := by
  unfold Ieee.Format.nearest
  split
  · exact read_word32 neg 0 (by decide)
  · refine read_word32 neg _ ?_
    rw [f32i]
    exact Nat.min_le_right _ _
theorem write32 {neg : Bool} {d : Ieee.Datum} (h : Is neg d) : Is neg (FloatKind.f32.format.read (FloatKind.f32.format.write d)) := by
  rcases h with ⟨m, e, rfl⟩ | rfl
  · exact near32 neg m e
  · exact read_word32 neg _ (by rw [f32i]; exact Nat.le_refl _)
theorem cut_le (neg : Bool) (n drop : Nat) : Ieee.Toward.even.cut neg n drop ≤ n / 2 ^ drop + 1 := by
  unfold Ieee.Toward.cut
  simp only [Nat.one_shiftLeft]
  have hm (b : Bool) : b.toNat ≤ 1 := by cases b <;> decide
  refine Nat.add_le_add ?_ (hm _)
  by_cases h : drop ≤ n.log2 + 2
  · rw [Nat.min_eq_left h]
    exact Nat.le_refl _
  · rw [Nat.min_eq_right (by omega)]
    have : n < 2 ^ (n.log2 + 2) := Nat.lt_trans Nat.lt_log2_self (Nat.pow_lt_pow_right (by decide) (by omega))
    rw [Nat.div_eq_of_lt this]
    exact Nat.zero_le _
theorem kept_le (neg : Bool) (mag : Nat) (place last : Int) (F : Nat) (h : place + (mag.log2 : Int) - F ≤ last) :
    Ieee.Toward.even.cut neg (mag <<< (place - last).toNat) (last - place).toNat ≤ 2 ^ (F + 1) := by
  refine Nat.le_trans (cut_le _ _ _) ?_
  have hl : mag < 2 ^ (mag.log2 + 1) := Nat.lt_log2_self
  generalize mag.log2 = L at h hl
  rw [Nat.shiftLeft_eq]
  have : mag * 2 ^ (place - last).toNat < 2 ^ (last - place).toNat * 2 ^ (F + 1) := by
    calc mag * 2 ^ (place - last).toNat < 2 ^ (L + 1) * 2 ^ (place - last).toNat := Nat.mul_lt_mul_of_pos_right hl (Nat.two_pow_pos _)
      _ = 2 ^ (L + 1 + (place - last).toNat) := (Nat.pow_add _ _ _).symm
      _ ≤ 2 ^ ((last - place).toNat + (F + 1)) := Nat.pow_le_pow_right (by decide) (by omega)
      _ = 2 ^ (last - place).toNat * 2 ^ (F + 1) := by rw [Nat.pow_add]
  have := Nat.div_lt_of_lt_mul this
  omega
/-- What is nearest to a number that is not great is a number that is not great. -/
theorem near64 (neg : Bool) (m : Nat) (e X : Int) (h : m ≠ 0 → (m.log2 : Int) + e ≤ X) (h0 : -1000 ≤ X) (h1 : X ≤ 200) :
    ∃ m' e', FloatKind.f64.format.read (FloatKind.f64.format.nearest neg m e) = .number neg m' e' ∧ m' < 9007199254740992 ∧ e' ≤ X - 50 := by
  have key : ∀ r : Nat, r ≤ (X + 1024).toNat * 4503599627370496 → ∃ m' e', FloatKind.f64.format.read (FloatKind.f64.format.word neg r) = .number neg m' e' ∧ m' < 9007199254740992 ∧ e' ≤ X - 50 := by
    intro r hr
    unfold Ieee.Format.read Ieee.Format.word
    simp only [f64s, f64i, f64b, f64l]
    have hr2 : r < 9218868437227405312 := by omega
    have e1 : (if neg = true then 9223372036854775808 + r else r) % 9223372036854775808 = r := by cases neg <;> simp <;> omega
    have e2 : ((if neg = true then 9223372036854775808 + r else r) / 9223372036854775808 % 2 == 1) = neg := by
      cases neg
      · have : r / 9223372036854775808 = 0 := Nat.div_eq_of_lt (by omega)
        simp [this]
      · have : (9223372036854775808 + r) / 9223372036854775808 = 1 := by omega
        simp [this]
    simp only [e1, e2]
    split
    · exact ⟨_, _, rfl, by omega, by omega⟩
    · exact ⟨_, _, rfl, by omega, by omega⟩
  unfold Ieee.Format.nearest
  split
  · exact key 0 (Nat.zero_le _)
  · rename_i hm
    have hX := h hm
    refine key _ (Nat.le_trans (Nat.min_le_left _ _) ?_)
    have hk := kept_le neg m e (max (e + (m.log2 : Int) - (FloatKind.f64.format.fractionBits : Nat)) FloatKind.f64.format.leastPlace) FloatKind.f64.format.fractionBits (Int.le_max_left _ _)
    simp only [f64b, f64l, f64f] at hk ⊢
    generalize Ieee.Toward.even.cut neg _ _ = K at hk ⊢
    have : (2 : Nat) ^ (52 + 1) = 9007199254740992 := by decide
    omega
theorem near32n (neg : Bool) (m : Nat) (e : Int) (h : m ≠ 0 → (m.log2 : Int) + e ≤ 100) : ∃ m' e', FloatKind.f32.format.read (FloatKind.f32.format.nearest neg m e) = .number neg m' e' := by
  have key : ∀ r : Nat, r ≤ 2000000000 → ∃ m' e', FloatKind.f32.format.read (FloatKind.f32.format.word neg r) = .number neg m' e' := by
    intro r hr
    unfold Ieee.Format.read Ieee.Format.word
    simp only [f32s, f32i, f32b, f32l]
    have e1 : (if neg = true then 2147483648 + r else r) % 2147483648 = r := by cases neg <;> simp <;> omega
    have e2 : ((if neg = true then 2147483648 + r else r) / 2147483648 % 2 == 1) = neg := by
      cases neg
      · have : r / 2147483648 = 0 := Nat.div_eq_of_lt (by omega)
        simp [this]
      · have : (2147483648 + r) / 2147483648 = 1 := by omega
        simp [this]
    simp only [e1, e2]
    split
    · exact ⟨_, _, rfl⟩
    · rw [if_pos (by omega)]
      exact ⟨_, _, rfl⟩
  unfold Ieee.Format.nearest
  split
  · exact key 0 (Nat.zero_le _)
  · rename_i hm
    have hX := h hm
    refine key _ (Nat.le_trans (Nat.min_le_left _ _) ?_)
    have hk := kept_le neg m e (max (e + (m.log2 : Int) - (FloatKind.f32.format.fractionBits : Nat)) FloatKind.f32.format.leastPlace) FloatKind.f32.format.fractionBits (Int.le_max_left _ _)
    simp only [f32b, f32l, f32f] at hk ⊢
    generalize Ieee.Toward.even.cut neg _ _ = K at hk ⊢
    have : (2 : Nat) ^ (23 + 1) = 16777216 := by decide
    omega
theorem root_sq (n : Nat) : ∀ (todo root : Nat), root * root ≤ n → Ieee.Datum.rootFrom n todo root * Ieee.Datum.rootFrom n todo root ≤ n
  | 0, root, h => h
  | todo + 1, root, h => by
    unfold Ieee.Datum.rootFrom
    simp only
    split
    · rename_i h2
      exact root_sq n todo _ h2
    · exact root_sq n todo _ h
theorem sqrt64 (m : Nat) (i : Int) (hm : m < 9007199254740992) (hi : i ≤ 80) : ∃ m' e', (Ieee.Datum.root (FloatKind.f64.format.fractionBits + 2) (.number false m i)) = some (.number false m' e') ∧ (m' ≠ 0 → (m'.log2 : Int) + e' ≤ 72) := by
  unfold Ieee.Datum.root
  simp only
  by_cases h0 : m = 0
  · rw [if_pos h0]
    exact ⟨m, i, rfl, fun h => absurd h0 h⟩
  · rw [if_neg h0, if_neg (by decide)]
    refine ⟨_, _, rfl, ?_⟩
    intro hz0
    clear hz0
    have hL : m.log2 < 53 := (Nat.log2_lt h0).2 (by simpa using hm)
    have hlt : m < 2 ^ (m.log2 + 1) := Nat.lt_log2_self
    simp only [f64f]
    generalize m.log2 = L at hL hlt
    generalize hM : 2 * (52 + 2) - L + ((i - (2 * (52 + 2) - L : Nat)) % 2).toNat = M
    have hM1 : 55 ≤ M ∧ M + L ≤ 109 := by omega
    have hsq := root_sq (m <<< M) ((m <<< M).log2 / 2 + 1) 0 (by simp)
    generalize Ieee.Datum.rootFrom (m <<< M) ((m <<< M).log2 / 2 + 1) 0 = R at hsq ⊢
    have hn : m <<< M < 2 ^ 110 := by
      rw [Nat.shiftLeft_eq]
      calc m * 2 ^ M < 2 ^ (L + 1) * 2 ^ M := Nat.mul_lt_mul_of_pos_right hlt (Nat.two_pow_pos _)
        _ = 2 ^ (L + 1 + M) := (Nat.pow_add _ _ _).symm
        _ ≤ 2 ^ 110 := Nat.pow_le_pow_right (by decide) (by omega)
    have hR : R < 2 ^ 55 := by
      refine Nat.lt_of_not_le fun hge => ?_
      have := Nat.mul_le_mul hge hge
      have e : (2 : Nat) ^ 55 * 2 ^ 55 = 2 ^ 110 := by decide
      omega
    have hb (b : Bool) : b.toNat ≤ 1 := by cases b <;> decide
    have hmag : 2 * R + (R * R != m <<< M).toNat < 2 ^ 57 := by
      have := hb (R * R != m <<< M)
      have e : (2 : Nat) ^ 57 = 4 * 2 ^ 55 := by decide
      omega
    have hlog : (2 * R + (R * R != m <<< M).toNat).log2 < 57 := by
      by_cases hz : 2 * R + (R * R != m <<< M).toNat = 0
      · rw [hz]
        decide
      · exact (Nat.log2_lt hz).2 hmag
    omega
def Num (x : Nat) : Prop := ∃ s m e, FloatKind.f32.format.read x = .number s m e
theorem num_of_fin {x : Nat} (h : (match floatBits .sub .f32 x x with | some r => FloatKind.f32.format.order r 0 == some .eq | none => false) = true) : Num x := by
  unfold floatBits Ieee.Format.sub at h
  cases hr : FloatKind.f32.format.read x with
  | number s m e => exact ⟨s, m, e, hr⟩
  | infinity s =>
    rw [hr] at h
    cases s <;> simp [Ieee.Datum.opposite, Ieee.Datum.sum] at h
  | nan s f =>
    rw [hr] at h
    simp [Ieee.Datum.opposite, Ieee.Datum.sum] at h
theorem sub_ok {x y : Nat} (hx : Num x) (hy : Num y) : ∃ r, floatBits .sub .f32 x y = some r ∧ ∃ s, Is s (FloatKind.f32.format.read r) := by
  obtain ⟨s, m, e, hx⟩ := hx
  obtain ⟨t, n, d, hy⟩ := hy
  unfold floatBits Ieee.Format.sub
  rw [hx, hy]
  simp only [Ieee.Datum.opposite, Ieee.Datum.sum, Option.map_some]
  exact ⟨_, rfl, _, write32 (.inl ⟨_, _, rfl⟩)⟩
theorem mul_sq {d : Nat} {s : Bool} (h : Is s (FloatKind.f32.format.read d)) : ∃ r, floatBits .mul .f32 d d = some r ∧ Is false (FloatKind.f32.format.read r) := by
  unfold floatBits Ieee.Format.mul
  rcases h with ⟨m, e, h⟩ | h
  · rw [h]
    simp only [Ieee.Datum.product, Option.map_some, Bool.xor_self]
    exact ⟨_, rfl, write32 (.inl ⟨_, _, rfl⟩)⟩
  · rw [h]
    simp only [Ieee.Datum.product, Option.map_some, Bool.xor_self]
    exact ⟨_, rfl, write32 (.inr rfl)⟩
theorem signed_nn (m a : Nat) : 0 ≤ Ieee.signed false m a := Int.natCast_nonneg _
theorem add_nn {x y : Nat} (hx : Is false (FloatKind.f32.format.read x)) (hy : Is false (FloatKind.f32.format.read y)) : ∃ r, floatBits .add .f32 x y = some r ∧ Is false (FloatKind.f32.format.read r) := by
  unfold floatBits Ieee.Format.add
  rcases hx with ⟨m, e, hx⟩ | hx <;> rcases hy with ⟨n, d, hy⟩ | hy <;> rw [hx, hy] <;> simp only [Ieee.Datum.sum, Option.map_some, if_true, Bool.and_self]
  · refine ⟨_, rfl, ?_⟩
    have hs : ∀ a b : Nat, (if (Ieee.signed false m a + Ieee.signed false n b) = 0 then false else decide (Ieee.signed false m a + Ieee.signed false n b < 0)) = false := by
      intro a b
      split
      · rfl
      · rw [decide_eq_false_iff_not]
        have h1 := signed_nn m a
        have h2 := signed_nn n b
        omega
    rw [hs]
    exact write32 (.inl ⟨_, _, rfl⟩)
  · exact ⟨_, rfl, write32 (.inr rfl)⟩
  · exact ⟨_, rfl, write32 (.inr rfl)⟩
  · exact ⟨_, rfl, write32 (.inr rfl)⟩
theorem read32_b {x : Nat} {s : Bool} {m : Nat} {e : Int} (h : FloatKind.f32.format.read x = .number s m e) : m < 16777216 ∧ e ≤ 104 := by
  unfold Ieee.Format.read at h
  simp only [f32s, f32i, f32b, f32l] at h
  split at h
  · rename_i c
    injection h with h1 h2 h3
    omega
  · split at h
    · rename_i c1 c2
      injection h with h1 h2 h3
      omega
    · split at h <;> cases h
theorem log_le {m k : Nat} (h0 : m ≠ 0) (h : m < 2 ^ k) : m.log2 < k := (Nat.log2_lt h0).2 h
theorem wide {x : Nat} (h : Is false (FloatKind.f32.format.read x)) : ∃ b, floatToFloatBits .f32 x .f64 = some b ∧ (FloatKind.f64.format.read b = .infinity false ∨ ∃ m e, FloatKind.f64.format.read b = .number false m e ∧ m < 9007199254740992 ∧ e ≤ 80) := by
  unfold floatToFloatBits FloatKind.decode FloatKind.encode
  rw [if_neg (by decide)]
  rcases h with ⟨m, e, h⟩ | h
  · rw [h]
    simp only
    have hb := read32_b h
    obtain ⟨m', e', h1, h2, h3⟩ := near64 false m e 127 (fun h0 => by
      have := log_le (k := 24) h0 (by omega)
      omega) (by decide) (by decide)
    have hw : FloatKind.f64.format.write (.number false m e) = FloatKind.f64.format.nearest false m e := rfl
    rw [hw, h1, if_neg (by simp [Ieee.Datum.isInfinity])]
    exact ⟨_, rfl, .inr ⟨m', e', h1, h2, by omega⟩⟩
  · rw [h]
    simp only
    refine ⟨_, rfl, .inl ?_⟩
    decide
theorem root_ok {b : Nat} (h : FloatKind.f64.format.read b = .infinity false ∨ ∃ m e, FloatKind.f64.format.read b = .number false m e ∧ m < 9007199254740992 ∧ e ≤ 80) :
    ∃ r, FloatKind.f64.format.sqrt b = some r ∧ (FloatKind.f64.format.read r = .infinity false ∨ ∃ m e, FloatKind.f64.format.read r = .number false m e ∧ m < 9007199254740992 ∧ e ≤ 22) := by
  unfold Ieee.Format.sqrt
  rcases h with h | ⟨m, e, h, hm, he⟩
  · rw [h]
    refine ⟨_, rfl, .inl ?_⟩
    decide
  · rw [h]
    obtain ⟨m', e', h1, h2⟩ := sqrt64 m e hm he
    rw [h1]
    refine ⟨_, rfl, .inr ?_⟩
    obtain ⟨m2, e2, h3, h4, h5⟩ := near64 false m' e' 72 h2 (by decide) (by decide)
    exact ⟨m2, e2, h3, h4, by omega⟩
theorem narrow_ok {b : Nat} (h : FloatKind.f64.format.read b = .infinity false ∨ ∃ m e, FloatKind.f64.format.read b = .number false m e ∧ m < 9007199254740992 ∧ e ≤ 22) :
    ∃ r, floatToFloatBits .f64 b .f32 = some r ∧ Is false (FloatKind.f32.format.read r) := by
  unfold floatToFloatBits FloatKind.decode FloatKind.encode
  rw [if_neg (by decide)]
  rcases h with h | ⟨m, e, h, hm, he⟩
  · rw [h]
    simp only
    exact ⟨_, rfl, write32 (.inr rfl)⟩
  · rw [h]
    simp only
    obtain ⟨m', e', h1⟩ := near32n false m e (fun h0 => by
      have := log_le (k := 53) h0 (by omega)
      omega)
    have hw : FloatKind.f32.format.write (.number false m e) = FloatKind.f32.format.nearest false m e := rfl
    rw [hw, h1, if_neg (by simp [Ieee.Datum.isInfinity])]
    exact ⟨_, rfl, near32 false m e⟩
end Go.Proofs.Ytffofpiejcolfaa.XN
