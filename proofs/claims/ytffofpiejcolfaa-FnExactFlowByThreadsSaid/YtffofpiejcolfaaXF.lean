/- Leaves on floats, by hand: math.Float32bits, finiteness (x - x == 0), 'the same number' of two float32 by way of float64; what a NaN from the tape is. -/
import Derived.Test.YtffofpiejcolfaaProg
import Derived.Test.YtffofpiejcolfaaWFl
import Derived.Laws.FloatArith
set_option linter.unusedVariables false
namespace Go.Proofs.Ytffofpiejcolfaa
open Go.RowKit Go.Proofs.YtffofpiejcolfaaW.PrintWords Go.Proofs.YtffofpiejcolfaaW.PrintLast
namespace XF
/-- Are these a NaN's bits? -/
def isn (k : FloatKind) (x : Nat) : Bool := (k.format.read x).isNaN
theorem order_nan_l {k : FloatKind} {x y : Nat} (h : isn k x = true) : k.format.order x y = none := by
  unfold isn at h
  unfold Ieee.Format.order
  cases hx : k.format.read x with
  | nan s f => rfl
  | infinity s => rw [hx] at h; cases h
  | number s m e => rw [hx] at h; cases h
theorem order_nan_r {k : FloatKind} {x y : Nat} (h : isn k y = true) : k.format.order x y = none := by
  unfold isn at h
  unfold Ieee.Format.order
  cases hx : k.format.read y with
  | nan s f => cases k.format.read x <;> rfl
  | infinity s => rw [hx] at h; cases h
  | number s m e => rw [hx] at h; cases h
theorem cut_nan32 (t : Nat) : isn .f32 ((t % 2) * 2 ^ 31 + 0x7f800000 + 1 + (t / 2) % (2 ^ 23 - 1)) = true := by
  have e : ∀ w : Nat, w % 2147483648 > 2139095040 → isn .f32 w = true := by
    intro w hw
    unfold isn Ieee.Format.read
    have h1 : FloatKind.f32.format.signWeight = 2147483648 := by decide
    have h2 : FloatKind.f32.format.infRung = 2139095040 := by decide
    have h3 : FloatKind.f32.format.binade = 8388608 := by decide
    simp only [h1, h2, h3]
    rw [if_neg (by omega), if_neg (by omega), if_neg (by omega)]
    rfl
  apply e
  have h1 : (t / 2) % (2 ^ 23 - 1) < 8388607 := Nat.mod_lt _ (by decide)
  generalize (t / 2) % (2 ^ 23 - 1) = r at h1 ⊢
  rcases Nat.mod_two_eq_zero_or_one t with h | h <;> rw [h] <;> omega
theorem cut_nan64 (t : Nat) : isn .f64 ((t % 2) * 2 ^ 63 + 0x7ff0000000000000 + 1 + (t / 2) % (2 ^ 52 - 1)) = true := by
  have e : ∀ w : Nat, w % 9223372036854775808 > 9218868437227405312 → isn .f64 w = true := by
    intro w hw
    unfold isn Ieee.Format.read
    have h1 : FloatKind.f64.format.signWeight = 9223372036854775808 := by decide
    have h2 : FloatKind.f64.format.infRung = 9218868437227405312 := by decide
    have h3 : FloatKind.f64.format.binade = 4503599627370496 := by decide
    simp only [h1, h2, h3]
    rw [if_neg (by omega), if_neg (by omega), if_neg (by omega)]
    rfl
  apply e
  have h1 : (t / 2) % (2 ^ 52 - 1) < 4503599627370495 := Nat.mod_lt _ (by decide)
  generalize (t / 2) % (2 ^ 52 - 1) = r at h1 ⊢
  rcases Nat.mod_two_eq_zero_or_one t with h | h <;> rw [h] <;> omega
/-- An invalid operation's bits, out of the tape. -/
def nanv (k : FloatKind) (x y t : Nat) : Nat := (Question.nanBits k x y).cut t
theorem nanv_isn (k : FloatKind) (x y t : Nat) : isn k (nanv k x y t) = true := by
  cases k
  · exact cut_nan32 t
  · exact cut_nan64 t
def arith (op : BinOp) : Prop := op = .add ∨ op = .sub ∨ op = .mul ∨ op = .quo
theorem run_arith_none {P : Program} (w : World) (op : BinOp) (hop : arith op) (t : TypeId) (k : FloatKind) (x y : Nat) (h : floatBits op k x y = none) :
    (binOp op t (.float k x) (.float k y)).run P w = .ok (.float k (nanv k x y (w.tape w.drawn (.nanBits k x y)))) w.drew := by
  rcases hop with rfl | rfl | rfl | rfl <;> (unfold floatBits at h; simp only at h; simp [binOp, Op.floatArith, h, Question.forced, nanv])
/-- float64(x): a NaN's bits, out of the tape; all other numbers are just the same. -/
theorem run_conv_nan {P : Program} (w : World) (src dst : TypeId) (b : Nat) (hs : (P.underlying src).isSome = true) (hd : P.underlying dst = some (.float .f64)) (h : isn .f32 b = true) :
    (convert src dst (.float .f32 b)).run P w = .ok (.float .f64 ((Question.nanConv .f64 b).cut (w.tape w.drawn (.nanConv .f64 b)))) w.drew := by
  obtain ⟨u, hs'⟩ := Option.isSome_iff_exists.1 hs
  unfold isn at h
  cases hx : FloatKind.f32.format.read b with
  | infinity s => rw [hx] at h; cases h
  | number s m e => rw [hx] at h; cases h
  | nan s f =>
    have hx' : FloatKind.f32.decode b = .nan s f := hx
    cases u <;> simp [convert, run_underlying hs', run_underlying hd, Conv.floatToFloat, hx', Question.forced]
end XF
namespace XF
theorem f64s : FloatKind.f64.format.signWeight = 9223372036854775808 := by decide
theorem f64i : FloatKind.f64.format.infRung = 9218868437227405312 := by decide
theorem f64b : FloatKind.f64.format.binade = 4503599627370496 := by decide
theorem f64l : FloatKind.f64.format.leastPlace = -1074 := by decide
theorem f64f : FloatKind.f64.format.fractionBits = 52 := by decide
theorem f32s : FloatKind.f32.format.signWeight = 2147483648 := by decide
theorem f32i : FloatKind.f32.format.infRung = 2139095040 := by decide
theorem f32b : FloatKind.f32.format.binade = 8388608 := by decide
theorem f32l : FloatKind.f32.format.leastPlace = -149 := by decide
theorem cut_zero (neg : Bool) (n : Nat) : Ieee.Toward.even.cut neg n 0 = n := by
  unfold Ieee.Toward.cut
  simp [Nat.mod_one]
theorem word_read_fin {r : Nat} (neg : Bool) (h : r < 9218868437227405312) : (FloatKind.f64.format.read (FloatKind.f64.format.word neg r)).isInfinity = false ∧ (FloatKind.f64.format.read (FloatKind.f64.format.word neg r)).isNaN = false := by
  unfold Ieee.Format.read Ieee.Format.word
  simp only [f64s, f64i, f64b, f64l]
  have e : (if neg = true then 9223372036854775808 + r else r) % 9223372036854775808 = r := by cases neg <;> simp <;> omega
  simp only [e]
  split
  · exact ⟨rfl, rfl⟩
  · exact ⟨rfl, rfl⟩
theorem wide_fin (neg : Bool) (m : Nat) (e : Int) (hm : m < 16777216) (h0 : -149 ≤ e) (h1 : e ≤ 104) : (FloatKind.f64.format.read (FloatKind.f64.format.nearest neg m e)).isInfinity = false ∧ (FloatKind.f64.format.read (FloatKind.f64.format.nearest neg m e)).isNaN = false := by
  unfold Ieee.Format.nearest
  split
  · exact word_read_fin neg (by decide)
  · rename_i h
    have hl : m.log2 < 24 := (Nat.log2_lt h).2 hm
    have hlm : m < 2 ^ (m.log2 + 1) := Nat.lt_log2_self
    simp only [f64b, f64i, f64l, f64f]
    generalize m.log2 = l at hl hlm
    have e1 : max (e + (l : Int) - ((52 : Nat) : Int)) (-1074) = e + l - 52 := by omega
    rw [e1]
    have e2 : (e + (l : Int) - 52 - e).toNat = 0 := by omega
    have e3 : (e - (e + (l : Int) - 52)).toNat = 52 - l := by omega
    rw [e2, e3, cut_zero]
    have e4 : m <<< (52 - l) < 9007199254740992 := by
      rw [Nat.shiftLeft_eq]
      calc m * 2 ^ (52 - l) < 2 ^ (l + 1) * 2 ^ (52 - l) := Nat.mul_lt_mul_of_pos_right hlm (Nat.two_pow_pos _)
        _ = 2 ^ 53 := by rw [← Nat.pow_add]; congr 1; omega
        _ = 9007199254740992 := by decide
    generalize m <<< (52 - l) = K at e4
    refine word_read_fin neg ?_
    omega
/-- b' are the bits that float64(x) may give, x a float32 of the bits b. -/
def Cv (b b' : Nat) : Prop := (isn .f32 b = true ∧ isn .f64 b' = true) ∨ (isn .f32 b = false ∧ floatToFloatBits .f32 b .f64 = some b')
theorem read32 (b : Nat) : (∃ s m e, FloatKind.f32.format.read b = .number s m e ∧ m < 16777216 ∧ -149 ≤ e ∧ e ≤ 104) ∨ (∃ s, FloatKind.f32.format.read b = .infinity s) ∨ ∃ s f, FloatKind.f32.format.read b = .nan s f := by
  unfold Ieee.Format.read
  simp only [f32s, f32i, f32b, f32l]
  split
  · exact .inl ⟨_, _, _, rfl, by omega, by omega, by omega⟩
  · split
    · exact .inl ⟨_, _, _, rfl, by omega, by omega, by omega⟩
    · split
      · exact .inr (.inl ⟨_, rfl⟩)
      · exact .inr (.inr ⟨_, _, rfl⟩)
theorem cv_some {b : Nat} (h : isn .f32 b = false) : ∃ r, floatToFloatBits .f32 b .f64 = some r := by
  unfold floatToFloatBits
  rw [if_neg (by decide)]
  unfold isn at h
  rcases read32 b with ⟨s, m, e, hx, hm, h0, h1⟩ | ⟨s, hx⟩ | ⟨s, f, hx⟩
  · have hx' : FloatKind.f32.decode b = .number s m e := hx
    rw [hx']
    simp only
    have hw := (wide_fin s m e hm h0 h1).1
    rw [if_neg (by rw [show (FloatKind.f64.decode (FloatKind.f64.encode (.number s m e))).isInfinity = false from hw]; decide)]
    exact ⟨_, rfl⟩
  · have hx' : FloatKind.f32.decode b = .infinity s := hx
    rw [hx']
    exact ⟨_, rfl⟩
  · rw [hx] at h; cases h
theorem inf64 (s : Bool) : isn .f64 (FloatKind.f64.encode (.infinity s)) = false := by cases s <;> decide
theorem conv_number {x r : Nat} (hx : isn .f32 x = false) (h : floatToFloatBits .f32 x .f64 = some r) : isn .f64 r = false := by
  unfold floatToFloatBits at h
  rw [if_neg (by decide)] at h
  unfold isn at hx
  rcases read32 x with ⟨s, m, e, hr, hm, h0, h1⟩ | ⟨s, hr⟩ | ⟨s, f, hr⟩
  · have hr' : FloatKind.f32.decode x = .number s m e := hr
    rw [hr'] at h
    simp only at h
    split at h
    · cases h
    · obtain rfl := Option.some.inj h
      exact (wide_fin s m e hm h0 h1).2
  · have hr' : FloatKind.f32.decode x = .infinity s := hr
    rw [hr'] at h
    obtain rfl := Option.some.inj h
    exact inf64 s
  · rw [hr] at hx; cases hx
theorem run_conv {P : Program} (w : World) (src dst : TypeId) (b : Nat) (hs : (P.underlying src).isSome = true) (hd : P.underlying dst = some (.float .f64)) :
    ∃ b' n, (convert src dst (.float .f32 b)).run P w = .ok (.float .f64 b') (w.drewN n) ∧ Cv b b' := by
  cases h : isn .f32 b with
  | true => exact ⟨_, 1, run_conv_nan w src dst b hs hd h, .inl ⟨h, cut_nan64 _⟩⟩
  | false =>
    obtain ⟨r, hr⟩ := cv_some h
    exact ⟨r, 0, run_convert_float_float w src dst .f32 .f64 b r hs hd hr, .inr ⟨h, hr⟩⟩
theorem order_self {k : FloatKind} {b : Nat} (h : isn k b = false) : k.format.order b b = some .eq := by
  unfold isn at h
  unfold Ieee.Format.order
  cases hx : k.format.read b with
  | nan s f => rw [hx] at h; cases h
  | infinity s => cases s <;> rfl
  | number s m e => simp [Ieee.Datum.order, Std.ReflCmp.compare_self]
/-- A conversion in a walk: whatever it gives, it is one of those bits. -/
theorem wpList_conv {P : Program} {ops : Array Oper} {rest : List Oper} {o : Oper} {a : Act} {w : World} {Q : Exit → Act → World → Prop} (hgd : o.guard = none) (src dst : TypeId) (x : Operand) (ho : o.op = .convert src dst x)
    (hs : (P.underlying src).isSome = true) (hd : P.underlying dst = some (.float .f64)) (b : Nat) (hx : a.eval x = .float .f32 b)
    (h : ∀ b' n, Cv b b' → wpList P ops Q rest (a.put o.dst (.float .f64 b')) (w.drewN n)) : wpList P ops Q (o :: rest) a w := by
  refine wpList_plain hgd fun K hK => ?_
  obtain ⟨b', n, hr, hc⟩ := run_conv (P := P) w src dst b hs hd
  unfold Oper.wp execOp
  simp only [ho, Sem.run_bind, hx, hr, Result.andThen_ok, Sem.run_pure]
  exact hK _ _ (h b' n hc)
end XF
end Go.Proofs.Ytffofpiejcolfaa
