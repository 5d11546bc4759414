/- Words, walks and plain laws that a claim of this seat needs, one text after the other (part 2). -/
import Derived.Test.YtffofpiejcolfaaDoorBT1
import Derived.Laws.Cover2
import Derived.Laws.FloatArith
import Derived.Test.YtffofpiejcolfaaDoorProg
import Derived.Laws.StructEq
set_option linter.unusedVariables false
set_option linter.unusedSimpArgs false
section
namespace Go.Proofs.YtffofpiejcolfaaDoorW.PrintWords
open Go.RowKit
namespace Kd
def float (k : FloatKind) : Kd Nat := scalar (Value.float k) (fun _ => rfl)
theorem at_float {w : World} {A : Option Addr} {n : Nat} {k : FloatKind} {xs : List Nat} (h : (Kd.float k).C w A n xs) (i : Int) (h0 : 0 ≤ i) (h1 : i < n) : ∃ ad, A = some ad ∧ w.cell? (ad.add i.toNat) = some (.float k (rdOf (0 : Nat) xs i)) :=
  ReadsOf.at_ (reads_of_C (enc := Value.float k) (d := (0 : Nat)) (h1 := fun _ => rfl) h) i h0 h1
end Kd
@[go_sem] theorem run_store_float (P : Program) (w : World) (a : Addr) (m : Mode) (k : FloatKind) (b : Nat) : (store a (.float k b) m).run P w = stored P w a (.float k b) m := run_store P w a _ m rfl
end Go.Proofs.YtffofpiejcolfaaDoorW.PrintWords
end
section
set_option linter.unusedVariables false
namespace Go.Proofs.YtffofpiejcolfaaDoor
open Go.RowKit Go.Proofs.YtffofpiejcolfaaDoorW.PrintWords Go.Proofs.YtffofpiejcolfaaDoorW.PrintLast
namespace XF
def isn (k : FloatKind) (x : Nat) : Bool := (k.format.read x).isNaN
theorem order_nan_l {k : FloatKind} {x y : Nat} (h : isn k x = true) : k.format.order x y = none := by
  unfold isn at h
  unfold Ieee.Format.order
  cases hx : k.format.read x with
  | nan s f => rfl
  | infinity s => rw [hx] at h; cases h
  | number s m e => rw [hx] at h; cases h
theorem cut_nan32 (t : Nat) : isn .f32 ((t % 2) * 2 ^ 31 + 0x7f800000 + 1 + (t / 2) % (2 ^ 23 - 1)) = true := by
  have e : ∀ w : Nat, w % 2147483648 > 2139095040 → isn .f32 w = true := by
    intro w hw
    unfold isn Ieee.Format.read
    have h1 : FloatKind.f32.format.signWeight = 2147483648 := by decide
    have h2 : FloatKind.f32.format.infRung = 2139095040 := by decide
    have h3 : FloatKind.f32.format.binade = 8388608 := by decide
    simp only [h1, h2, h3]
    rw [if_neg (by omega), if_neg (by omega), if_neg (by omega)]
    rfl
  apply e
  have h1 : (t / 2) % (2 ^ 23 - 1) < 8388607 := Nat.mod_lt _ (by decide)
  generalize (t / 2) % (2 ^ 23 - 1) = r at h1 ⊢
  rcases Nat.mod_two_eq_zero_or_one t with h | h <;> rw [h] <;> omega
theorem cut_nan64 (t : Nat) : isn .f64 ((t % 2) * 2 ^ 63 + 0x7ff0000000000000 + 1 + (t / 2) % (2 ^ 52 - 1)) = true := by
  have e : ∀ w : Nat, w % 9223372036854775808 > 9218868437227405312 → isn .f64 w = true := by
    intro w hw
    unfold isn Ieee.Format.read
    have h1 : FloatKind.f64.format.signWeight = 9223372036854775808 := by decide
    have h2 : FloatKind.f64.format.infRung = 9218868437227405312 := by decide
    have h3 : FloatKind.f64.format.binade = 4503599627370496 := by decide
    simp only [h1, h2, h3]
    rw [if_neg (by omega), if_neg (by omega), if_neg (by omega)]
    rfl
  apply e
  have h1 : (t / 2) % (2 ^ 52 - 1) < 4503599627370495 := Nat.mod_lt _ (by decide)
  generalize (t / 2) % (2 ^ 52 - 1) = r at h1 ⊢
  rcases Nat.mod_two_eq_zero_or_one t with h | h <;> rw [h] <;> omega
def nanv (k : FloatKind) (x y t : Nat) : Nat := (Question.nanBits k x y).cut t
theorem nanv_isn (k : FloatKind) (x y t : Nat) : isn k (nanv k x y t) = true := by
  cases k
  · exact cut_nan32 t
  · exact cut_nan64 t
def arith (op : BinOp) : Prop := op = .add ∨ op = .sub ∨ op = .mul ∨ op = .quo
theorem run_arith_none {P : Program} (w : World) (op : BinOp) (hop : arith op) (t : TypeId) (k : FloatKind) (x y : Nat) (h : floatBits op k x y = none) :
    (binOp op t (.float k x) (.float k y)).run P w = .ok (.float k (nanv k x y (w.tape w.drawn (.nanBits k x y)))) w.drew := by
  rcases hop with rfl | rfl | rfl | rfl <;> (unfold floatBits at h; simp only at h; simp [binOp, Op.floatArith, h, Question.forced, nanv])
theorem run_conv_nan {P : Program} (w : World) (src dst : TypeId) (b : Nat) (hs : (P.underlying src).isSome = true) (hd : P.underlying dst = some (.float .f64)) (h : isn .f32 b = true) :
    (convert src dst (.float .f32 b)).run P w = .ok (.float .f64 ((Question.nanConv .f64 b).cut (w.tape w.drawn (.nanConv .f64 b)))) w.drew := by
  obtain ⟨u, hs'⟩ := Option.isSome_iff_exists.1 hs
  unfold isn at h
  cases hx : FloatKind.f32.format.read b with
  | infinity s => rw [hx] at h; cases h
  | number s m e => rw [hx] at h; cases h
  | nan s f =>
    have hx' : FloatKind.f32.decode b = .nan s f := hx
    cases u <;> simp [convert, run_underlying hs', run_underlying hd, Conv.floatToFloat, hx', Question.forced]
end XF
namespace XF
theorem f64s : FloatKind.f64.format.signWeight = 9223372036854775808 := by decide
theorem f64i : FloatKind.f64.format.infRung = 9218868437227405312 := by decide
theorem f64b : FloatKind.f64.format.binade = 4503599627370496 := by decide
theorem f64l : FloatKind.f64.format.leastPlace = -1074 := by decide
theorem f64f : FloatKind.f64.format.fractionBits = 52 := by decide
theorem f32s : FloatKind.f32.format.signWeight = 2147483648 := by decide
theorem f32i : FloatKind.f32.format.infRung = 2139095040 := by decide
theorem f32b : FloatKind.f32.format.binade = 8388608 := by decide
theorem f32l : FloatKind.f32.format.leastPlace = -149 := by decide
theorem cut_zero (neg : Bool) (n : Nat) : Ieee.Toward.even.cut neg n 0 = n := by
  unfold Ieee.Toward.cut
  simp [Nat.mod_one]
theorem word_read_fin {r : Nat} (neg : Bool) (h : r < 9218868437227405312) : (FloatKind.f64.format.read (FloatKind.f64.format.word neg r)).isInfinity = false ∧ (FloatKind.f64.format.read (FloatKind.f64.format.word neg r)).isNaN = false := by
  unfold Ieee.Format.read Ieee.Format.word
  simp only [f64s, f64i, f64b, f64l]
  have e : (if neg = true then 9223372036854775808 + r else r) % 9223372036854775808 = r := by cases neg <;> simp <;> omega
  simp only [e]
  split
  · exact ⟨rfl, rfl⟩
  · exact ⟨rfl, rfl⟩
theorem wide_fin (neg : Bool) (m : Nat) (e : Int) (hm : m < 16777216) (h0 : -149 ≤ e) (h1 : e ≤ 104) : (FloatKind.f64.format.read (FloatKind.f64.format.nearest neg m e)).isInfinity = false ∧ (FloatKind.f64.format.read (FloatKind.f64.format.nearest neg m e)).isNaN = false := by
  unfold Ieee.Format.nearest
  split
  · exact word_read_fin neg (by decide)
  · rename_i h
    have hl : m.log2 < 24 := (Nat.log2_lt h).2 hm
    have hlm : m < 2 ^ (m.log2 + 1) := Nat.lt_log2_self
    simp only [f64b, f64i, f64l, f64f]
    generalize m.log2 = l at hl hlm
    have e1 : max (e + (l : Int) - ((52 : Nat) : Int)) (-1074) = e + l - 52 := by omega
    rw [e1]
    have e2 : (e + (l : Int) - 52 - e).toNat = 0 := by omega
    have e3 : (e - (e + (l : Int) - 52)).toNat = 52 - l := by omega
    rw [e2, e3, cut_zero]
    have e4 : m <<< (52 - l) < 9007199254740992 := by
      rw [Nat.shiftLeft_eq]
      calc m * 2 ^ (52 - l) < 2 ^ (l + 1) * 2 ^ (52 - l) := Nat.mul_lt_mul_of_pos_right hlm (Nat.two_pow_pos _)
        _ = 2 ^ 53 := by rw [← Nat.pow_add]; congr 1; omega
        _ = 9007199254740992 := by decide
    generalize m <<< (52 - l) = K at e4
    refine word_read_fin neg ?_
    omega
def Cv (b b' : Nat) : Prop := (isn .f32 b = true ∧ isn .f64 b' = true) ∨ (isn .f32 b = false ∧ floatToFloatBits .f32 b .f64 = some b')
theorem read32 (b : Nat) : (∃ s m e, FloatKind.f32.format.read b = .number s m e ∧ m < 16777216 ∧ -149 ≤ e ∧ e ≤ 104) ∨ (∃ s, FloatKind.f32.format.read b = .infinity s) ∨ ∃ s f, FloatKind.f32.format.read b = .nan s f := by
  unfold Ieee.Format.read
  simp only [f32s, f32i, f32b, f32l]
  split
  · exact .inl ⟨_, _, _, rfl, by omega, by omega, by omega⟩
  · split
    · exact .inl ⟨_, _, _, rfl, by omega, by omega, by omega⟩
    · split
      · exact .inr (.inl ⟨_, rfl⟩)
      · exact .inr (.inr ⟨_, _, rfl⟩)
theorem cv_some {b : Nat} (h : isn .f32 b = false) : ∃ r, floatToFloatBits .f32 b .f64 = some r := by
  unfold floatToFloatBits
  rw [if_neg (by decide)]
  unfold isn at h
  rcases read32 b with ⟨s, m, e, hx, hm, h0, h1⟩ | ⟨s, hx⟩ | ⟨s, f, hx⟩
  · have hx' : FloatKind.f32.decode b = .number s m e := hx
    rw [hx']
    simp only
    have hw := (wide_fin s m e hm h0 h1).1
    rw [if_neg (by rw [show (FloatKind.f64.decode (FloatKind.f64.encode (.number s m e))).isInfinity = false from hw]; decide)]
    exact ⟨_, rfl⟩
  · have hx' : FloatKind.f32.decode b = .infinity s := hx
    rw [hx']
    exact ⟨_, rfl⟩
  · rw [hx] at h; cases h
theorem inf64 (s : Bool) : isn .f64 (FloatKind.f64.encode (.infinity s)) = false := by cases s <;> decide
theorem conv_number {x r : Nat} (hx : isn .f32 x = false) (h : floatToFloatBits .f32 x .f64 = some r) : isn .f64 r = false := by
  unfold floatToFloatBits at h
  rw [if_neg (by decide)] at h
  unfold isn at hx
  rcases read32 x with ⟨s, m, e, hr, hm, h0, h1⟩ | ⟨s, hr⟩ | ⟨s, f, hr⟩
  · have hr' : FloatKind.f32.decode x = .number s m e := hr
    rw [hr'] at h
    simp only at h
    split at h
    · cases h
    · obtain rfl := Option.some.inj h
      exact (wide_fin s m e hm h0 h1).2
  · have hr' : FloatKind.f32.decode x = .infinity s := hr
    rw [hr'] at h
    obtain rfl := Option.some.inj h
    exact inf64 s
  · rw [hr] at hx; cases hx
theorem run_conv {P : Program} (w : World) (src dst : TypeId) (b : Nat) (hs : (P.underlying src).isSome = true) (hd : P.underlying dst = some (.float .f64)) :
    ∃ b' n, (convert src dst (.float .f32 b)).run P w = .ok (.float .f64 b') (w.drewN n) ∧ Cv b b' := by
  cases h : isn .f32 b with
  | true => exact ⟨_, 1, run_conv_nan w src dst b hs hd h, .inl ⟨h, cut_nan64 _⟩⟩
  | false =>
    obtain ⟨r, hr⟩ := cv_some h
    exact ⟨r, 0, run_convert_float_float w src dst .f32 .f64 b r hs hd hr, .inr ⟨h, hr⟩⟩
theorem order_self {k : FloatKind} {b : Nat} (h : isn k b = false) : k.format.order b b = some .eq := by
  unfold isn at h
  unfold Ieee.Format.order
  cases hx : k.format.read b with
  | nan s f => rw [hx] at h; cases h
  | infinity s => cases s <;> rfl
  | number s m e => simp [Ieee.Datum.order, Std.ReflCmp.compare_self]
theorem wpList_conv {P : Program} {ops : Array Oper} {rest : List Oper} {o : Oper} {a : Act} {w : World} {Q : Exit → Act → World → Prop} (hgd : o.guard = none) (src dst : TypeId) (x : Operand) (ho : o.op = .convert src dst x)
    (hs : (P.underlying src).isSome = true) (hd : P.underlying dst = some (.float .f64)) (b : Nat) (hx : a.eval x = .float .f32 b)
    (h : ∀ b' n, Cv b b' → wpList P ops Q rest (a.put o.dst (.float .f64 b')) (w.drewN n)) : wpList P ops Q (o :: rest) a w := by
  refine wpList_plain hgd fun K hK => ?_
  obtain ⟨b', n, hr, hc⟩ := run_conv (P := P) w src dst b hs hd
  unfold Oper.wp execOp
  simp only [ho, Sem.run_bind, hx, hr, Result.andThen_ok, Sem.run_pure]
  exact hK _ _ (h b' n hc)
end XF
end Go.Proofs.YtffofpiejcolfaaDoor
end
section
set_option linter.unusedVariables false
set_option linter.unusedSimpArgs false
namespace Go.Proofs.YtffofpiejcolfaaDoor
open Go.RowKit Go.Proofs.YtffofpiejcolfaaDoorW.PrintWords Go.Proofs.YtffofpiejcolfaaDoorW.PrintLast
namespace XL
open XF
abbrev o64 (x y : Nat) : Option Ordering := FloatKind.f64.format.order x y
def pos0 (x : Nat) : Bool := match floatBits .quo .f64 4607182418800017408 x with | some r => o64 r 0 == some .gt | none => false
def sfd (x y : Nat) : Bool :=
  if (o64 x x != some .eq || o64 y y != some .eq) = true then (o64 x x != some .eq) && (o64 y y != some .eq)
  else if (o64 x 0 == some .eq && o64 y 0 == some .eq) = true then pos0 x == pos0 y
  else o64 x y == some .eq
theorem zero_of_eq {x : Nat} (h : (o64 x 0 == some .eq) = true) : ∃ s e, FloatKind.f64.format.read x = .number s 0 e := by
  have h0 : FloatKind.f64.format.read 0 = .number false 0 (-1074) := by decide
  unfold o64 Ieee.Format.order at h
  rw [h0] at h
  cases hx : FloatKind.f64.format.read x with
  | nan s f => rw [hx] at h; simp [Ieee.Datum.order] at h
  | infinity s => rw [hx] at h; cases s <;> simp [Ieee.Datum.order] at h
  | number s m e =>
    rw [hx] at h
    simp only [Ieee.Datum.order, beq_iff_eq, Option.some.injEq] at h
    rw [Std.LawfulEqCmp.compare_eq_iff_eq] at h
    have : m = 0 := by
      have hp : 0 < 2 ^ (e - min e (-1074)).toNat := Nat.two_pow_pos _
      have h2 : m * 2 ^ (e - min e (-1074)).toNat = 0 := by
        rw [← Nat.shiftLeft_eq]
        unfold Ieee.signed at h
        rw [Nat.zero_shiftLeft] at h
        generalize m <<< (e - min e (-1074)).toNat = z at h ⊢
        cases s <;> simp at h <;> omega
      rcases Nat.mul_eq_zero.1 h2 with h3 | h3
      · exact h3
      · omega
    subst this
    exact ⟨s, e, rfl⟩
theorem quo_zero {x : Nat} (h : (o64 x 0 == some .eq) = true) : ∃ r, floatBits .quo .f64 4607182418800017408 x = some r := by
  obtain ⟨s, e, hx⟩ := zero_of_eq h
  have h1 : FloatKind.f64.format.read 4607182418800017408 = .number false 4503599627370496 (-52) := by decide
  unfold floatBits
  simp only
  unfold Ieee.Format.div
  rw [h1, hx]
  exact ⟨_, rfl⟩
set_option maxHeartbeats 4000000 in
set_option maxRecDepth 100000 in
theorem sameFloat_d (x y : Nat) (w : World) : Calls Tryd.prog 23 #[.float .f64 x, .float .f64 y] w fun e w' => e = .returned (.bool (sfd x y)) ∧ Drawn0 w w' := by
  unfold sfd
  by_cases h1 : (o64 x x != some .eq) = true
  · rw [if_pos (by rw [h1]; rfl)]
    go_enter Tryd.func23, Tryd.ntmps23
    go_wp2
    go_ret
    exact ⟨by simp [h1], Drawn0.refl _⟩
  · have h1f := Bool.eq_false_iff.mpr h1
    by_cases h2 : (o64 y y != some .eq) = true
    · rw [if_pos (by rw [h2]; simp)]
      go_enter Tryd.func23, Tryd.ntmps23
      go_wp2
      go_ret
      exact ⟨by first | rfl | (simp [*]; done), Drawn0.refl _⟩
    · have h2f := Bool.eq_false_iff.mpr h2
      rw [if_neg (by rw [h1f, h2f]; decide)]
      by_cases h3 : (o64 x 0 == some .eq) = true
      · by_cases h4 : (o64 y 0 == some .eq) = true
        · obtain ⟨r1, hr1⟩ := quo_zero h3
          obtain ⟨r2, hr2⟩ := quo_zero h4
          have q1 := fun w => run_float_arith (P := Tryd.prog) w .quo 51 .f64 4607182418800017408 x r1 hr1
          have q2 := fun w => run_float_arith (P := Tryd.prog) w .quo 51 .f64 4607182418800017408 y r2 hr2
          rw [if_pos (by rw [h3, h4]; rfl)]
          unfold pos0
          rw [hr1, hr2]
          go_enter Tryd.func23, Tryd.ntmps23
          go_wp2
          go_ret
          exact ⟨by first | rfl | (simp [*]; done), Drawn0.refl _⟩
        · have h4f := Bool.eq_false_iff.mpr h4
          rw [if_neg (by rw [h3, h4f]; decide)]
          go_enter Tryd.func23, Tryd.ntmps23
          go_wp2
          go_ret
          exact ⟨by first | rfl | (simp [*]; done), Drawn0.refl _⟩
      · have h3f := Bool.eq_false_iff.mpr h3
        rw [if_neg (by rw [h3f]; simp)]
        go_enter Tryd.func23, Tryd.ntmps23
        go_wp2
        go_ret
        exact ⟨by first | rfl | (simp [*]; done), Drawn0.refl _⟩
def sfc (x y : Nat) : Bool := if (isn .f32 x || isn .f32 y) = true then isn .f32 x && isn .f32 y else sfd ((floatToFloatBits .f32 x .f64).getD 0) ((floatToFloatBits .f32 y .f64).getD 0)
theorem ne_of_isn {x : Nat} (h : isn .f64 x = true) : (o64 x x != some .eq) = true := by rw [show o64 x x = none from order_nan_l h]; rfl
theorem sfd_of_cv {x y b1 b2 : Nat} (h1 : Cv x b1) (h2 : Cv y b2) : sfd b1 b2 = sfc x y := by
  have eqn {b : Nat} (h : isn .f64 b = false) : (o64 b b != some .eq) = false := by rw [show o64 b b = some .eq from order_self h]; rfl
  unfold sfc
  rcases h1 with ⟨hx, hb1⟩ | ⟨hx, hb1⟩ <;> rcases h2 with ⟨hy, hb2⟩ | ⟨hy, hb2⟩
  · rw [if_pos (by rw [hx]; rfl), hx, hy]
    unfold sfd
    rw [ne_of_isn hb1, ne_of_isn hb2]
    rfl
  · rw [if_pos (by rw [hx]; rfl), hx, hy]
    unfold sfd
    rw [ne_of_isn hb1, eqn (conv_number hy hb2)]
    rfl
  · rw [if_pos (by rw [hy]; simp), hx, hy]
    unfold sfd
    rw [ne_of_isn hb2, eqn (conv_number hx hb1)]
    rfl
  · rw [if_neg (by rw [hx, hy]; decide), hb1, hb2]
    rfl
theorem sameFloat_c (x y b1 b2 : Nat) (h1 : Cv x b1) (h2 : Cv y b2) (w : World) : Calls Tryd.prog 23 #[.float .f64 b1, .float .f64 b2] w fun e w' => e = .returned (.bool (sfc x y)) ∧ Drawn0 w w' := by
  have := sameFloat_d b1 b2 w
  rwa [sfd_of_cv h1 h2] at this
theorem sfd_self (x : Nat) : sfd x x = true := by
  unfold sfd
  by_cases h1 : (o64 x x != some .eq) = true
  · rw [if_pos (by rw [h1]; rfl), h1]
    rfl
  · have h1f := Bool.eq_false_iff.mpr h1
    rw [if_neg (by rw [h1f]; decide)]
    by_cases h3 : (o64 x 0 == some .eq) = true
    · rw [if_pos (by rw [h3]; rfl)]
      simp
    · have h3f := Bool.eq_false_iff.mpr h3
      rw [if_neg (by rw [h3f]; decide)]
      simpa using h1f
theorem sfc_self (x : Nat) : sfc x x = true := by
  unfold sfc
  split
  · rename_i h
    simpa using h
  · exact sfd_self _
def eqVector.f (a0_0 a0_1 a0_2 a1_0 a1_1 a1_2 : Nat) : Option Bool := some (sfc a0_0 a1_0 && (sfc a0_1 a1_1 && sfc a0_2 a1_2))
set_option maxHeartbeats 4000000 in
set_option maxRecDepth 100000 in
theorem eqVector.calls (a0_0 a0_1 a0_2 a1_0 a1_1 a1_2 : Nat) (r : Bool) (w : World) (h : eqVector.f a0_0 a0_1 a0_2 a1_0 a1_1 a1_2 = some r) :
    Calls Tryd.prog 39 #[.agg #[.float .f32 a0_0, .float .f32 a0_1, .float .f32 a0_2], .agg #[.float .f32 a1_0, .float .f32 a1_1, .float .f32 a1_2]] w fun e w' => e = .returned (.bool r) ∧ Below w.heap.size w w' := by
  unfold eqVector.f at h
  obtain rfl := Option.some.inj h
  have c0 : (Tryd.prog.underlying 23).isSome = true := by kernel_rfl
  have c1 := Tryd.underlying51
  cases e0 : sfc a0_0 a1_0 with
  | false =>
    go_enter Tryd.func39, Tryd.ntmps39
    go_wp2_with (first | (refine wpList_conv rfl _ _ _ rfl c0 c1 _ rfl ?_; intro b' n hc) | (go_at_call 23; refine (sameFloat_c _ _ _ _ (by assumption) (by assumption) _).mono ?_; rintro e w1 ⟨rfl, ⟨nd, rfl⟩⟩))
    go_ret
    exact ⟨by first | rfl | (simp [*]; done), by repeat (first | exact Below.refl _ _ | apply below_alloc | apply pw_below_drewN | apply below_drew1)⟩
  | true =>
    cases e1 : sfc a0_1 a1_1 with
    | false =>
      go_enter Tryd.func39, Tryd.ntmps39
      go_wp2_with (first | (refine wpList_conv rfl _ _ _ rfl c0 c1 _ rfl ?_; intro b' n hc) | (go_at_call 23; refine (sameFloat_c _ _ _ _ (by assumption) (by assumption) _).mono ?_; rintro e w1 ⟨rfl, ⟨nd, rfl⟩⟩))
      go_ret
      exact ⟨by first | rfl | (simp [*]; done), by repeat (first | exact Below.refl _ _ | apply below_alloc | apply pw_below_drewN | apply below_drew1)⟩
    | true =>
      cases e2 : sfc a0_2 a1_2 with
      | false =>
        go_enter Tryd.func39, Tryd.ntmps39
        go_wp2_with (first | (refine wpList_conv rfl _ _ _ rfl c0 c1 _ rfl ?_; intro b' n hc) | (go_at_call 23; refine (sameFloat_c _ _ _ _ (by assumption) (by assumption) _).mono ?_; rintro e w1 ⟨rfl, ⟨nd, rfl⟩⟩))
        go_ret
        exact ⟨by first | rfl | (simp [*]; done), by repeat (first | exact Below.refl _ _ | apply below_alloc | apply pw_below_drewN | apply below_drew1)⟩
      | true =>
        go_enter Tryd.func39, Tryd.ntmps39
        go_wp2_with (first | (refine wpList_conv rfl _ _ _ rfl c0 c1 _ rfl ?_; intro b' n hc) | (go_at_call 23; refine (sameFloat_c _ _ _ _ (by assumption) (by assumption) _).mono ?_; rintro e w1 ⟨rfl, ⟨nd, rfl⟩⟩))
        go_ret
        exact ⟨by first | rfl | (simp [*]; done), by repeat (first | exact Below.refl _ _ | apply below_alloc | apply pw_below_drewN | apply below_drew1)⟩
def fin (x : Nat) : Bool := match floatBits .sub .f32 x x with | some r => FloatKind.f32.format.order r 0 == some .eq | none => false
def IsFinite.f (a0 : Nat) : Option Bool := some (fin a0)
set_option maxHeartbeats 4000000 in
set_option maxRecDepth 100000 in
theorem IsFinite.calls (a0 : Nat) (r : Bool) (w : World) (h : IsFinite.f a0 = some r) : Calls Tryd.prog 52 #[.float .f32 a0] w fun e w' => e = .returned (.bool r) ∧ Drawn0 w w' := by
  obtain rfl := Option.some.inj h
  cases e : floatBits .sub .f32 a0 a0 with
  | some q =>
    have q1 := fun w => run_float_arith (P := Tryd.prog) w .sub 23 .f32 a0 a0 q e
    go_enter Tryd.func52, Tryd.ntmps52
    go_wp2
    go_ret
    exact ⟨by simp [fin, e], Drawn0.refl _⟩
  | none =>
    have q1 := fun w => run_arith_none (P := Tryd.prog) w .sub (.inr (.inl rfl)) 23 .f32 a0 a0 e
    have q2 : ∀ t, (FloatKind.f32.format.order (nanv .f32 a0 a0 t) 0 == some .eq) = false := fun t => by rw [order_nan_l (nanv_isn _ _ _ _)]; rfl
    go_enter Tryd.func52, Tryd.ntmps52
    go_wp2
    go_ret
    exact ⟨by simp [fin, e, q2], ⟨1, rfl⟩⟩
def l01Finite.f (a0 : Nat) : Option Bool := some (fin a0)
set_option maxHeartbeats 4000000 in
set_option maxRecDepth 100000 in
theorem l01Finite.calls (a0 : Nat) (r : Bool) (w : World) (h : l01Finite.f a0 = some r) : Calls Tryd.prog 55 #[.float .f32 a0] w fun e w' => e = .returned (.bool r) ∧ Drawn0 w w' := by
  obtain rfl := Option.some.inj h
  cases e : floatBits .sub .f32 a0 a0 with
  | some q =>
    have q1 := fun w => run_float_arith (P := Tryd.prog) w .sub 23 .f32 a0 a0 q e
    go_enter Tryd.func55, Tryd.ntmps55
    go_wp2
    go_ret
    exact ⟨by simp [fin, e], Drawn0.refl _⟩
  | none =>
    have q1 := fun w => run_arith_none (P := Tryd.prog) w .sub (.inr (.inl rfl)) 23 .f32 a0 a0 e
    have q2 : ∀ t, (FloatKind.f32.format.order (nanv .f32 a0 a0 t) 0 == some .eq) = false := fun t => by rw [order_nan_l (nanv_isn _ _ _ _)]; rfl
    go_enter Tryd.func55, Tryd.ntmps55
    go_wp2
    go_ret
    exact ⟨by simp [fin, e, q2], ⟨1, rfl⟩⟩
theorem isNaN_eq (x : Nat) : (FloatKind.f32.format.order x x != some .eq) = isn .f32 x := by
  cases h : isn .f32 x with
  | true => rw [order_nan_l h]; rfl
  | false => rw [order_self h]; rfl
def isNaN.f (a0 : Nat) : Option Bool := some (isn .f32 a0)
set_option maxHeartbeats 4000000 in
set_option maxRecDepth 100000 in
theorem isNaN.calls (a0 : Nat) (r : Bool) (w : World) (h : isNaN.f a0 = some r) : Calls Tryd.prog 62 #[.float .f32 a0] w fun e w' => e = .returned (.bool r) ∧ Drawn0 w w' := by
  obtain rfl := Option.some.inj h
  go_enter Tryd.func62, Tryd.ntmps62
  go_wp2
  go_ret
  exact ⟨by rw [isNaN_eq]; rfl, Drawn0.refl _⟩
def bits (x : Nat) : Int := if isn .f32 x = true then 2143289344 else wrap64 (x : Int)
theorem run_bits (P : Program) (w : World) (x : Nat) : (Extern.MathFloatBits.float32bits #[.float .f32 x]).run P w = .ok (.int .u32 x) w := rfl
def l01Bits.f (a0 : Nat) : Option Int := some (bits a0)
set_option maxHeartbeats 4000000 in
set_option maxRecDepth 100000 in
theorem l01Bits.calls (a0 : Nat) (r : Int) (w : World) (h : l01Bits.f a0 = some r) : Calls Tryd.prog 54 #[.float .f32 a0] w fun e w' => e = .returned (.int .i64 r) ∧ Drawn0 w w' := by
  obtain rfl := Option.some.inj h
  unfold bits
  cases e : isn .f32 a0 with
  | true =>
    have e2 := isNaN_eq a0
    rw [e] at e2
    rw [if_pos rfl]
    go_enter Tryd.func54, Tryd.ntmps54
    go_wp2
    go_ret
    exact ⟨rfl, Drawn0.refl _⟩
  | false =>
    have e2 := isNaN_eq a0
    rw [e] at e2
    rw [if_neg (by decide)]
    go_enter Tryd.func54, Tryd.ntmps54
    go_wp2
    rw [run_callFunc_extern Tryd.func63 (by kernel_rfl) (by kernel_rfl) (by kernel_rfl) (e := Extern.MathFloatBits.float32bits) (by kernel_rfl)]
    rw [run_bits]
    simp only [Result.andThen]
    rw [Oper.upon_value]
    go_wp2
    go_ret
    exact ⟨rfl, Drawn0.refl _⟩
def BitsOf.f (a0 : Nat) : Option Int := some (bits a0)
set_option maxHeartbeats 4000000 in
set_option maxRecDepth 100000 in
theorem BitsOf.calls (a0 : Nat) (r : Int) (w : World) (h : BitsOf.f a0 = some r) : Calls Tryd.prog 46 #[.float .f32 a0] w fun e w' => e = .returned (.int .i64 r) ∧ Drawn0 w w' := by
  obtain rfl := Option.some.inj h
  unfold bits
  cases e : isn .f32 a0 with
  | true =>
    have e2 := isNaN_eq a0
    rw [e] at e2
    rw [if_pos rfl]
    go_enter Tryd.func46, Tryd.ntmps46
    go_wp2_with (go_at_call 62; refine (isNaN.calls _ _ _ (by show some _ = some _; rw [e])).mono ?_; rintro e w1 ⟨rfl, ⟨nd, rfl⟩⟩)
    go_ret
    exact ⟨rfl, by first | exact Drawn0.refl _ | exact ⟨_, rfl⟩⟩
  | false =>
    have e2 := isNaN_eq a0
    rw [e] at e2
    rw [if_neg (by decide)]
    go_enter Tryd.func46, Tryd.ntmps46
    go_wp2_with (go_at_call 62; refine (isNaN.calls _ _ _ (by show some _ = some _; rw [e])).mono ?_; rintro e w1 ⟨rfl, ⟨nd, rfl⟩⟩)
    rw [run_callFunc_extern Tryd.func63 (by kernel_rfl) (by kernel_rfl) (by kernel_rfl) (e := Extern.MathFloatBits.float32bits) (by kernel_rfl)]
    rw [run_bits]
    simp only [Result.andThen]
    rw [Oper.upon_value]
    go_wp2
    go_ret
    exact ⟨rfl, by first | exact Drawn0.refl _ | exact ⟨_, rfl⟩⟩
end XL
end Go.Proofs.YtffofpiejcolfaaDoor
end
section
namespace Go.Proofs.YtffofpiejcolfaaDoorW.PrintLast
open Go.Proofs.YtffofpiejcolfaaDoorW.PrintWords (Aside0)
def needsOf (md : Region.Mode) (o : Oper) : List Nat := (o.after.toList.filter (fun e => Region.binds md e)).map (fun e => e.on)
def clashOf (md : Region.Mode) (ops : Array Oper) (i : Nat) (oi : Oper) : List Nat := (List.range ops.size).filter fun j => !(j == i) && match ops[j]? with
  | some oj => !(oj.after.any (fun e => Region.binds md e && e.on == i) || oi.apart ops oj)
  | none => false
def rtab (md : Region.Mode) (ops : Array Oper) : Bool × List (List Nat × List Nat) := (Region.noSelect ops, (List.range ops.size).map fun i => match ops[i]? with
  | some o => (needsOf md o, clashOf md ops i o)
  | none => ([], []))
def readyAt (T : List (List Nat × List Nat)) (l : List Bool) (i : Nat) : Bool := !l.getD i true && match T[i]? with
  | some r => r.1.all (fun j => l.getD j false)
  | none => false
def readyT (T : List (List Nat × List Nat)) (l : List Bool) : List Nat := (List.range T.length).filter (readyAt T l)
def freeT (T : List (List Nat × List Nat)) (l : List Bool) (i : Nat) : Bool := match T[i]? with
  | some r => r.2.all (fun j => l.getD j true)
  | none => false
def closedT (T : List (List Nat × List Nat)) (l : List Bool) : Bool := (List.range T.length).all fun j => !l.getD j false || match T[j]? with
  | some r => r.1.all (fun k => l.getD k false)
  | none => true
def reachT (T : List (List Nat × List Nat)) (i : Nat) : Nat → Nat → Bool
  | 0, _ => false
  | fuel + 1, d => match T[d]? with
    | some r => r.1.any fun j => j == i || reachT T i fuel j
    | none => false
def lastT (T : List (List Nat × List Nat)) (l : List Bool) (ds : List Nat) (i : Nat) : Bool := ds.all fun d => l.getD d true || reachT T i T.length d
section
variable {md : Region.Mode} {ops : Array Oper} {T : Bool × List (List Nat × List Nat)} {l l' li lj lk : Array Bool} {ds : List Nat} {i j k : Nat}
theorem gd (l : Array Bool) (j : Nat) (b : Bool) : l.getD j b = l.toList.getD j b := by simp [Array.getD_eq_getD_getElem?, List.getD_eq_getElem?_getD]
theorem needs_all (o : Oper) (p : Nat → Bool) : o.after.all (fun e => !Region.binds md e || p e.on) = (needsOf md o).all p := by
  unfold needsOf
  rw [← Array.all_toList]
  induction o.after.toList with
  | nil => rfl
  | cons e r ih =>
    rw [List.all_cons, ih, List.filter_cons]
    cases h : Region.binds md e <;> simp
theorem needs_any (o : Oper) (p : Nat → Bool) : o.after.any (fun e => Region.binds md e && p e.on) = (needsOf md o).any p := by
  unfold needsOf
  rw [← Array.any_toList]
  induction o.after.toList with
  | nil => rfl
  | cons e r ih =>
    rw [List.any_cons, ih, List.filter_cons]
    cases h : Region.binds md e <;> simp
theorem rtab_length : (rtab md ops).2.length = ops.size := by simp [rtab]
theorem rtab_some {o : Oper} (h : ops[i]? = some o) : (rtab md ops).2[i]? = some (needsOf md o, clashOf md ops i o) := by
  have hi := (Array.getElem?_eq_some_iff.1 h).1
  unfold rtab
  rw [List.getElem?_map, List.getElem?_range hi, Option.map_some, h]
theorem rtab_none (h : ops[i]? = none) : (rtab md ops).2[i]? = none := by
  have hi : ops.size ≤ i := Array.getElem?_eq_none_iff.1 h
  exact List.getElem?_eq_none (by rw [rtab_length]; exact hi)
theorem readyAt_eq : readyAt (rtab md ops).2 l.toList i = (!l.getD i true && ((ops[i]?).map (·.after.all fun e => !Region.binds md e || l.getD e.on false)).getD false) := by
  unfold readyAt
  rw [gd]
  cases h : ops[i]? with
  | none => rw [rtab_none h]; rfl
  | some o =>
    rw [rtab_some h]
    simp only [Option.map_some, Option.getD_some]
    rw [← needs_all]
    simp only [gd]
theorem ready_eq : Region.ready md ops l = readyT (rtab md ops).2 l.toList := by
  unfold Region.ready readyT
  rw [rtab_length]
  refine List.filter_congr (fun i _ => ?_)
  rw [readyAt_eq]
theorem free_eq : Region.free md ops l i = freeT (rtab md ops).2 l.toList i := by
  unfold Region.free freeT
  cases h : ops[i]? with
  | none => rw [rtab_none h]
  | some oi =>
    rw [rtab_some h]
    simp only [clashOf]
    rw [List.all_filter]
    congr 1
    funext j
    rw [gd]
    cases hj : ops[j]? with
    | none => cases (j == i) <;> cases (l.toList.getD j true) <;> simp
    | some oj =>
      cases (j == i) <;> cases (l.toList.getD j true) <;> cases (oj.after.any (fun e => Region.binds md e && e.on == i) || oi.apart ops oj) <;> simp_all
theorem closed_eq : Region.closedB md ops l = closedT (rtab md ops).2 l.toList := by
  unfold Region.closedB closedT
  rw [rtab_length]
  congr 1
  funext j
  rw [gd]
  cases h : ops[j]? with
  | none => rw [rtab_none h]
  | some o =>
    rw [rtab_some h]
    simp only
    rw [← needs_all]
    simp only [gd]
theorem reach_eq : ∀ (fuel d : Nat), Region.reachB md ops i fuel d = reachT (rtab md ops).2 i fuel d
  | 0, _ => rfl
  | fuel + 1, d => by
    unfold Region.reachB reachT
    cases h : ops[d]? with
    | none => rw [rtab_none h]
    | some o =>
      rw [rtab_some h]
      simp only
      rw [← needs_any]
      congr 1
      funext e
      rw [reach_eq fuel]
theorem last_eq : Region.lastB md ops l ds i = lastT (rtab md ops).2 l.toList ds i := by
  unfold Region.lastB lastT
  rw [rtab_length]
  congr 1
  funext d
  rw [gd, reach_eq]
theorem readyAt_mem (h : readyAt T.2 l.toList i = true) (hT : rtab md ops = T) : (Region.ready md ops l).contains i = true := by
  subst hT
  rw [ready_eq]
  unfold readyT
  rw [List.contains_iff_mem, List.mem_filter, List.mem_range]
  refine ⟨?_, h⟩
  unfold readyAt at h
  rw [Bool.and_eq_true] at h
  cases hq : (rtab md ops).2[i]? with
  | none => rw [hq] at h; simp at h
  | some r => exact (List.getElem?_eq_some_iff.1 hq).1
theorem set_of (h : (l.toList.set i true == l'.toList) = true) : (l.setIfInBounds i true == l') = true := by
  rw [beq_iff_eq] at h ⊢
  apply Array.ext'
  rw [Array.toList_setIfInBounds]
  exact h
def anyT (T : Bool × List (List Nat × List Nat)) (l l' : List Bool) (i : Nat) : Bool := T.1 && freeT T.2 l i && readyAt T.2 l i && (l.set i true == l')
theorem any_of (hT : rtab md ops = T) (h : anyT T l.toList l'.toList i = true) : anyB md ops l l' i = true := by
  simp only [anyT, Bool.and_eq_true] at h
  obtain ⟨⟨⟨h1, h2⟩, h3⟩, h4⟩ := h
  have h5 := readyAt_mem h3 hT
  have h6 := set_of h4
  subst hT
  simp only [anyB, Bool.and_eq_true]
  exact ⟨⟨⟨h1, by rw [free_eq]; exact h2⟩, h5⟩, h6⟩
def takeT (T : Bool × List (List Nat × List Nat)) (ds : List Nat) (l l' : List Bool) (i : Nat) : Bool := T.1 && freeT T.2 l i && readyAt T.2 l i && closedT T.2 l && lastT T.2 l ds i && (l.set i true == l')
theorem take_of (hT : rtab md ops = T) (h : takeT T ds l.toList l'.toList i = true) : takeB md ops ds l l' i = true := by
  simp only [takeT, Bool.and_eq_true] at h
  obtain ⟨⟨⟨⟨⟨h1, h2⟩, h3⟩, h4⟩, h5⟩, h6⟩ := h
  have h7 := readyAt_mem h3 hT
  have h8 := set_of h6
  subst hT
  simp only [takeB, Bool.and_eq_true]
  exact ⟨⟨⟨⟨⟨h1, by rw [free_eq]; exact h2⟩, h7⟩, by rw [closed_eq]; exact h4⟩, by rw [last_eq]; exact h5⟩, h8⟩
theorem one_of (hT : rtab md ops = T) (h : (readyT T.2 l.toList == [i] && l.toList.set i true == l'.toList) = true) : readyB md ops l l' i = true := by
  simp only [Bool.and_eq_true] at h
  obtain ⟨h1, h2⟩ := h
  subst hT
  simp only [readyB, Bool.and_eq_true]
  exact ⟨by rw [ready_eq]; exact h1, set_of h2⟩
theorem done_of (hT : rtab md ops = T) (h : (readyT T.2 l.toList == []) = true) : (Region.ready md ops l == []) = true := by
  subst hT
  rw [ready_eq]
  exact h
def upM (B : List Nat) (d : Nat) : List Nat → Nat
  | [] => 0
  | n :: r => (2 ^ n ||| (if n < d then B.getD n 0 else 0)) ||| upM B d r
def waitsOk (T : List (List Nat × List Nat)) (B : List Nat) : Bool := (List.range T.length).all fun d => match T[d]? with
  | some r => (B.getD d 0 ||| upM B d r.1) == upM B d r.1
  | none => false
theorem upM_bit {B : List Nat} {d i : Nat} : ∀ {ns : List Nat}, (upM B d ns).testBit i = true → ∃ n ∈ ns, n = i ∨ (n < d ∧ (B.getD n 0).testBit i = true)
  | [], h => by simp [upM] at h
  | n :: r, h => by
    unfold upM at h
    rw [Nat.testBit_or, Nat.testBit_or, Bool.or_eq_true, Bool.or_eq_true] at h
    rcases h with (h | h) | h
    · rw [Nat.testBit_two_pow] at h
      exact ⟨n, List.mem_cons_self, .inl (by simpa using h)⟩
    · by_cases hn : n < d
      · rw [if_pos hn] at h
        exact ⟨n, List.mem_cons_self, .inr ⟨hn, h⟩⟩
      · rw [if_neg hn] at h
        simp at h
    · obtain ⟨m, hm, h2⟩ := upM_bit h
      exact ⟨m, List.mem_cons_of_mem _ hm, h2⟩
theorem reach_bit {T : List (List Nat × List Nat)} {B : List Nat} (hB : waitsOk T B = true) : ∀ (fuel d : Nat), d < fuel → d < T.length → (B.getD d 0).testBit i = true → reachT T i fuel d = true
  | 0, d, h, _, _ => by omega
  | fuel + 1, d, h, hd, hb => by
    have h1 := List.all_eq_true.1 hB d (List.mem_range.2 hd)
    cases hr : T[d]? with
    | none => rw [hr] at h1; simp at h1
    | some r =>
      rw [hr] at h1
      simp only [beq_iff_eq] at h1
      have h2 : (upM B d r.1).testBit i = true := by rw [← h1, Nat.testBit_or, hb, Bool.true_or]
      obtain ⟨n, hn, h3⟩ := upM_bit h2
      unfold reachT
      rw [hr]
      simp only
      rw [List.any_eq_true]
      refine ⟨n, hn, ?_⟩
      rcases h3 with rfl | ⟨h4, h5⟩
      · simp
      · rw [reach_bit hB fuel n (by omega) (by omega) h5, Bool.or_true]
def lastW (T : List (List Nat × List Nat)) (B : List Nat) (l : List Bool) (ds : List Nat) (i : Nat) : Bool := ds.all fun d => l.getD d true || (decide (d < T.length) && (B.getD d 0).testBit i)
def takeW (T : Bool × List (List Nat × List Nat)) (B : List Nat) (ds : List Nat) (l l' : List Bool) (i : Nat) : Bool := T.1 && freeT T.2 l i && readyAt T.2 l i && closedT T.2 l && lastW T.2 B l ds i && (l.set i true == l')
theorem take_ofW {B : List Nat} (hT : rtab md ops = T) (hB : waitsOk T.2 B = true) (h : takeW T B ds l.toList l'.toList i = true) : takeB md ops ds l l' i = true := by
  refine take_of hT ?_
  simp only [takeW, takeT, Bool.and_eq_true] at h ⊢
  obtain ⟨⟨⟨⟨⟨h1, h2⟩, h3⟩, h4⟩, h5⟩, h6⟩ := h
  refine ⟨⟨⟨⟨⟨h1, h2⟩, h3⟩, h4⟩, ?_⟩, h6⟩
  unfold lastW at h5
  unfold lastT
  rw [List.all_eq_true] at h5 ⊢
  intro d hd
  have h7 := h5 d hd
  rw [Bool.or_eq_true, Bool.and_eq_true, decide_eq_true_eq] at h7
  rcases h7 with h7 | ⟨h8, h9⟩
  · rw [h7, Bool.true_or]
  · rw [reach_bit hB _ d h8 h8 h9, Bool.or_true]
theorem with_tabW {P : Program} {Q : Exit → Act → World → Prop} {S : World → Prop} {n : Nat} {a : Act} {w : World} {B : List Nat} (hT : rtab md ops = T) (hB : waitsOk T.2 B = true) (h : Aside0 (rtab md ops = T) → Aside0 (waitsOk T.2 B = true) → wpAnyLast P md ops Q S ds n l a w) : wpAnyLast P md ops Q S ds n l a w := h ⟨hT⟩ ⟨hB⟩
end
def opsIn : Code → Nat → Option (Array Oper)
  | .region id ops _, k => if id == k then some ops else none
  | .seq a b, k => match opsIn a k with
    | some o => some o
    | none => opsIn b k
  | .cond _ a b, k => match opsIn a k with
    | some o => some o
    | none => opsIn b k
  | .block _ c, k => opsIn c k
  | .loop c, k => opsIn c k
  | .scope c, k => opsIn c k
  | .rangeFunc _ _ a b, k => match opsIn a k with
    | some o => some o
    | none => opsIn b k
  | _, _ => none
def opsOf (f : Func) (k : Nat) : Array Oper := ((f.body.bind fun c => opsIn c k)).getD #[]
end Go.Proofs.YtffofpiejcolfaaDoorW.PrintLast
end
section
namespace Go.Proofs.YtffofpiejcolfaaDoorW.PrintLast
section
variable {P : Program} {ops : Array Oper} {Q : Exit → Act → World → Prop} {md : Region.Mode} {S : World → Prop} {ds : List Nat} {T : Bool × List (List Nat × List Nat)}
end
end Go.Proofs.YtffofpiejcolfaaDoorW.PrintLast
end
section
namespace Go.Proofs.YtffofpiejcolfaaDoorW.PrintWords
open Go.RowKit
namespace Kd
section
variable {α : Type} {d : Kd α} {W : World} {g n : Nat} {S ok : Nat → Prop} {A : Option Addr} {ad : Addr} {xs : List α}
end
end Kd
end Go.Proofs.YtffofpiejcolfaaDoorW.PrintWords
end
section
namespace Go.Proofs.YtffofpiejcolfaaDoorW.PrintWords
open Go.RowKit
section
variable {w w' u : World} {m B g : Nat} {o : Obj} {row : Option Nat} {S : Nat → Prop} {a : Addr} {v : Value}
end
namespace Kd
section
variable {α : Type} {d : Kd α} {e base n m : Nat} {ok : Nat → Prop} {w w' : World} {v : Value} {A : Option Addr} {xs : List α}
end
end Kd
end Go.Proofs.YtffofpiejcolfaaDoorW.PrintWords
end
section
namespace Go.Proofs.YtffofpiejcolfaaDoorW.PrintWords
open Go.RowKit
section
variable {P : Program} {d : Nat} {xs ys : Array Value} {f : Field} {fs : List Field} {a b : Value} {r s : Bool} {w : World}
end
end Go.Proofs.YtffofpiejcolfaaDoorW.PrintWords
end
section
namespace Go.Proofs.YtffofpiejcolfaaDoorW.PrintWords
theorem Reps.front {α : Type} {R : α → List Value → Prop} {size : Nat} {ps : List α} {cs c all : List Value} {p : α} (hp : R p c) (hc : c.length = size) (h : Reps R size ps cs) (ha : c ++ cs = all) : Reps R size (p :: ps) all := by
  subst ha
  refine ⟨by rw [List.length_append, hc, h.1, List.length_cons, Nat.succ_mul, Nat.add_comm], fun j q hq => ?_⟩
  cases j with
  | zero =>
    simp only [List.getElem?_cons_zero, Option.some.injEq] at hq
    subst hq
    rw [Nat.zero_mul, List.drop_zero, List.take_append_of_le_length (by omega), List.take_of_length_le (by omega)]
    exact hp
  | succ j =>
    simp only [List.getElem?_cons_succ] at hq
    have h1 := h.2 j q hq
    rw [Nat.succ_mul, List.drop_append, List.drop_of_length_le (by rw [hc]; exact Nat.le_add_left _ _), List.nil_append, hc, Nat.add_sub_cancel]
    exact h1
theorem Reps.c2 {α : Type} {R : α → List Value → Prop} {ps : List α} {cs : List Value} {p : α} {va vb : Value} (hp : R p [va, vb]) (h : Reps R 2 ps cs) : Reps R 2 (p :: ps) (va :: vb :: cs) := Reps.front hp rfl h rfl
theorem Reps.c3 {α : Type} {R : α → List Value → Prop} {ps : List α} {cs : List Value} {p : α} {va vb vc : Value} (hp : R p [va, vb, vc]) (h : Reps R 3 ps cs) : Reps R 3 (p :: ps) (va :: vb :: vc :: cs) := Reps.front hp rfl h rfl
theorem Reps.c4 {α : Type} {R : α → List Value → Prop} {ps : List α} {cs : List Value} {p : α} {va vb vc vd : Value} (hp : R p [va, vb, vc, vd]) (h : Reps R 4 ps cs) : Reps R 4 (p :: ps) (va :: vb :: vc :: vd :: cs) := Reps.front hp rfl h rfl
theorem Reps.c5 {α : Type} {R : α → List Value → Prop} {ps : List α} {cs : List Value} {p : α} {va vb vc vd ve : Value} (hp : R p [va, vb, vc, vd, ve]) (h : Reps R 5 ps cs) : Reps R 5 (p :: ps) (va :: vb :: vc :: vd :: ve :: cs) := Reps.front hp rfl h rfl
theorem Reps.c6 {α : Type} {R : α → List Value → Prop} {ps : List α} {cs : List Value} {p : α} {va vb vc vd ve vf : Value} (hp : R p [va, vb, vc, vd, ve, vf]) (h : Reps R 6 ps cs) : Reps R 6 (p :: ps) (va :: vb :: vc :: vd :: ve :: vf :: cs) := Reps.front hp rfl h rfl
theorem Reps.c7 {α : Type} {R : α → List Value → Prop} {ps : List α} {cs : List Value} {p : α} {va vb vc vd ve vf vg : Value} (hp : R p [va, vb, vc, vd, ve, vf, vg]) (h : Reps R 7 ps cs) : Reps R 7 (p :: ps) (va :: vb :: vc :: vd :: ve :: vf :: vg :: cs) := Reps.front hp rfl h rfl
theorem Reps.c8 {α : Type} {R : α → List Value → Prop} {ps : List α} {cs : List Value} {p : α} {va vb vc vd ve vf vg vh : Value} (hp : R p [va, vb, vc, vd, ve, vf, vg, vh]) (h : Reps R 8 ps cs) : Reps R 8 (p :: ps) (va :: vb :: vc :: vd :: ve :: vf :: vg :: vh :: cs) := Reps.front hp rfl h rfl
theorem Reps.c9 {α : Type} {R : α → List Value → Prop} {ps : List α} {cs : List Value} {p : α} {va vb vc vd ve vf vg vh vi : Value} (hp : R p [va, vb, vc, vd, ve, vf, vg, vh, vi]) (h : Reps R 9 ps cs) : Reps R 9 (p :: ps) (va :: vb :: vc :: vd :: ve :: vf :: vg :: vh :: vi :: cs) := Reps.front hp rfl h rfl
theorem Reps.c10 {α : Type} {R : α → List Value → Prop} {ps : List α} {cs : List Value} {p : α} {va vb vc vd ve vf vg vh vi vj : Value} (hp : R p [va, vb, vc, vd, ve, vf, vg, vh, vi, vj]) (h : Reps R 10 ps cs) : Reps R 10 (p :: ps) (va :: vb :: vc :: vd :: ve :: vf :: vg :: vh :: vi :: vj :: cs) := Reps.front hp rfl h rfl
end Go.Proofs.YtffofpiejcolfaaDoorW.PrintWords
end
section
namespace Go.Proofs.YtffofpiejcolfaaDoorW.PrintLast
section
variable {P : Program} {ops : Array Oper} {Q : Exit → Act → World → Prop} {md : Region.Mode} {T : Bool × List (List Nat × List Nat)} {B : List Nat} {O : List Nat} {b : Nat → Bool} {i j n : Nat}
end
end Go.Proofs.YtffofpiejcolfaaDoorW.PrintLast
end
section
namespace Go.Proofs.YtffofpiejcolfaaDoorW.PrintWords
open Go.RowKit
end Go.Proofs.YtffofpiejcolfaaDoorW.PrintWords
namespace Go.Proofs.YtffofpiejcolfaaDoorW.PrintLast
section
variable {ops : Array Oper} {a : Act} {o og : Oper} {g : Nat} {t : Tmp} {u : Bool}
end
end Go.Proofs.YtffofpiejcolfaaDoorW.PrintLast
end
section
namespace Go.Proofs.YtffofpiejcolfaaDoorW.PrintWords
open Go.RowKit
section
variable {P : Program} {ops : Array Oper} {rest : List Oper} {o : Oper} {a : Act} {Q : Exit → Act → World → Prop} {W : World}
theorem gate_guard (hw : Region.wanted o (yielded ops a.tmps) = true) (h : wpList P ops Q ({ o with guard := none } :: rest) a W) : wpList P ops Q (o :: rest) a W := by
  have h1 : Region.wanted { o with guard := none } (yielded ops a.tmps) = true := rfl
  unfold wpList at h ⊢
  rw [if_pos h1] at h
  rw [if_pos hw]
  exact h
end
end Go.Proofs.YtffofpiejcolfaaDoorW.PrintWords
end
section
namespace Go.Proofs.YtffofpiejcolfaaDoor.F0
open Go.RowKit Go.Proofs.YtffofpiejcolfaaDoorW.PrintWords Go.Proofs.YtffofpiejcolfaaDoorW.PrintLast Go.Proofs.YtffofpiejcolfaaDoorW.PrintMore
attribute [local go_sem] max2_int min2_int max_two min_two max_three min_three max_four min_four
set_option linter.unusedVariables false
set_option linter.unusedSimpArgs false
def errW : Option Int → Value
  | none => .nilIface
  | some c => .iface 0 (.int .i64 c)
theorem errW_none : errW none = .nilIface := rfl
theorem errW_some (c : Int) : errW (some c) = .iface 0 (.int .i64 c) := rfl
theorem info9 : (Tryd.prog.info? 9).map (fun i => (i.zero, i.size, i.bytes)) = some (some (.string ⟨#[]⟩), 1, 16) := by kernel_rfl
theorem info23 : (Tryd.prog.info? 23).map (fun i => (i.zero, i.size, i.bytes)) = some (some (.float .f32 0), 1, 4) := by kernel_rfl
structure S45 where
  f0 : Nat
  f1 : Nat
  f2 : Nat
def z45 : S45 := ⟨(0 : Nat), (0 : Nat), (0 : Nat)⟩
def k45 : Kd S45 := Kd.iso (Kd.pair (Kd.float .f32) (Kd.pair (Kd.float .f32) (Kd.float .f32))) (fun x : S45 => (x.f0, x.f1, x.f2))
theorem k45_open {w : World} {x : S45} {cs : List Value} (h : k45.K w x cs) : cs = [.float .f32 x.f0, .float .f32 x.f1, .float .f32 x.f2] := by
  obtain ⟨_, _, rfl, rfl, ⟨_, _, rfl, rfl, rfl⟩⟩ := h
  exact rfl
theorem k45_openM {w : World} {base : Nat} {ok : Nat → Prop} {x : S45} {cs : List Value} (h : k45.M w base ok x cs) : cs = [.float .f32 x.f0, .float .f32 x.f1, .float .f32 x.f2] := by
  obtain ⟨_, _, rfl, rfl, ⟨_, _, rfl, rfl, rfl⟩⟩ := h
  exact rfl
theorem k45_mkM (w : World) (base : Nat) (ok : Nat → Prop) (x : S45)  : k45.M w base ok x [.float .f32 x.f0, .float .f32 x.f1, .float .f32 x.f2] := ⟨[.float .f32 x.f0], [.float .f32 x.f1, .float .f32 x.f2], rfl, rfl, ⟨[.float .f32 x.f1], [.float .f32 x.f2], rfl, rfl, rfl⟩⟩
def rd_T45 (xs : List S45) (i : Int) : S45 := xs.getD i.toNat z45
theorem at_T45 {w : World} {A : Option Addr} {n : Nat} {xs : List S45} (h : Kd.C k45 w A n xs) (i : Int) (h0 : 0 ≤ i) (h1 : i < n) : ∃ ad , A = some ad ∧ w.cell? (ad.add (i.toNat * 3)) = some (.float .f32 (rd_T45 xs i).f0) ∧ w.cell? ⟨(ad.add (i.toNat * 3)).block, (ad.add (i.toNat * 3)).off + 1, none⟩ = some (.float .f32 (rd_T45 xs i).f1) ∧ w.cell? ⟨(ad.add (i.toNat * 3)).block, (ad.add (i.toNat * 3)).off + 2, none⟩ = some (.float .f32 (rd_T45 xs i).f2) := by
  obtain ⟨ad, c, e, _, hK, hc0⟩ := Kd.C_get h z45 i h0 h1
  have hc : ∀ j u, c[j]? = some u → w.cell? (ad.add (i.toNat * 3 + j)) = some u := hc0
  obtain rfl := k45_open hK
  exact ⟨ad, e, hc 0 _ rfl, by rw [← add_field _ _ 1 (by omega)]; exact hc 1 _ rfl, by rw [← add_field _ _ 2 (by omega)]; exact hc 2 _ rfl⟩
end Go.Proofs.YtffofpiejcolfaaDoor.F0
end
section
set_option linter.unusedVariables false
set_option linter.unusedSimpArgs false
namespace Go.Proofs.YtffofpiejcolfaaDoor
open Go.RowKit Go.Proofs.YtffofpiejcolfaaDoorW.PrintWords Go.Proofs.YtffofpiejcolfaaDoorW.PrintLast Go.Proofs.YtffofpiejcolfaaDoorW.PrintMore
attribute [local go_sem] max2_int min2_int max_two min_two max_three min_three max_four min_four
namespace XC
open XF XL F0
set_option maxHeartbeats 4000000 in
set_option maxRecDepth 100000 in
theorem lit132 (a0 : Nat) (w : World) : Calls Tryd.prog 71 #[.float .f32 a0] w fun e w' => e = .returned (.bool (!fin a0)) ∧ Drawn0 w w' := by
  go_enter Tryd.func71, Tryd.ntmps71
  go_wp2_with (go_at_call 52; refine (IsFinite.calls _ _ _ rfl).mono ?_; rintro e w1 ⟨rfl, ⟨nd, rfl⟩⟩)
  go_ret
  exact ⟨rfl, ⟨_, rfl⟩⟩
def ix {α : Type} (p : α → Bool) : List α → Int → Int
  | [], _ => -1
  | x :: r, i => if p x = true then i else ix p r (i + 1)
theorem ix_ge {α : Type} (p : α → Bool) : ∀ (xs : List α) (i : Int), 0 ≤ i → (decide (0 ≤ ix p xs i)) = xs.any p
  | [], i, _ => by simp [ix]
  | x :: r, i, h => by
    unfold ix
    cases e : p x with
    | true => simp [e, h]
    | false => simp [e, ix_ge p r (i + 1) (by omega)]
set_option maxHeartbeats 4000000 in
set_option maxRecDepth 100000 in
theorem index133 (A : Option Addr) (c : Nat) (xs : List Nat) (r : Int) (hr : ix (fun x => !fin x) xs 0 = r) (w : World) (hr0 : Kd.C (Kd.float .f32) w A xs.length xs) (hc0 : xs.length ≤ c) :
    Calls Tryd.prog 72 #[.slice A xs.length c, .func (.func 71) #[] #[]] w fun e w' => e = .returned (.int .i64 r) ∧ Drawn0 w w' := by
  have HR0 := Aside0.mk hr0
  clear hr0
  have hmx : xs.length ≤ 9223372036854775807 := Kd.C_max HR0.out
  go_enter Tryd.func72, Tryd.ntmps72
  go_wp2
  go_loopg [8] xs.length (fun kq v8 w' => ∃ (i : Nat), v8 = .int .i64 (i : Int) ∧ Aside0 (i + kq = xs.length) ∧ Aside0 (ix (fun x => !fin x) (xs.drop i) (i : Int) = r) ∧ Drawn0 w w')
  case atStart => exact ⟨0, rfl, ⟨by simp⟩, ⟨hr⟩, Drawn0.refl _⟩
  case round =>
    obtain ⟨i, rfl, HI, HX, ⟨m, rfl⟩⟩ := hrel
    have hi := HI.out
    have hx0 := HX.out
    cases gk with
    | zero =>
      have hc : decide ((i : Int) < (xs.length : Int)) = false := by simp; omega
      rw [List.drop_eq_nil_of_le (by omega), ix] at hx0
      subst hx0
      go_wp2
      go_ret
      exact ⟨rfl, ⟨_, rfl⟩⟩
    | succ k1 =>
      have hil : i < xs.length := by omega
      have hc : decide ((i : Int) < (xs.length : Int)) = true := by simp; omega
      have p0 : (0 : Int) ≤ (i : Int) := by omega
      have q0 : (i : Int) < (xs.length : Int) := by omega
      obtain ⟨ad, ead, hx⟩ := Kd.at_float HR0.out (i : Int) p0 q0
      cases ead
      rw [Int.toNat_natCast, show rdOf (0 : Nat) xs (i : Int) = xs[i] by simp [rdOf, hil]] at hx
      rw [List.drop_eq_getElem_cons hil, ix] at hx0
      generalize xs[i] = x at hx hx0
      have p0b := eq_true p0
      have q0b := eq_true q0
      cases e : fin x with
      | false =>
        rw [e, if_pos (by rfl)] at hx0
        subst hx0
        go_wp2_with (first | (go_at_call 71; refine (lit132 _ _).mono ?_; rintro e w1 ⟨rfl, ⟨nd, rfl⟩⟩))
        go_ret
        exact ⟨rfl, ⟨_, rfl⟩⟩
      | true =>
        rw [e, if_neg (by decide)] at hx0
        go_wp2_with (first | (go_at_call 71; refine (lit132 _ _).mono ?_; rintro e w1 ⟨rfl, ⟨nd, rfl⟩⟩))
        go_roundg k1
        case measure => omega
        case rel => exact ⟨i + 1, rfl, ⟨by omega⟩, ⟨hx0⟩, ⟨_, rfl⟩⟩
set_option maxHeartbeats 4000000 in
set_option maxRecDepth 100000 in
theorem contains116 (A : Option Addr) (c : Nat) (xs : List Nat) (w : World) (hr0 : Kd.C (Kd.float .f32) w A xs.length xs) (hc0 : xs.length ≤ c) :
    Calls Tryd.prog 70 #[.slice A xs.length c, .func (.func 71) #[] #[]] w fun e w' => e = .returned (.bool (xs.any fun x => !fin x)) ∧ Drawn0 w w' := by
  have hg := ix_ge (fun x => !fin x) xs 0 (Int.le_refl _)
  go_enter Tryd.func70, Tryd.ntmps70
  go_wp2_with (first | (go_at_call 72; refine (index133 _ _ _ _ rfl _ hr0 hc0).mono ?_; rintro e w1 ⟨rfl, ⟨nd, rfl⟩⟩))
  go_ret
  exact ⟨by first | rfl | (rw [← hg]; rfl), ⟨_, rfl⟩⟩
set_option maxHeartbeats 4000000 in
set_option maxRecDepth 100000 in
theorem finite115 (A : Option Addr) (c : Nat) (xs : List Nat) (w : World) (hr0 : Kd.C (Kd.float .f32) w A xs.length xs) (hc0 : xs.length ≤ c) :
    Calls Tryd.prog 66 #[.slice A xs.length c] w fun e w' => e = .returned (.bool (!xs.any fun x => !fin x)) ∧ Drawn0 w w' := by
  go_enter Tryd.func66, Tryd.ntmps66
  go_wp2_with (first | (go_at_call 70; refine (contains116 _ _ _ _ hr0 hc0).mono ?_; rintro e w1 ⟨rfl, ⟨nd, rfl⟩⟩))
  go_ret
  exact ⟨rfl, ⟨_, rfl⟩⟩
theorem three_C {k : FloatKind} {b : Nat} {x y z : Nat} {t : TypeId} {w : World} (h : w.heap[b]? = some (.cells #[.float k x, .float k y, .float k z] t (0, 0))) : Kd.C (Kd.float k) w (some ⟨b, 0, none⟩) [x, y, z].length [x, y, z] := by
  refine Kd.C_of_reads (d := (0 : Nat)) ⟨rfl, by simp, fun _ => ⟨_, rfl, fun j hj => ?_⟩⟩
  have hj3 : j < 3 := hj
  rw [add_plain]
  unfold World.cell?
  rw [h]
  match j, hj3 with
  | 0, _ => rfl
  | 1, _ => rfl
  | 2, _ => rfl
theorem heap_two (w : World) (o1 o2 : Obj) : ((w.alloc o1).alloc o2).heap[w.heap.size + 1]? = some o2 := by
  have h := heap_alloc_new (w.alloc o1) o2
  rwa [show (w.alloc o1).heap.size = w.heap.size + 1 by simp] at h
def finiteVector.f (a0_0 a0_1 a0_2 : Nat) : Option Bool := some (fin a0_0 && (fin a0_1 && fin a0_2))
set_option maxHeartbeats 4000000 in
set_option maxRecDepth 100000 in
theorem finiteVector.calls (a0_0 a0_1 a0_2 : Nat) (r : Bool) (w : World) (h : finiteVector.f a0_0 a0_1 a0_2 = some r) :
    Calls Tryd.prog 50 #[.agg #[.float .f32 a0_0, .float .f32 a0_1, .float .f32 a0_2]] w fun e w' => e = .returned (.bool r) ∧ Below w.heap.size w w' := by
  obtain rfl := Option.some.inj h
  have e0 : (!([a0_0, a0_1, a0_2].any fun x => !fin x)) = (fin a0_0 && (fin a0_1 && fin a0_2)) := by cases h0 : fin a0_0 <;> cases h1 : fin a0_1 <;> cases h2 : fin a0_2 <;> simp [h0, h1, h2]
  rw [← e0]
  go_enter Tryd.func50, Tryd.ntmps50
  go_wp2_with (first | (go_at_call 66; refine (finite115 _ 3 [a0_0, a0_1, a0_2] _ (three_C (t := 23) (heap_two _ _ _)) (by simp)).mono ?_; rintro e w1 ⟨rfl, ⟨nd, rfl⟩⟩))
  go_ret
  exact ⟨by first | rfl | (simp; done), by repeat (first | exact Below.refl _ _ | apply below_alloc | apply pw_below_drewN | apply below_drew1)⟩
def vfin (v : S45) : Bool := fin v.f0 && (fin v.f1 && fin v.f2)
set_option maxHeartbeats 4000000 in
set_option maxRecDepth 100000 in
theorem lit96 (x y z : Nat) (w : World) : Calls Tryd.prog 49 #[.agg #[.float .f32 x, .float .f32 y, .float .f32 z]] w fun e w' => e = .returned (.bool (!(fin x && (fin y && fin z)))) ∧ Below w.heap.size w w' := by
  go_enter Tryd.func49, Tryd.ntmps49
  go_wp2_with (first | (go_at_call 50; refine (finiteVector.calls _ _ _ _ _ rfl).mono ?_; rintro e w1 ⟨rfl, hb⟩))
  go_ret
  exact ⟨by first | rfl | (simp; done), below_step (by repeat (first | exact Below.refl _ _ | apply below_alloc | apply pw_below_drewN | apply below_drew1)) hb⟩
set_option maxHeartbeats 4000000 in
set_option maxRecDepth 100000 in
theorem index123 (A : Option Addr) (c : Nat) (xs : List S45) (r : Int) (hr : ix (fun x => !vfin x) xs 0 = r) (w : World) (hr0 : Kd.C k45 w A xs.length xs) (hc0 : xs.length ≤ c) :
    Calls Tryd.prog 65 #[.slice A xs.length c, .func (.func 49) #[] #[]] w fun e w' => e = .returned (.int .i64 r) ∧ Below w.heap.size w w' := by
  have HR0 := Aside0.mk hr0
  clear hr0
  have hmx : xs.length ≤ 9223372036854775807 := Kd.C_max HR0.out
  go_enter Tryd.func65, Tryd.ntmps65
  go_wp2
  go_loopg [8] xs.length (fun kq v8 w' => ∃ (i : Nat), v8 = .int .i64 (i : Int) ∧ Aside0 (i + kq = xs.length) ∧ Aside0 (ix (fun x => !vfin x) (xs.drop i) (i : Int) = r) ∧ Aside0 (Below w.heap.size w w'))
  case atStart => exact ⟨0, rfl, ⟨by simp⟩, ⟨hr⟩, ⟨Below.refl _ _⟩⟩
  case round =>
    obtain ⟨i, rfl, HI, HX, HB⟩ := hrel
    have hi := HI.out
    have hx0 := HX.out
    cases gk with
    | zero =>
      have hc : decide ((i : Int) < (xs.length : Int)) = false := by simp; omega
      rw [List.drop_eq_nil_of_le (by omega), ix] at hx0
      subst hx0
      go_wp2
      go_ret
      exact ⟨rfl, HB.out⟩
    | succ k1 =>
      have hil : i < xs.length := by omega
      have hc : decide ((i : Int) < (xs.length : Int)) = true := by simp; omega
      have p0 : (0 : Int) ≤ (i : Int) := by omega
      have q0 : (i : Int) < (xs.length : Int) := by omega
      obtain ⟨ad, ead, hx_0, hx_1, hx_2⟩ := at_T45 HR0.out (i : Int) p0 q0
      cases ead
      replace hx_0 := (HB.out.cell (World.block_lt_of_cell? w _ hx_0)).trans hx_0
      replace hx_1 := (HB.out.cell (World.block_lt_of_cell? w _ hx_1)).trans hx_1
      replace hx_2 := (HB.out.cell (World.block_lt_of_cell? w _ hx_2)).trans hx_2
      rw [Int.toNat_natCast, show rd_T45 xs (i : Int) = xs[i] by simp [rd_T45, hil]] at hx_0 hx_1 hx_2
      rw [List.drop_eq_getElem_cons hil, ix] at hx0
      generalize xs[i] = x at hx_0 hx_1 hx_2 hx0
      have p0b := eq_true p0
      have q0b := eq_true q0
      cases e : vfin x with
      | false =>
        rw [e, if_pos (by rfl)] at hx0
        subst hx0
        have e2 : (fin x.f0 && (fin x.f1 && fin x.f2)) = false := e
        go_wp2_with (first | (go_at_call 49; refine (lit96 _ _ _ _).mono ?_; rw [e2]; rintro e w1 ⟨rfl, hb⟩))
        go_ret
        exact ⟨rfl, below_step HB.out hb⟩
      | true =>
        rw [e, if_neg (by decide)] at hx0
        have e2 : (fin x.f0 && (fin x.f1 && fin x.f2)) = true := e
        go_wp2_with (first | (go_at_call 49; refine (lit96 _ _ _ _).mono ?_; rw [e2]; rintro e w1 ⟨rfl, hb⟩))
        go_roundg k1
        case measure => omega
        case rel => exact ⟨i + 1, rfl, ⟨by omega⟩, ⟨hx0⟩, ⟨below_step HB.out hb⟩⟩
set_option maxHeartbeats 4000000 in
set_option maxRecDepth 100000 in
theorem contains95 (A : Option Addr) (c : Nat) (xs : List S45) (w : World) (hr0 : Kd.C k45 w A xs.length xs) (hc0 : xs.length ≤ c) :
    Calls Tryd.prog 48 #[.slice A xs.length c, .func (.func 49) #[] #[]] w fun e w' => e = .returned (.bool (xs.any fun x => !vfin x)) ∧ Below w.heap.size w w' := by
  have hg := ix_ge (fun x => !vfin x) xs 0 (Int.le_refl _)
  go_enter Tryd.func48, Tryd.ntmps48
  go_wp2_with (first | (go_at_call 65; refine (index123 _ _ _ _ rfl _ hr0 hc0).mono ?_; rintro e w1 ⟨rfl, hb⟩))
  go_ret
  exact ⟨by first | rfl | (rw [← hg]; rfl), hb⟩
set_option maxHeartbeats 4000000 in
set_option maxRecDepth 100000 in
theorem in85 (a b c : Int) (w : World) : Calls Tryd.prog 51 #[.int .i64 a, .int .i64 b, .int .i64 c] w fun e w' => e = .returned (.bool (decide (b ≤ a) && decide (a ≤ c))) ∧ Drawn0 w w' := by
  by_cases h : b ≤ a
  · have hd : decide (b ≤ a) = true := decide_eq_true h
    rw [hd, Bool.true_and]
    go_enter Tryd.func51, Tryd.ntmps51
    go_wp2
    go_ret
    exact ⟨by first | rfl | (simp; done), by first | exact Drawn0.refl _ | exact ⟨_, rfl⟩⟩
  · have hd : decide (b ≤ a) = false := decide_eq_false h
    rw [hd, Bool.false_and]
    go_enter Tryd.func51, Tryd.ntmps51
    go_wp2
    go_ret
    exact ⟨by first | rfl | (simp; done), by first | exact Drawn0.refl _ | exact ⟨_, rfl⟩⟩
def isThread (l : List S45) (s : Nat) : Bool := decide (3 ≤ l.length) && (decide (l.length ≤ 32) && (!(l.any fun x => !vfin x) && fin s))
def IsThread.f (l0_0 : List S45) (a0_1 : Nat) : Option Bool := some (isThread l0_0 a0_1)
set_option maxHeartbeats 4000000 in
set_option maxRecDepth 100000 in
theorem IsThread.calls (A0_0 : Option Addr) (c0_0 : Nat) (l0_0 : List S45) (a0_1 : Nat) (r : Bool) (w : World) (hr0_0 : Kd.C k45 w A0_0 l0_0.length l0_0) (hc0_0 : l0_0.length ≤ c0_0) (h : IsThread.f l0_0 a0_1 = some r) :
    Calls Tryd.prog 38 #[.agg #[.slice A0_0 l0_0.length c0_0, .float .f32 a0_1]] w fun e w' => e = .returned (.bool r) ∧ Below w.heap.size w w' := by
  obtain rfl := Option.some.inj h
  unfold isThread
  cases ea : l0_0.any (fun x => !vfin x) with
  | true =>
    by_cases c1 : 3 ≤ l0_0.length
    · have c1a : decide ((3 : Int) ≤ (l0_0.length : Int)) = true := by simp; omega
      by_cases c2 : l0_0.length ≤ 32
      · have c2a : decide ((l0_0.length : Int) ≤ (32 : Int)) = true := by simp; omega
        go_enter Tryd.func38, Tryd.ntmps38
        go_wp2_with (first | (go_at_call 48; refine (contains95 _ _ _ _ (Kd.C_alloc hr0_0 _) hc0_0).mono ?_; rw [ea]; rintro e w1 ⟨rfl, hb⟩; have f0 := (hb.cell (p := ⟨w.heap.size, 0, none⟩) (by simp)).trans (show _ = some (Value.slice A0_0 l0_0.length c0_0) by simp); have f1 := (hb.cell (p := ⟨w.heap.size, 1, none⟩) (by simp)).trans (show _ = some (Value.float .f32 a0_1) by simp); have hbw : Below w.heap.size w w1 := below_step (below_alloc (Below.refl _ _) _) hb; clear hb) | (go_at_call 52; refine (IsFinite.calls _ _ _ rfl).mono ?_; rintro e w2 ⟨rfl, ⟨nd, rfl⟩⟩) | (go_at_call 51; refine (in85 _ _ _ _).mono ?_; simp only [c1a, c2a, Bool.and_false, Bool.and_true, Bool.false_and, Bool.true_and]; rintro e w2 ⟨rfl, ⟨nd, rfl⟩⟩))
        go_ret
        exact ⟨by first | rfl | (simp [*]; done), by repeat (first | exact hbw | apply pw_below_drewN)⟩
      · have c2a : decide ((l0_0.length : Int) ≤ (32 : Int)) = false := by simp; omega
        go_enter Tryd.func38, Tryd.ntmps38
        go_wp2_with (first | (go_at_call 48; refine (contains95 _ _ _ _ (Kd.C_alloc hr0_0 _) hc0_0).mono ?_; rw [ea]; rintro e w1 ⟨rfl, hb⟩; have f0 := (hb.cell (p := ⟨w.heap.size, 0, none⟩) (by simp)).trans (show _ = some (Value.slice A0_0 l0_0.length c0_0) by simp); have f1 := (hb.cell (p := ⟨w.heap.size, 1, none⟩) (by simp)).trans (show _ = some (Value.float .f32 a0_1) by simp); have hbw : Below w.heap.size w w1 := below_step (below_alloc (Below.refl _ _) _) hb; clear hb) | (go_at_call 52; refine (IsFinite.calls _ _ _ rfl).mono ?_; rintro e w2 ⟨rfl, ⟨nd, rfl⟩⟩) | (go_at_call 51; refine (in85 _ _ _ _).mono ?_; simp only [c1a, c2a, Bool.and_false, Bool.and_true, Bool.false_and, Bool.true_and]; rintro e w2 ⟨rfl, ⟨nd, rfl⟩⟩))
        go_ret
        exact ⟨by first | rfl | (simp [*]; done), by repeat (first | exact hbw | apply pw_below_drewN)⟩
    · have c1a : decide ((3 : Int) ≤ (l0_0.length : Int)) = false := by simp; omega
      have c2a : decide ((l0_0.length : Int) ≤ (32 : Int)) = true := by simp; omega
      go_enter Tryd.func38, Tryd.ntmps38
      go_wp2_with (first | (go_at_call 48; refine (contains95 _ _ _ _ (Kd.C_alloc hr0_0 _) hc0_0).mono ?_; rw [ea]; rintro e w1 ⟨rfl, hb⟩; have f0 := (hb.cell (p := ⟨w.heap.size, 0, none⟩) (by simp)).trans (show _ = some (Value.slice A0_0 l0_0.length c0_0) by simp); have f1 := (hb.cell (p := ⟨w.heap.size, 1, none⟩) (by simp)).trans (show _ = some (Value.float .f32 a0_1) by simp); have hbw : Below w.heap.size w w1 := below_step (below_alloc (Below.refl _ _) _) hb; clear hb) | (go_at_call 52; refine (IsFinite.calls _ _ _ rfl).mono ?_; rintro e w2 ⟨rfl, ⟨nd, rfl⟩⟩) | (go_at_call 51; refine (in85 _ _ _ _).mono ?_; simp only [c1a, c2a, Bool.and_false, Bool.and_true, Bool.false_and, Bool.true_and]; rintro e w2 ⟨rfl, ⟨nd, rfl⟩⟩))
      go_ret
      exact ⟨by first | rfl | (simp [*]; done), by repeat (first | exact hbw | apply pw_below_drewN)⟩
  | false =>
    by_cases c1 : 3 ≤ l0_0.length
    · have c1a : decide ((3 : Int) ≤ (l0_0.length : Int)) = true := by simp; omega
      by_cases c2 : l0_0.length ≤ 32
      · have c2a : decide ((l0_0.length : Int) ≤ (32 : Int)) = true := by simp; omega
        go_enter Tryd.func38, Tryd.ntmps38
        go_wp2_with (first | (go_at_call 48; refine (contains95 _ _ _ _ (Kd.C_alloc hr0_0 _) hc0_0).mono ?_; rw [ea]; rintro e w1 ⟨rfl, hb⟩; have f0 := (hb.cell (p := ⟨w.heap.size, 0, none⟩) (by simp)).trans (show _ = some (Value.slice A0_0 l0_0.length c0_0) by simp); have f1 := (hb.cell (p := ⟨w.heap.size, 1, none⟩) (by simp)).trans (show _ = some (Value.float .f32 a0_1) by simp); have hbw : Below w.heap.size w w1 := below_step (below_alloc (Below.refl _ _) _) hb; clear hb) | (go_at_call 52; refine (IsFinite.calls _ _ _ rfl).mono ?_; rintro e w2 ⟨rfl, ⟨nd, rfl⟩⟩) | (go_at_call 51; refine (in85 _ _ _ _).mono ?_; simp only [c1a, c2a, Bool.and_false, Bool.and_true, Bool.false_and, Bool.true_and]; rintro e w2 ⟨rfl, ⟨nd, rfl⟩⟩))
        go_ret
        exact ⟨by first | rfl | (simp [*]; done), by repeat (first | exact hbw | apply pw_below_drewN)⟩
      · have c2a : decide ((l0_0.length : Int) ≤ (32 : Int)) = false := by simp; omega
        go_enter Tryd.func38, Tryd.ntmps38
        go_wp2_with (first | (go_at_call 48; refine (contains95 _ _ _ _ (Kd.C_alloc hr0_0 _) hc0_0).mono ?_; rw [ea]; rintro e w1 ⟨rfl, hb⟩; have f0 := (hb.cell (p := ⟨w.heap.size, 0, none⟩) (by simp)).trans (show _ = some (Value.slice A0_0 l0_0.length c0_0) by simp); have f1 := (hb.cell (p := ⟨w.heap.size, 1, none⟩) (by simp)).trans (show _ = some (Value.float .f32 a0_1) by simp); have hbw : Below w.heap.size w w1 := below_step (below_alloc (Below.refl _ _) _) hb; clear hb) | (go_at_call 52; refine (IsFinite.calls _ _ _ rfl).mono ?_; rintro e w2 ⟨rfl, ⟨nd, rfl⟩⟩) | (go_at_call 51; refine (in85 _ _ _ _).mono ?_; simp only [c1a, c2a, Bool.and_false, Bool.and_true, Bool.false_and, Bool.true_and]; rintro e w2 ⟨rfl, ⟨nd, rfl⟩⟩))
        go_ret
        exact ⟨by first | rfl | (simp [*]; done), by repeat (first | exact hbw | apply pw_below_drewN)⟩
    · have c1a : decide ((3 : Int) ≤ (l0_0.length : Int)) = false := by simp; omega
      have c2a : decide ((l0_0.length : Int) ≤ (32 : Int)) = true := by simp; omega
      go_enter Tryd.func38, Tryd.ntmps38
      go_wp2_with (first | (go_at_call 48; refine (contains95 _ _ _ _ (Kd.C_alloc hr0_0 _) hc0_0).mono ?_; rw [ea]; rintro e w1 ⟨rfl, hb⟩; have f0 := (hb.cell (p := ⟨w.heap.size, 0, none⟩) (by simp)).trans (show _ = some (Value.slice A0_0 l0_0.length c0_0) by simp); have f1 := (hb.cell (p := ⟨w.heap.size, 1, none⟩) (by simp)).trans (show _ = some (Value.float .f32 a0_1) by simp); have hbw : Below w.heap.size w w1 := below_step (below_alloc (Below.refl _ _) _) hb; clear hb) | (go_at_call 52; refine (IsFinite.calls _ _ _ rfl).mono ?_; rintro e w2 ⟨rfl, ⟨nd, rfl⟩⟩) | (go_at_call 51; refine (in85 _ _ _ _).mono ?_; simp only [c1a, c2a, Bool.and_false, Bool.and_true, Bool.false_and, Bool.true_and]; rintro e w2 ⟨rfl, ⟨nd, rfl⟩⟩))
      go_ret
      exact ⟨by first | rfl | (simp [*]; done), by repeat (first | exact hbw | apply pw_below_drewN)⟩
end XC
end Go.Proofs.YtffofpiejcolfaaDoor
end
