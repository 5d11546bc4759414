/- The laws' sameFloat, eqVector, and finiteness, NaN, bits, as plain functions with their contracts. -/
import Derived.Test.YtffofpiejcolfaaXF
set_option linter.unusedVariables false
set_option linter.unusedSimpArgs false
namespace Go.Proofs.Ytffofpiejcolfaa
open Go.RowKit Go.Proofs.YtffofpiejcolfaaW.PrintWords Go.Proofs.YtffofpiejcolfaaW.PrintLast
namespace XL
open XF
abbrev o64 (x y : Nat) : Option Ordering := FloatKind.f64.format.order x y
def pos0 (x : Nat) : Bool := match floatBits .quo .f64 4607182418800017408 x with | some r => o64 r 0 == some .gt | none => false
/-- The laws' sameFloat, of float64's bits. -/
def sfd (x y : Nat) : Bool :=
  if (o64 x x != some .eq || o64 y y != some .eq) = true then (o64 x x != some .eq) && (o64 y y != some .eq)
  else if (o64 x 0 == some .eq && o64 y 0 == some .eq) = true then pos0 x == pos0 y
  else o64 x y == some .eq
theorem zero_of_eq {x : Nat} (h : (o64 x 0 == some .eq) = true) : ∃ s e, FloatKind.f64.format.read x = .number s 0 e := by
  have h0 : FloatKind.f64.format.read 0 = .number false 0 (-1074) := by decide
  unfold o64 Ieee.Format.order at h
  rw [h0] at h
  cases hx : FloatKind.f64.format.read x with
  | nan s f => rw [hx] at h; simp [Ieee.Datum.order] at h
  | infinity s => rw [hx] at h; cases s <;> simp [Ieee.Datum.order] at h
  | number s m e =>
    rw [hx] at h
    simp only [Ieee.Datum.order, beq_iff_eq, Option.some.injEq] at h
    rw [Std.LawfulEqCmp.compare_eq_iff_eq] at h
    have : m = 0 := by
      have hp : 0 < 2 ^ (e - min e (-1074)).toNat := Nat.two_pow_pos _
      have h2 : m * 2 ^ (e - min e (-1074)).toNat = 0 := by
        rw [← Nat.shiftLeft_eq]
        unfold Ieee.signed at h
        rw [Nat.zero_shiftLeft] at h
        generalize m <<< (e - min e (-1074)).toNat = z at h ⊢
        cases s <;> simp at h <;> omega
      rcases Nat.mul_eq_zero.1 h2 with h3 | h3
      · exact h3
      · omega
    subst this
    exact ⟨s, e, rfl⟩
theorem quo_zero {x : Nat} (h : (o64 x 0 == some .eq) = true) : ∃ r, floatBits .quo .f64 4607182418800017408 x = some r := by
  obtain ⟨s, e, hx⟩ := zero_of_eq h
  have h1 : FloatKind.f64.format.read 4607182418800017408 = .number false 4503599627370496 (-52) := by decide
  unfold floatBits
  simp only
  unfold Ieee.Format.div
  rw [h1, hx]
  exact ⟨_, rfl⟩
set_option maxHeartbeats 4000000 in
set_option maxRecDepth 100000 in
theorem sameFloat_d (x y : Nat) (w : World) : Calls Try.prog 15 #[.float .f64 x, .float .f64 y] w fun e w' => e = .returned (.bool (sfd x y)) ∧ Drawn0 w w' := by
  unfold sfd
  by_cases h1 : (o64 x x != some .eq) = true
  · rw [if_pos (by rw [h1]; rfl)]
    go_enter Try.func15, Try.ntmps15
    go_wp2
    go_ret
    exact ⟨by simp [h1], Drawn0.refl _⟩
  · have h1f := Bool.eq_false_iff.mpr h1
    by_cases h2 : (o64 y y != some .eq) = true
    · rw [if_pos (by rw [h2]; simp)]
      go_enter Try.func15, Try.ntmps15
      go_wp2
      go_ret
      exact ⟨by first | rfl | (simp [*]; done), Drawn0.refl _⟩
    · have h2f := Bool.eq_false_iff.mpr h2
      rw [if_neg (by rw [h1f, h2f]; decide)]
      by_cases h3 : (o64 x 0 == some .eq) = true
      · by_cases h4 : (o64 y 0 == some .eq) = true
        · obtain ⟨r1, hr1⟩ := quo_zero h3
          obtain ⟨r2, hr2⟩ := quo_zero h4
          have q1 := fun w => run_float_arith (P := Try.prog) w .quo 34 .f64 4607182418800017408 x r1 hr1
          have q2 := fun w => run_float_arith (P := Try.prog) w .quo 34 .f64 4607182418800017408 y r2 hr2
          rw [if_pos (by rw [h3, h4]; rfl)]
          unfold pos0
          rw [hr1, hr2]
          go_enter Try.func15, Try.ntmps15
          go_wp2
          go_ret
          exact ⟨by first | rfl | (simp [*]; done), Drawn0.refl _⟩
        · have h4f := Bool.eq_false_iff.mpr h4
          rw [if_neg (by rw [h3, h4f]; decide)]
          go_enter Try.func15, Try.ntmps15
          go_wp2
          go_ret
          exact ⟨by first | rfl | (simp [*]; done), Drawn0.refl _⟩
      · have h3f := Bool.eq_false_iff.mpr h3
        rw [if_neg (by rw [h3f]; simp)]
        go_enter Try.func15, Try.ntmps15
        go_wp2
        go_ret
        exact ⟨by first | rfl | (simp [*]; done), Drawn0.refl _⟩
/-- sameFloat of two float32's bits, each by way of float64. -/
def sfc (x y : Nat) : Bool := if (isn .f32 x || isn .f32 y) = true then isn .f32 x && isn .f32 y else sfd ((floatToFloatBits .f32 x .f64).getD 0) ((floatToFloatBits .f32 y .f64).getD 0)
theorem ne_of_isn {x : Nat} (h : isn .f64 x = true) : (o64 x x != some .eq) = true := by rw [show o64 x x = none from order_nan_l h]; rfl
theorem sfd_of_cv {x y b1 b2 : Nat} (h1 : Cv x b1) (h2 : Cv y b2) : sfd b1 b2 = sfc x y := by
  have eqn {b : Nat} (h : isn .f64 b = false) : (o64 b b != some .eq) = false := by rw [show o64 b b = some .eq from order_self h]; rfl
  unfold sfc
  rcases h1 with ⟨hx, hb1⟩ | ⟨hx, hb1⟩ <;> rcases h2 with ⟨hy, hb2⟩ | ⟨hy, hb2⟩
  · rw [if_pos (by rw [hx]; rfl), hx, hy]
    unfold sfd
    rw [ne_of_isn hb1, ne_of_isn hb2]
    rfl
  · rw [if_pos (by rw [hx]; rfl), hx, hy]
    unfold sfd
    rw [ne_of_isn hb1, eqn (conv_number hy hb2)]
    rfl
  · rw [if_pos (by rw [hy]; simp), hx, hy]
    unfold sfd
    rw [ne_of_isn hb2, eqn (conv_number hx hb1)]
    rfl
  · rw [if_neg (by rw [hx, hy]; decide), hb1, hb2]
    rfl
theorem sameFloat_c (x y b1 b2 : Nat) (h1 : Cv x b1) (h2 : Cv y b2) (w : World) : Calls Try.prog 15 #[.float .f64 b1, .float .f64 b2] w fun e w' => e = .returned (.bool (sfc x y)) ∧ Drawn0 w w' := by
  have := sameFloat_d b1 b2 w
  rwa [sfd_of_cv h1 h2] at this
theorem sfd_self (x : Nat) : sfd x x = true := by
  unfold sfd
  by_cases h1 : (o64 x x != some .eq) = true
  · rw [if_pos (by rw [h1]; rfl), h1]
    rfl
  · have h1f := Bool.eq_false_iff.mpr h1
    rw [if_neg (by rw [h1f]; decide)]
    by_cases h3 : (o64 x 0 == some .eq) = true
    · rw [if_pos (by rw [h3]; rfl)]
      simp
    · have h3f := Bool.eq_false_iff.mpr h3
      rw [if_neg (by rw [h3f]; decide)]
      simpa using h1f
theorem sfc_self (x : Nat) : sfc x x = true := by
  unfold sfc
  split
  · rename_i h
    simpa using h
  · exact sfd_self _
/-- The laws' eqVector. -/
def eqVector.f (a0_0 a0_1 a0_2 a1_0 a1_1 a1_2 : Nat) : Option Bool := some (sfc a0_0 a1_0 && (sfc a0_1 a1_1 && sfc a0_2 a1_2))
set_option maxHeartbeats 4000000 in
set_option maxRecDepth 100000 in
theorem eqVector.calls (a0_0 a0_1 a0_2 a1_0 a1_1 a1_2 : Nat) (r : Bool) (w : World) (h : eqVector.f a0_0 a0_1 a0_2 a1_0 a1_1 a1_2 = some r) :
    Calls Try.prog 26 #[.agg #[.float .f32 a0_0, .float .f32 a0_1, .float .f32 a0_2], .agg #[.float .f32 a1_0, .float .f32 a1_1, .float .f32 a1_2]] w fun e w' => e = .returned (.bool r) ∧ Below w.heap.size w w' := by
  unfold eqVector.f at h
  obtain rfl := Option.some.inj h
  have c0 : (Try.prog.underlying 23).isSome = true := by kernel_rfl
  have c1 := Try.underlying34
  cases e0 : sfc a0_0 a1_0 with
  | false =>
    go_enter Try.func26, Try.ntmps26
    go_wp2_with (first | (refine wpList_conv rfl _ _ _ rfl c0 c1 _ rfl ?_; intro b' n hc) | (go_at_call 15; refine (sameFloat_c _ _ _ _ (by assumption) (by assumption) _).mono ?_; rintro e w1 ⟨rfl, ⟨nd, rfl⟩⟩))
    go_ret
    exact ⟨by first | rfl | (simp [*]; done), by repeat (first | exact Below.refl _ _ | apply below_alloc | apply pw_below_drewN | apply below_drew1)⟩
  | true =>
    cases e1 : sfc a0_1 a1_1 with
    | false =>
      go_enter Try.func26, Try.ntmps26
      go_wp2_with (first | (refine wpList_conv rfl _ _ _ rfl c0 c1 _ rfl ?_; intro b' n hc) | (go_at_call 15; refine (sameFloat_c _ _ _ _ (by assumption) (by assumption) _).mono ?_; rintro e w1 ⟨rfl, ⟨nd, rfl⟩⟩))
      go_ret
      exact ⟨by first | rfl | (simp [*]; done), by repeat (first | exact Below.refl _ _ | apply below_alloc | apply pw_below_drewN | apply below_drew1)⟩
    | true =>
      cases e2 : sfc a0_2 a1_2 with
      | false =>
        go_enter Try.func26, Try.ntmps26
        go_wp2_with (first | (refine wpList_conv rfl _ _ _ rfl c0 c1 _ rfl ?_; intro b' n hc) | (go_at_call 15; refine (sameFloat_c _ _ _ _ (by assumption) (by assumption) _).mono ?_; rintro e w1 ⟨rfl, ⟨nd, rfl⟩⟩))
        go_ret
        exact ⟨by first | rfl | (simp [*]; done), by repeat (first | exact Below.refl _ _ | apply below_alloc | apply pw_below_drewN | apply below_drew1)⟩
      | true =>
        go_enter Try.func26, Try.ntmps26
        go_wp2_with (first | (refine wpList_conv rfl _ _ _ rfl c0 c1 _ rfl ?_; intro b' n hc) | (go_at_call 15; refine (sameFloat_c _ _ _ _ (by assumption) (by assumption) _).mono ?_; rintro e w1 ⟨rfl, ⟨nd, rfl⟩⟩))
        go_ret
        exact ⟨by first | rfl | (simp [*]; done), by repeat (first | exact Below.refl _ _ | apply below_alloc | apply pw_below_drewN | apply below_drew1)⟩
/-- x - x == 0. -/
def fin (x : Nat) : Bool := match floatBits .sub .f32 x x with | some r => FloatKind.f32.format.order r 0 == some .eq | none => false
def IsFinite.f (a0 : Nat) : Option Bool := some (fin a0)
set_option maxHeartbeats 4000000 in
set_option maxRecDepth 100000 in
theorem IsFinite.calls (a0 : Nat) (r : Bool) (w : World) (h : IsFinite.f a0 = some r) : Calls Try.prog 66 #[.float .f32 a0] w fun e w' => e = .returned (.bool r) ∧ Drawn0 w w' := by
  obtain rfl := Option.some.inj h
  cases e : floatBits .sub .f32 a0 a0 with
  | some q =>
    have q1 := fun w => run_float_arith (P := Try.prog) w .sub 23 .f32 a0 a0 q e
    go_enter Try.func66, Try.ntmps66
    go_wp2
    go_ret
    exact ⟨by simp [fin, e], Drawn0.refl _⟩
  | none =>
    have q1 := fun w => run_arith_none (P := Try.prog) w .sub (.inr (.inl rfl)) 23 .f32 a0 a0 e
    have q2 : ∀ t, (FloatKind.f32.format.order (nanv .f32 a0 a0 t) 0 == some .eq) = false := fun t => by rw [order_nan_l (nanv_isn _ _ _ _)]; rfl
    go_enter Try.func66, Try.ntmps66
    go_wp2
    go_ret
    exact ⟨by simp [fin, e, q2], ⟨1, rfl⟩⟩
def l01Finite.f (a0 : Nat) : Option Bool := some (fin a0)
set_option maxHeartbeats 4000000 in
set_option maxRecDepth 100000 in
theorem l01Finite.calls (a0 : Nat) (r : Bool) (w : World) (h : l01Finite.f a0 = some r) : Calls Try.prog 58 #[.float .f32 a0] w fun e w' => e = .returned (.bool r) ∧ Drawn0 w w' := by
  obtain rfl := Option.some.inj h
  cases e : floatBits .sub .f32 a0 a0 with
  | some q =>
    have q1 := fun w => run_float_arith (P := Try.prog) w .sub 23 .f32 a0 a0 q e
    go_enter Try.func58, Try.ntmps58
    go_wp2
    go_ret
    exact ⟨by simp [fin, e], Drawn0.refl _⟩
  | none =>
    have q1 := fun w => run_arith_none (P := Try.prog) w .sub (.inr (.inl rfl)) 23 .f32 a0 a0 e
    have q2 : ∀ t, (FloatKind.f32.format.order (nanv .f32 a0 a0 t) 0 == some .eq) = false := fun t => by rw [order_nan_l (nanv_isn _ _ _ _)]; rfl
    go_enter Try.func58, Try.ntmps58
    go_wp2
    go_ret
    exact ⟨by simp [fin, e, q2], ⟨1, rfl⟩⟩

theorem isNaN_eq (x : Nat) : (FloatKind.f32.format.order x x != some .eq) = isn .f32 x := by
  cases h : isn .f32 x with
  | true => rw [order_nan_l h]; rfl
  | false => rw [order_self h]; rfl
def isNaN.f (a0 : Nat) : Option Bool := some (isn .f32 a0)
set_option maxHeartbeats 4000000 in
set_option maxRecDepth 100000 in
theorem isNaN.calls (a0 : Nat) (r : Bool) (w : World) (h : isNaN.f a0 = some r) : Calls Try.prog 138 #[.float .f32 a0] w fun e w' => e = .returned (.bool r) ∧ Drawn0 w w' := by
  obtain rfl := Option.some.inj h
  go_enter Try.func138, Try.ntmps138
  go_wp2
  go_ret
  exact ⟨by rw [isNaN_eq]; rfl, Drawn0.refl _⟩
/-- The bits that a text tells: of each NaN the same. -/
def bits (x : Nat) : Int := if isn .f32 x = true then 2143289344 else wrap64 (x : Int)
theorem run_bits (P : Program) (w : World) (x : Nat) : (Extern.MathFloatBits.float32bits #[.float .f32 x]).run P w = .ok (.int .u32 x) w := rfl
def l01Bits.f (a0 : Nat) : Option Int := some (bits a0)
set_option maxHeartbeats 4000000 in
set_option maxRecDepth 100000 in
theorem l01Bits.calls (a0 : Nat) (r : Int) (w : World) (h : l01Bits.f a0 = some r) : Calls Try.prog 134 #[.float .f32 a0] w fun e w' => e = .returned (.int .i64 r) ∧ Drawn0 w w' := by
  obtain rfl := Option.some.inj h
  unfold bits
  cases e : isn .f32 a0 with
  | true =>
    have e2 := isNaN_eq a0
    rw [e] at e2
    rw [if_pos rfl]
    go_enter Try.func134, Try.ntmps134
    go_wp2
    go_ret
    exact ⟨rfl, Drawn0.refl _⟩
  | false =>
    have e2 := isNaN_eq a0
    rw [e] at e2
    rw [if_neg (by decide)]
    go_enter Try.func134, Try.ntmps134
    go_wp2
    rw [run_callFunc_extern Try.func112 (by kernel_rfl) (by kernel_rfl) (by kernel_rfl) (e := Extern.MathFloatBits.float32bits) (by kernel_rfl)]
    rw [run_bits]
    simp only [Result.andThen]
    rw [Oper.upon_value]
    go_wp2
    go_ret
    exact ⟨rfl, Drawn0.refl _⟩
def BitsOf.f (a0 : Nat) : Option Int := some (bits a0)
set_option maxHeartbeats 4000000 in
set_option maxRecDepth 100000 in
theorem BitsOf.calls (a0 : Nat) (r : Int) (w : World) (h : BitsOf.f a0 = some r) : Calls Try.prog 135 #[.float .f32 a0] w fun e w' => e = .returned (.int .i64 r) ∧ Drawn0 w w' := by
  obtain rfl := Option.some.inj h
  unfold bits
  cases e : isn .f32 a0 with
  | true =>
    have e2 := isNaN_eq a0
    rw [e] at e2
    rw [if_pos rfl]
    go_enter Try.func135, Try.ntmps135
    go_wp2_with (go_at_call 138; refine (isNaN.calls _ _ _ (by show some _ = some _; rw [e])).mono ?_; rintro e w1 ⟨rfl, ⟨nd, rfl⟩⟩)
    go_ret
    exact ⟨rfl, by first | exact Drawn0.refl _ | exact ⟨_, rfl⟩⟩
  | false =>
    have e2 := isNaN_eq a0
    rw [e] at e2
    rw [if_neg (by decide)]
    go_enter Try.func135, Try.ntmps135
    go_wp2_with (go_at_call 138; refine (isNaN.calls _ _ _ (by show some _ = some _; rw [e])).mono ?_; rintro e w1 ⟨rfl, ⟨nd, rfl⟩⟩)
    rw [run_callFunc_extern Try.func112 (by kernel_rfl) (by kernel_rfl) (by kernel_rfl) (e := Extern.MathFloatBits.float32bits) (by kernel_rfl)]
    rw [run_bits]
    simp only [Result.andThen]
    rw [Oper.upon_value]
    go_wp2
    go_ret
    exact ⟨rfl, by first | exact Drawn0.refl _ | exact ⟨_, rfl⟩⟩
end XL
end Go.Proofs.Ytffofpiejcolfaa
