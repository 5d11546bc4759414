/- Words, walks and plain laws that a claim of this seat needs, one text after the other (part 2). -/
import Derived.Test.YtnnemdjbopdjmaaDoorBU1
import Derived.Laws.Cover2
import Derived.Laws.FloatArith
import Derived.Laws.Cover3
import Derived.Laws.ComplexArith
import Derived.Test.YtnnemdjbopdjmaaDoorProg
set_option linter.unusedVariables false
set_option linter.unusedSimpArgs false
section
namespace Go.Proofs.YtnnemdjbopdjmaaDoorW.PrintWords
open Go.RowKit
namespace Kd
def float (k : FloatKind) : Kd Nat := scalar (Value.float k) (fun _ => rfl)
theorem at_float {w : World} {A : Option Addr} {n : Nat} {k : FloatKind} {xs : List Nat} (h : (Kd.float k).C w A n xs) (i : Int) (h0 : 0 ≤ i) (h1 : i < n) : ∃ ad, A = some ad ∧ w.cell? (ad.add i.toNat) = some (.float k (rdOf (0 : Nat) xs i)) :=
  ReadsOf.at_ (reads_of_C (enc := Value.float k) (d := (0 : Nat)) (h1 := fun _ => rfl) h) i h0 h1
abbrev _root_.Go.cpxV (k : FloatKind) (p : Nat × Nat) : Value := .complex k p.1 p.2
def complex (k : FloatKind) : Kd (Nat × Nat) := scalar (cpxV k) (fun _ => rfl)
end Kd
def _root_.Go.nsm (x : Nat × Nat) : Bool := (floatToFloatBits .f64 x.1 .f32).isSome && (floatToFloatBits .f64 x.2 .f32).isSome
def _root_.Go.cnar (x : Nat × Nat) : Nat × Nat := ((floatToFloatBits .f64 x.1 .f32).getD 0, (floatToFloatBits .f64 x.2 .f32).getD 0)
@[go_sem] theorem run_cnar {P : Program} (w : World) (src dst : TypeId) (a b : Nat) (hs : (P.underlying src).isSome = true) (hd : P.underlying dst = some (.complex .f32)) (h : nsm (a, b) = true) :
    (convert src dst (.complex .f64 a b)).run P w = .ok (.complex .f32 (cnar (a, b)).1 (cnar (a, b)).2) w := by
  unfold nsm at h
  rw [Bool.and_eq_true] at h
  obtain ⟨h1, h2⟩ := h
  obtain ⟨x, hx⟩ := Option.isSome_iff_exists.1 h1
  obtain ⟨y, hy⟩ := Option.isSome_iff_exists.1 h2
  have e : cConvBits .f64 a b .f32 = some (x, y) := by
    unfold cConvBits
    simp only at hx hy
    rw [hx, hy]
    rfl
  have := run_convert_complex (P := P) (w := w) src dst .f64 .f32 a b x y hs hd e
  unfold cnar
  simp only at hx hy ⊢
  rw [hx, hy]
  exact this
def _root_.Go.fok (op : BinOp) (k : FloatKind) (x y : Nat) : Bool := (floatBits op k x y).isSome
def _root_.Go.fop (op : BinOp) (k : FloatKind) (x y : Nat) : Nat := (floatBits op k x y).getD 0
def _root_.Go.cok (s : FloatKind) (x : Nat) (k : FloatKind) : Bool := (floatToFloatBits s x k).isSome
def _root_.Go.cvt (s : FloatKind) (x : Nat) (k : FloatKind) : Nat := (floatToFloatBits s x k).getD 0
theorem fop_some {op : BinOp} {k : FloatKind} {x y : Nat} (h : fok op k x y = true) : floatBits op k x y = some (fop op k x y) := by
  unfold fok at h
  obtain ⟨r, hr⟩ := Option.isSome_iff_exists.1 h
  unfold fop
  rw [hr]
  rfl
theorem cvt_some {s k : FloatKind} {x : Nat} (h : cok s x k = true) : floatToFloatBits s x k = some (cvt s x k) := by
  unfold cok at h
  obtain ⟨r, hr⟩ := Option.isSome_iff_exists.1 h
  unfold cvt
  rw [hr]
  rfl
@[go_sem] theorem run_fadd {P : Program} (w : World) (t : TypeId) (k : FloatKind) (x y : Nat) (h : fok .add k x y = true) : (binOp .add t (.float k x) (.float k y)).run P w = .ok (.float k (fop .add k x y)) w := run_float_arith w .add t k x y _ (fop_some h)
@[go_sem] theorem run_fsub {P : Program} (w : World) (t : TypeId) (k : FloatKind) (x y : Nat) (h : fok .sub k x y = true) : (binOp .sub t (.float k x) (.float k y)).run P w = .ok (.float k (fop .sub k x y)) w := run_float_arith w .sub t k x y _ (fop_some h)
@[go_sem] theorem run_fmul {P : Program} (w : World) (t : TypeId) (k : FloatKind) (x y : Nat) (h : fok .mul k x y = true) : (binOp .mul t (.float k x) (.float k y)).run P w = .ok (.float k (fop .mul k x y)) w := run_float_arith w .mul t k x y _ (fop_some h)
@[go_sem] theorem run_fquo {P : Program} (w : World) (t : TypeId) (k : FloatKind) (x y : Nat) (h : fok .quo k x y = true) : (binOp .quo t (.float k x) (.float k y)).run P w = .ok (.float k (fop .quo k x y)) w := run_float_arith w .quo t k x y _ (fop_some h)
@[go_sem] theorem run_cvt {P : Program} (w : World) (src dst : TypeId) (s k : FloatKind) (x : Nat) (hs : (P.underlying src).isSome = true) (hd : P.underlying dst = some (.float k)) (h : cok s x k = true) : (convert src dst (.float s x)).run P w = .ok (.float k (cvt s x k)) w :=
  run_convert_float_float w src dst s k x _ hs hd (cvt_some h)
@[go_sem] theorem run_store_complex (P : Program) (w : World) (a : Addr) (m : Mode) (k : FloatKind) (x y : Nat) : (store a (.complex k x y) m).run P w = stored P w a (.complex k x y) m := run_store P w a _ m rfl
@[go_sem] theorem run_store_float (P : Program) (w : World) (a : Addr) (m : Mode) (k : FloatKind) (b : Nat) : (store a (.float k b) m).run P w = stored P w a (.float k b) m := run_store P w a _ m rfl
end Go.Proofs.YtnnemdjbopdjmaaDoorW.PrintWords
end
section
set_option linter.unusedVariables false
namespace Go.Proofs.YtnnemdjbopdjmaaDoor
open Go.RowKit Go.Proofs.YtnnemdjbopdjmaaDoorW.PrintWords Go.Proofs.YtnnemdjbopdjmaaDoorW.PrintLast
namespace XF
def isn (k : FloatKind) (x : Nat) : Bool := (k.format.read x).isNaN
theorem order_nan_l {k : FloatKind} {x y : Nat} (h : isn k x = true) : k.format.order x y = none := by
  unfold isn at h
  unfold Ieee.Format.order
  cases hx : k.format.read x with
  | nan s f => rfl
  | infinity s => rw [hx] at h; cases h
  | number s m e => rw [hx] at h; cases h
theorem cut_nan32 (t : Nat) : isn .f32 ((t % 2) * 2 ^ 31 + 0x7f800000 + 1 + (t / 2) % (2 ^ 23 - 1)) = true := by
  have e : ∀ w : Nat, w % 2147483648 > 2139095040 → isn .f32 w = true := by
    intro w hw
    unfold isn Ieee.Format.read
    have h1 : FloatKind.f32.format.signWeight = 2147483648 := by decide
    have h2 : FloatKind.f32.format.infRung = 2139095040 := by decide
    have h3 : FloatKind.f32.format.binade = 8388608 := by decide
    simp only [h1, h2, h3]
    rw [if_neg (by omega), if_neg (by omega), if_neg (by omega)]
    rfl
  apply e
  have h1 : (t / 2) % (2 ^ 23 - 1) < 8388607 := Nat.mod_lt _ (by decide)
  generalize (t / 2) % (2 ^ 23 - 1) = r at h1 ⊢
  rcases Nat.mod_two_eq_zero_or_one t with h | h <;> rw [h] <;> omega
theorem cut_nan64 (t : Nat) : isn .f64 ((t % 2) * 2 ^ 63 + 0x7ff0000000000000 + 1 + (t / 2) % (2 ^ 52 - 1)) = true := by
  have e : ∀ w : Nat, w % 9223372036854775808 > 9218868437227405312 → isn .f64 w = true := by
    intro w hw
    unfold isn Ieee.Format.read
    have h1 : FloatKind.f64.format.signWeight = 9223372036854775808 := by decide
    have h2 : FloatKind.f64.format.infRung = 9218868437227405312 := by decide
    have h3 : FloatKind.f64.format.binade = 4503599627370496 := by decide
    simp only [h1, h2, h3]
    rw [if_neg (by omega), if_neg (by omega), if_neg (by omega)]
    rfl
  apply e
  have h1 : (t / 2) % (2 ^ 52 - 1) < 4503599627370495 := Nat.mod_lt _ (by decide)
  generalize (t / 2) % (2 ^ 52 - 1) = r at h1 ⊢
  rcases Nat.mod_two_eq_zero_or_one t with h | h <;> rw [h] <;> omega
def nanv (k : FloatKind) (x y t : Nat) : Nat := (Question.nanBits k x y).cut t
theorem nanv_isn (k : FloatKind) (x y t : Nat) : isn k (nanv k x y t) = true := by
  cases k
  · exact cut_nan32 t
  · exact cut_nan64 t
def arith (op : BinOp) : Prop := op = .add ∨ op = .sub ∨ op = .mul ∨ op = .quo
theorem run_arith_none {P : Program} (w : World) (op : BinOp) (hop : arith op) (t : TypeId) (k : FloatKind) (x y : Nat) (h : floatBits op k x y = none) :
    (binOp op t (.float k x) (.float k y)).run P w = .ok (.float k (nanv k x y (w.tape w.drawn (.nanBits k x y)))) w.drew := by
  rcases hop with rfl | rfl | rfl | rfl <;> (unfold floatBits at h; simp only at h; simp [binOp, Op.floatArith, h, Question.forced, nanv])
theorem run_conv_nan {P : Program} (w : World) (src dst : TypeId) (b : Nat) (hs : (P.underlying src).isSome = true) (hd : P.underlying dst = some (.float .f64)) (h : isn .f32 b = true) :
    (convert src dst (.float .f32 b)).run P w = .ok (.float .f64 ((Question.nanConv .f64 b).cut (w.tape w.drawn (.nanConv .f64 b)))) w.drew := by
  obtain ⟨u, hs'⟩ := Option.isSome_iff_exists.1 hs
  unfold isn at h
  cases hx : FloatKind.f32.format.read b with
  | infinity s => rw [hx] at h; cases h
  | number s m e => rw [hx] at h; cases h
  | nan s f =>
    have hx' : FloatKind.f32.decode b = .nan s f := hx
    cases u <;> simp [convert, run_underlying hs', run_underlying hd, Conv.floatToFloat, hx', Question.forced]
end XF
namespace XF
theorem f64s : FloatKind.f64.format.signWeight = 9223372036854775808 := by decide
theorem f64i : FloatKind.f64.format.infRung = 9218868437227405312 := by decide
theorem f64b : FloatKind.f64.format.binade = 4503599627370496 := by decide
theorem f64l : FloatKind.f64.format.leastPlace = -1074 := by decide
theorem f64f : FloatKind.f64.format.fractionBits = 52 := by decide
theorem f32s : FloatKind.f32.format.signWeight = 2147483648 := by decide
theorem f32i : FloatKind.f32.format.infRung = 2139095040 := by decide
theorem f32b : FloatKind.f32.format.binade = 8388608 := by decide
theorem f32l : FloatKind.f32.format.leastPlace = -149 := by decide
theorem cut_zero (neg : Bool) (n : Nat) : Ieee.Toward.even.cut neg n 0 = n := by
  unfold Ieee.Toward.cut
  simp [Nat.mod_one]
theorem word_read_fin {r : Nat} (neg : Bool) (h : r < 9218868437227405312) : (FloatKind.f64.format.read (FloatKind.f64.format.word neg r)).isInfinity = false ∧ (FloatKind.f64.format.read (FloatKind.f64.format.word neg r)).isNaN = false := by
  unfold Ieee.Format.read Ieee.Format.word
  simp only [f64s, f64i, f64b, f64l]
  have e : (if neg = true then 9223372036854775808 + r else r) % 9223372036854775808 = r := by cases neg <;> simp <;> omega
  simp only [e]
  split
  · exact ⟨rfl, rfl⟩
  · exact ⟨rfl, rfl⟩
theorem wide_fin (neg : Bool) (m : Nat) (e : Int) (hm : m < 16777216) (h0 : -149 ≤ e) (h1 : e ≤ 104) : (FloatKind.f64.format.read (FloatKind.f64.format.nearest neg m e)).isInfinity = false ∧ (FloatKind.f64.format.read (FloatKind.f64.format.nearest neg m e)).isNaN = false := by
  unfold Ieee.Format.nearest
  split
  · exact word_read_fin neg (by decide)
  · rename_i h
    have hl : m.log2 < 24 := (Nat.log2_lt h).2 hm
    have hlm : m < 2 ^ (m.log2 + 1) := Nat.lt_log2_self
    simp only [f64b, f64i, f64l, f64f]
    generalize m.log2 = l at hl hlm
    have e1 : max (e + (l : Int) - ((52 : Nat) : Int)) (-1074) = e + l - 52 := by omega
    rw [e1]
    have e2 : (e + (l : Int) - 52 - e).toNat = 0 := by omega
    have e3 : (e - (e + (l : Int) - 52)).toNat = 52 - l := by omega
    rw [e2, e3, cut_zero]
    have e4 : m <<< (52 - l) < 9007199254740992 := by
      rw [Nat.shiftLeft_eq]
      calc m * 2 ^ (52 - l) < 2 ^ (l + 1) * 2 ^ (52 - l) := Nat.mul_lt_mul_of_pos_right hlm (Nat.two_pow_pos _)
        _ = 2 ^ 53 := by rw [← Nat.pow_add]; congr 1; omega
        _ = 9007199254740992 := by decide
    generalize m <<< (52 - l) = K at e4
    refine word_read_fin neg ?_
    omega
def Cv (b b' : Nat) : Prop := (isn .f32 b = true ∧ isn .f64 b' = true) ∨ (isn .f32 b = false ∧ floatToFloatBits .f32 b .f64 = some b')
theorem read32 (b : Nat) : (∃ s m e, FloatKind.f32.format.read b = .number s m e ∧ m < 16777216 ∧ -149 ≤ e ∧ e ≤ 104) ∨ (∃ s, FloatKind.f32.format.read b = .infinity s) ∨ ∃ s f, FloatKind.f32.format.read b = .nan s f := by
  unfold Ieee.Format.read
  simp only [f32s, f32i, f32b, f32l]
  split
  · exact .inl ⟨_, _, _, rfl, by omega, by omega, by omega⟩
  · split
    · exact .inl ⟨_, _, _, rfl, by omega, by omega, by omega⟩
    · split
      · exact .inr (.inl ⟨_, rfl⟩)
      · exact .inr (.inr ⟨_, _, rfl⟩)
theorem cv_some {b : Nat} (h : isn .f32 b = false) : ∃ r, floatToFloatBits .f32 b .f64 = some r := by
  unfold floatToFloatBits
  rw [if_neg (by decide)]
  unfold isn at h
  rcases read32 b with ⟨s, m, e, hx, hm, h0, h1⟩ | ⟨s, hx⟩ | ⟨s, f, hx⟩
  · have hx' : FloatKind.f32.decode b = .number s m e := hx
    rw [hx']
    simp only
    have hw := (wide_fin s m e hm h0 h1).1
    rw [if_neg (by rw [show (FloatKind.f64.decode (FloatKind.f64.encode (.number s m e))).isInfinity = false from hw]; decide)]
    exact ⟨_, rfl⟩
  · have hx' : FloatKind.f32.decode b = .infinity s := hx
    rw [hx']
    exact ⟨_, rfl⟩
  · rw [hx] at h; cases h
theorem run_conv {P : Program} (w : World) (src dst : TypeId) (b : Nat) (hs : (P.underlying src).isSome = true) (hd : P.underlying dst = some (.float .f64)) :
    ∃ b' n, (convert src dst (.float .f32 b)).run P w = .ok (.float .f64 b') (w.drewN n) ∧ Cv b b' := by
  cases h : isn .f32 b with
  | true => exact ⟨_, 1, run_conv_nan w src dst b hs hd h, .inl ⟨h, cut_nan64 _⟩⟩
  | false =>
    obtain ⟨r, hr⟩ := cv_some h
    exact ⟨r, 0, run_convert_float_float w src dst .f32 .f64 b r hs hd hr, .inr ⟨h, hr⟩⟩
theorem order_self {k : FloatKind} {b : Nat} (h : isn k b = false) : k.format.order b b = some .eq := by
  unfold isn at h
  unfold Ieee.Format.order
  cases hx : k.format.read b with
  | nan s f => rw [hx] at h; cases h
  | infinity s => cases s <;> rfl
  | number s m e => simp [Ieee.Datum.order, Std.ReflCmp.compare_self]
theorem wpList_conv {P : Program} {ops : Array Oper} {rest : List Oper} {o : Oper} {a : Act} {w : World} {Q : Exit → Act → World → Prop} (hgd : o.guard = none) (src dst : TypeId) (x : Operand) (ho : o.op = .convert src dst x)
    (hs : (P.underlying src).isSome = true) (hd : P.underlying dst = some (.float .f64)) (b : Nat) (hx : a.eval x = .float .f32 b)
    (h : ∀ b' n, Cv b b' → wpList P ops Q rest (a.put o.dst (.float .f64 b')) (w.drewN n)) : wpList P ops Q (o :: rest) a w := by
  refine wpList_plain hgd fun K hK => ?_
  obtain ⟨b', n, hr, hc⟩ := run_conv (P := P) w src dst b hs hd
  unfold Oper.wp execOp
  simp only [ho, Sem.run_bind, hx, hr, Result.andThen_ok, Sem.run_pure]
  exact hK _ _ (h b' n hc)
end XF
end Go.Proofs.YtnnemdjbopdjmaaDoor
end
section
set_option linter.unusedVariables false
set_option linter.unusedSimpArgs false
namespace Go.Proofs.YtnnemdjbopdjmaaDoor
open Go.RowKit Go.Proofs.YtnnemdjbopdjmaaDoorW.PrintWords Go.Proofs.YtnnemdjbopdjmaaDoorW.PrintLast
namespace XL
open XF
def fin (x : Nat) : Bool := match floatBits .sub .f32 x x with | some r => FloatKind.f32.format.order r 0 == some .eq | none => false
def IsFinite.f (a0 : Nat) : Option Bool := some (fin a0)
set_option maxHeartbeats 4000000 in
set_option maxRecDepth 100000 in
theorem IsFinite.calls (a0 : Nat) (r : Bool) (w : World) (h : IsFinite.f a0 = some r) : Calls Tryd.prog 81 #[.float .f32 a0] w fun e w' => e = .returned (.bool r) ∧ Drawn0 w w' := by
  obtain rfl := Option.some.inj h
  cases e : floatBits .sub .f32 a0 a0 with
  | some q =>
    have q1 := fun w => run_float_arith (P := Tryd.prog) w .sub 24 .f32 a0 a0 q e
    go_enter Tryd.func81, Tryd.ntmps81
    go_wp2
    go_ret
    exact ⟨by simp [fin, e], Drawn0.refl _⟩
  | none =>
    have q1 := fun w => run_arith_none (P := Tryd.prog) w .sub (.inr (.inl rfl)) 24 .f32 a0 a0 e
    have q2 : ∀ t, (FloatKind.f32.format.order (nanv .f32 a0 a0 t) 0 == some .eq) = false := fun t => by rw [order_nan_l (nanv_isn _ _ _ _)]; rfl
    go_enter Tryd.func81, Tryd.ntmps81
    go_wp2
    go_ret
    exact ⟨by simp [fin, e, q2], ⟨1, rfl⟩⟩
theorem isNaN_eq (x : Nat) : (FloatKind.f32.format.order x x != some .eq) = isn .f32 x := by
  cases h : isn .f32 x with
  | true => rw [order_nan_l h]; rfl
  | false => rw [order_self h]; rfl
def isNaN.f (a0 : Nat) : Option Bool := some (isn .f32 a0)
set_option maxHeartbeats 4000000 in
set_option maxRecDepth 100000 in
theorem isNaN.calls (a0 : Nat) (r : Bool) (w : World) (h : isNaN.f a0 = some r) : Calls Tryd.prog 67 #[.float .f32 a0] w fun e w' => e = .returned (.bool r) ∧ Drawn0 w w' := by
  obtain rfl := Option.some.inj h
  go_enter Tryd.func67, Tryd.ntmps67
  go_wp2
  go_ret
  exact ⟨by rw [isNaN_eq]; rfl, Drawn0.refl _⟩
def bits (x : Nat) : Int := if isn .f32 x = true then 2143289344 else wrap64 (x : Int)
theorem run_bits (P : Program) (w : World) (x : Nat) : (Extern.MathFloatBits.float32bits #[.float .f32 x]).run P w = .ok (.int .u32 x) w := rfl
def l01Bits.f (a0 : Nat) : Option Int := some (bits a0)
set_option maxHeartbeats 4000000 in
set_option maxRecDepth 100000 in
theorem l01Bits.calls (a0 : Nat) (r : Int) (w : World) (h : l01Bits.f a0 = some r) : Calls Tryd.prog 94 #[.float .f32 a0] w fun e w' => e = .returned (.int .i64 r) ∧ Drawn0 w w' := by
  obtain rfl := Option.some.inj h
  unfold bits
  cases e : isn .f32 a0 with
  | true =>
    have e2 := isNaN_eq a0
    rw [e] at e2
    rw [if_pos rfl]
    go_enter Tryd.func94, Tryd.ntmps94
    go_wp2
    go_ret
    exact ⟨rfl, Drawn0.refl _⟩
  | false =>
    have e2 := isNaN_eq a0
    rw [e] at e2
    rw [if_neg (by decide)]
    go_enter Tryd.func94, Tryd.ntmps94
    go_wp2
    rw [run_callFunc_extern Tryd.func68 (by kernel_rfl) (by kernel_rfl) (by kernel_rfl) (e := Extern.MathFloatBits.float32bits) (by kernel_rfl)]
    rw [run_bits]
    simp only [Result.andThen]
    rw [Oper.upon_value]
    go_wp2
    go_ret
    exact ⟨rfl, Drawn0.refl _⟩
def BitsOf.f (a0 : Nat) : Option Int := some (bits a0)
set_option maxHeartbeats 4000000 in
set_option maxRecDepth 100000 in
theorem BitsOf.calls (a0 : Nat) (r : Int) (w : World) (h : BitsOf.f a0 = some r) : Calls Tryd.prog 25 #[.float .f32 a0] w fun e w' => e = .returned (.int .i64 r) ∧ Drawn0 w w' := by
  obtain rfl := Option.some.inj h
  unfold bits
  cases e : isn .f32 a0 with
  | true =>
    have e2 := isNaN_eq a0
    rw [e] at e2
    rw [if_pos rfl]
    go_enter Tryd.func25, Tryd.ntmps25
    go_wp2_with (go_at_call 67; refine (isNaN.calls _ _ _ (by show some _ = some _; rw [e])).mono ?_; rintro e w1 ⟨rfl, ⟨nd, rfl⟩⟩)
    go_ret
    exact ⟨rfl, by first | exact Drawn0.refl _ | exact ⟨_, rfl⟩⟩
  | false =>
    have e2 := isNaN_eq a0
    rw [e] at e2
    rw [if_neg (by decide)]
    go_enter Tryd.func25, Tryd.ntmps25
    go_wp2_with (go_at_call 67; refine (isNaN.calls _ _ _ (by show some _ = some _; rw [e])).mono ?_; rintro e w1 ⟨rfl, ⟨nd, rfl⟩⟩)
    rw [run_callFunc_extern Tryd.func68 (by kernel_rfl) (by kernel_rfl) (by kernel_rfl) (e := Extern.MathFloatBits.float32bits) (by kernel_rfl)]
    rw [run_bits]
    simp only [Result.andThen]
    rw [Oper.upon_value]
    go_wp2
    go_ret
    exact ⟨rfl, by first | exact Drawn0.refl _ | exact ⟨_, rfl⟩⟩
end XL
end Go.Proofs.YtnnemdjbopdjmaaDoor
end
section
set_option linter.unusedVariables false
set_option linter.unusedSimpArgs false
namespace Go.Proofs.YtnnemdjbopdjmaaDoor
open Go.RowKit Go.Proofs.YtnnemdjbopdjmaaDoorW.PrintWords Go.Proofs.YtnnemdjbopdjmaaDoorW.PrintLast
namespace XM
open XF XL
theorem run_frombits (P : Program) (w : World) (n : Int) : (Extern.MathFloatBits.float32frombits #[.int .u32 n]).run P w = .ok (.float .f32 n.toNat) w := rfl
def FromBits.f (a0 : Int) : Option (Nat × Bool) := if 0 ≤ a0 ∧ a0 ≤ 4294967295 then some ((a0 % 4294967296).toNat, true) else some (0, false)
set_option maxHeartbeats 4000000 in
set_option maxRecDepth 100000 in
theorem FromBits.calls (a0 : Int) (r1 : Nat) (r2 : Bool) (w : World) (h : FromBits.f a0 = some (r1, r2)) : Calls Tryd.prog 24 #[.int .i64 a0] w fun e w' => e = .returned (.tuple #[.float .f32 r1, .bool r2]) ∧ Drawn0 w w' := by
  unfold FromBits.f at h
  split at h
  · rename_i hc
    obtain ⟨rfl, rfl⟩ := Prod.mk.inj (Option.some.inj h)
    have c1 : decide (0 ≤ a0) = true := decide_eq_true hc.1
    have c2 : decide (a0 ≤ 4294967295) = true := decide_eq_true hc.2
    go_enter Tryd.func24, Tryd.ntmps24
    go_wp2
    rw [run_callFunc_extern Tryd.func66 (by kernel_rfl) (by kernel_rfl) (by kernel_rfl) (e := Extern.MathFloatBits.float32frombits) (by kernel_rfl)]
    rw [run_frombits]
    simp only [Result.andThen]
    rw [Oper.upon_value]
    go_wp2
    go_ret2
    exact ⟨by first | rfl | (simp; done) | (simp; rw [Int.emod_eq_of_lt hc.1 (by omega)]), Drawn0.refl _⟩
  · rename_i hc
    obtain ⟨rfl, rfl⟩ := Prod.mk.inj (Option.some.inj h)
    by_cases h1 : 0 ≤ a0
    · have c1 : decide (0 ≤ a0) = true := decide_eq_true h1
      have c2 : decide (a0 ≤ 4294967295) = false := decide_eq_false (fun h => hc ⟨h1, h⟩)
      go_enter Tryd.func24, Tryd.ntmps24
      go_wp2
      go_ret2
      exact ⟨by first | rfl | (simp; done), Drawn0.refl _⟩
    · have c1 : decide (0 ≤ a0) = false := decide_eq_false h1
      go_enter Tryd.func24, Tryd.ntmps24
      go_wp2
      go_ret2
      exact ⟨by first | rfl | (simp; done), Drawn0.refl _⟩
def l01From.f (a0 : Int) : Option Nat := some ((a0 % 4294967296).toNat)
set_option maxHeartbeats 4000000 in
set_option maxRecDepth 100000 in
theorem l01From.calls (a0 : Int) (r : Nat) (w : World) (h : l01From.f a0 = some r) : Calls Tryd.prog 63 #[.int .i64 a0] w fun e w' => e = .returned (.float .f32 r) ∧ Drawn0 w w' := by
  obtain rfl := Option.some.inj h
  go_enter Tryd.func63, Tryd.ntmps63
  go_wp2
  rw [run_callFunc_extern Tryd.func66 (by kernel_rfl) (by kernel_rfl) (by kernel_rfl) (e := Extern.MathFloatBits.float32frombits) (by kernel_rfl)]
  rw [run_frombits]
  simp only [Result.andThen]
  rw [Oper.upon_value]
  go_wp2
  go_ret
  exact ⟨by first | rfl | (simp; done), Drawn0.refl _⟩
end XM
end Go.Proofs.YtnnemdjbopdjmaaDoor
end
section
set_option linter.unusedVariables false
namespace Go.Proofs.YtnnemdjbopdjmaaDoor
open Go.RowKit Go.Proofs.YtnnemdjbopdjmaaDoorW.PrintWords Go.Proofs.YtnnemdjbopdjmaaDoorW.PrintLast
namespace XR
def Sqrt.f (a0 : Nat) : Option Nat := FloatKind.f64.format.sqrt a0
theorem run_sqrt (P : Program) (w : World) (x r : Nat) (h : FloatKind.f64.format.sqrt x = some r) : (Extern.MathSqrt.sqrt #[.float .f64 x]).run P w = .ok (.float .f64 r) w := by
  have key : ∀ o : Option Nat, o = some r → (match o with | some r => (pure (Value.float .f64 r) : Sem Value) | none => do pure (Value.float .f64 (← choose (.nanBits .f64 x x)))).run P w = .ok (.float .f64 r) w := by
    intro o ho
    subst ho
    rfl
  exact key _ h
set_option maxHeartbeats 4000000 in
set_option maxRecDepth 100000 in
theorem Sqrt.calls (a0 r : Nat) (w : World) (h : Sqrt.f a0 = some r) : Calls Tryd.prog 80 #[.float .f64 a0] w fun e w' => e = .returned (.float .f64 r) ∧ Drawn0 w w' := by
  unfold Sqrt.f at h
  go_enter Tryd.func80, Tryd.ntmps80
  go_wp2
  rw [run_callFunc_extern Tryd.func107 (by kernel_rfl) (by kernel_rfl) (by kernel_rfl) (e := Extern.MathSqrt.sqrt) (by kernel_rfl)]
  rw [run_sqrt _ _ _ _ h]
  simp only [Result.andThen]
  rw [Oper.upon_value]
  go_wp2
  go_ret
  exact ⟨rfl, Drawn0.refl _⟩
end XR
end Go.Proofs.YtnnemdjbopdjmaaDoor
end
section
set_option linter.unusedVariables false
set_option linter.unusedSimpArgs false
namespace Go.Proofs.YtnnemdjbopdjmaaDoor
open Go.RowKit Go.Proofs.YtnnemdjbopdjmaaDoorW.PrintWords Go.Proofs.YtnnemdjbopdjmaaDoorW.PrintLast Go.Proofs.YtnnemdjbopdjmaaDoorW.PrintMore
attribute [local go_sem] max2_int min2_int max_two min_two max_three min_three max_four min_four
namespace XW
open XF XL
set_option maxHeartbeats 4000000 in
set_option maxRecDepth 100000 in
theorem litf (a0 : Nat) (w : World) : Calls Tryd.prog 104 #[.float .f32 a0] w fun e w' => e = .returned (.bool (!fin a0)) ∧ Drawn0 w w' := by
  go_enter Tryd.func104, Tryd.ntmps104
  go_wp2_with (go_at_call 81; refine (IsFinite.calls _ _ _ rfl).mono ?_; rintro e w1 ⟨rfl, ⟨nd, rfl⟩⟩)
  go_ret
  exact ⟨rfl, ⟨_, rfl⟩⟩
def ix {α : Type} (p : α → Bool) : List α → Int → Int
  | [], _ => -1
  | x :: r, i => if p x = true then i else ix p r (i + 1)
theorem ix_ge {α : Type} (p : α → Bool) : ∀ (xs : List α) (i : Int), 0 ≤ i → (decide (0 ≤ ix p xs i)) = xs.any p
  | [], i, _ => by simp [ix]
  | x :: r, i, h => by
    unfold ix
    cases e : p x with
    | true => simp [e, h]
    | false => simp [e, ix_ge p r (i + 1) (by omega)]
set_option maxHeartbeats 4000000 in
set_option maxRecDepth 100000 in
theorem indexf (A : Option Addr) (c : Nat) (xs : List Nat) (r : Int) (hr : ix (fun x => !fin x) xs 0 = r) (w : World) (hr0 : Kd.C (Kd.float .f32) w A xs.length xs) (hc0 : xs.length ≤ c) :
    Calls Tryd.prog 115 #[.slice A xs.length c, .func (.func 104) #[] #[]] w fun e w' => e = .returned (.int .i64 r) ∧ Drawn0 w w' := by
  have HR0 := Aside0.mk hr0
  clear hr0
  have hmx : xs.length ≤ 9223372036854775807 := Kd.C_max HR0.out
  go_enter Tryd.func115, Tryd.ntmps115
  go_wp2
  go_loopg [8] xs.length (fun kq v8 w' => ∃ (i : Nat), v8 = .int .i64 (i : Int) ∧ Aside0 (i + kq = xs.length) ∧ Aside0 (ix (fun x => !fin x) (xs.drop i) (i : Int) = r) ∧ Drawn0 w w')
  case atStart => exact ⟨0, rfl, ⟨by simp⟩, ⟨hr⟩, Drawn0.refl _⟩
  case round =>
    obtain ⟨i, rfl, HI, HX, ⟨m, rfl⟩⟩ := hrel
    have hi := HI.out
    have hx0 := HX.out
    cases gk with
    | zero =>
      have hc : decide ((i : Int) < (xs.length : Int)) = false := by simp; omega
      rw [List.drop_eq_nil_of_le (by omega), ix] at hx0
      subst hx0
      go_wp2
      go_ret
      exact ⟨rfl, ⟨_, rfl⟩⟩
    | succ k1 =>
      have hil : i < xs.length := by omega
      have hc : decide ((i : Int) < (xs.length : Int)) = true := by simp; omega
      have p0 : (0 : Int) ≤ (i : Int) := by omega
      have q0 : (i : Int) < (xs.length : Int) := by omega
      obtain ⟨ad, ead, hx⟩ := Kd.at_float HR0.out (i : Int) p0 q0
      cases ead
      rw [Int.toNat_natCast, show rdOf (0 : Nat) xs (i : Int) = xs[i] by simp [rdOf, hil]] at hx
      rw [List.drop_eq_getElem_cons hil, ix] at hx0
      generalize xs[i] = x at hx hx0
      have p0b := eq_true p0
      have q0b := eq_true q0
      cases e : fin x with
      | false =>
        rw [e, if_pos (by rfl)] at hx0
        subst hx0
        go_wp2_with (first | (go_at_call 104; refine (litf _ _).mono ?_; rintro e w1 ⟨rfl, ⟨nd, rfl⟩⟩))
        go_ret
        exact ⟨rfl, ⟨_, rfl⟩⟩
      | true =>
        rw [e, if_neg (by decide)] at hx0
        go_wp2_with (first | (go_at_call 104; refine (litf _ _).mono ?_; rintro e w1 ⟨rfl, ⟨nd, rfl⟩⟩))
        go_roundg k1
        case measure => omega
        case rel => exact ⟨i + 1, rfl, ⟨by omega⟩, ⟨hx0⟩, ⟨_, rfl⟩⟩
set_option maxHeartbeats 4000000 in
set_option maxRecDepth 100000 in
theorem containsf (A : Option Addr) (c : Nat) (xs : List Nat) (w : World) (hr0 : Kd.C (Kd.float .f32) w A xs.length xs) (hc0 : xs.length ≤ c) :
    Calls Tryd.prog 103 #[.slice A xs.length c, .func (.func 104) #[] #[]] w fun e w' => e = .returned (.bool (xs.any fun x => !fin x)) ∧ Drawn0 w w' := by
  have hg := ix_ge (fun x => !fin x) xs 0 (Int.le_refl _)
  go_enter Tryd.func103, Tryd.ntmps103
  go_wp2_with (first | (go_at_call 115; refine (indexf _ _ _ _ rfl _ hr0 hc0).mono ?_; rintro e w1 ⟨rfl, ⟨nd, rfl⟩⟩))
  go_ret
  exact ⟨by first | rfl | (rw [← hg]; rfl), ⟨_, rfl⟩⟩
set_option maxHeartbeats 4000000 in
set_option maxRecDepth 100000 in
theorem finitef (A : Option Addr) (c : Nat) (xs : List Nat) (w : World) (hr0 : Kd.C (Kd.float .f32) w A xs.length xs) (hc0 : xs.length ≤ c) :
    Calls Tryd.prog 77 #[.slice A xs.length c] w fun e w' => e = .returned (.bool (!xs.any fun x => !fin x)) ∧ Drawn0 w w' := by
  go_enter Tryd.func77, Tryd.ntmps77
  go_wp2_with (first | (go_at_call 103; refine (containsf _ _ _ _ hr0 hc0).mono ?_; rintro e w1 ⟨rfl, ⟨nd, rfl⟩⟩))
  go_ret
  exact ⟨rfl, ⟨_, rfl⟩⟩
theorem two_C {k : FloatKind} {b : Nat} {x y : Nat} {t : TypeId} {w : World} (h : w.heap[b]? = some (.cells #[.float k x, .float k y] t (0, 0))) : Kd.C (Kd.float k) w (some ⟨b, 0, none⟩) [x, y].length [x, y] := by
  refine Kd.C_of_reads (d := (0 : Nat)) ⟨rfl, by simp, fun _ => ⟨_, rfl, fun j hj => ?_⟩⟩
  have hj3 : j < 2 := hj
  rw [add_plain]
  unfold World.cell?
  rw [h]
  match j, hj3 with
  | 0, _ => rfl
  | 1, _ => rfl
end XW
end Go.Proofs.YtnnemdjbopdjmaaDoor
end
section
set_option linter.unusedVariables false
set_option linter.unusedSimpArgs false
namespace Go.Proofs.YtnnemdjbopdjmaaDoor.PI
open Go.RowKit Go.Proofs.YtnnemdjbopdjmaaDoor Go.Proofs.YtnnemdjbopdjmaaDoorW.PrintWords
theorem f32s : FloatKind.f32.format.signWeight = 2147483648 := by decide
theorem f32i : FloatKind.f32.format.infRung = 2139095040 := by decide
theorem f32b : FloatKind.f32.format.binade = 8388608 := by decide
theorem f32l : FloatKind.f32.format.leastPlace = -149 := by decide
theorem f32f : FloatKind.f32.format.fractionBits = 23 := by decide
theorem log2_shift {m : Nat} (h : m ≠ 0) (k : Nat) : (m * 2 ^ k).log2 = m.log2 + k := by
  have h2 : m * 2 ^ k ≠ 0 := Nat.mul_ne_zero h (Nat.pos_iff_ne_zero.1 (Nat.two_pow_pos k))
  refine Nat.le_antisymm ?_ ?_
  · have : (m * 2 ^ k).log2 < m.log2 + k + 1 := (Nat.log2_lt h2).2 (by
      have := @Nat.lt_log2_self m
      calc m * 2 ^ k < 2 ^ (m.log2 + 1) * 2 ^ k := Nat.mul_lt_mul_of_pos_right this (Nat.two_pow_pos k)
        _ = 2 ^ (m.log2 + k + 1) := by rw [← Nat.pow_add]; congr 1; omega)
    omega
  · exact (Nat.le_log2 h2).2 (by
      rw [Nat.pow_add]
      exact Nat.mul_le_mul_right _ (Nat.log2_self_le h))
theorem cut_shift (neg : Bool) {m : Nat} (h : m ≠ 0) (k b : Nat) : Ieee.Toward.even.cut neg (m * 2 ^ k) (b + k) = Ieee.Toward.even.cut neg m b := by
  unfold Ieee.Toward.cut
  simp only [Nat.one_shiftLeft]
  rw [log2_shift h]
  have e : min (b + k) (m.log2 + k + 2) = min b (m.log2 + 2) + k := by omega
  rw [e, Nat.pow_add]
  have p := Nat.two_pow_pos k
  rw [Nat.mul_div_mul_right _ _ p, Nat.mul_mod_mul_right]
  generalize 2 ^ min b (m.log2 + 2) = g
  have c1 : (g * 2 ^ k < 2 * (m % g * 2 ^ k)) = (g < 2 * (m % g)) := by
    rw [← Nat.mul_assoc]
    exact propext (Nat.mul_lt_mul_right p)
  have c2 : (g * 2 ^ k == 2 * (m % g * 2 ^ k)) = (g == 2 * (m % g)) := by
    rw [← Nat.mul_assoc]
    rw [Bool.eq_iff_iff, beq_iff_eq, beq_iff_eq]
    exact ⟨fun hc => Nat.eq_of_mul_eq_mul_right p hc, fun hc => congrArg (· * 2 ^ k) hc⟩
  simp only [c1, c2]
theorem cut_zero' (neg : Bool) (n : Nat) : Ieee.Toward.even.cut neg n 0 = n := XF.cut_zero neg n
theorem cut_exact (neg : Bool) {m : Nat} (h : m ≠ 0) (k b : Nat) (hb : b ≤ k) : Ieee.Toward.even.cut neg (m * 2 ^ k) b = m * 2 ^ (k - b) := by
  have e : m * 2 ^ k = (m * 2 ^ (k - b)) * 2 ^ b := by rw [Nat.mul_assoc, ← Nat.pow_add]; congr 2; omega
  have h2 : m * 2 ^ (k - b) ≠ 0 := Nat.mul_ne_zero h (Nat.pos_iff_ne_zero.1 (Nat.two_pow_pos _))
  have := cut_shift neg h2 b 0
  rw [Nat.zero_add, cut_zero'] at this
  rw [e, this]
theorem nearest_shift (f : Ieee.Format) (neg : Bool) (m k : Nat) (p : Int) : f.nearest neg (m * 2 ^ k) p = f.nearest neg m (p + k) := by
  by_cases h : m = 0
  · subst h
    simp [Ieee.Format.nearest]
  · have h2 : m * 2 ^ k ≠ 0 := Nat.mul_ne_zero h (Nat.pos_iff_ne_zero.1 (Nat.two_pow_pos k))
    unfold Ieee.Format.nearest
    rw [if_neg h2, if_neg h, log2_shift h]
    have e : p + ((m.log2 + k : Nat) : Int) - f.fractionBits = p + k + (m.log2 : Int) - f.fractionBits := by omega
    rw [e]
    generalize max (p + k + (m.log2 : Int) - f.fractionBits) f.leastPlace = last
    have key : Ieee.Toward.even.cut neg ((m * 2 ^ k) <<< (p - last).toNat) (last - p).toNat = Ieee.Toward.even.cut neg (m <<< (p + k - last).toNat) (last - (p + k)).toNat := by
      rw [Nat.shiftLeft_eq, Nat.shiftLeft_eq]
      rcases Int.le_total last p with c | c
      · have a1 : (last - p).toNat = 0 := by omega
        have a2 : (last - (p + k)).toNat = 0 := by omega
        have a3 : (p + k - last).toNat = k + (p - last).toNat := by omega
        rw [a1, a2, a3, cut_zero', cut_zero', Nat.pow_add, Nat.mul_assoc]
      · have a1 : (p - last).toNat = 0 := by omega
        rw [a1, Nat.pow_zero, Nat.mul_one]
        rcases Int.le_total last (p + k) with c2 | c2
        · have a2 : (last - (p + k)).toNat = 0 := by omega
          have a3 : (p + k - last).toNat = k - (last - p).toNat := by omega
          rw [a2, a3, cut_zero', cut_exact neg h _ _ (by omega)]
        · have a2 : (p + k - last).toNat = 0 := by omega
          have a3 : (last - p).toNat = (last - (p + k)).toNat + k := by omega
          rw [a2, a3, Nat.pow_zero, Nat.mul_one, cut_shift neg h]
    simp only [key]
theorem read_word (neg : Bool) (r : Nat) (h : r < 2139095040) : FloatKind.f32.format.read (FloatKind.f32.format.word neg r) = if r < 8388608 then .number neg r (-149) else .number neg (8388608 + r % 8388608) (-149 + ((r / 8388608 - 1 : Nat) : Int)) := by
  unfold Ieee.Format.read Ieee.Format.word
  simp only [f32s, f32i, f32b, f32l]
  have e : (if neg = true then 2147483648 + r else r) % 2147483648 = r := by cases neg <;> simp <;> omega
  have e2 : ((if neg = true then 2147483648 + r else r) / 2147483648 % 2 == 1) = neg := by
    cases neg
    · have : r / 2147483648 = 0 := Nat.div_eq_of_lt (by omega)
      simp [this]
    · have : (2147483648 + r) / 2147483648 = 1 := by omega
      simp [this]
  simp only [e, e2]
  split
  · rfl
  · first | rfl | rw [if_pos h]
theorem read_near (s : Bool) {m : Nat} (h0 : m ≠ 0) (h : m < 16777216) : FloatKind.f32.format.read (FloatKind.f32.format.nearest s m 0) = .number s (m * 2 ^ (23 - m.log2)) (-((23 - m.log2 : Nat) : Int)) := by
  have hL : m.log2 < 24 := (Nat.log2_lt h0).2 (by simpa using h)
  unfold Ieee.Format.nearest
  rw [if_neg h0]
  simp only [f32f, f32l, f32b, f32i]
  have e1 : max (0 + (m.log2 : Int) - ((23 : Nat) : Int)) (-149) = (m.log2 : Int) - 23 := by omega
  rw [e1]
  have e2 : (0 - ((m.log2 : Int) - 23)).toNat = 23 - m.log2 := by omega
  have e3 : ((m.log2 : Int) - 23 - 0).toNat = 0 := by omega
  have e4 : ((m.log2 : Int) - 23 - -149).toNat = m.log2 + 126 := by omega
  rw [e2, e3, e4, cut_zero', Nat.shiftLeft_eq]
  have k1 : 8388608 ≤ m * 2 ^ (23 - m.log2) := by
    have := Nat.mul_le_mul_right (2 ^ (23 - m.log2)) (Nat.log2_self_le h0)
    rw [← Nat.pow_add, show m.log2 + (23 - m.log2) = 23 by omega] at this
    simpa using this
  have k2 : m * 2 ^ (23 - m.log2) < 16777216 := by
    have := Nat.mul_lt_mul_of_pos_right (@Nat.lt_log2_self m) (Nat.two_pow_pos (23 - m.log2))
    rw [← Nat.pow_add, show m.log2 + 1 + (23 - m.log2) = 24 by omega] at this
    simpa using this
  generalize m * 2 ^ (23 - m.log2) = K at k1 k2
  rw [Nat.min_eq_left (by omega), read_word s _ (by omega), if_neg (by omega)]
  have e5 : 8388608 + ((m.log2 + 126) * 8388608 + K) % 8388608 = K := by omega
  have e6 : -149 + ((((m.log2 + 126) * 8388608 + K) / 8388608 - 1 : Nat) : Int) = -((23 - m.log2 : Nat) : Int) := by omega
  rw [e5, e6]
def Zd (d : Ieee.Datum) (n : Int) : Prop := ∃ (s : Bool) (m k : Nat), d = .number s (m * 2 ^ k) (-(k : Int)) ∧ n = if s = true then -(m : Int) else m
def Zr (x : Nat) (n : Int) : Prop := Zd (FloatKind.f32.format.read x) n
theorem Zr_near (s : Bool) (m p : Nat) (h : m < 16777216) : Zr (FloatKind.f32.format.nearest s (m * 2 ^ p) (-(p : Int))) (if s = true then -(m : Int) else m) := by
  rw [nearest_shift, show -(p : Int) + (p : Int) = 0 by omega]
  by_cases h0 : m = 0
  · subst h0
    refine ⟨s, 0, 149, ?_, rfl⟩
    cases s <;> decide
  · exact ⟨s, m, _, read_near s h0 h, rfl⟩
theorem int_near (n : Int) : floatOfInt .f32 n = FloatKind.f32.format.nearest (decide (n < 0)) n.natAbs 0 := rfl
theorem Zr_int (n : Int) (h : n.natAbs < 16777216) : Zr (floatOfInt .f32 n) n := by
  have := Zr_near (decide (n < 0)) n.natAbs 0 h
  rw [Nat.pow_zero, Nat.mul_one, show -((0 : Nat) : Int) = 0 from rfl] at this
  rw [int_near]
  have e : n = if decide (n < 0) = true then -(n.natAbs : Int) else n.natAbs := by
    by_cases c : n < 0
    · rw [decide_eq_true c, if_pos rfl]; omega
    · rw [decide_eq_false c, if_neg (by decide)]; omega
  rw [← e] at this
  exact this
theorem opp_Z {d : Ieee.Datum} {a : Int} (hd : Zd d a) : Zd d.opposite (-a) := by
  obtain ⟨s, m, k, rfl, rfl⟩ := hd
  exact ⟨!s, m, k, rfl, by cases s <;> simp⟩
theorem fop_of {op : BinOp} {x y r : Nat} (h : floatBits op .f32 x y = some r) : fok op .f32 x y = true ∧ fop op .f32 x y = r := by
  unfold fok fop
  rw [h]
  exact ⟨rfl, rfl⟩
end Go.Proofs.YtnnemdjbopdjmaaDoor.PI
end
section
set_option linter.unusedVariables false
set_option linter.unusedSimpArgs false
namespace Go.Proofs.YtnnemdjbopdjmaaDoor.PF
open Go.RowKit Go.Proofs.YtnnemdjbopdjmaaDoor Go.Proofs.YtnnemdjbopdjmaaDoorW.PrintWords
open Go.Proofs.YtnnemdjbopdjmaaDoor.PI (Zd Zr nearest_shift cut_zero' opp_Z)
theorem f64s : FloatKind.f64.format.signWeight = 9223372036854775808 := by decide
theorem f64i : FloatKind.f64.format.infRung = 9218868437227405312 := by decide
theorem f64b : FloatKind.f64.format.binade = 4503599627370496 := by decide
theorem f64l : FloatKind.f64.format.leastPlace = -1074 := by decide
theorem f64f : FloatKind.f64.format.fractionBits = 52 := by decide
theorem read_word64 (neg : Bool) (r : Nat) (h : r < 9218868437227405312) : FloatKind.f64.format.read (FloatKind.f64.format.word neg r) = if r < 4503599627370496 then .number neg r (-1074) else .number neg (4503599627370496 + r % 4503599627370496) (-1074 + ((r / 4503599627370496 - 1 : Nat) : Int)) := by
  unfold Ieee.Format.read Ieee.Format.word
  simp only [f64s, f64i, f64b, f64l]
  have e : (if neg = true then 9223372036854775808 + r else r) % 9223372036854775808 = r := by cases neg <;> simp <;> omega
  have e2 : ((if neg = true then 9223372036854775808 + r else r) / 9223372036854775808 % 2 == 1) = neg := by
    cases neg
    · have : r / 9223372036854775808 = 0 := Nat.div_eq_of_lt (by omega)
      simp [this]
    · have : (9223372036854775808 + r) / 9223372036854775808 = 1 := by omega
      simp [this]
  simp only [e, e2]
  split
  · rfl
  · first | rfl | rw [if_pos h]
def Zr64 (x : Nat) (n : Int) : Prop := Zd (FloatKind.f64.format.read x) n
theorem int_near64 (n : Int) : floatOfInt .f64 n = FloatKind.f64.format.nearest (decide (n < 0)) n.natAbs 0 := rfl
end Go.Proofs.YtnnemdjbopdjmaaDoor.PF
end
section
set_option linter.unusedVariables false
set_option linter.unusedSimpArgs false
namespace Go.Proofs.YtnnemdjbopdjmaaDoor.PG
open Go.RowKit Go.Proofs.YtnnemdjbopdjmaaDoor Go.Proofs.YtnnemdjbopdjmaaDoorW.PrintWords
open Go.Proofs.YtnnemdjbopdjmaaDoor.PI (Zd Zr nearest_shift cut_zero' opp_Z)
open Go.Proofs.YtnnemdjbopdjmaaDoor.PF (Zr64)
theorem near64 (s : Bool) {m : Nat} (p : Int) (h0 : m ≠ 0) (h : m < 9007199254740992) (h1 : -900 ≤ p) (h2 : p ≤ 900) : FloatKind.f64.format.read (FloatKind.f64.format.nearest s m p) = .number s (m * 2 ^ (52 - m.log2)) (p - ((52 - m.log2 : Nat) : Int)) := by
  have hL : m.log2 < 53 := (Nat.log2_lt h0).2 (by simpa using h)
  unfold Ieee.Format.nearest
  rw [if_neg h0]
  simp only [PF.f64f, PF.f64l, PF.f64b, PF.f64i]
  have e1 : max (p + (m.log2 : Int) - ((52 : Nat) : Int)) (-1074) = p + (m.log2 : Int) - 52 := by omega
  rw [e1]
  have e2 : (p - (p + (m.log2 : Int) - 52)).toNat = 52 - m.log2 := by omega
  have e3 : (p + (m.log2 : Int) - 52 - p).toNat = 0 := by omega
  rw [e2, e3, cut_zero', Nat.shiftLeft_eq]
  have k1 : 4503599627370496 ≤ m * 2 ^ (52 - m.log2) := by
    have := Nat.mul_le_mul_right (2 ^ (52 - m.log2)) (Nat.log2_self_le h0)
    rw [← Nat.pow_add, show m.log2 + (52 - m.log2) = 52 by omega] at this
    simpa using this
  have k2 : m * 2 ^ (52 - m.log2) < 9007199254740992 := by
    have := Nat.mul_lt_mul_of_pos_right (@Nat.lt_log2_self m) (Nat.two_pow_pos (52 - m.log2))
    rw [← Nat.pow_add, show m.log2 + 1 + (52 - m.log2) = 53 by omega] at this
    simpa using this
  generalize m * 2 ^ (52 - m.log2) = K at k1 k2
  obtain ⟨q, hq⟩ : ∃ q : Nat, p + (m.log2 : Int) - 52 - -1074 = (q : Int) := ⟨(p + (m.log2 : Int) - 52 - -1074).toNat, by omega⟩
  rw [hq, Int.toNat_natCast]
  rw [Nat.min_eq_left (by omega), PF.read_word64 s _ (by omega), if_neg (by omega)]
  have e5 : 4503599627370496 + (q * 4503599627370496 + K) % 4503599627370496 = K := by omega
  have e6 : -1074 + (((q * 4503599627370496 + K) / 4503599627370496 - 1 : Nat) : Int) = p - ((52 - m.log2 : Nat) : Int) := by omega
  rw [e5, e6]
theorem split32 (x : Nat) (h : x < 4294967296) : x = FloatKind.f32.format.word (x / 2147483648 % 2 == 1) (x % 2147483648) := by
  unfold Ieee.Format.word
  rw [PI.f32s]
  have : x / 2147483648 = 0 ∨ x / 2147483648 = 1 := by omega
  rcases this with c | c
  · rw [c]
    simp
    omega
  · rw [c]
    simp
    omega
theorem write_read (x : Nat) (h : x < 4294967296) (hn : XF.isn .f32 x = false) : FloatKind.f32.format.write (FloatKind.f32.format.read x) = x := by
  have hs := split32 x h
  unfold XF.isn at hn
  generalize hd : FloatKind.f32.format.read x = d at hn
  unfold Ieee.Format.read at hd
  simp only [PI.f32s, PI.f32b, PI.f32i, PI.f32l] at hd
  generalize (x / 2147483648 % 2 == 1) = s at hd hs
  have hr : x % 2147483648 < 2147483648 := Nat.mod_lt _ (by decide)
  generalize x % 2147483648 = r at hd hs hr
  rw [hs]
  split at hd
  · rename_i c
    subst hd
    show FloatKind.f32.format.nearest s r (-149) = _
    unfold Ieee.Format.nearest
    by_cases h0 : r = 0
    · rw [if_pos h0, h0]
    · have hL : r.log2 < 23 := (Nat.log2_lt h0).2 (by simpa using c)
      rw [if_neg h0]
      simp only [PI.f32f, PI.f32l, PI.f32b, PI.f32i]
      have e1 : max (-149 + (r.log2 : Int) - ((23 : Nat) : Int)) (-149) = -149 := by omega
      rw [e1]
      simp only [Int.sub_self, Int.toNat_zero, Nat.shiftLeft_zero, cut_zero', Nat.zero_mul, Nat.zero_add]
      rw [Nat.min_eq_left (by omega)]
  · rename_i c
    split at hd
    · rename_i c2
      subst hd
      show FloatKind.f32.format.nearest s (8388608 + r % 8388608) (-149 + ((r / 8388608 - 1 : Nat) : Int)) = _
      have hm : r % 8388608 < 8388608 := Nat.mod_lt _ (by decide)
      have h0 : 8388608 + r % 8388608 ≠ 0 := by omega
      have hL : (8388608 + r % 8388608).log2 = 23 := by
        have a : (8388608 + r % 8388608).log2 < 24 := (Nat.log2_lt h0).2 (by have : (2 : Nat) ^ 24 = 16777216 := by decide
                                                                             omega)
        have b : 23 ≤ (8388608 + r % 8388608).log2 := (Nat.le_log2 h0).2 (by have : (2 : Nat) ^ 23 = 8388608 := by decide
                                                                             omega)
        omega
      unfold Ieee.Format.nearest
      rw [if_neg h0]
      simp only [PI.f32f, PI.f32l, PI.f32b, PI.f32i, hL]
      have e1 : max (-149 + ((r / 8388608 - 1 : Nat) : Int) + ((23 : Nat) : Int) - ((23 : Nat) : Int)) (-149) = -149 + ((r / 8388608 - 1 : Nat) : Int) := by omega
      rw [e1]
      have e2 : (-149 + ((r / 8388608 - 1 : Nat) : Int) - -149).toNat = r / 8388608 - 1 := by omega
      simp only [Int.sub_self, Int.toNat_zero, Nat.shiftLeft_zero, cut_zero', e2]
      rw [Nat.min_eq_left (by omega)]
      congr 1
      omega
    · split at hd
      · rename_i c3
        subst hd
        show FloatKind.f32.format.word s FloatKind.f32.format.infRung = _
        rw [PI.f32i, c3]
      · subst hd
        cases hn
theorem ne_kind : ¬ (FloatKind.f32 = FloatKind.f64) := by decide
theorem ne_kind' : ¬ (FloatKind.f64 = FloatKind.f32) := by decide
theorem wide_num {x : Nat} {s : Bool} {m : Nat} {e : Int} (hx : FloatKind.f32.format.read x = .number s m e) : ∃ b k : Nat, floatToFloatBits .f32 x .f64 = some b ∧ FloatKind.f64.format.read b = .number s (m * 2 ^ k) (e - (k : Int)) ∨ (m = 0 ∧ floatToFloatBits .f32 x .f64 = some b ∧ FloatKind.f64.format.read b = .number s 0 (-1074)) := by
  obtain ⟨hm, he1, he2⟩ : m < 16777216 ∧ -149 ≤ e ∧ e ≤ 104 := by
    rcases XF.read32 x with ⟨s', m', e', h1, h2, h3, h4⟩ | ⟨s', h1⟩ | ⟨s', f', h1⟩
    · rw [hx] at h1
      cases h1
      exact ⟨h2, h3, h4⟩
    · rw [hx] at h1; cases h1
    · rw [hx] at h1; cases h1
  have hdec : FloatKind.f32.decode x = .number s m e := hx
  by_cases h0 : m = 0
  · refine ⟨FloatKind.f64.format.nearest s m e, 0, .inr ⟨h0, ?_, ?_⟩⟩
    · unfold floatToFloatBits
      rw [if_neg ne_kind, hdec]
      simp only
      rw [if_neg]
      · rfl
      · subst h0
        show ¬ ((FloatKind.f64.format.read (FloatKind.f64.format.nearest s 0 e)).isInfinity = true)
        unfold Ieee.Format.nearest
        rw [if_pos rfl]
        cases s <;> decide
    · subst h0
      unfold Ieee.Format.nearest
      rw [if_pos rfl]
      cases s <;> decide
  · have hr := near64 s e h0 (by omega : m < 9007199254740992) (by omega) (by omega)
    refine ⟨FloatKind.f64.format.nearest s m e, 52 - m.log2, .inl ⟨?_, hr⟩⟩
    unfold floatToFloatBits
    rw [if_neg ne_kind, hdec]
    simp only
    rw [if_neg]
    · rfl
    · show ¬ ((FloatKind.f64.format.read (FloatKind.f64.format.nearest s m e)).isInfinity = true)
      rw [hr]
      intro c
      cases c
theorem zero32 (s : Bool) (p : Int) : FloatKind.f32.format.nearest s 0 p = FloatKind.f32.format.word s 0 := by
  unfold Ieee.Format.nearest
  rw [if_pos rfl]
theorem back32 {x b : Nat} (h : x < 4294967296) (hn : XF.isn .f32 x = false) (hb : floatToFloatBits .f32 x .f64 = some b) : floatToFloatBits .f64 b .f32 = some x := by
  have hw := write_read x h hn
  rcases XF.read32 x with ⟨s, m, e, h1, h2, h3, h4⟩ | ⟨s, h1⟩ | ⟨s, f, h1⟩
  · obtain ⟨b', k, hh⟩ := wide_num h1
    rw [h1] at hw
    have hw' : FloatKind.f32.format.nearest s m e = x := hw
    have fin : ¬ ((FloatKind.f32.decode x).isInfinity = true) := by
      show ¬ ((FloatKind.f32.format.read x).isInfinity = true)
      rw [h1]
      intro c
      cases c
    rcases hh with ⟨g1, g2⟩ | ⟨g0, g1, g2⟩
    · obtain rfl := Option.some.inj (hb.symm.trans g1)
      have hdec : FloatKind.f64.decode b = .number s (m * 2 ^ k) (e - (k : Int)) := g2
      have henc : FloatKind.f32.encode (.number s (m * 2 ^ k) (e - (k : Int))) = x := by
        show FloatKind.f32.format.nearest s (m * 2 ^ k) (e - (k : Int)) = x
        rw [nearest_shift, show e - (k : Int) + (k : Int) = e by omega, hw']
      unfold floatToFloatBits
      rw [if_neg ne_kind', hdec]
      simp only [henc]
      rw [if_neg fin]
    · obtain rfl := Option.some.inj (hb.symm.trans g1)
      subst g0
      have hdec : FloatKind.f64.decode b = .number s 0 (-1074) := g2
      have henc : FloatKind.f32.encode (.number s 0 (-1074)) = x := by
        show FloatKind.f32.format.nearest s 0 (-1074) = x
        rw [zero32, ← hw', zero32]
      unfold floatToFloatBits
      rw [if_neg ne_kind', hdec]
      simp only [henc]
      rw [if_neg fin]
  · have hdec : FloatKind.f32.decode x = .infinity s := h1
    unfold floatToFloatBits at hb
    rw [if_neg ne_kind, hdec] at hb
    simp only [Option.some.injEq] at hb
    subst hb
    have hdec2 : FloatKind.f64.decode (FloatKind.f64.encode (.infinity s)) = .infinity s := by cases s <;> decide
    unfold floatToFloatBits
    rw [if_neg ne_kind', hdec2]
    simp only
    rw [h1] at hw
    exact congrArg some hw
  · unfold XF.isn at hn
    rw [h1] at hn
    cases hn
end Go.Proofs.YtnnemdjbopdjmaaDoor.PG
end
section
set_option linter.unusedVariables false
set_option linter.unusedSimpArgs false
namespace Go.Proofs.YtnnemdjbopdjmaaDoor
open Go.RowKit Go.Proofs.YtnnemdjbopdjmaaDoorW.PrintWords Go.Proofs.YtnnemdjbopdjmaaDoorW.PrintLast Go.Proofs.YtnnemdjbopdjmaaDoorW.PrintMore
attribute [local go_sem] max2_int min2_int max_two min_two max_three min_three max_four min_four
namespace XZ
open XF XL XW
def _root_.Go.fik (s : FloatKind) (x : Nat) (k : IntKind) : Bool := (floatToIntVal s x k).isSome
def _root_.Go.fiv (s : FloatKind) (x : Nat) (k : IntKind) : Int := (floatToIntVal s x k).getD 0
@[go_sem] theorem run_fiv {P : Program} (w : World) (src dst : TypeId) (s : FloatKind) (k : IntKind) (x : Nat) (hs : (P.underlying src).isSome = true) (hd : P.underlying dst = some (.int k)) (h : fik s x k = true) : (convert src dst (.float s x)).run P w = .ok (.int k (fiv s x k)) w := by
  refine run_convert_float_int w src dst s k x _ hs hd ?_
  unfold fik at h
  obtain ⟨r, hr⟩ := Option.isSome_iff_exists.1 h
  unfold fiv
  rw [hr]
  rfl
@[go_sem] theorem run_fneg {P : Program} (w : World) (k : FloatKind) (x : Nat) : (Op.unary .neg (.float k x)).run P w = .ok (.float k (Op.negFloat k x)) w := rfl
theorem csum {op : BinOp} {k : FloatKind} {a b c d : Nat} (h1 : fok op k a c = true) (h2 : fok op k b d = true) : cSumBits op k a b c d = some (fop op k a c, fop op k b d) := by
  unfold cSumBits
  rw [fop_some h1, fop_some h2]
  rfl
@[go_sem] theorem run_cadd {P : Program} (w : World) (t : TypeId) (k : FloatKind) (a b c d : Nat) (h1 : fok .add k a c = true) (h2 : fok .add k b d = true) : (binOp .add t (.complex k a b) (.complex k c d)).run P w = .ok (.complex k (fop .add k a c) (fop .add k b d)) w :=
  run_complex_sum w .add (.inl rfl) t k a b c d _ _ (csum h1 h2)
@[go_sem] theorem run_csub {P : Program} (w : World) (t : TypeId) (k : FloatKind) (a b c d : Nat) (h1 : fok .sub k a c = true) (h2 : fok .sub k b d = true) : (binOp .sub t (.complex k a b) (.complex k c d)).run P w = .ok (.complex k (fop .sub k a c) (fop .sub k b d)) w :=
  run_complex_sum w .sub (.inr rfl) t k a b c d _ _ (csum h1 h2)
def Nc (b c : Nat) : Prop := (isn .f64 b = true → isn .f32 c = true) ∧ ∀ r, floatToFloatBits .f64 b .f32 = some r → c = r
theorem run_narrow_nan {P : Program} (w : World) (src dst : TypeId) (b : Nat) (hs : (P.underlying src).isSome = true) (hd : P.underlying dst = some (.float .f32)) (h : isn .f64 b = true) :
    (convert src dst (.float .f64 b)).run P w = .ok (.float .f32 ((Question.nanConv .f32 b).cut (w.tape w.drawn (.nanConv .f32 b)))) w.drew := by
  obtain ⟨u, hs'⟩ := Option.isSome_iff_exists.1 hs
  unfold isn at h
  cases hx : FloatKind.f64.format.read b with
  | infinity s => rw [hx] at h; cases h
  | number s m e => rw [hx] at h; cases h
  | nan s f =>
    have hx' : FloatKind.f64.decode b = .nan s f := hx
    cases u <;> simp [convert, run_underlying hs', run_underlying hd, Conv.floatToFloat, hx', Question.forced]
theorem wpList_narrow {P : Program} {ops : Array Oper} {rest : List Oper} {o : Oper} {a : Act} {w : World} {Q : Exit → Act → World → Prop} (hgd : o.guard = none) (src dst : TypeId) (x : Operand) (ho : o.op = .convert src dst x)
    (hs : (P.underlying src).isSome = true) (hd : P.underlying dst = some (.float .f32)) (b : Nat) (hx : a.eval x = .float .f64 b) (hok : isn .f64 b = true ∨ ∃ r, floatToFloatBits .f64 b .f32 = some r)
    (h : ∀ c n, Nc b c → wpList P ops Q rest (a.put o.dst (.float .f32 c)) (w.drewN n)) : wpList P ops Q (o :: rest) a w := by
  refine wpList_plain hgd fun K hK => ?_
  have hr : ∃ c n, (convert src dst (.float .f64 b)).run P w = .ok (.float .f32 c) (w.drewN n) ∧ Nc b c := by
    rcases hok with hn | ⟨r, hr⟩
    · refine ⟨_, 1, run_narrow_nan w src dst b hs hd hn, fun _ => cut_nan32 _, fun r hr => ?_⟩
      exfalso
      unfold isn at hn
      unfold floatToFloatBits at hr
      rw [if_neg PG.ne_kind'] at hr
      cases hx : FloatKind.f64.format.read b with
      | infinity s => rw [hx] at hn; cases hn
      | number s m e => rw [hx] at hn; cases hn
      | nan s f =>
        have hx' : FloatKind.f64.decode b = .nan s f := hx
        rw [hx'] at hr
        cases hr
    · refine ⟨r, 0, run_convert_float_float w src dst .f64 .f32 b r hs hd hr, fun hn => ?_, fun r' hr' => Option.some.inj (hr.symm.trans hr')⟩
      exfalso
      unfold isn at hn
      unfold floatToFloatBits at hr
      rw [if_neg PG.ne_kind'] at hr
      cases hx : FloatKind.f64.format.read b with
      | infinity s => rw [hx] at hn; cases hn
      | number s m e => rw [hx] at hn; cases hn
      | nan s f =>
        have hx' : FloatKind.f64.decode b = .nan s f := hx
        rw [hx'] at hr
        cases hr
  obtain ⟨c, n, hr, hc⟩ := hr
  unfold Oper.wp execOp
  simp only [ho, Sem.run_bind, hx, hr, Result.andThen_ok, Sem.run_pure]
  exact hK _ _ (h c n hc)
def Nw (x c : Nat) : Prop := (isn .f32 x = true ∧ isn .f32 c = true) ∨ (isn .f32 x = false ∧ c = x)
theorem cv_ok {x b : Nat} (h : x < 4294967296) (hc : Cv x b) : isn .f64 b = true ∨ ∃ r, floatToFloatBits .f64 b .f32 = some r := by
  rcases hc with ⟨_, h2⟩ | ⟨h1, h2⟩
  · exact .inl h2
  · exact .inr ⟨x, PG.back32 h h1 h2⟩
theorem nw_of {x b c : Nat} (h : x < 4294967296) (hc : Cv x b) (hn : Nc b c) : Nw x c := by
  rcases hc with ⟨h1, h2⟩ | ⟨h1, h2⟩
  · exact .inl ⟨h1, hn.1 h2⟩
  · exact .inr ⟨h1, hn.2 x (PG.back32 h h1 h2)⟩
end XZ
end Go.Proofs.YtnnemdjbopdjmaaDoor
end
section
set_option linter.unusedVariables false
set_option linter.unusedSimpArgs false
namespace Go.Proofs.YtnnemdjbopdjmaaDoor
open Go.RowKit Go.Proofs.YtnnemdjbopdjmaaDoorW.PrintWords Go.Proofs.YtnnemdjbopdjmaaDoorW.PrintLast Go.Proofs.YtnnemdjbopdjmaaDoorW.PrintMore
attribute [local go_sem] max2_int min2_int max_two min_two max_three min_three max_four min_four
namespace XE
open XF XL XM XW
def E (k : FloatKind) (x b : Nat) : Prop := b = x ∨ (isn k x = true ∧ isn k b = true)
theorem E.refl (k : FloatKind) (x : Nat) : E k x x := .inl rfl
def qn : FloatKind → Nat
  | .f32 => 2143289344
  | .f64 => 9221120237041090560
theorem isn_q (k : FloatKind) : isn k (qn k) = true := by cases k <;> decide
def ar (op : BinOp) (k : FloatKind) (x y : Nat) : Nat := (floatBits op k x y).getD (qn k)
theorem read_nan {k : FloatKind} {x : Nat} (h : isn k x = true) : ∃ s f, k.format.read x = .nan s f := by
  unfold isn at h
  cases hx : k.format.read x with
  | nan s f => exact ⟨s, f, rfl⟩
  | infinity s => rw [hx] at h; cases h
  | number s m e => rw [hx] at h; cases h
theorem fb_l {op : BinOp} {k : FloatKind} {x y : Nat} (h : isn k x = true) : floatBits op k x y = none := by
  obtain ⟨s, f, hx⟩ := read_nan h
  cases op <;> (first | rfl | (unfold floatBits; simp only [Ieee.Format.add, Ieee.Format.sub, Ieee.Format.mul, Ieee.Format.div, hx]; cases k.format.read y <;> rfl))
theorem fb_r {op : BinOp} {k : FloatKind} {x y : Nat} (h : isn k y = true) : floatBits op k x y = none := by
  obtain ⟨s, f, hx⟩ := read_nan h
  cases op <;> (first | rfl | (unfold floatBits; simp only [Ieee.Format.add, Ieee.Format.sub, Ieee.Format.mul, Ieee.Format.div, hx]; cases k.format.read x <;> rfl))
theorem run_ar {P : Program} (w : World) (op : BinOp) (hop : arith op) (t : TypeId) {k : FloatKind} {x y a b : Nat} (hx : E k x a) (hy : E k y b) : ∃ c n, (binOp op t (.float k a) (.float k b)).run P w = .ok (.float k c) (w.drewN n) ∧ E k (ar op k x y) c := by
  unfold ar
  cases hf : floatBits op k a b with
  | some r =>
    have h1 : a = x := by
      rcases hx with h | h
      · exact h
      · rw [fb_l h.2] at hf
        cases hf
    have h2 : b = y := by
      rcases hy with h | h
      · exact h
      · rw [fb_r h.2] at hf
        cases hf
    subst h1 h2
    refine ⟨r, 0, ?_, ?_⟩
    · rcases hop with rfl | rfl | rfl | rfl <;> exact run_float_arith w _ t k _ _ _ hf
    · rw [hf]
      exact E.refl _ _
  | none =>
    refine ⟨_, 1, run_arith_none w op hop t k a b hf, ?_⟩
    have h : floatBits op k x y = none := by
      rcases hx with rfl | h
      · rcases hy with rfl | h2
        · exact hf
        · exact fb_r h2.1
      · exact fb_l h.1
    rw [h]
    exact .inr ⟨isn_q k, nanv_isn _ _ _ _⟩
theorem arA : arith .add := .inl rfl
theorem arS : arith .sub := .inr (.inl rfl)
theorem arM : arith .mul := .inr (.inr (.inl rfl))
theorem arQ : arith .quo := .inr (.inr (.inr rfl))
theorem wpList_ar {P : Program} {ops : Array Oper} {rest : List Oper} {o : Oper} {a : Act} {w : World} {Q : Exit → Act → World → Prop} (hgd : o.guard = none) (op : BinOp) (tx ty : TypeId) (u v : Operand) (ho : o.op = .binOp op tx u v ty) (hop : arith op) {k : FloatKind} (b c : Nat) (hu : a.eval u = .float k b) (hv : a.eval v = .float k c) {x y : Nat} (hx : E k x b) (hy : E k y c)
    (h : ∀ d n, E k (ar op k x y) d → wpList P ops Q rest (a.put o.dst (.float k d)) (w.drewN n)) : wpList P ops Q (o :: rest) a w := by
  refine wpList_plain hgd fun K hK => ?_
  obtain ⟨d, n, hr, hc⟩ := run_ar (P := P) w op hop tx hx hy
  have hg : ∀ p q : Value, (eqGuard op tx u v p q).run P w = .ok () w := by
    intro p q
    rcases hop with rfl | rfl | rfl | rfl <;> rfl
  unfold Oper.wp execOp
  simp only [ho, Sem.run_bind, hu, hv, hg, hr, Result.andThen_ok, Sem.run_pure]
  exact hK _ _ (h d n hc)
def sq (x : Nat) : Nat := (FloatKind.f64.format.sqrt x).getD (qn .f64)
theorem sqrt_nan {x : Nat} (h : isn .f64 x = true) : FloatKind.f64.format.sqrt x = none := by
  obtain ⟨s, f, hx⟩ := read_nan h
  unfold Ieee.Format.sqrt
  rw [hx]
  rfl
theorem run_sqrtE (P : Program) (w : World) {x a : Nat} (hx : E .f64 x a) : ∃ c n, (Extern.MathSqrt.sqrt #[.float .f64 a]).run P w = .ok (.float .f64 c) (w.drewN n) ∧ E .f64 (sq x) c := by
  unfold sq
  cases hf : FloatKind.f64.format.sqrt a with
  | some r =>
    have h1 : a = x := by
      rcases hx with h | h
      · exact h
      · rw [sqrt_nan h.2] at hf
        cases hf
    subst h1
    refine ⟨r, 0, XR.run_sqrt P w a r hf, ?_⟩
    rw [hf]
    exact E.refl _ _
  | none =>
    have h : FloatKind.f64.format.sqrt x = none := by
      rcases hx with rfl | h
      · exact hf
      · exact sqrt_nan h.1
    refine ⟨nanv .f64 a a (w.tape w.drawn (.nanBits .f64 a a)), 1, ?_, ?_⟩
    · have key : ∀ o : Option Nat, o = none → (match o with | some r => (pure (Value.float .f64 r) : Sem Value) | none => do pure (Value.float .f64 (← choose (.nanBits .f64 a a)))).run P w = .ok (.float .f64 (nanv .f64 a a (w.tape w.drawn (.nanBits .f64 a a)))) (w.drewN 1) := by
        intro o ho
        subst ho
        show Sem.run P _ w = .ok _ w.drew
        simp [nanv, Question.forced]
      exact key _ hf
    · rw [h]
      exact .inr ⟨isn_q _, nanv_isn _ _ _ _⟩
set_option maxHeartbeats 4000000 in
set_option maxRecDepth 100000 in
theorem Sqrt.calls (x a : Nat) (hx : E .f64 x a) (w : World) : Calls Tryd.prog 80 #[.float .f64 a] w fun e w' => ∃ c, e = .returned (.float .f64 c) ∧ E .f64 (sq x) c ∧ Drawn0 w w' := by
  obtain ⟨c, n, hr, hc⟩ := run_sqrtE Tryd.prog w hx
  go_enter Tryd.func80, Tryd.ntmps80
  go_wp2
  rw [run_callFunc_extern Tryd.func107 (by kernel_rfl) (by kernel_rfl) (by kernel_rfl) (e := Extern.MathSqrt.sqrt) (by kernel_rfl)]
  rw [hr]
  simp only [Result.andThen]
  rw [Oper.upon_value]
  go_wp2
  go_ret
  exact ⟨c, rfl, hc, ⟨_, rfl⟩⟩
def cn (x : Nat) : Nat := (floatToFloatBits .f64 x .f32).getD (qn .f32)
theorem nan_cn {b : Nat} (hn : isn .f64 b = true) : floatToFloatBits .f64 b .f32 = none := by
  unfold isn at hn
  unfold floatToFloatBits
  rw [if_neg PG.ne_kind']
  cases hx : FloatKind.f64.format.read b with
  | infinity s => rw [hx] at hn; cases hn
  | number s m e => rw [hx] at hn; cases hn
  | nan s f =>
    have hx' : FloatKind.f64.decode b = .nan s f := hx
    rw [hx']
theorem wpList_cn {P : Program} {ops : Array Oper} {rest : List Oper} {o : Oper} {a : Act} {w : World} {Q : Exit → Act → World → Prop} (hgd : o.guard = none) (src dst : TypeId) (x : Operand) (ho : o.op = .convert src dst x)
    (hs : (P.underlying src).isSome = true) (hd : P.underlying dst = some (.float .f32)) (b : Nat) (hx : a.eval x = .float .f64 b) {v : Nat} (hE : E .f64 v b) (hok : isn .f64 v = true ∨ ∃ r, floatToFloatBits .f64 v .f32 = some r)
    (h : ∀ c n, E .f32 (cn v) c → wpList P ops Q rest (a.put o.dst (.float .f32 c)) (w.drewN n)) : wpList P ops Q (o :: rest) a w := by
  have hok2 : isn .f64 b = true ∨ ∃ r, floatToFloatBits .f64 b .f32 = some r := by
    rcases hE with rfl | h2
    · exact hok
    · exact .inl h2.2
  refine XZ.wpList_narrow hgd src dst x ho hs hd b hx hok2 fun c n hc => h c n ?_
  unfold cn
  rcases hE with rfl | h2
  · cases hf : floatToFloatBits .f64 b .f32 with
    | some r =>
      rw [hc.2 r hf]
      exact E.refl _ _
    | none =>
      rcases hok with hn | ⟨r, hr⟩
      · exact .inr ⟨isn_q _, hc.1 hn⟩
      · rw [hf] at hr
        cases hr
  · rw [nan_cn h2.1]
    exact .inr ⟨isn_q _, hc.1 h2.2⟩
theorem bits_E {x a : Nat} (hx : E .f32 x a) : XL.bits a = XL.bits x := by
  rcases hx with rfl | h
  · rfl
  · unfold XL.bits
    rw [h.1, h.2, if_pos rfl, if_pos rfl]
theorem xor_low (x k : Nat) : (x ^^^ 2 ^ k) % 2 ^ k = x % 2 ^ k := by
  refine Nat.eq_of_testBit_eq fun i => ?_
  rw [Nat.testBit_mod_two_pow, Nat.testBit_mod_two_pow, Nat.testBit_xor, Nat.testBit_two_pow]
  by_cases h : i < k
  · simp [h, show ¬ k = i by omega]
  · simp [h]
theorem isn_low (f : Ieee.Format) (x y : Nat) (h : x % f.signWeight = y % f.signWeight) : (f.read x).isNaN = (f.read y).isNaN := by
  unfold Ieee.Format.read
  simp only [h]
  split
  · rfl
  · split
    · rfl
    · split <;> rfl
theorem neg_nan {x : Nat} (h : isn .f64 x = true) : isn .f64 (Op.negFloat .f64 x) = true := by
  have e : (Op.negFloat .f64 x) % FloatKind.f64.format.signWeight = x % FloatKind.f64.format.signWeight := xor_low x _
  exact (isn_low _ _ _ e).trans h
theorem neg_E {x a : Nat} (hx : E .f64 x a) : E .f64 (Op.negFloat .f64 x) (Op.negFloat .f64 a) := by
  rcases hx with rfl | h
  · exact E.refl _ _
  · exact .inr ⟨neg_nan h.1, neg_nan h.2⟩
end XE
end Go.Proofs.YtnnemdjbopdjmaaDoor
end
section
namespace Go.Proofs.YtnnemdjbopdjmaaDoor.XN
open Go
theorem f64s : FloatKind.f64.format.signWeight = 9223372036854775808 := by decide
theorem f64i : FloatKind.f64.format.infRung = 9218868437227405312 := by decide
theorem f64b : FloatKind.f64.format.binade = 4503599627370496 := by decide
theorem f64l : FloatKind.f64.format.leastPlace = -1074 := by decide
theorem f64f : FloatKind.f64.format.fractionBits = 52 := by decide
theorem f32s : FloatKind.f32.format.signWeight = 2147483648 := by decide
theorem f32i : FloatKind.f32.format.infRung = 2139095040 := by decide
theorem f32b : FloatKind.f32.format.binade = 8388608 := by decide
theorem f32l : FloatKind.f32.format.leastPlace = -149 := by decide
theorem f32f : FloatKind.f32.format.fractionBits = 23 := by decide
def Is (neg : Bool) (d : Ieee.Datum) : Prop := (∃ m e, d = .number neg m e) ∨ d = .infinity neg
theorem read_word32 (neg : Bool) (r : Nat) (h : r ≤ 2139095040) : Is neg (FloatKind.f32.format.read (FloatKind.f32.format.word neg r)) := by
  unfold Ieee.Format.read Ieee.Format.word
  simp only [f32s, f32i, f32b, f32l]
  have e : (if neg = true then 2147483648 + r else r) % 2147483648 = r := by cases neg <;> simp <;> omega
  have e2 : ((if neg = true then 2147483648 + r else r) / 2147483648 % 2 == 1) = neg := by
    cases neg
    · have : r / 2147483648 = 0 := Nat.div_eq_of_lt (by omega)
      simp [this]
    · have : (2147483648 + r) / 2147483648 = 1 := by omega
      simp [this]
  simp only [e, e2]
  split
  · exact .inl ⟨_, _, rfl⟩
  · split
    · exact .inl ⟨_, _, rfl⟩
    · split
      · exact .inr rfl
      · omega
theorem read_word64 (neg : Bool) (r : Nat) (h : r ≤ 9218868437227405312) : Is neg (FloatKind.f64.format.read (FloatKind.f64.format.word neg r)) := by
  unfold Ieee.Format.read Ieee.Format.word
  simp only [f64s, f64i, f64b, f64l]
  have e : (if neg = true then 9223372036854775808 + r else r) % 9223372036854775808 = r := by cases neg <;> simp <;> omega
  have e2 : ((if neg = true then 9223372036854775808 + r else r) / 9223372036854775808 % 2 == 1) = neg := by
    cases neg
    · have : r / 9223372036854775808 = 0 := Nat.div_eq_of_lt (by omega)
      simp [this]
    · have : (9223372036854775808 + r) / 9223372036854775808 = 1 := by omega
      simp [this]
  simp only [e, e2]
  split
  · exact .inl ⟨_, _, rfl⟩
  · split
    · exact .inl ⟨_, _, rfl⟩
    · split
      · exact .inr rfl
      · omega
theorem near32 (neg : Bool) (m : Nat) (e : Int) : Is neg (FloatKind.f32.format.read (FloatKind.f32.format.nearest neg m e)) := by
  unfold Ieee.Format.nearest
  split
  · exact read_word32 neg 0 (by decide)
  · refine read_word32 neg _ ?_
    rw [f32i]
    exact Nat.min_le_right _ _
theorem write32 {neg : Bool} {d : Ieee.Datum} (h : Is neg d) : Is neg (FloatKind.f32.format.read (FloatKind.f32.format.write d)) := by
  rcases h with ⟨m, e, rfl⟩ | rfl
  · exact near32 neg m e
  · exact read_word32 neg _ (by rw [f32i]; exact Nat.le_refl _)
theorem cut_le (neg : Bool) (n drop : Nat) : Ieee.Toward.even.cut neg n drop ≤ n / 2 ^ drop + 1 := by
  unfold Ieee.Toward.cut
  simp only [Nat.one_shiftLeft]
  have hm (b : Bool) : b.toNat ≤ 1 := by cases b <;> decide
  refine Nat.add_le_add ?_ (hm _)
  by_cases h : drop ≤ n.log2 + 2
  · rw [Nat.min_eq_left h]
    exact Nat.le_refl _
  · rw [Nat.min_eq_right (by omega)]
    have : n < 2 ^ (n.log2 + 2) := Nat.lt_trans Nat.lt_log2_self (Nat.pow_lt_pow_right (by decide) (by omega))
    rw [Nat.div_eq_of_lt this]
    exact Nat.zero_le _
theorem kept_le (neg : Bool) (mag : Nat) (place last : Int) (F : Nat) (h : place + (mag.log2 : Int) - F ≤ last) :
    Ieee.Toward.even.cut neg (mag <<< (place - last).toNat) (last - place).toNat ≤ 2 ^ (F + 1) := by
  refine Nat.le_trans (cut_le _ _ _) ?_
  have hl : mag < 2 ^ (mag.log2 + 1) := Nat.lt_log2_self
  generalize mag.log2 = L at h hl
  rw [Nat.shiftLeft_eq]
  have : mag * 2 ^ (place - last).toNat < 2 ^ (last - place).toNat * 2 ^ (F + 1) := by
    calc mag * 2 ^ (place - last).toNat < 2 ^ (L + 1) * 2 ^ (place - last).toNat := Nat.mul_lt_mul_of_pos_right hl (Nat.two_pow_pos _)
      _ = 2 ^ (L + 1 + (place - last).toNat) := (Nat.pow_add _ _ _).symm
      _ ≤ 2 ^ ((last - place).toNat + (F + 1)) := Nat.pow_le_pow_right (by decide) (by omega)
      _ = 2 ^ (last - place).toNat * 2 ^ (F + 1) := by rw [Nat.pow_add]
  have := Nat.div_lt_of_lt_mul this
  omega
theorem near64 (neg : Bool) (m : Nat) (e X : Int) (h : m ≠ 0 → (m.log2 : Int) + e ≤ X) (h0 : -1000 ≤ X) (h1 : X ≤ 200) :
    ∃ m' e', FloatKind.f64.format.read (FloatKind.f64.format.nearest neg m e) = .number neg m' e' ∧ m' < 9007199254740992 ∧ e' ≤ X - 50 := by
  have key : ∀ r : Nat, r ≤ (X + 1024).toNat * 4503599627370496 → ∃ m' e', FloatKind.f64.format.read (FloatKind.f64.format.word neg r) = .number neg m' e' ∧ m' < 9007199254740992 ∧ e' ≤ X - 50 := by
    intro r hr
    unfold Ieee.Format.read Ieee.Format.word
    simp only [f64s, f64i, f64b, f64l]
    have hr2 : r < 9218868437227405312 := by omega
    have e1 : (if neg = true then 9223372036854775808 + r else r) % 9223372036854775808 = r := by cases neg <;> simp <;> omega
    have e2 : ((if neg = true then 9223372036854775808 + r else r) / 9223372036854775808 % 2 == 1) = neg := by
      cases neg
      · have : r / 9223372036854775808 = 0 := Nat.div_eq_of_lt (by omega)
        simp [this]
      · have : (9223372036854775808 + r) / 9223372036854775808 = 1 := by omega
        simp [this]
    simp only [e1, e2]
    split
    · exact ⟨_, _, rfl, by omega, by omega⟩
    · exact ⟨_, _, rfl, by omega, by omega⟩
  unfold Ieee.Format.nearest
  split
  · exact key 0 (Nat.zero_le _)
  · rename_i hm
    have hX := h hm
    refine key _ (Nat.le_trans (Nat.min_le_left _ _) ?_)
    have hk := kept_le neg m e (max (e + (m.log2 : Int) - (FloatKind.f64.format.fractionBits : Nat)) FloatKind.f64.format.leastPlace) FloatKind.f64.format.fractionBits (Int.le_max_left _ _)
    simp only [f64b, f64l, f64f] at hk ⊢
    generalize Ieee.Toward.even.cut neg _ _ = K at hk ⊢
    have : (2 : Nat) ^ (52 + 1) = 9007199254740992 := by decide
    omega
theorem near32n (neg : Bool) (m : Nat) (e : Int) (h : m ≠ 0 → (m.log2 : Int) + e ≤ 100) : ∃ m' e', FloatKind.f32.format.read (FloatKind.f32.format.nearest neg m e) = .number neg m' e' := by
  have key : ∀ r : Nat, r ≤ 2000000000 → ∃ m' e', FloatKind.f32.format.read (FloatKind.f32.format.word neg r) = .number neg m' e' := by
    intro r hr
    unfold Ieee.Format.read Ieee.Format.word
    simp only [f32s, f32i, f32b, f32l]
    have e1 : (if neg = true then 2147483648 + r else r) % 2147483648 = r := by cases neg <;> simp <;> omega
    have e2 : ((if neg = true then 2147483648 + r else r) / 2147483648 % 2 == 1) = neg := by
      cases neg
      · have : r / 2147483648 = 0 := Nat.div_eq_of_lt (by omega)
        simp [this]
      · have : (2147483648 + r) / 2147483648 = 1 := by omega
        simp [this]
    simp only [e1, e2]
    split
    · exact ⟨_, _, rfl⟩
    · rw [if_pos (by omega)]
      exact ⟨_, _, rfl⟩
  unfold Ieee.Format.nearest
  split
  · exact key 0 (Nat.zero_le _)
  · rename_i hm
    have hX := h hm
    refine key _ (Nat.le_trans (Nat.min_le_left _ _) ?_)
    have hk := kept_le neg m e (max (e + (m.log2 : Int) - (FloatKind.f32.format.fractionBits : Nat)) FloatKind.f32.format.leastPlace) FloatKind.f32.format.fractionBits (Int.le_max_left _ _)
    simp only [f32b, f32l, f32f] at hk ⊢
    generalize Ieee.Toward.even.cut neg _ _ = K at hk ⊢
    have : (2 : Nat) ^ (23 + 1) = 16777216 := by decide
    omega
theorem root_sq (n : Nat) : ∀ (todo root : Nat), root * root ≤ n → Ieee.Datum.rootFrom n todo root * Ieee.Datum.rootFrom n todo root ≤ n
  | 0, root, h => h
  | todo + 1, root, h => by
    unfold Ieee.Datum.rootFrom
    simp only
    split
    · rename_i h2
      exact root_sq n todo _ h2
    · exact root_sq n todo _ h
theorem sqrt64 (m : Nat) (i : Int) (hm : m < 9007199254740992) (hi : i ≤ 80) : ∃ m' e', (Ieee.Datum.root (FloatKind.f64.format.fractionBits + 2) (.number false m i)) = some (.number false m' e') ∧ (m' ≠ 0 → (m'.log2 : Int) + e' ≤ 72) := by
  unfold Ieee.Datum.root
  simp only
  by_cases h0 : m = 0
  · rw [if_pos h0]
    exact ⟨m, i, rfl, fun h => absurd h0 h⟩
  · rw [if_neg h0, if_neg (by decide)]
    refine ⟨_, _, rfl, ?_⟩
    intro hz0
    clear hz0
    have hL : m.log2 < 53 := (Nat.log2_lt h0).2 (by simpa using hm)
    have hlt : m < 2 ^ (m.log2 + 1) := Nat.lt_log2_self
    simp only [f64f]
    generalize m.log2 = L at hL hlt
    generalize hM : 2 * (52 + 2) - L + ((i - (2 * (52 + 2) - L : Nat)) % 2).toNat = M
    have hM1 : 55 ≤ M ∧ M + L ≤ 109 := by omega
    have hsq := root_sq (m <<< M) ((m <<< M).log2 / 2 + 1) 0 (by simp)
    generalize Ieee.Datum.rootFrom (m <<< M) ((m <<< M).log2 / 2 + 1) 0 = R at hsq ⊢
    have hn : m <<< M < 2 ^ 110 := by
      rw [Nat.shiftLeft_eq]
      calc m * 2 ^ M < 2 ^ (L + 1) * 2 ^ M := Nat.mul_lt_mul_of_pos_right hlt (Nat.two_pow_pos _)
        _ = 2 ^ (L + 1 + M) := (Nat.pow_add _ _ _).symm
        _ ≤ 2 ^ 110 := Nat.pow_le_pow_right (by decide) (by omega)
    have hR : R < 2 ^ 55 := by
      refine Nat.lt_of_not_le fun hge => ?_
      have := Nat.mul_le_mul hge hge
      have e : (2 : Nat) ^ 55 * 2 ^ 55 = 2 ^ 110 := by decide
      omega
    have hb (b : Bool) : b.toNat ≤ 1 := by cases b <;> decide
    have hmag : 2 * R + (R * R != m <<< M).toNat < 2 ^ 57 := by
      have := hb (R * R != m <<< M)
      have e : (2 : Nat) ^ 57 = 4 * 2 ^ 55 := by decide
      omega
    have hlog : (2 * R + (R * R != m <<< M).toNat).log2 < 57 := by
      by_cases hz : 2 * R + (R * R != m <<< M).toNat = 0
      · rw [hz]
        decide
      · exact (Nat.log2_lt hz).2 hmag
    omega
def Num (x : Nat) : Prop := ∃ s m e, FloatKind.f32.format.read x = .number s m e
theorem num_of_fin {x : Nat} (h : (match floatBits .sub .f32 x x with | some r => FloatKind.f32.format.order r 0 == some .eq | none => false) = true) : Num x := by
  unfold floatBits Ieee.Format.sub at h
  cases hr : FloatKind.f32.format.read x with
  | number s m e => exact ⟨s, m, e, hr⟩
  | infinity s =>
    rw [hr] at h
    cases s <;> simp [Ieee.Datum.opposite, Ieee.Datum.sum] at h
  | nan s f =>
    rw [hr] at h
    simp [Ieee.Datum.opposite, Ieee.Datum.sum] at h
theorem log_le {m k : Nat} (h0 : m ≠ 0) (h : m < 2 ^ k) : m.log2 < k := (Nat.log2_lt h0).2 h
theorem narrow_ok {b : Nat} (h : FloatKind.f64.format.read b = .infinity false ∨ ∃ m e, FloatKind.f64.format.read b = .number false m e ∧ m < 9007199254740992 ∧ e ≤ 22) :
    ∃ r, floatToFloatBits .f64 b .f32 = some r ∧ Is false (FloatKind.f32.format.read r) := by
  unfold floatToFloatBits FloatKind.decode FloatKind.encode
  rw [if_neg (by decide)]
  rcases h with h | ⟨m, e, h, hm, he⟩
  · rw [h]
    simp only
    exact ⟨_, rfl, write32 (.inr rfl)⟩
  · rw [h]
    simp only
    obtain ⟨m', e', h1⟩ := near32n false m e (fun h0 => by
      have := log_le (k := 53) h0 (by omega)
      omega)
    have hw : FloatKind.f32.format.write (.number false m e) = FloatKind.f32.format.nearest false m e := rfl
    rw [hw, h1, if_neg (by simp [Ieee.Datum.isInfinity])]
    exact ⟨_, rfl, near32 false m e⟩
end Go.Proofs.YtnnemdjbopdjmaaDoor.XN
end
section
set_option linter.unusedVariables false
set_option linter.unusedSimpArgs false
namespace Go.Proofs.YtnnemdjbopdjmaaDoor.PB
open Go.RowKit Go.Proofs.YtnnemdjbopdjmaaDoor Go.Proofs.YtnnemdjbopdjmaaDoorW.PrintWords
open XF XE
def Sz (V : Int) (m : Nat) (e : Int) : Prop := m ≠ 0 → (m.log2 : Int) + e < V
def Nu (V : Int) (d : Ieee.Datum) : Prop := ∃ s m e, d = .number s m e ∧ Sz V m e
def Bn (V : Int) (x : Nat) : Prop := isn .f64 x = true ∨ Nu V (FloatKind.f64.format.read x)
def Ge (x : Nat) : Prop := isn .f64 x = true ∨ ∃ s n j, FloatKind.f64.format.read x = .number s n j ∧ n ≠ 0 ∧ 0 ≤ (n.log2 : Int) + j
theorem Sz_mono {V W : Int} {m : Nat} {e : Int} (h : Sz V m e) (hw : V ≤ W) : Sz W m e := fun h0 => by have := h h0; omega
theorem Bn.mono {V W : Int} {x : Nat} (h : Bn V x) (hw : V ≤ W) : Bn W x := by
  rcases h with h | ⟨s, m, e, h1, h2⟩
  · exact .inl h
  · exact .inr ⟨s, m, e, h1, Sz_mono h2 hw⟩
theorem log_lt {m k : Nat} (h0 : m ≠ 0) (h : m < 2 ^ k) : m.log2 < k := (Nat.log2_lt h0).2 h
theorem log_ge {m k : Nat} (h : 2 ^ k ≤ m) : k ≤ m.log2 := by
  have : m ≠ 0 := by have := Nat.two_pow_pos k; omega
  exact (Nat.le_log2 this).2 h
theorem p52 : (2 : Nat) ^ 52 = 4503599627370496 := by decide
theorem read_rung (neg : Bool) (r : Nat) (h : r < 9218868437227405312) : FloatKind.f64.format.read (FloatKind.f64.format.word neg r) = if r < 4503599627370496 then .number neg r (-1074) else .number neg (4503599627370496 + r % 4503599627370496) (-1074 + (r / 4503599627370496 - 1 : Nat)) := PF.read_word64 neg r h
theorem near_up' (neg : Bool) (m : Nat) (e V : Int) (h : Sz V m e) (h0 : -900 ≤ V) (h1 : V ≤ 400) : ∃ m' e', FloatKind.f64.format.read (FloatKind.f64.format.nearest neg m e) = .number neg m' e' ∧ Sz (V + 1) m' e' := by
  have key : ∀ r : Nat, r ≤ (V + 1023).toNat * 4503599627370496 → ∃ m' e', FloatKind.f64.format.read (FloatKind.f64.format.word neg r) = .number neg m' e' ∧ Sz (V + 1) m' e' := by
    intro r hr
    rw [read_rung neg r (by omega)]
    split
    · refine ⟨_, _, rfl, fun hz => ?_⟩
      have := log_lt (k := 52) hz (by rw [p52]; assumption)
      omega
    · refine ⟨_, _, rfl, fun hz => ?_⟩
      have h53 : (2 : Nat) ^ 53 = 9007199254740992 := by decide
      have := log_lt (k := 53) hz (by rw [h53]; omega)
      omega
  unfold Ieee.Format.nearest
  split
  · exact key 0 (Nat.zero_le _)
  · rename_i hm
    have hX := h hm
    refine key _ (Nat.le_trans (Nat.min_le_left _ _) ?_)
    have hk := XN.kept_le neg m e (max (e + (m.log2 : Int) - (FloatKind.f64.format.fractionBits : Nat)) FloatKind.f64.format.leastPlace) FloatKind.f64.format.fractionBits (Int.le_max_left _ _)
    simp only [f64b, f64l, f64f] at hk ⊢
    generalize Ieee.Toward.even.cut neg _ _ = K at hk ⊢
    have : (2 : Nat) ^ (52 + 1) = 9007199254740992 := by decide
    omega
theorem near_up (neg : Bool) (m : Nat) (e V : Int) (h : Sz V m e) (h0 : -900 ≤ V) (h1 : V ≤ 400) : Nu (V + 1) (FloatKind.f64.format.read (FloatKind.f64.format.nearest neg m e)) := by
  obtain ⟨m', e', g1, g2⟩ := near_up' neg m e V h h0 h1
  exact ⟨_, _, _, g1, g2⟩
theorem cut_ge (neg : Bool) (n drop : Nat) : n / 2 ^ drop ≤ Ieee.Toward.even.cut neg n drop := by
  unfold Ieee.Toward.cut
  simp only [Nat.one_shiftLeft]
  refine Nat.le_trans ?_ (Nat.le_add_right _ _)
  exact Nat.div_le_div_left (Nat.pow_le_pow_right (by decide) (Nat.min_le_left _ _)) (Nat.two_pow_pos _)
theorem near_low (neg : Bool) (m : Nat) (e : Int) (hm : m ≠ 0) (h0 : 0 ≤ (m.log2 : Int) + e) (h1 : (m.log2 : Int) + e ≤ 300) : ∃ s n j, FloatKind.f64.format.read (FloatKind.f64.format.nearest neg m e) = .number s n j ∧ n ≠ 0 ∧ 0 ≤ (n.log2 : Int) + j := by
  have key : ∀ r : Nat, 1023 * 4503599627370496 ≤ r → r < 9218868437227405312 → ∃ s n j, FloatKind.f64.format.read (FloatKind.f64.format.word neg r) = .number s n j ∧ n ≠ 0 ∧ 0 ≤ (n.log2 : Int) + j := by
    intro r hr hr2
    rw [read_rung neg r hr2, if_neg (by omega)]
    refine ⟨_, _, _, rfl, by omega, ?_⟩
    have := log_ge (m := 4503599627370496 + r % 4503599627370496) (k := 52) (by rw [p52]; omega)
    omega
  unfold Ieee.Format.nearest
  rw [if_neg hm]
  have hk := XN.kept_le neg m e (max (e + (m.log2 : Int) - (FloatKind.f64.format.fractionBits : Nat)) FloatKind.f64.format.leastPlace) FloatKind.f64.format.fractionBits (Int.le_max_left _ _)
  have hlo : (2 : Nat) ^ 52 ≤ Ieee.Toward.even.cut neg (m <<< (e - max (e + (m.log2 : Int) - (FloatKind.f64.format.fractionBits : Nat)) FloatKind.f64.format.leastPlace).toNat) (max (e + (m.log2 : Int) - (FloatKind.f64.format.fractionBits : Nat)) FloatKind.f64.format.leastPlace - e).toNat := by
    refine Nat.le_trans ?_ (cut_ge _ _ _)
    have hl : 2 ^ m.log2 ≤ m := Nat.log2_self_le hm
    simp only [f64l, f64f]
    generalize m.log2 = L at hl h0 h1
    rw [Nat.le_div_iff_mul_le (Nat.two_pow_pos _), Nat.shiftLeft_eq]
    have : max (e + (L : Int) - ((52 : Nat) : Int)) (-1074) = e + L - 52 := by omega
    rw [this]
    calc 2 ^ 52 * 2 ^ (e + (L : Int) - 52 - e).toNat = 2 ^ (52 + (e + (L : Int) - 52 - e).toNat) := (Nat.pow_add _ _ _).symm
      _ ≤ 2 ^ (L + (e - (e + (L : Int) - 52)).toNat) := Nat.pow_le_pow_right (by decide) (by omega)
      _ = 2 ^ L * 2 ^ (e - (e + (L : Int) - 52)).toNat := Nat.pow_add _ _ _
      _ ≤ m * 2 ^ (e - (e + (L : Int) - 52)).toNat := Nat.mul_le_mul_right _ hl
  rw [p52] at hlo
  simp only [f64b, f64l, f64f, f64i] at hk hlo ⊢
  generalize Ieee.Toward.even.cut neg _ _ = K at hk hlo ⊢
  have h53 : (2 : Nat) ^ (52 + 1) = 9007199254740992 := by decide
  refine key _ ?_ ?_
  · omega
  · omega
theorem nan_of {op : BinOp} {x y : Nat} (h : floatBits op .f64 x y = none) : isn .f64 (ar op .f64 x y) = true := by
  unfold ar
  rw [h]
  exact isn_q _
theorem log_mul {m n : Nat} (hm : m ≠ 0) (hn : n ≠ 0) : (m * n).log2 ≤ m.log2 + n.log2 + 1 := by
  have h1 : m < 2 ^ (m.log2 + 1) := Nat.lt_log2_self
  have h2 : n < 2 ^ (n.log2 + 1) := Nat.lt_log2_self
  have h3 : m * n < 2 ^ (m.log2 + 1 + (n.log2 + 1)) := by
    rw [Nat.pow_add]
    exact Nat.mul_lt_mul'' h1 h2
  have := log_lt (Nat.mul_ne_zero hm hn) h3
  omega
theorem B_mul {V W : Int} {x y : Nat} (hx : Bn V x) (hy : Bn W y) (h0 : -900 ≤ V + W) (h1 : V + W ≤ 400) : Bn (V + W + 1) (ar .mul .f64 x y) := by
  rcases hx with hx | ⟨s, m, e, hx, hm⟩
  · exact .inl (nan_of (fb_l hx))
  rcases hy with hy | ⟨t, n, j, hy, hn⟩
  · exact .inl (nan_of (fb_r hy))
  right
  have e0 : ar .mul .f64 x y = FloatKind.f64.format.nearest (s ^^ t) (m * n) (e + j) := by
    have : floatBits .mul .f64 x y = ((FloatKind.f64.format.read x).product (FloatKind.f64.format.read y)).map FloatKind.f64.format.write := rfl
    unfold ar
    rw [this, hx, hy]
    rfl
  rw [e0]
  refine near_up _ _ _ _ (fun hz => ?_) h0 h1
  have m0 : m ≠ 0 := fun h => hz (by rw [h, Nat.zero_mul])
  have n0 : n ≠ 0 := fun h => hz (by rw [h, Nat.mul_zero])
  have := hm m0
  have := hn n0
  have := log_mul m0 n0
  omega
theorem sum_sz {V : Int} {m n : Nat} {e j : Int} (s t : Bool) (hm : Sz V m e) (hn : Sz V n j) : Sz (V + 1) (Ieee.signed s m (e - min e j).toNat + Ieee.signed t n (j - min e j).toNat).natAbs (min e j) := by
  intro hz
  have ha (s : Bool) (m k : Nat) : (Ieee.signed s m k).natAbs = m * 2 ^ k := by
    unfold Ieee.signed
    rw [Nat.shiftLeft_eq]
    cases s <;> simp [Int.natAbs_mul, Int.natAbs_pow]
  have h1 : (Ieee.signed s m (e - min e j).toNat + Ieee.signed t n (j - min e j).toNat).natAbs ≤ m * 2 ^ (e - min e j).toNat + n * 2 ^ (j - min e j).toNat := by
    have := Int.natAbs_add_le (Ieee.signed s m (e - min e j).toNat) (Ieee.signed t n (j - min e j).toNat)
    rw [ha, ha] at this
    exact this
  by_cases hV : V ≤ min e j
  · have m0 : m = 0 := by
      refine Classical.byContradiction fun h => ?_
      have := hm h
      omega
    have n0 : n = 0 := by
      refine Classical.byContradiction fun h => ?_
      have := hn h
      omega
    subst m0 n0
    simp only [Nat.zero_mul, Nat.add_zero, Nat.le_zero] at h1
    exact absurd h1 hz
  · have hb2 (m : Nat) (e c : Int) (hm : Sz V m e) (hc : c ≤ e) (hv : c ≤ V) : m * 2 ^ (e - c).toNat < 2 ^ (V - c).toNat + (if m = 0 then 1 else 0) := by
      by_cases h0 : m = 0
      · rw [h0, if_pos rfl, Nat.zero_mul]
        exact Nat.succ_pos _
      · rw [if_neg h0, Nat.add_zero]
        have hl := hm h0
        have hlt : m < 2 ^ (m.log2 + 1) := Nat.lt_log2_self
        calc m * 2 ^ (e - c).toNat < 2 ^ (m.log2 + 1) * 2 ^ (e - c).toNat := Nat.mul_lt_mul_of_pos_right hlt (Nat.two_pow_pos _)
          _ = 2 ^ (m.log2 + 1 + (e - c).toNat) := (Nat.pow_add _ _ _).symm
          _ ≤ 2 ^ (V - c).toNat := Nat.pow_le_pow_right (by decide) (by omega)
    have b1 := hb2 m e (min e j) hm (Int.min_le_left _ _) (by omega)
    have b2 := hb2 n j (min e j) hn (Int.min_le_right _ _) (by omega)
    generalize (Ieee.signed s m (e - min e j).toNat + Ieee.signed t n (j - min e j).toNat).natAbs = T at h1 hz
    have hT : T < 2 ^ ((V - min e j).toNat + 1) := by
      rw [Nat.pow_succ]
      by_cases m0 : m = 0
      · subst m0
        by_cases n0 : n = 0
        · subst n0
          omega
        · rw [if_neg n0] at b2
          rw [Nat.zero_mul] at h1
          omega
      · rw [if_neg m0] at b1
        by_cases n0 : n = 0
        · subst n0
          rw [Nat.zero_mul] at h1
          omega
        · rw [if_neg n0] at b2
          omega
    have := log_lt hz hT
    omega
theorem B_add {V : Int} {x y : Nat} (hx : Bn V x) (hy : Bn V y) (h0 : -900 ≤ V + 1) (h1 : V + 1 ≤ 400) : Bn (V + 2) (ar .add .f64 x y) := by
  rcases hx with hx | ⟨s, m, e, hx, hm⟩
  · exact .inl (nan_of (fb_l hx))
  rcases hy with hy | ⟨t, n, j, hy, hn⟩
  · exact .inl (nan_of (fb_r hy))
  right
  have e0 : ∃ b, ar .add .f64 x y = FloatKind.f64.format.nearest b (Ieee.signed s m (e - min e j).toNat + Ieee.signed t n (j - min e j).toNat).natAbs (min e j) := by
    have : floatBits .add .f64 x y = ((FloatKind.f64.format.read x).sum (FloatKind.f64.format.read y)).map FloatKind.f64.format.write := rfl
    unfold ar
    rw [this, hx, hy]
    exact ⟨_, rfl⟩
  obtain ⟨b, e0⟩ := e0
  rw [e0]
  have := near_up b _ _ _ (sum_sz s t hm hn) h0 h1
  rwa [show V + 1 + 1 = V + 2 by omega] at this
theorem B_sub {V : Int} {x y : Nat} (hx : Bn V x) (hy : Bn V y) (h0 : -900 ≤ V + 1) (h1 : V + 1 ≤ 400) : Bn (V + 2) (ar .sub .f64 x y) := by
  rcases hx with hx | ⟨s, m, e, hx, hm⟩
  · exact .inl (nan_of (fb_l hx))
  rcases hy with hy | ⟨t, n, j, hy, hn⟩
  · exact .inl (nan_of (fb_r hy))
  right
  have e0 : ∃ b, ar .sub .f64 x y = FloatKind.f64.format.nearest b (Ieee.signed s m (e - min e j).toNat + Ieee.signed (!t) n (j - min e j).toNat).natAbs (min e j) := by
    have : floatBits .sub .f64 x y = ((FloatKind.f64.format.read x).sum (FloatKind.f64.format.read y).opposite).map FloatKind.f64.format.write := rfl
    unfold ar
    rw [this, hx, hy]
    exact ⟨_, rfl⟩
  obtain ⟨b, e0⟩ := e0
  rw [e0]
  have := near_up b _ _ _ (sum_sz s (!t) hm hn) h0 h1
  rwa [show V + 1 + 1 = V + 2 by omega] at this
theorem quo_sz {m n more : Nat} {s0 : Bool} (hn : n ≠ 0) (hz : 2 * ((m <<< more) / n) + s0.toNat ≠ 0) (hm : m ≠ 0) (hmore : n.log2 ≤ m.log2 + more) : (2 * ((m <<< more) / n) + s0.toNat).log2 ≤ m.log2 + more - n.log2 + 1 := by
  have h1 : m < 2 ^ (m.log2 + 1) := Nat.lt_log2_self
  have h2 : 2 ^ n.log2 ≤ n := Nat.log2_self_le hn
  have hb : s0.toNat ≤ 1 := by cases s0 <;> decide
  have hq : (m <<< more) / n < 2 ^ (m.log2 + more - n.log2 + 1) := by
    rw [Nat.shiftLeft_eq]
    refine Nat.div_lt_of_lt_mul ?_
    calc m * 2 ^ more < 2 ^ (m.log2 + 1) * 2 ^ more := Nat.mul_lt_mul_of_pos_right h1 (Nat.two_pow_pos _)
      _ = 2 ^ (n.log2 + (m.log2 + more - n.log2 + 1)) := by rw [← Nat.pow_add]; congr 1; omega
      _ = 2 ^ n.log2 * 2 ^ (m.log2 + more - n.log2 + 1) := Nat.pow_add _ _ _
      _ ≤ n * 2 ^ (m.log2 + more - n.log2 + 1) := Nat.mul_le_mul_right _ h2
  have : 2 * ((m <<< more) / n) + s0.toNat < 2 ^ (m.log2 + more - n.log2 + 1 + 1) := by
    rw [Nat.pow_succ]
    omega
  have := log_lt hz this
  omega
theorem quo_near {x y : Nat} {s t : Bool} {m n : Nat} {e j V : Int} (hx : FloatKind.f64.format.read x = .number s m e) (hy : FloatKind.f64.format.read y = .number t n j) (hn : n ≠ 0) (hm53 : m.log2 ≤ 54) (h : m ≠ 0 → (m.log2 : Int) + e - ((n.log2 : Int) + j) < V) (h0 : -900 ≤ V) (h1 : V ≤ 400) : Bn (V + 1) (ar .quo .f64 x y) := by
  right
  have e0 : ar .quo .f64 x y = FloatKind.f64.format.nearest (s ^^ t) (2 * ((m <<< (54 + n.log2 - m.log2)) / n) + ((m <<< (54 + n.log2 - m.log2)) % n != 0).toNat) (e - j - ((54 + n.log2 - m.log2 : Nat) : Int) - 1) := by
    have : floatBits .quo .f64 x y = ((FloatKind.f64.format.read x).quotient (FloatKind.f64.format.fractionBits + 2) (FloatKind.f64.format.read y)).map FloatKind.f64.format.write := rfl
    unfold ar
    rw [this, hx, hy, f64f]
    unfold Ieee.Datum.quotient
    simp only
    rw [if_neg hn]
    rfl
  rw [e0]
  refine near_up _ _ _ _ (fun hz => ?_) h0 h1
  have m0 : m ≠ 0 := by
    rintro rfl
    simp only [Nat.zero_shiftLeft, Nat.zero_div, Nat.zero_mod, Nat.mul_zero] at hz
    exact hz rfl
  have := h m0
  have := quo_sz hn hz m0 (by omega)
  omega
theorem log53 {x : Nat} {s : Bool} {m : Nat} {e : Int} (h : FloatKind.f64.format.read x = .number s m e) : m.log2 ≤ 53 := by
  by_cases h0 : m = 0
  · rw [h0]
    decide
  have hm : m < 2 ^ 54 := by
    have h54 : (2 : Nat) ^ 54 = 18014398509481984 := by decide
    rw [h54]
    unfold Ieee.Format.read at h
    simp only [f64s, f64b, f64i, f64l] at h
    split at h
    · cases h
      omega
    · split at h
      · cases h
        omega
      · split at h <;> cases h
  have := log_lt h0 hm
  omega
theorem B_quo {V : Int} {x y : Nat} (hx : Bn V x) (hy : Ge y) (h0 : -900 ≤ V) (h1 : V ≤ 400) : Bn (V + 1) (ar .quo .f64 x y) := by
  rcases hx with hx | ⟨s, m, e, hx, hm⟩
  · exact .inl (nan_of (fb_l hx))
  rcases hy with hy | ⟨t, n, j, hy, hn, hj⟩
  · exact .inl (nan_of (fb_r hy))
  exact quo_near hx hy hn (by have := log53 hx; omega) (fun m0 => by have := hm m0; omega) h0 h1
theorem read_e {x : Nat} {s : Bool} {m : Nat} {e V : Int} (h : FloatKind.f64.format.read x = .number s m e) (hs : Sz V m e) (hV : V ≤ 130) : m < 9007199254740992 ∧ e ≤ 80 := by
  unfold Ieee.Format.read at h
  simp only [f64s, f64b, f64i, f64l] at h
  split at h
  · cases h
    omega
  · split at h
    · obtain ⟨_, rfl, rfl⟩ := Ieee.Datum.number.inj h
      have := log_ge (m := 4503599627370496 + x % 9223372036854775808 % 4503599627370496) (k := 52) (by rw [p52]; omega)
      have := hs (by omega)
      omega
    · split at h <;> cases h
theorem B_sq {V : Int} {x : Nat} (hx : Bn V x) (hV : V ≤ 130) : isn .f64 (sq x) = true ∨ ∃ s m e, FloatKind.f64.format.read (sq x) = .number s m e ∧ (s = true → m = 0) ∧ Sz 74 m e := by
  rcases hx with hx | ⟨s, m, e, hx, hm⟩
  · left
    unfold sq
    rw [sqrt_nan hx]
    exact isn_q _
  · obtain ⟨h1, h2⟩ := read_e hx hm hV
    have e0 : FloatKind.f64.format.sqrt x = ((Ieee.Datum.number s m e).root (FloatKind.f64.format.fractionBits + 2)).map FloatKind.f64.format.write := by
      unfold Ieee.Format.sqrt
      rw [hx]
    by_cases m0 : m = 0
    · right
      subst m0
      have e1 : sq x = FloatKind.f64.format.nearest s 0 e := by
        unfold sq
        rw [e0]
        rfl
      rw [e1]
      obtain ⟨m', e', g1, g2⟩ := near_up' s 0 e (-10) (fun h => absurd rfl h) (by decide) (by decide)
      have gz : FloatKind.f64.format.read (FloatKind.f64.format.nearest s 0 e) = .number s 0 (-1074) := by
        unfold Ieee.Format.nearest
        rw [if_pos rfl, read_rung s 0 (by decide)]
        rfl
      exact ⟨_, _, _, gz, fun _ => rfl, fun h => absurd rfl h⟩
    · cases s with
      | true =>
        left
        have e1 : sq x = qn .f64 := by
          unfold sq
          rw [e0]
          unfold Ieee.Datum.root
          simp only
          rw [if_neg m0]
          rfl
        rw [e1]
        exact isn_q _
      | false =>
        right
        obtain ⟨m1, e1, g1, g2⟩ := XN.sqrt64 m e h1 h2
        have e2 : sq x = FloatKind.f64.format.nearest false m1 e1 := by
          unfold sq
          rw [e0, g1]
          rfl
        rw [e2]
        obtain ⟨m', e', g3, g4⟩ := near_up' false m1 e1 73 (fun h => by have := g2 h; omega) (by decide) (by decide)
        exact ⟨false, m', e', g3, fun h => Bool.noConfusion h, g4⟩
def one64 : Nat := 4607182418800017408
theorem read_one : FloatKind.f64.format.read one64 = .number false 4503599627370496 (-52) := by decide
theorem B_one : Bn 1 one64 := .inr ⟨_, _, _, read_one, fun _ => by decide⟩
theorem G_one {x : Nat} (hx : isn .f64 x = true ∨ ∃ s m e, FloatKind.f64.format.read x = .number s m e ∧ (s = true → m = 0) ∧ Sz 74 m e) : Ge (ar .add .f64 one64 x) := by
  rcases hx with hx | ⟨s, m, e, hx, hs, hm⟩
  · exact .inl (nan_of (fb_r hx))
  right
  have e0 : ∃ b, ar .add .f64 one64 x = FloatKind.f64.format.nearest b (Ieee.signed false 4503599627370496 (-52 - min (-52) e).toNat + Ieee.signed s m (e - min (-52) e).toNat).natAbs (min (-52) e) := by
    have : floatBits .add .f64 one64 x = ((FloatKind.f64.format.read one64).sum (FloatKind.f64.format.read x)).map FloatKind.f64.format.write := rfl
    unfold ar
    rw [this, read_one, hx]
    exact ⟨_, rfl⟩
  obtain ⟨b, e0⟩ := e0
  rw [e0]
  have hup := sum_sz (V := 74) (m := 4503599627370496) (n := m) (e := -52) (j := e) false s (fun _ => by decide) hm
  have hge : 4503599627370496 * 2 ^ (-52 - min (-52) e).toNat ≤ (Ieee.signed false 4503599627370496 (-52 - min (-52) e).toNat + Ieee.signed s m (e - min (-52) e).toNat).natAbs := by
    unfold Ieee.signed
    rw [Nat.shiftLeft_eq, Nat.shiftLeft_eq]
    generalize (-52 - min (-52) e).toNat = A
    generalize (e - min (-52) e).toNat = C
    cases s with
    | true =>
      rw [hs rfl, Nat.zero_mul]
      show _ ≤ (((4503599627370496 * 2 ^ A : Nat) : Int) + -((0 : Nat) : Int)).natAbs
      generalize 4503599627370496 * 2 ^ A = B
      omega
    | false =>
      show _ ≤ (((4503599627370496 * 2 ^ A : Nat) : Int) + ((m * 2 ^ C : Nat) : Int)).natAbs
      generalize 4503599627370496 * 2 ^ A = B
      generalize m * 2 ^ C = D
      omega
  generalize (Ieee.signed false 4503599627370496 (-52 - min (-52) e).toNat + Ieee.signed s m (e - min (-52) e).toNat).natAbs = T at hup hge
  have hp : (2 : Nat) ^ (52 + (-52 - min (-52) e).toNat) ≤ T := by
    rw [Nat.pow_add, p52]
    exact hge
  have hl := log_ge hp
  have T0 : T ≠ 0 := by
    have := Nat.two_pow_pos (52 + (-52 - min (-52) e).toNat)
    omega
  have := hup T0
  exact near_low b T _ T0 (by omega) (by omega)
def tS (t : Nat) : Nat := ar .quo .f64 t (ar .add .f64 one64 (sq (ar .add .f64 one64 (ar .mul .f64 t t))))
def tI : Nat → Nat → Nat
  | 0, t => t
  | n + 1, t => tI n (tS t)
def pS (u : Nat) (k : Int) (p : Nat) : Nat := ar .sub .f64 (ar .quo .f64 one64 (floatOfInt .f64 k)) (ar .mul .f64 u p)
def pI (u : Nat) : Nat → Int → Nat → Nat
  | 0, _, p => p
  | n + 1, k, p => pI u n (k - 2) (pS u k p)
theorem B_tS {V : Int} {t : Nat} (h : Bn V t) (h0 : 0 ≤ V) (h1 : V ≤ 50) : Bn (V + 1) (tS t) := by
  unfold tS
  have h2 := B_mul h h (by omega) (by omega)
  have h3 := B_add (B_one.mono (by omega : (1 : Int) ≤ V + V + 1)) h2 (by omega) (by omega)
  exact B_quo h (G_one (B_sq h3 (by omega))) (by omega) (by omega)
theorem B_tI : ∀ (n : Nat) {V : Int} {t : Nat}, Bn V t → 0 ≤ V → V + n ≤ 50 → Bn (V + n) (tI n t)
  | 0, V, t, h, _, _ => by simpa [tI] using h
  | n + 1, V, t, h, h0, h1 => by
    have := B_tI n (B_tS h h0 (by omega)) (by omega) (by omega)
    rw [show V + ((n + 1 : Nat) : Int) = V + 1 + (n : Int) by omega]
    exact this
theorem G_int {k : Int} (h0 : 1 ≤ k) (h1 : k ≤ 100) : Ge (floatOfInt .f64 k) := by
  right
  rw [PF.int_near64, decide_eq_false (by omega)]
  have hk : k.natAbs ≠ 0 := by omega
  have := log_lt (k := 7) hk (by have : (2 : Nat) ^ 7 = 128 := by decide
                                 omega)
  exact near_low false k.natAbs 0 hk (by omega) (by omega)
theorem B_pS {V : Int} {u p : Nat} {k : Int} (hu : Bn 11 u) (hp : Bn V p) (hk0 : 1 ≤ k) (hk1 : k ≤ 100) (h0 : -10 ≤ V) (h1 : V ≤ 380) : Bn (V + 14) (pS u k p) := by
  unfold pS
  have h2 := B_quo B_one (G_int hk0 hk1) (by decide) (by decide)
  have h3 := B_mul hu hp (by omega) (by omega)
  have h4 := B_sub (h2.mono (by omega : (1 : Int) + 1 ≤ 11 + V + 1)) h3 (by omega) (by omega)
  exact h4.mono (by omega)
theorem B_pI : ∀ (n : Nat) {V : Int} {u p : Nat} {k : Int}, Bn 11 u → Bn V p → 2 * (n : Int) ≤ k + 1 → k ≤ 100 → -10 ≤ V → V + 14 * n ≤ 380 → Bn (V + 14 * n) (pI u n k p)
  | 0, V, u, p, k, _, hp, _, _, _, _ => by simpa [pI] using hp
  | n + 1, V, u, p, k, hu, hp, h0, h1, h2, h3 => by
    have := B_pI n (k := k - 2) hu (B_pS hu hp (k := k) (by omega) h1 h2 (by omega)) (by omega) (by omega) (by omega) (by omega)
    rw [show V + 14 * ((n + 1 : Nat) : Int) = V + 14 + 14 * (n : Int) by omega]
    exact this
theorem B_q0 {a b : Nat} {m n : Nat} {i j : Int} (ha : FloatKind.f64.format.read a = .number false m i) (hb : FloatKind.f64.format.read b = .number false n j) (ho : FloatKind.f64.format.order a b ≠ some .gt) : Bn 2 (ar .quo .f64 a b) := by
  have e0 : FloatKind.f64.format.order a b = some (compare (Ieee.signed false m (i - min i j).toNat) (Ieee.signed false n (j - min i j).toNat)) := by
    unfold Ieee.Format.order
    rw [ha, hb]
    rfl
  have hle : m * 2 ^ (i - min i j).toNat ≤ n * 2 ^ (j - min i j).toNat := by
    refine Nat.le_of_not_lt fun hlt => ho ?_
    rw [e0]
    unfold Ieee.signed
    rw [Nat.shiftLeft_eq, Nat.shiftLeft_eq]
    simp only [Bool.false_eq_true, if_false]
    congr 1
    rw [Int.compare_eq_gt]
    exact Int.ofNat_lt.2 hlt
  by_cases n0 : n = 0
  · have m0 : m = 0 := by
      subst n0
      rw [Nat.zero_mul] at hle
      have := Nat.two_pow_pos (i - min i j).toNat
      rcases Nat.mul_eq_zero.1 (Nat.le_zero.1 hle) with h | h
      · exact h
      · omega
    left
    refine nan_of ?_
    have : floatBits .quo .f64 a b = ((FloatKind.f64.format.read a).quotient (FloatKind.f64.format.fractionBits + 2) (FloatKind.f64.format.read b)).map FloatKind.f64.format.write := rfl
    rw [this, ha, hb, n0, m0]
    rfl
  · refine quo_near ha hb n0 (by have := log53 ha; omega) (fun m0 => ?_) (V := 1) (by decide) (by decide)
    have h1 : 2 ^ m.log2 ≤ m := Nat.log2_self_le m0
    have h2 : n < 2 ^ (n.log2 + 1) := Nat.lt_log2_self
    have h3 : 2 ^ (m.log2 + (i - min i j).toNat) < 2 ^ (n.log2 + 1 + (j - min i j).toNat) := by
      rw [Nat.pow_add, Nat.pow_add 2 (n.log2 + 1)]
      calc 2 ^ m.log2 * 2 ^ (i - min i j).toNat ≤ m * 2 ^ (i - min i j).toNat := Nat.mul_le_mul_right _ h1
        _ ≤ n * 2 ^ (j - min i j).toNat := hle
        _ < 2 ^ (n.log2 + 1) * 2 ^ (j - min i j).toNat := Nat.mul_lt_mul_of_pos_right h2 (Nat.two_pow_pos _)
    have := (Nat.pow_lt_pow_iff_right (by decide : 1 < 2)).1 h3
    omega
theorem B_neg {V : Int} {x : Nat} (h : Bn V x) : Bn V (Op.negFloat .f64 x) := by
  rcases h with h | ⟨s, m, e, h1, h2⟩
  · exact .inl (neg_nan h)
  · right
    have e : (Op.negFloat .f64 x) % FloatKind.f64.format.signWeight = x % FloatKind.f64.format.signWeight := xor_low x _
    generalize FloatKind.f64.format = f at h1 e ⊢
    generalize Op.negFloat .f64 x = y at e ⊢
    unfold Ieee.Format.read at h1 ⊢
    simp only [e]
    simp only at h1
    split at h1
    · cases h1
      rw [if_pos (by assumption)]
      exact ⟨_, _, _, rfl, h2⟩
    · split at h1
      · cases h1
        rw [if_neg (by assumption), if_pos (by assumption)]
        exact ⟨_, _, _, rfl, h2⟩
      · split at h1 <;> cases h1
theorem near32n' (neg : Bool) (m : Nat) (e : Int) (h : m ≠ 0 → (m.log2 : Int) + e ≤ 120) : ∃ m' e', FloatKind.f32.format.read (FloatKind.f32.format.nearest neg m e) = .number neg m' e' := by
  have key : ∀ r : Nat, r ≤ 2139095039 → ∃ m' e', FloatKind.f32.format.read (FloatKind.f32.format.word neg r) = .number neg m' e' := by
    intro r hr
    rw [PI.read_word neg r (by omega)]
    split
    · exact ⟨_, _, rfl⟩
    · exact ⟨_, _, rfl⟩
  unfold Ieee.Format.nearest
  split
  · exact key 0 (by omega)
  · rename_i hm
    have hX := h hm
    refine key _ (Nat.le_trans (Nat.min_le_left _ _) ?_)
    have hk := XN.kept_le neg m e (max (e + (m.log2 : Int) - (FloatKind.f32.format.fractionBits : Nat)) FloatKind.f32.format.leastPlace) FloatKind.f32.format.fractionBits (Int.le_max_left _ _)
    simp only [f32b, f32l, XN.f32f] at hk ⊢
    generalize Ieee.Toward.even.cut neg _ _ = K at hk ⊢
    have : (2 : Nat) ^ (23 + 1) = 16777216 := by decide
    omega
theorem narrow_ok {x : Nat} (h : Bn 120 x) : isn .f64 x = true ∨ ∃ r, floatToFloatBits .f64 x .f32 = some r := by
  rcases h with h | ⟨s, m, e, h1, h2⟩
  · exact .inl h
  · right
    have hdec : FloatKind.f64.decode x = .number s m e := h1
    refine ⟨FloatKind.f32.format.nearest s m e, ?_⟩
    unfold floatToFloatBits
    rw [if_neg PG.ne_kind', hdec]
    simp only
    rw [if_neg]
    · rfl
    · show ¬ ((FloatKind.f32.format.read (FloatKind.f32.format.nearest s m e)).isInfinity = true)
      obtain ⟨m', e', g⟩ := near32n' s m e (fun h => by have := h2 h; omega)
      rw [g]
      intro c
      cases c
end Go.Proofs.YtnnemdjbopdjmaaDoor.PB
end
section
set_option linter.unusedVariables false
set_option linter.unusedSimpArgs false
namespace Go.Proofs.YtnnemdjbopdjmaaDoor
open Go.RowKit Go.Proofs.YtnnemdjbopdjmaaDoorW.PrintWords Go.Proofs.YtnnemdjbopdjmaaDoorW.PrintLast Go.Proofs.YtnnemdjbopdjmaaDoorW.PrintMore
attribute [local go_sem] max2_int min2_int max_two min_two max_three min_three max_four min_four
namespace XA
open XF XL XM XW XE PB
theorem run_bits64 (P : Program) (w : World) (x : Nat) : (Extern.MathFloatBits.float64bits #[.float .f64 x]).run P w = .ok (.int .u64 x) w := rfl
theorem run_from64 (P : Program) (w : World) (n : Int) : (Extern.MathFloatBits.float64frombits #[.int .u64 n]).run P w = .ok (.float .f64 n.toNat) w := rfl
def ab (a : Nat) : Nat := (Go.bits .andNot .u64 (a : Int) 9223372036854775808).toNat
set_option maxHeartbeats 4000000 in
set_option maxRecDepth 100000 in
theorem Abs.calls (a : Nat) (w : World) : Calls Tryd.prog 79 #[.float .f64 a] w fun e w' => e = .returned (.float .f64 (ab a)) ∧ Drawn0 w w' := by
  go_enter Tryd.func79, Tryd.ntmps79
  go_wp2
  rw [run_callFunc_extern Tryd.func106 (by kernel_rfl) (by kernel_rfl) (by kernel_rfl) (e := Extern.MathFloatBits.float64bits) (by kernel_rfl)]
  rw [run_bits64]
  simp only [Result.andThen]
  rw [Oper.upon_value]
  go_wp2
  rw [run_callFunc_extern Tryd.func105 (by kernel_rfl) (by kernel_rfl) (by kernel_rfl) (e := Extern.MathFloatBits.float64frombits) (by kernel_rfl)]
  rw [run_from64]
  simp only [Result.andThen]
  rw [Oper.upon_value]
  go_wp2
  go_ret
  exact ⟨rfl, Drawn0.refl _⟩
set_option maxHeartbeats 4000000 in
set_option maxRecDepth 100000 in
theorem NaN.calls (w : World) : Calls Tryd.prog 78 #[] w fun e w' => e = .returned (.float .f64 9221120237041090561) ∧ Drawn0 w w' := by
  go_enter Tryd.func78, Tryd.ntmps78
  go_wp2
  rw [run_callFunc_extern Tryd.func105 (by kernel_rfl) (by kernel_rfl) (by kernel_rfl) (e := Extern.MathFloatBits.float64frombits) (by kernel_rfl)]
  rw [run_from64]
  simp only [Result.andThen]
  rw [Oper.upon_value]
  go_wp2
  go_ret
  exact ⟨rfl, Drawn0.refl _⟩
theorem ab_mod (a : Nat) : ab a = a % 9223372036854775808 := by
  unfold ab
  have e : Go.bits .andNot .u64 (a : Int) 9223372036854775808 = IntKind.u64.wrap ((BitVec.ofInt 64 (a : Int) &&& ~~~ BitVec.ofInt 64 9223372036854775808).toNat : Nat) := rfl
  have key : (BitVec.ofInt 64 (a : Int) &&& ~~~ BitVec.ofInt 64 9223372036854775808).toNat = a % 2 ^ 63 := by
    have h1 : ~~~ (BitVec.ofInt 64 9223372036854775808) = BitVec.ofInt 64 9223372036854775807 := by decide
    have h2 : (BitVec.ofInt 64 9223372036854775807).toNat = 2 ^ 63 - 1 := by decide
    rw [h1, BitVec.toNat_and, h2, Nat.and_two_pow_sub_one_eq_mod, BitVec.toNat_ofInt]
    omega
  rw [e, key]
  have : (2 : Nat) ^ 63 = 9223372036854775808 := by decide
  rw [this]
  have e2 : IntKind.u64.wrap (((a % 9223372036854775808 : Nat)) : Int) = ((a % 9223372036854775808 : Nat) : Int) := by
    simp [IntKind.wrap, IntKind.bits, IntKind.signed]
    omega
  rw [e2, Int.toNat_natCast]
theorem read_ab {a : Nat} {s : Bool} {m : Nat} {e : Int} (h : FloatKind.f64.format.read a = .number s m e) : FloatKind.f64.format.read (ab a) = .number false m e := by
  rw [ab_mod]
  have hp : a % 9223372036854775808 % 9223372036854775808 = a % 9223372036854775808 := Nat.mod_mod _ _
  have hq : (a % 9223372036854775808 / 9223372036854775808 % 2 == 1) = false := by
    rw [Nat.div_eq_of_lt (Nat.mod_lt _ (by decide))]
    rfl
  unfold Ieee.Format.read at h ⊢
  simp only [f64s] at h ⊢
  simp only [hp, hq]
  split at h
  · obtain ⟨_, rfl, rfl⟩ := Ieee.Datum.number.inj h
    rw [if_pos (by assumption)]
  · split at h
    · obtain ⟨_, rfl, rfl⟩ := Ieee.Datum.number.inj h
      rw [if_neg (by assumption), if_pos (by assumption)]
    · split at h <;> cases h
def wd (x : Nat) : Nat := cvt .f32 x .f64
theorem fin_num {x : Nat} (h : fin x = true) : XN.Num x := XN.num_of_fin h
theorem fin_isn {x : Nat} (h : fin x = true) : isn .f32 x = false := by
  obtain ⟨s, m, e, hx⟩ := fin_num h
  unfold isn
  rw [hx]
  rfl
theorem wd_cv {x b : Nat} (h : fin x = true) (hc : Cv x b) : b = wd x := by
  rcases hc with ⟨h1, _⟩ | ⟨_, h2⟩
  · rw [fin_isn h] at h1
    cases h1
  · unfold wd cvt
    rw [h2]
    rfl
theorem wd_read {x : Nat} (h : fin x = true) : ∃ s m e, FloatKind.f64.format.read (wd x) = .number s m e := by
  obtain ⟨s, m, e, hx⟩ := fin_num h
  obtain ⟨b, k, hh⟩ := PG.wide_num hx
  rcases hh with ⟨g1, g2⟩ | ⟨_, g1, g2⟩
  · unfold wd cvt
    rw [g1]
    exact ⟨_, _, _, g2⟩
  · unfold wd cvt
    rw [g1]
    exact ⟨_, _, _, g2⟩
def gt (y x : Nat) : Bool := FloatKind.f64.format.order (ab (wd y)) (ab (wd x)) == some .gt
def t0 (y x : Nat) : Nat := if gt y x = true then ar .quo .f64 (ab (wd x)) (ab (wd y)) else ar .quo .f64 (ab (wd y)) (ab (wd x))
def tt (y x : Nat) : Nat := tI 3 (t0 y x)
def pp (y x : Nat) : Nat := pI (ar .mul .f64 (tt y x) (tt y x)) 8 15 0
def g0 (y x : Nat) : Nat := ar .quo .f64 (ar .mul .f64 4620693217682128896 (ar .mul .f64 (tt y x) (pp y x))) 4618760256179416344
def g1 (y x : Nat) : Nat := if gt y x = true then ar .sub .f64 4598175219545276416 (g0 y x) else g0 y x
def lt0 (x : Nat) : Bool := FloatKind.f32.format.order x 0 == some .lt
def g2 (y x : Nat) : Nat := if lt0 x = true then ar .sub .f64 4602678819172646912 (g1 y x) else g1 y x
def g3 (y x : Nat) : Nat := if lt0 y = true then Op.negFloat .f64 (g2 y x) else g2 y x
theorem B_c {c n : Nat} {e V : Int} (h : FloatKind.f64.format.read c = .number false n e) (hs : (n.log2 : Int) + e < V) : Bn V c := .inr ⟨_, _, _, h, fun _ => hs⟩
theorem g3_ok {y x : Nat} (hy : fin y = true) (hx : fin x = true) : isn .f64 (g3 y x) = true ∨ ∃ r, floatToFloatBits .f64 (g3 y x) .f32 = some r := by
  obtain ⟨s1, m1, e1, r1⟩ := wd_read hy
  obtain ⟨s2, m2, e2, r2⟩ := wd_read hx
  have r1' := read_ab r1
  have r2' := read_ab r2
  have b0 : Bn 2 (t0 y x) := by
    unfold t0
    cases hg : gt y x with
    | true =>
      rw [if_pos rfl]
      refine B_q0 r2' r1' fun h => ?_
      unfold gt at hg
      have h2 : FloatKind.f64.format.order (ab (wd y)) (ab (wd x)) = some .gt := by simpa using hg
      unfold Ieee.Format.order at h h2
      rw [r1', r2'] at h h2
      unfold Ieee.Datum.order Ieee.signed at h h2
      simp only [Bool.false_eq_true, if_false, Option.some.injEq, Int.compare_eq_gt] at h h2
      rw [Int.min_comm] at h2
      omega
    | false =>
      rw [if_neg (by decide)]
      refine B_q0 r1' r2' fun h => ?_
      unfold gt at hg
      rw [h] at hg
      cases hg
  have bt : Bn 5 (tt y x) := B_tI 3 b0 (by decide) (by decide)
  have bp : Bn 102 (pp y x) := B_pI 8 (V := -10) (B_mul bt bt (by decide) (by decide)) (.inr ⟨false, 0, -1074, by decide, fun h => absurd rfl h⟩) (by decide) (by decide) (by decide) (by decide)
  have h1 : Bn 4 4620693217682128896 := B_c (n := 4503599627370496) (e := -49) (by decide) (by decide)
  have h2 : Ge 4618760256179416344 := .inr ⟨false, 7074237752028440, -50, by decide, by decide, by decide⟩
  have b1 : Bn 114 (g0 y x) := B_quo (V := 113) (B_mul (V := 4) (W := 108) h1 (B_mul (V := 5) (W := 102) bt bp (by decide) (by decide)) (by decide) (by decide)) h2 (by decide) (by decide)
  have b2 : Bn 116 (g1 y x) := by
    unfold g1
    split
    · exact B_sub (V := 114) ((B_c (V := 4) (n := 4503599627370496) (e := -54) (by decide) (by decide) : Bn 4 4598175219545276416).mono (by decide)) b1 (by decide) (by decide)
    · exact b1.mono (by decide)
  have b3 : Bn 118 (g2 y x) := by
    unfold g2
    split
    · exact B_sub (V := 116) ((B_c (V := 4) (n := 4503599627370496) (e := -53) (by decide) (by decide) : Bn 4 4602678819172646912).mono (by decide)) b2 (by decide) (by decide)
    · exact b2.mono (by decide)
  refine narrow_ok (Bn.mono ?_ (by decide : (118 : Int) ≤ 120))
  unfold g3
  split
  · exact B_neg b3
  · exact b3
def is0 (x : Nat) : Bool := FloatKind.f32.format.order x 0 == some .eq
def AngleTurns.v (y x : Nat) : Nat := if (fin y && fin x) = true then (if (is0 x && is0 y) = true then 0 else cn (g3 y x)) else cn 9221120237041090561
end XA
end Go.Proofs.YtnnemdjbopdjmaaDoor
end
section
set_option linter.unusedVariables false
set_option linter.unusedSimpArgs false
namespace Go.Proofs.YtnnemdjbopdjmaaDoor
open Go.RowKit Go.Proofs.YtnnemdjbopdjmaaDoorW.PrintWords Go.Proofs.YtnnemdjbopdjmaaDoorW.PrintLast Go.Proofs.YtnnemdjbopdjmaaDoorW.PrintMore
attribute [local go_sem] max2_int min2_int max_two min_two max_three min_three max_four min_four
namespace XA
open XF XL XM XW XE PB
def sumI : List Nat → Nat → Nat
  | [], s => s
  | x :: r, s => sumI r (ar .add .f32 s x)
set_option maxHeartbeats 4000000 in
set_option maxRecDepth 100000 in
theorem sum71 (A : Option Addr) (c : Nat) (xs : List Nat) (w : World) (hr0 : Kd.C (Kd.float .f32) w A xs.length xs) (hc0 : xs.length ≤ c) :
    Calls Tryd.prog 71 #[.slice A xs.length c] w fun e w' => ∃ d, e = .returned (.float .f32 d) ∧ E .f32 (sumI xs 0) d ∧ Drawn0 w w' := by
  have HR0 := Aside0.mk hr0
  clear hr0
  have hmx : xs.length ≤ 9223372036854775807 := Kd.C_max HR0.out
  go_enter Tryd.func71, Tryd.ntmps71
  go_wp2
  go_loopg [3, 8] xs.length (fun kq v3 v8 w' => ∃ (i s d : Nat), v3 = .float .f32 d ∧ v8 = .int .i64 (i : Int) ∧ Aside0 (i + kq = xs.length) ∧ Aside0 (E .f32 s d) ∧ Aside0 (sumI (xs.drop i) s = sumI xs 0) ∧ Drawn0 w w')
  case atStart => exact ⟨0, 0, 0, rfl, rfl, ⟨by simp⟩, ⟨E.refl _ _⟩, ⟨rfl⟩, Drawn0.refl _⟩
  case round =>
    obtain ⟨i, s, d, rfl, rfl, HI, HE, HX, ⟨m, rfl⟩⟩ := hrel
    have hi := HI.out
    have hE := HE.out
    have hx0 := HX.out
    cases gk with
    | zero =>
      have hc : decide ((i : Int) < (xs.length : Int)) = false := by simp; omega
      rw [List.drop_eq_nil_of_le (by omega), sumI] at hx0
      subst hx0
      go_wp2
      go_ret
      exact ⟨_, rfl, hE, ⟨_, rfl⟩⟩
    | succ k1 =>
      have hil : i < xs.length := by omega
      have hc : decide ((i : Int) < (xs.length : Int)) = true := by simp; omega
      have hw : wrap64 ((i : Int) + 1) = ((i + 1 : Nat) : Int) := by unfold wrap64; omega
      have p0 : (0 : Int) ≤ (i : Int) := by omega
      have q0 : (i : Int) < (xs.length : Int) := by omega
      obtain ⟨ad, ead, hx⟩ := Kd.at_float HR0.out (i : Int) p0 q0
      cases ead
      rw [Int.toNat_natCast, show rdOf (0 : Nat) xs (i : Int) = xs[i] by simp [rdOf, hil]] at hx
      rw [List.drop_eq_getElem_cons hil, sumI] at hx0
      generalize xs[i] = x at hx hx0
      have p0b := eq_true p0
      have q0b := eq_true q0
      go_wp2_with (first | (refine wpList_ar rfl _ _ _ _ _ rfl arA _ _ rfl rfl hE (E.refl _ _) ?_; intro c n hcc))
      go_roundg k1
      case measure => omega
      case rel => exact ⟨i + 1, _, _, rfl, rfl, ⟨by omega⟩, ⟨hcc⟩, ⟨hx0⟩, ⟨_, rfl⟩⟩
def SumNumbers.f (l : List Nat) : Option (Nat × Bool) := if l.length ≤ 256 then some (sumI l 0, true) else none
set_option maxHeartbeats 4000000 in
set_option maxRecDepth 100000 in
theorem listOk70 (A : Option Addr) (c n : Nat) (w : World) (h : n ≤ 256) : Calls Tryd.prog 70 #[.slice A n c] w fun e w' => e = .returned (.bool true) ∧ w' = w := by
  have hl : decide ((n : Int) ≤ 256) = true := by simp; omega
  go_enter Tryd.func70, Tryd.ntmps70
  go_wp2
  go_ret
  exact ⟨by first | rfl | rw [hl], rfl⟩
set_option maxHeartbeats 4000000 in
set_option maxRecDepth 100000 in
theorem SumNumbers.calls' (A : Option Addr) (c : Nat) (xs : List Nat) (w : World) (hr0 : Kd.C (Kd.float .f32) w A xs.length xs) (hc0 : xs.length ≤ c) (h : xs.length ≤ 256) :
    Calls Tryd.prog 29 #[.slice A xs.length c] w fun e w' => ∃ d, e = .returned (.tuple #[.float .f32 d, .bool true]) ∧ E .f32 (sumI xs 0) d ∧ Drawn0 w w' := by
  have hl : decide ((xs.length : Int) ≤ 256) = true := by simp; omega
  go_enter Tryd.func29, Tryd.ntmps29
  go_wp2_with (first | (go_at_call 70; refine (listOk70 _ _ _ _ h).mono ?_; rintro e w1 ⟨rfl, rfl⟩) | (go_at_call 71; refine (sum71 _ _ _ _ hr0 hc0).mono ?_; rintro e w1 ⟨d, rfl, hd, ⟨nd, rfl⟩⟩))
  go_ret2
  exact ⟨_, rfl, hd, ⟨_, rfl⟩⟩
def NarrowNumber.f (a0 : Nat) : Option Nat := some a0
set_option maxHeartbeats 4000000 in
set_option maxRecDepth 100000 in
theorem NarrowNumber.calls' (x b : Nat) (hx : x < 4294967296) (h1 : Cv x b) (w : World) : Calls Tryd.prog 35 #[.float .f64 b] w fun e w' => ∃ c, e = .returned (.float .f32 c) ∧ XZ.Nw x c ∧ Drawn0 w w' := by
  have u1 : (Tryd.prog.underlying 57).isSome = true := by kernel_rfl
  have u2 : Tryd.prog.underlying 24 = some (.float .f32) := by kernel_rfl
  have k1 := XZ.cv_ok hx h1
  go_enter Tryd.func35, Tryd.ntmps35
  go_wp2_with (first | (refine XZ.wpList_narrow rfl 57 24 _ rfl u1 u2 b rfl k1 ?_; intro c1 n1 hc1))
  go_ret
  exact ⟨c1, rfl, XZ.nw_of hx h1 hc1, ⟨_, rfl⟩⟩
def ab32 (x : Nat) : Nat := (Go.bits .andNot .u32 (x : Int) 2147483648).toNat
set_option maxHeartbeats 4000000 in
set_option maxRecDepth 100000 in
theorem abs76 (x : Nat) (w : World) : Calls Tryd.prog 76 #[.float .f32 x] w fun e w' => e = .returned (.float .f32 (ab32 x)) ∧ Drawn0 w w' := by
  go_enter Tryd.func76, Tryd.ntmps76
  go_wp2
  rw [run_callFunc_extern Tryd.func68 (by kernel_rfl) (by kernel_rfl) (by kernel_rfl) (e := Extern.MathFloatBits.float32bits) (by kernel_rfl)]
  rw [run_bits]
  simp only [Result.andThen]
  rw [Oper.upon_value]
  go_wp2
  rw [run_callFunc_extern Tryd.func66 (by kernel_rfl) (by kernel_rfl) (by kernel_rfl) (e := Extern.MathFloatBits.float32frombits) (by kernel_rfl)]
  rw [run_frombits]
  simp only [Result.andThen]
  rw [Oper.upon_value]
  go_wp2
  go_ret
  exact ⟨rfl, Drawn0.refl _⟩
def ne0 (x : Nat) : Bool := FloatKind.f32.format.order x 0 != some .eq
def sub (x : Nat) : Bool := ne0 x && (FloatKind.f32.format.order (ab32 x) 8388608 == some .lt)
def IsSubnormal.f (x : Nat) : Option Bool := some (sub x)
set_option maxHeartbeats 4000000 in
set_option maxRecDepth 100000 in
theorem IsSubnormal.calls (x : Nat) (r : Bool) (w : World) (h : IsSubnormal.f x = some r) : Calls Tryd.prog 32 #[.float .f32 x] w fun e w' => e = .returned (.bool r) ∧ Drawn0 w w' := by
  obtain rfl := Option.some.inj h
  unfold sub
  cases h0 : ne0 x with
  | true =>
    have h0' : (FloatKind.f32.format.order x 0 != some .eq) = true := h0
    go_enter Tryd.func32, Tryd.ntmps32
    go_wp2_with (first | (go_at_call 76; refine (abs76 _ _).mono ?_; rintro e w1 ⟨rfl, ⟨nd, rfl⟩⟩))
    go_ret
    exact ⟨by first | rfl | (simp; done), ⟨_, rfl⟩⟩
  | false =>
    have h0' : (FloatKind.f32.format.order x 0 != some .eq) = false := h0
    go_enter Tryd.func32, Tryd.ntmps32
    go_wp2_with (first | (go_at_call 76; refine (abs76 _ _).mono ?_; rintro e w1 ⟨rfl, ⟨nd, rfl⟩⟩))
    go_ret
    exact ⟨by first | rfl | (simp; done), Drawn0.refl _⟩
def fl (x : Nat) : Nat := (Go.bits .and .u32 (x : Int) 2147483648).toNat
def FlushNumber.f (x : Nat) : Option Nat := some (if sub x = true then fl x else x)
set_option maxHeartbeats 4000000 in
set_option maxRecDepth 100000 in
theorem FlushNumber.calls (x : Nat) (r : Nat) (w : World) (h : FlushNumber.f x = some r) : Calls Tryd.prog 26 #[.float .f32 x] w fun e w' => e = .returned (.float .f32 r) ∧ Drawn0 w w' := by
  obtain rfl := Option.some.inj h
  cases h0 : sub x with
  | true =>
    rw [if_pos rfl]
    go_enter Tryd.func26, Tryd.ntmps26
    go_wp2_with (first | (go_at_call 32; refine (IsSubnormal.calls x true _ (by show some _ = some _; rw [h0])).mono ?_; rintro e w1 ⟨rfl, ⟨nd, rfl⟩⟩))
    rw [run_callFunc_extern Tryd.func68 (by kernel_rfl) (by kernel_rfl) (by kernel_rfl) (e := Extern.MathFloatBits.float32bits) (by kernel_rfl)]
    rw [run_bits]
    simp only [Result.andThen]
    rw [Oper.upon_value]
    go_wp2
    rw [run_callFunc_extern Tryd.func66 (by kernel_rfl) (by kernel_rfl) (by kernel_rfl) (e := Extern.MathFloatBits.float32frombits) (by kernel_rfl)]
    rw [run_frombits]
    simp only [Result.andThen]
    rw [Oper.upon_value]
    go_wp2
    go_ret
    exact ⟨rfl, ⟨_, rfl⟩⟩
  | false =>
    rw [if_neg (by decide)]
    go_enter Tryd.func26, Tryd.ntmps26
    go_wp2_with (first | (go_at_call 32; refine (IsSubnormal.calls x false _ (by show some _ = some _; rw [h0])).mono ?_; rintro e w1 ⟨rfl, ⟨nd, rfl⟩⟩))
    go_ret
    exact ⟨rfl, ⟨_, rfl⟩⟩
end XA
end Go.Proofs.YtnnemdjbopdjmaaDoor
end
section
set_option linter.unusedVariables false
set_option linter.unusedSimpArgs false
namespace Go.Proofs.YtnnemdjbopdjmaaDoor
open Go.RowKit Go.Proofs.YtnnemdjbopdjmaaDoorW.PrintWords Go.Proofs.YtnnemdjbopdjmaaDoorW.PrintLast Go.Proofs.YtnnemdjbopdjmaaDoorW.PrintMore
attribute [local go_sem] max2_int min2_int max_two min_two max_three min_three max_four min_four
namespace XA
open XF XL XM XW XE PB
set_option maxHeartbeats 4000000 in
set_option maxRecDepth 100000 in
theorem ang1 (y x : Nat) (w : World) (hfy : fin y = true) (hfx : fin x = true) (hx0' : (FloatKind.f32.format.order x 0 == some .eq) = false) (hg : gt y x = true) : Calls Tryd.prog 33 #[.float .f32 y, .float .f32 x] w fun e w' => ∃ c, e = .returned (.float .f32 c) ∧ E .f32 (cn (g3 y x)) c ∧ Below w.heap.size w w' := by
  have u1 : (Tryd.prog.underlying 24).isSome = true := by kernel_rfl
  have u2 : Tryd.prog.underlying 57 = some (.float .f64) := by kernel_rfl
  have v1 : (Tryd.prog.underlying 57).isSome = true := by kernel_rfl
  have v2 : Tryd.prog.underlying 24 = some (.float .f32) := by kernel_rfl
  have e0 : (!([y, x].any fun x => !fin x)) = (fin y && fin x) := by cases h0 : fin y <;> cases h1 : fin x <;> simp [h0, h1]
  have hf : (fin y && fin x) = true := by rw [hfy, hfx]; rfl
  rw [hf] at e0
  have hgt : (FloatKind.f64.format.order (ab (wd y)) (ab (wd x)) == some .gt) = true := hg
  have ht0 : t0 y x = ar .quo .f64 (ab (wd x)) (ab (wd y)) := by unfold t0; rw [hg]; rfl
  go_enter Tryd.func33, Tryd.ntmps33
  go_wp2_with (first | (go_at_call 77; refine (finitef _ 2 [y, x] _ (two_C (t := 24) (heap_alloc_new _ _)) (by simp)).mono ?_; rw [e0]; rintro e w1 ⟨rfl, ⟨nd0, rfl⟩⟩) | (refine wpList_conv rfl 24 57 _ rfl u1 u2 _ rfl ?_; intro b n hb; (first | obtain rfl := wd_cv hfy hb | obtain rfl := wd_cv hfx hb)) | (go_at_call 79; refine (Abs.calls _ _).mono ?_; rintro e w1 ⟨rfl, ⟨nd1, rfl⟩⟩) | (refine wpList_ar rfl _ _ _ _ _ rfl (by first | exact arS | exact arA | exact arM | exact arQ) _ _ rfl rfl (by first | assumption | exact E.refl _ _) (by first | assumption | exact E.refl _ _) ?_; intro c n hc))
  go_loopg [7, 42] 3 (fun kq v7 v42 w' => ∃ (i tp c : Nat), v7 = .float .f64 c ∧ v42 = .int .i64 (i : Int) ∧ Aside0 (i + kq = 3) ∧ Aside0 (E .f64 tp c) ∧ Aside0 (tI kq tp = tt y x) ∧ Aside0 (Below w.heap.size w w'))
  case atStart => exact ⟨0, _, _, rfl, rfl, ⟨by simp⟩, ⟨hc⟩, ⟨by unfold tt; rw [ht0]⟩, ⟨by repeat (first | exact Below.refl _ _ | apply pw_below_drewN | apply below_alloc | apply below_drew1)⟩⟩
  case round =>
    obtain ⟨i, tp, ct, rfl, rfl, HI, HE, HT, HB⟩ := hrel
    have hi := HI.out
    have hE := HE.out
    clear hc
    cases gk with
    | succ k1 =>
      have hcond : decide ((i : Int) < 3) = true := by simp; omega
      have hw : wrap64 ((i : Int) + 1) = ((i + 1 : Nat) : Int) := by unfold wrap64; omega
      go_wp2_with (first | (go_at_call 80; refine (XE.Sqrt.calls _ _ (by assumption) _).mono ?_; rintro e w1 ⟨cs, rfl, hcs, ⟨nd2, rfl⟩⟩) | (refine wpList_ar rfl _ _ _ _ _ rfl (by first | exact arS | exact arA | exact arM | exact arQ) _ _ rfl rfl (by first | assumption | exact E.refl _ _) (by first | assumption | exact E.refl _ _) ?_; intro c n hc))
      go_roundg k1
      case measure => omega
      case rel => exact ⟨i + 1, _, _, rfl, rfl, ⟨by omega⟩, ⟨hc⟩, ⟨HT.out⟩, ⟨by repeat (first | exact Below.refl _ _ | exact HB.out | apply pw_below_drewN | apply below_alloc | apply below_drew1)⟩⟩
    | zero =>
      have hcond : decide ((i : Int) < 3) = false := by simp; omega
      have hT := HT.out
      replace hT : tp = tt y x := hT
      subst hT
      go_wp2_with (first | (refine wpList_ar rfl _ _ _ _ _ rfl (by first | exact arS | exact arA | exact arM | exact arQ) _ _ rfl rfl (by first | assumption | exact E.refl _ _) (by first | assumption | exact E.refl _ _) ?_; intro c n hc))
      go_loopg [9, 10] 8 (fun kq v9 v10 w' => ∃ (q c : Nat), v9 = .float .f64 c ∧ v10 = .int .i64 (2 * (kq : Int) - 1) ∧ Aside0 (kq ≤ 8) ∧ Aside0 (E .f64 q c) ∧ Aside0 (pI (ar .mul .f64 (tt y x) (tt y x)) kq (2 * (kq : Int) - 1) q = pp y x) ∧ Aside0 (Below w.heap.size w w'))
      case atStart => exact ⟨0, 0, rfl, rfl, ⟨Nat.le_refl _⟩, ⟨E.refl _ _⟩, ⟨rfl⟩, ⟨by repeat (first | exact Below.refl _ _ | exact HB.out | apply pw_below_drewN | apply below_alloc | apply below_drew1)⟩⟩
      case round =>
        have hu := hc
        clear HB hc
        obtain ⟨q, cq, rfl, rfl, HK, HQ, HP, HB⟩ := hrel
        have hk8 := HK.out
        have hQ := HQ.out
        cases gk with
        | succ k1 =>
          have hcond : decide (1 ≤ 2 * ((k1 + 1 : Nat) : Int) - 1) = true := by simp; omega
          have hw : wrap64 (2 * ((k1 + 1 : Nat) : Int) - 1 - 2) = 2 * (k1 : Int) - 1 := by unfold wrap64; omega
          have hP : pI (ar .mul .f64 (tt y x) (tt y x)) k1 (2 * ((k1 + 1 : Nat) : Int) - 1 - 2) (pS (ar .mul .f64 (tt y x) (tt y x)) (2 * ((k1 + 1 : Nat) : Int) - 1) q) = pp y x := HP.out
          rw [show 2 * ((k1 + 1 : Nat) : Int) - 1 - 2 = 2 * (k1 : Int) - 1 by omega] at hP
          go_wp2_with (first | (refine wpList_ar rfl _ _ _ _ _ rfl (by first | exact arS | exact arA | exact arM | exact arQ) _ _ rfl rfl (by first | assumption | exact E.refl _ _) (by first | assumption | exact E.refl _ _) ?_; intro c n hc))
          go_roundg k1
          case measure => omega
          case rel => exact ⟨_, _, rfl, (by refine congrArg (Value.int .i64) ?_; omega), ⟨by omega⟩, ⟨hc⟩, ⟨hP⟩, ⟨by repeat (first | exact Below.refl _ _ | exact HB.out | apply pw_below_drewN | apply below_alloc | apply below_drew1)⟩⟩
        | zero =>
          have hcond : decide (1 ≤ 2 * ((0 : Nat) : Int) - 1) = false := by decide
          have hP := HP.out
          replace hP : q = pp y x := hP
          subst hP
          have hok := g3_ok hfy hfx
          cases hxn : lt0 x with
          | true =>
            have hxl : (FloatKind.f32.format.order x 0 == some .lt) = true := hxn
            cases hyn : lt0 y with
            | true =>
              have hyl : (FloatKind.f32.format.order y 0 == some .lt) = true := hyn
              have eg : g3 y x = Op.negFloat .f64 (ar .sub .f64 4602678819172646912 (ar .sub .f64 4598175219545276416 (g0 y x))) := by unfold g3 g2 g1; rw [hg, hxn, hyn]; rfl
              rw [eg] at hok
              go_wp2_with (first | (refine wpList_ar rfl _ _ _ _ _ rfl (by first | exact arS | exact arA | exact arM | exact arQ) _ _ rfl rfl (by first | assumption | exact E.refl _ _) (by first | assumption | exact E.refl _ _) ?_; intro c n hc) | (refine wpList_cn rfl 57 24 _ rfl v1 v2 _ rfl (by first | assumption | exact neg_E (by assumption)) hok ?_; intro r nr hr))
              go_ret
              exact ⟨_, rfl, by rw [eg]; exact hr, by repeat (first | exact Below.refl _ _ | exact HB.out | apply pw_below_drewN | apply below_alloc | apply below_drew1)⟩
            | false =>
              have hyl : (FloatKind.f32.format.order y 0 == some .lt) = false := hyn
              have eg : g3 y x = ar .sub .f64 4602678819172646912 (ar .sub .f64 4598175219545276416 (g0 y x)) := by unfold g3 g2 g1; rw [hg, hxn, hyn]; rfl
              rw [eg] at hok
              go_wp2_with (first | (refine wpList_ar rfl _ _ _ _ _ rfl (by first | exact arS | exact arA | exact arM | exact arQ) _ _ rfl rfl (by first | assumption | exact E.refl _ _) (by first | assumption | exact E.refl _ _) ?_; intro c n hc) | (refine wpList_cn rfl 57 24 _ rfl v1 v2 _ rfl (by first | assumption | exact neg_E (by assumption)) hok ?_; intro r nr hr))
              go_ret
              exact ⟨_, rfl, by rw [eg]; exact hr, by repeat (first | exact Below.refl _ _ | exact HB.out | apply pw_below_drewN | apply below_alloc | apply below_drew1)⟩
          | false =>
            have hxl : (FloatKind.f32.format.order x 0 == some .lt) = false := hxn
            cases hyn : lt0 y with
            | true =>
              have hyl : (FloatKind.f32.format.order y 0 == some .lt) = true := hyn
              have eg : g3 y x = Op.negFloat .f64 (ar .sub .f64 4598175219545276416 (g0 y x)) := by unfold g3 g2 g1; rw [hg, hxn, hyn]; rfl
              rw [eg] at hok
              go_wp2_with (first | (refine wpList_ar rfl _ _ _ _ _ rfl (by first | exact arS | exact arA | exact arM | exact arQ) _ _ rfl rfl (by first | assumption | exact E.refl _ _) (by first | assumption | exact E.refl _ _) ?_; intro c n hc) | (refine wpList_cn rfl 57 24 _ rfl v1 v2 _ rfl (by first | assumption | exact neg_E (by assumption)) hok ?_; intro r nr hr))
              go_ret
              exact ⟨_, rfl, by rw [eg]; exact hr, by repeat (first | exact Below.refl _ _ | exact HB.out | apply pw_below_drewN | apply below_alloc | apply below_drew1)⟩
            | false =>
              have hyl : (FloatKind.f32.format.order y 0 == some .lt) = false := hyn
              have eg : g3 y x = ar .sub .f64 4598175219545276416 (g0 y x) := by unfold g3 g2 g1; rw [hg, hxn, hyn]; rfl
              rw [eg] at hok
              go_wp2_with (first | (refine wpList_ar rfl _ _ _ _ _ rfl (by first | exact arS | exact arA | exact arM | exact arQ) _ _ rfl rfl (by first | assumption | exact E.refl _ _) (by first | assumption | exact E.refl _ _) ?_; intro c n hc) | (refine wpList_cn rfl 57 24 _ rfl v1 v2 _ rfl (by first | assumption | exact neg_E (by assumption)) hok ?_; intro r nr hr))
              go_ret
              exact ⟨_, rfl, by rw [eg]; exact hr, by repeat (first | exact Below.refl _ _ | exact HB.out | apply pw_below_drewN | apply below_alloc | apply below_drew1)⟩
set_option maxHeartbeats 4000000 in
set_option maxRecDepth 100000 in
theorem ang2 (y x : Nat) (w : World) (hfy : fin y = true) (hfx : fin x = true) (hx0' : (FloatKind.f32.format.order x 0 == some .eq) = false) (hg : gt y x = false) : Calls Tryd.prog 33 #[.float .f32 y, .float .f32 x] w fun e w' => ∃ c, e = .returned (.float .f32 c) ∧ E .f32 (cn (g3 y x)) c ∧ Below w.heap.size w w' := by
  have u1 : (Tryd.prog.underlying 24).isSome = true := by kernel_rfl
  have u2 : Tryd.prog.underlying 57 = some (.float .f64) := by kernel_rfl
  have v1 : (Tryd.prog.underlying 57).isSome = true := by kernel_rfl
  have v2 : Tryd.prog.underlying 24 = some (.float .f32) := by kernel_rfl
  have e0 : (!([y, x].any fun x => !fin x)) = (fin y && fin x) := by cases h0 : fin y <;> cases h1 : fin x <;> simp [h0, h1]
  have hf : (fin y && fin x) = true := by rw [hfy, hfx]; rfl
  rw [hf] at e0
  have hgt : (FloatKind.f64.format.order (ab (wd y)) (ab (wd x)) == some .gt) = false := hg
  have ht0 : t0 y x = ar .quo .f64 (ab (wd y)) (ab (wd x)) := by unfold t0; rw [hg]; rfl
  go_enter Tryd.func33, Tryd.ntmps33
  go_wp2_with (first | (go_at_call 77; refine (finitef _ 2 [y, x] _ (two_C (t := 24) (heap_alloc_new _ _)) (by simp)).mono ?_; rw [e0]; rintro e w1 ⟨rfl, ⟨nd0, rfl⟩⟩) | (refine wpList_conv rfl 24 57 _ rfl u1 u2 _ rfl ?_; intro b n hb; (first | obtain rfl := wd_cv hfy hb | obtain rfl := wd_cv hfx hb)) | (go_at_call 79; refine (Abs.calls _ _).mono ?_; rintro e w1 ⟨rfl, ⟨nd1, rfl⟩⟩) | (refine wpList_ar rfl _ _ _ _ _ rfl (by first | exact arS | exact arA | exact arM | exact arQ) _ _ rfl rfl (by first | assumption | exact E.refl _ _) (by first | assumption | exact E.refl _ _) ?_; intro c n hc))
  go_loopg [7, 42] 3 (fun kq v7 v42 w' => ∃ (i tp c : Nat), v7 = .float .f64 c ∧ v42 = .int .i64 (i : Int) ∧ Aside0 (i + kq = 3) ∧ Aside0 (E .f64 tp c) ∧ Aside0 (tI kq tp = tt y x) ∧ Aside0 (Below w.heap.size w w'))
  case atStart => exact ⟨0, _, _, rfl, rfl, ⟨by simp⟩, ⟨hc⟩, ⟨by unfold tt; rw [ht0]⟩, ⟨by repeat (first | exact Below.refl _ _ | apply pw_below_drewN | apply below_alloc | apply below_drew1)⟩⟩
  case round =>
    obtain ⟨i, tp, ct, rfl, rfl, HI, HE, HT, HB⟩ := hrel
    have hi := HI.out
    have hE := HE.out
    clear hc
    cases gk with
    | succ k1 =>
      have hcond : decide ((i : Int) < 3) = true := by simp; omega
      have hw : wrap64 ((i : Int) + 1) = ((i + 1 : Nat) : Int) := by unfold wrap64; omega
      go_wp2_with (first | (go_at_call 80; refine (XE.Sqrt.calls _ _ (by assumption) _).mono ?_; rintro e w1 ⟨cs, rfl, hcs, ⟨nd2, rfl⟩⟩) | (refine wpList_ar rfl _ _ _ _ _ rfl (by first | exact arS | exact arA | exact arM | exact arQ) _ _ rfl rfl (by first | assumption | exact E.refl _ _) (by first | assumption | exact E.refl _ _) ?_; intro c n hc))
      go_roundg k1
      case measure => omega
      case rel => exact ⟨i + 1, _, _, rfl, rfl, ⟨by omega⟩, ⟨hc⟩, ⟨HT.out⟩, ⟨by repeat (first | exact Below.refl _ _ | exact HB.out | apply pw_below_drewN | apply below_alloc | apply below_drew1)⟩⟩
    | zero =>
      have hcond : decide ((i : Int) < 3) = false := by simp; omega
      have hT := HT.out
      replace hT : tp = tt y x := hT
      subst hT
      go_wp2_with (first | (refine wpList_ar rfl _ _ _ _ _ rfl (by first | exact arS | exact arA | exact arM | exact arQ) _ _ rfl rfl (by first | assumption | exact E.refl _ _) (by first | assumption | exact E.refl _ _) ?_; intro c n hc))
      go_loopg [9, 10] 8 (fun kq v9 v10 w' => ∃ (q c : Nat), v9 = .float .f64 c ∧ v10 = .int .i64 (2 * (kq : Int) - 1) ∧ Aside0 (kq ≤ 8) ∧ Aside0 (E .f64 q c) ∧ Aside0 (pI (ar .mul .f64 (tt y x) (tt y x)) kq (2 * (kq : Int) - 1) q = pp y x) ∧ Aside0 (Below w.heap.size w w'))
      case atStart => exact ⟨0, 0, rfl, rfl, ⟨Nat.le_refl _⟩, ⟨E.refl _ _⟩, ⟨rfl⟩, ⟨by repeat (first | exact Below.refl _ _ | exact HB.out | apply pw_below_drewN | apply below_alloc | apply below_drew1)⟩⟩
      case round =>
        have hu := hc
        clear HB hc
        obtain ⟨q, cq, rfl, rfl, HK, HQ, HP, HB⟩ := hrel
        have hk8 := HK.out
        have hQ := HQ.out
        cases gk with
        | succ k1 =>
          have hcond : decide (1 ≤ 2 * ((k1 + 1 : Nat) : Int) - 1) = true := by simp; omega
          have hw : wrap64 (2 * ((k1 + 1 : Nat) : Int) - 1 - 2) = 2 * (k1 : Int) - 1 := by unfold wrap64; omega
          have hP : pI (ar .mul .f64 (tt y x) (tt y x)) k1 (2 * ((k1 + 1 : Nat) : Int) - 1 - 2) (pS (ar .mul .f64 (tt y x) (tt y x)) (2 * ((k1 + 1 : Nat) : Int) - 1) q) = pp y x := HP.out
          rw [show 2 * ((k1 + 1 : Nat) : Int) - 1 - 2 = 2 * (k1 : Int) - 1 by omega] at hP
          go_wp2_with (first | (refine wpList_ar rfl _ _ _ _ _ rfl (by first | exact arS | exact arA | exact arM | exact arQ) _ _ rfl rfl (by first | assumption | exact E.refl _ _) (by first | assumption | exact E.refl _ _) ?_; intro c n hc))
          go_roundg k1
          case measure => omega
          case rel => exact ⟨_, _, rfl, (by refine congrArg (Value.int .i64) ?_; omega), ⟨by omega⟩, ⟨hc⟩, ⟨hP⟩, ⟨by repeat (first | exact Below.refl _ _ | exact HB.out | apply pw_below_drewN | apply below_alloc | apply below_drew1)⟩⟩
        | zero =>
          have hcond : decide (1 ≤ 2 * ((0 : Nat) : Int) - 1) = false := by decide
          have hP := HP.out
          replace hP : q = pp y x := hP
          subst hP
          have hok := g3_ok hfy hfx
          cases hxn : lt0 x with
          | true =>
            have hxl : (FloatKind.f32.format.order x 0 == some .lt) = true := hxn
            cases hyn : lt0 y with
            | true =>
              have hyl : (FloatKind.f32.format.order y 0 == some .lt) = true := hyn
              have eg : g3 y x = Op.negFloat .f64 (ar .sub .f64 4602678819172646912 (g0 y x)) := by unfold g3 g2 g1; rw [hg, hxn, hyn]; rfl
              rw [eg] at hok
              go_wp2_with (first | (refine wpList_ar rfl _ _ _ _ _ rfl (by first | exact arS | exact arA | exact arM | exact arQ) _ _ rfl rfl (by first | assumption | exact E.refl _ _) (by first | assumption | exact E.refl _ _) ?_; intro c n hc) | (refine wpList_cn rfl 57 24 _ rfl v1 v2 _ rfl (by first | assumption | exact neg_E (by assumption)) hok ?_; intro r nr hr))
              go_ret
              exact ⟨_, rfl, by rw [eg]; exact hr, by repeat (first | exact Below.refl _ _ | exact HB.out | apply pw_below_drewN | apply below_alloc | apply below_drew1)⟩
            | false =>
              have hyl : (FloatKind.f32.format.order y 0 == some .lt) = false := hyn
              have eg : g3 y x = ar .sub .f64 4602678819172646912 (g0 y x) := by unfold g3 g2 g1; rw [hg, hxn, hyn]; rfl
              rw [eg] at hok
              go_wp2_with (first | (refine wpList_ar rfl _ _ _ _ _ rfl (by first | exact arS | exact arA | exact arM | exact arQ) _ _ rfl rfl (by first | assumption | exact E.refl _ _) (by first | assumption | exact E.refl _ _) ?_; intro c n hc) | (refine wpList_cn rfl 57 24 _ rfl v1 v2 _ rfl (by first | assumption | exact neg_E (by assumption)) hok ?_; intro r nr hr))
              go_ret
              exact ⟨_, rfl, by rw [eg]; exact hr, by repeat (first | exact Below.refl _ _ | exact HB.out | apply pw_below_drewN | apply below_alloc | apply below_drew1)⟩
          | false =>
            have hxl : (FloatKind.f32.format.order x 0 == some .lt) = false := hxn
            cases hyn : lt0 y with
            | true =>
              have hyl : (FloatKind.f32.format.order y 0 == some .lt) = true := hyn
              have eg : g3 y x = Op.negFloat .f64 (g0 y x) := by unfold g3 g2 g1; rw [hg, hxn, hyn]; rfl
              rw [eg] at hok
              go_wp2_with (first | (refine wpList_ar rfl _ _ _ _ _ rfl (by first | exact arS | exact arA | exact arM | exact arQ) _ _ rfl rfl (by first | assumption | exact E.refl _ _) (by first | assumption | exact E.refl _ _) ?_; intro c n hc) | (refine wpList_cn rfl 57 24 _ rfl v1 v2 _ rfl (by first | assumption | exact neg_E (by assumption)) hok ?_; intro r nr hr))
              go_ret
              exact ⟨_, rfl, by rw [eg]; exact hr, by repeat (first | exact Below.refl _ _ | exact HB.out | apply pw_below_drewN | apply below_alloc | apply below_drew1)⟩
            | false =>
              have hyl : (FloatKind.f32.format.order y 0 == some .lt) = false := hyn
              have eg : g3 y x = g0 y x := by unfold g3 g2 g1; rw [hg, hxn, hyn]; rfl
              rw [eg] at hok
              go_wp2_with (first | (refine wpList_ar rfl _ _ _ _ _ rfl (by first | exact arS | exact arA | exact arM | exact arQ) _ _ rfl rfl (by first | assumption | exact E.refl _ _) (by first | assumption | exact E.refl _ _) ?_; intro c n hc) | (refine wpList_cn rfl 57 24 _ rfl v1 v2 _ rfl (by first | assumption | exact neg_E (by assumption)) hok ?_; intro r nr hr))
              go_ret
              exact ⟨_, rfl, by rw [eg]; exact hr, by repeat (first | exact Below.refl _ _ | exact HB.out | apply pw_below_drewN | apply below_alloc | apply below_drew1)⟩
end XA
end Go.Proofs.YtnnemdjbopdjmaaDoor
end
section
set_option linter.unusedVariables false
set_option linter.unusedSimpArgs false
namespace Go.Proofs.YtnnemdjbopdjmaaDoor
open Go.RowKit Go.Proofs.YtnnemdjbopdjmaaDoorW.PrintWords Go.Proofs.YtnnemdjbopdjmaaDoorW.PrintLast Go.Proofs.YtnnemdjbopdjmaaDoorW.PrintMore
attribute [local go_sem] max2_int min2_int max_two min_two max_three min_three max_four min_four
namespace XA
open XF XL XM XW XE PB
set_option maxHeartbeats 4000000 in
set_option maxRecDepth 100000 in
theorem ang3 (y x : Nat) (w : World) (hfy : fin y = true) (hfx : fin x = true) (hx0' : (FloatKind.f32.format.order x 0 == some .eq) = true) (hy0' : (FloatKind.f32.format.order y 0 == some .eq) = false) (hg : gt y x = true) : Calls Tryd.prog 33 #[.float .f32 y, .float .f32 x] w fun e w' => ∃ c, e = .returned (.float .f32 c) ∧ E .f32 (cn (g3 y x)) c ∧ Below w.heap.size w w' := by
  have u1 : (Tryd.prog.underlying 24).isSome = true := by kernel_rfl
  have u2 : Tryd.prog.underlying 57 = some (.float .f64) := by kernel_rfl
  have v1 : (Tryd.prog.underlying 57).isSome = true := by kernel_rfl
  have v2 : Tryd.prog.underlying 24 = some (.float .f32) := by kernel_rfl
  have e0 : (!([y, x].any fun x => !fin x)) = (fin y && fin x) := by cases h0 : fin y <;> cases h1 : fin x <;> simp [h0, h1]
  have hf : (fin y && fin x) = true := by rw [hfy, hfx]; rfl
  rw [hf] at e0
  have hgt : (FloatKind.f64.format.order (ab (wd y)) (ab (wd x)) == some .gt) = true := hg
  have ht0 : t0 y x = ar .quo .f64 (ab (wd x)) (ab (wd y)) := by unfold t0; rw [hg]; rfl
  go_enter Tryd.func33, Tryd.ntmps33
  go_wp2_with (first | (go_at_call 77; refine (finitef _ 2 [y, x] _ (two_C (t := 24) (heap_alloc_new _ _)) (by simp)).mono ?_; rw [e0]; rintro e w1 ⟨rfl, ⟨nd0, rfl⟩⟩) | (refine wpList_conv rfl 24 57 _ rfl u1 u2 _ rfl ?_; intro b n hb; (first | obtain rfl := wd_cv hfy hb | obtain rfl := wd_cv hfx hb)) | (go_at_call 79; refine (Abs.calls _ _).mono ?_; rintro e w1 ⟨rfl, ⟨nd1, rfl⟩⟩) | (refine wpList_ar rfl _ _ _ _ _ rfl (by first | exact arS | exact arA | exact arM | exact arQ) _ _ rfl rfl (by first | assumption | exact E.refl _ _) (by first | assumption | exact E.refl _ _) ?_; intro c n hc))
  go_loopg [7, 42] 3 (fun kq v7 v42 w' => ∃ (i tp c : Nat), v7 = .float .f64 c ∧ v42 = .int .i64 (i : Int) ∧ Aside0 (i + kq = 3) ∧ Aside0 (E .f64 tp c) ∧ Aside0 (tI kq tp = tt y x) ∧ Aside0 (Below w.heap.size w w'))
  case atStart => exact ⟨0, _, _, rfl, rfl, ⟨by simp⟩, ⟨hc⟩, ⟨by unfold tt; rw [ht0]⟩, ⟨by repeat (first | exact Below.refl _ _ | apply pw_below_drewN | apply below_alloc | apply below_drew1)⟩⟩
  case round =>
    obtain ⟨i, tp, ct, rfl, rfl, HI, HE, HT, HB⟩ := hrel
    have hi := HI.out
    have hE := HE.out
    clear hc
    cases gk with
    | succ k1 =>
      have hcond : decide ((i : Int) < 3) = true := by simp; omega
      have hw : wrap64 ((i : Int) + 1) = ((i + 1 : Nat) : Int) := by unfold wrap64; omega
      go_wp2_with (first | (go_at_call 80; refine (XE.Sqrt.calls _ _ (by assumption) _).mono ?_; rintro e w1 ⟨cs, rfl, hcs, ⟨nd2, rfl⟩⟩) | (refine wpList_ar rfl _ _ _ _ _ rfl (by first | exact arS | exact arA | exact arM | exact arQ) _ _ rfl rfl (by first | assumption | exact E.refl _ _) (by first | assumption | exact E.refl _ _) ?_; intro c n hc))
      go_roundg k1
      case measure => omega
      case rel => exact ⟨i + 1, _, _, rfl, rfl, ⟨by omega⟩, ⟨hc⟩, ⟨HT.out⟩, ⟨by repeat (first | exact Below.refl _ _ | exact HB.out | apply pw_below_drewN | apply below_alloc | apply below_drew1)⟩⟩
    | zero =>
      have hcond : decide ((i : Int) < 3) = false := by simp; omega
      have hT := HT.out
      replace hT : tp = tt y x := hT
      subst hT
      go_wp2_with (first | (refine wpList_ar rfl _ _ _ _ _ rfl (by first | exact arS | exact arA | exact arM | exact arQ) _ _ rfl rfl (by first | assumption | exact E.refl _ _) (by first | assumption | exact E.refl _ _) ?_; intro c n hc))
      go_loopg [9, 10] 8 (fun kq v9 v10 w' => ∃ (q c : Nat), v9 = .float .f64 c ∧ v10 = .int .i64 (2 * (kq : Int) - 1) ∧ Aside0 (kq ≤ 8) ∧ Aside0 (E .f64 q c) ∧ Aside0 (pI (ar .mul .f64 (tt y x) (tt y x)) kq (2 * (kq : Int) - 1) q = pp y x) ∧ Aside0 (Below w.heap.size w w'))
      case atStart => exact ⟨0, 0, rfl, rfl, ⟨Nat.le_refl _⟩, ⟨E.refl _ _⟩, ⟨rfl⟩, ⟨by repeat (first | exact Below.refl _ _ | exact HB.out | apply pw_below_drewN | apply below_alloc | apply below_drew1)⟩⟩
      case round =>
        have hu := hc
        clear HB hc
        obtain ⟨q, cq, rfl, rfl, HK, HQ, HP, HB⟩ := hrel
        have hk8 := HK.out
        have hQ := HQ.out
        cases gk with
        | succ k1 =>
          have hcond : decide (1 ≤ 2 * ((k1 + 1 : Nat) : Int) - 1) = true := by simp; omega
          have hw : wrap64 (2 * ((k1 + 1 : Nat) : Int) - 1 - 2) = 2 * (k1 : Int) - 1 := by unfold wrap64; omega
          have hP : pI (ar .mul .f64 (tt y x) (tt y x)) k1 (2 * ((k1 + 1 : Nat) : Int) - 1 - 2) (pS (ar .mul .f64 (tt y x) (tt y x)) (2 * ((k1 + 1 : Nat) : Int) - 1) q) = pp y x := HP.out
          rw [show 2 * ((k1 + 1 : Nat) : Int) - 1 - 2 = 2 * (k1 : Int) - 1 by omega] at hP
          go_wp2_with (first | (refine wpList_ar rfl _ _ _ _ _ rfl (by first | exact arS | exact arA | exact arM | exact arQ) _ _ rfl rfl (by first | assumption | exact E.refl _ _) (by first | assumption | exact E.refl _ _) ?_; intro c n hc))
          go_roundg k1
          case measure => omega
          case rel => exact ⟨_, _, rfl, (by refine congrArg (Value.int .i64) ?_; omega), ⟨by omega⟩, ⟨hc⟩, ⟨hP⟩, ⟨by repeat (first | exact Below.refl _ _ | exact HB.out | apply pw_below_drewN | apply below_alloc | apply below_drew1)⟩⟩
        | zero =>
          have hcond : decide (1 ≤ 2 * ((0 : Nat) : Int) - 1) = false := by decide
          have hP := HP.out
          replace hP : q = pp y x := hP
          subst hP
          have hok := g3_ok hfy hfx
          cases hxn : lt0 x with
          | true =>
            have hxl : (FloatKind.f32.format.order x 0 == some .lt) = true := hxn
            cases hyn : lt0 y with
            | true =>
              have hyl : (FloatKind.f32.format.order y 0 == some .lt) = true := hyn
              have eg : g3 y x = Op.negFloat .f64 (ar .sub .f64 4602678819172646912 (ar .sub .f64 4598175219545276416 (g0 y x))) := by unfold g3 g2 g1; rw [hg, hxn, hyn]; rfl
              rw [eg] at hok
              go_wp2_with (first | (refine wpList_ar rfl _ _ _ _ _ rfl (by first | exact arS | exact arA | exact arM | exact arQ) _ _ rfl rfl (by first | assumption | exact E.refl _ _) (by first | assumption | exact E.refl _ _) ?_; intro c n hc) | (refine wpList_cn rfl 57 24 _ rfl v1 v2 _ rfl (by first | assumption | exact neg_E (by assumption)) hok ?_; intro r nr hr))
              go_ret
              exact ⟨_, rfl, by rw [eg]; exact hr, by repeat (first | exact Below.refl _ _ | exact HB.out | apply pw_below_drewN | apply below_alloc | apply below_drew1)⟩
            | false =>
              have hyl : (FloatKind.f32.format.order y 0 == some .lt) = false := hyn
              have eg : g3 y x = ar .sub .f64 4602678819172646912 (ar .sub .f64 4598175219545276416 (g0 y x)) := by unfold g3 g2 g1; rw [hg, hxn, hyn]; rfl
              rw [eg] at hok
              go_wp2_with (first | (refine wpList_ar rfl _ _ _ _ _ rfl (by first | exact arS | exact arA | exact arM | exact arQ) _ _ rfl rfl (by first | assumption | exact E.refl _ _) (by first | assumption | exact E.refl _ _) ?_; intro c n hc) | (refine wpList_cn rfl 57 24 _ rfl v1 v2 _ rfl (by first | assumption | exact neg_E (by assumption)) hok ?_; intro r nr hr))
              go_ret
              exact ⟨_, rfl, by rw [eg]; exact hr, by repeat (first | exact Below.refl _ _ | exact HB.out | apply pw_below_drewN | apply below_alloc | apply below_drew1)⟩
          | false =>
            have hxl : (FloatKind.f32.format.order x 0 == some .lt) = false := hxn
            cases hyn : lt0 y with
            | true =>
              have hyl : (FloatKind.f32.format.order y 0 == some .lt) = true := hyn
              have eg : g3 y x = Op.negFloat .f64 (ar .sub .f64 4598175219545276416 (g0 y x)) := by unfold g3 g2 g1; rw [hg, hxn, hyn]; rfl
              rw [eg] at hok
              go_wp2_with (first | (refine wpList_ar rfl _ _ _ _ _ rfl (by first | exact arS | exact arA | exact arM | exact arQ) _ _ rfl rfl (by first | assumption | exact E.refl _ _) (by first | assumption | exact E.refl _ _) ?_; intro c n hc) | (refine wpList_cn rfl 57 24 _ rfl v1 v2 _ rfl (by first | assumption | exact neg_E (by assumption)) hok ?_; intro r nr hr))
              go_ret
              exact ⟨_, rfl, by rw [eg]; exact hr, by repeat (first | exact Below.refl _ _ | exact HB.out | apply pw_below_drewN | apply below_alloc | apply below_drew1)⟩
            | false =>
              have hyl : (FloatKind.f32.format.order y 0 == some .lt) = false := hyn
              have eg : g3 y x = ar .sub .f64 4598175219545276416 (g0 y x) := by unfold g3 g2 g1; rw [hg, hxn, hyn]; rfl
              rw [eg] at hok
              go_wp2_with (first | (refine wpList_ar rfl _ _ _ _ _ rfl (by first | exact arS | exact arA | exact arM | exact arQ) _ _ rfl rfl (by first | assumption | exact E.refl _ _) (by first | assumption | exact E.refl _ _) ?_; intro c n hc) | (refine wpList_cn rfl 57 24 _ rfl v1 v2 _ rfl (by first | assumption | exact neg_E (by assumption)) hok ?_; intro r nr hr))
              go_ret
              exact ⟨_, rfl, by rw [eg]; exact hr, by repeat (first | exact Below.refl _ _ | exact HB.out | apply pw_below_drewN | apply below_alloc | apply below_drew1)⟩
set_option maxHeartbeats 4000000 in
set_option maxRecDepth 100000 in
theorem ang4 (y x : Nat) (w : World) (hfy : fin y = true) (hfx : fin x = true) (hx0' : (FloatKind.f32.format.order x 0 == some .eq) = true) (hy0' : (FloatKind.f32.format.order y 0 == some .eq) = false) (hg : gt y x = false) : Calls Tryd.prog 33 #[.float .f32 y, .float .f32 x] w fun e w' => ∃ c, e = .returned (.float .f32 c) ∧ E .f32 (cn (g3 y x)) c ∧ Below w.heap.size w w' := by
  have u1 : (Tryd.prog.underlying 24).isSome = true := by kernel_rfl
  have u2 : Tryd.prog.underlying 57 = some (.float .f64) := by kernel_rfl
  have v1 : (Tryd.prog.underlying 57).isSome = true := by kernel_rfl
  have v2 : Tryd.prog.underlying 24 = some (.float .f32) := by kernel_rfl
  have e0 : (!([y, x].any fun x => !fin x)) = (fin y && fin x) := by cases h0 : fin y <;> cases h1 : fin x <;> simp [h0, h1]
  have hf : (fin y && fin x) = true := by rw [hfy, hfx]; rfl
  rw [hf] at e0
  have hgt : (FloatKind.f64.format.order (ab (wd y)) (ab (wd x)) == some .gt) = false := hg
  have ht0 : t0 y x = ar .quo .f64 (ab (wd y)) (ab (wd x)) := by unfold t0; rw [hg]; rfl
  go_enter Tryd.func33, Tryd.ntmps33
  go_wp2_with (first | (go_at_call 77; refine (finitef _ 2 [y, x] _ (two_C (t := 24) (heap_alloc_new _ _)) (by simp)).mono ?_; rw [e0]; rintro e w1 ⟨rfl, ⟨nd0, rfl⟩⟩) | (refine wpList_conv rfl 24 57 _ rfl u1 u2 _ rfl ?_; intro b n hb; (first | obtain rfl := wd_cv hfy hb | obtain rfl := wd_cv hfx hb)) | (go_at_call 79; refine (Abs.calls _ _).mono ?_; rintro e w1 ⟨rfl, ⟨nd1, rfl⟩⟩) | (refine wpList_ar rfl _ _ _ _ _ rfl (by first | exact arS | exact arA | exact arM | exact arQ) _ _ rfl rfl (by first | assumption | exact E.refl _ _) (by first | assumption | exact E.refl _ _) ?_; intro c n hc))
  go_loopg [7, 42] 3 (fun kq v7 v42 w' => ∃ (i tp c : Nat), v7 = .float .f64 c ∧ v42 = .int .i64 (i : Int) ∧ Aside0 (i + kq = 3) ∧ Aside0 (E .f64 tp c) ∧ Aside0 (tI kq tp = tt y x) ∧ Aside0 (Below w.heap.size w w'))
  case atStart => exact ⟨0, _, _, rfl, rfl, ⟨by simp⟩, ⟨hc⟩, ⟨by unfold tt; rw [ht0]⟩, ⟨by repeat (first | exact Below.refl _ _ | apply pw_below_drewN | apply below_alloc | apply below_drew1)⟩⟩
  case round =>
    obtain ⟨i, tp, ct, rfl, rfl, HI, HE, HT, HB⟩ := hrel
    have hi := HI.out
    have hE := HE.out
    clear hc
    cases gk with
    | succ k1 =>
      have hcond : decide ((i : Int) < 3) = true := by simp; omega
      have hw : wrap64 ((i : Int) + 1) = ((i + 1 : Nat) : Int) := by unfold wrap64; omega
      go_wp2_with (first | (go_at_call 80; refine (XE.Sqrt.calls _ _ (by assumption) _).mono ?_; rintro e w1 ⟨cs, rfl, hcs, ⟨nd2, rfl⟩⟩) | (refine wpList_ar rfl _ _ _ _ _ rfl (by first | exact arS | exact arA | exact arM | exact arQ) _ _ rfl rfl (by first | assumption | exact E.refl _ _) (by first | assumption | exact E.refl _ _) ?_; intro c n hc))
      go_roundg k1
      case measure => omega
      case rel => exact ⟨i + 1, _, _, rfl, rfl, ⟨by omega⟩, ⟨hc⟩, ⟨HT.out⟩, ⟨by repeat (first | exact Below.refl _ _ | exact HB.out | apply pw_below_drewN | apply below_alloc | apply below_drew1)⟩⟩
    | zero =>
      have hcond : decide ((i : Int) < 3) = false := by simp; omega
      have hT := HT.out
      replace hT : tp = tt y x := hT
      subst hT
      go_wp2_with (first | (refine wpList_ar rfl _ _ _ _ _ rfl (by first | exact arS | exact arA | exact arM | exact arQ) _ _ rfl rfl (by first | assumption | exact E.refl _ _) (by first | assumption | exact E.refl _ _) ?_; intro c n hc))
      go_loopg [9, 10] 8 (fun kq v9 v10 w' => ∃ (q c : Nat), v9 = .float .f64 c ∧ v10 = .int .i64 (2 * (kq : Int) - 1) ∧ Aside0 (kq ≤ 8) ∧ Aside0 (E .f64 q c) ∧ Aside0 (pI (ar .mul .f64 (tt y x) (tt y x)) kq (2 * (kq : Int) - 1) q = pp y x) ∧ Aside0 (Below w.heap.size w w'))
      case atStart => exact ⟨0, 0, rfl, rfl, ⟨Nat.le_refl _⟩, ⟨E.refl _ _⟩, ⟨rfl⟩, ⟨by repeat (first | exact Below.refl _ _ | exact HB.out | apply pw_below_drewN | apply below_alloc | apply below_drew1)⟩⟩
      case round =>
        have hu := hc
        clear HB hc
        obtain ⟨q, cq, rfl, rfl, HK, HQ, HP, HB⟩ := hrel
        have hk8 := HK.out
        have hQ := HQ.out
        cases gk with
        | succ k1 =>
          have hcond : decide (1 ≤ 2 * ((k1 + 1 : Nat) : Int) - 1) = true := by simp; omega
          have hw : wrap64 (2 * ((k1 + 1 : Nat) : Int) - 1 - 2) = 2 * (k1 : Int) - 1 := by unfold wrap64; omega
          have hP : pI (ar .mul .f64 (tt y x) (tt y x)) k1 (2 * ((k1 + 1 : Nat) : Int) - 1 - 2) (pS (ar .mul .f64 (tt y x) (tt y x)) (2 * ((k1 + 1 : Nat) : Int) - 1) q) = pp y x := HP.out
          rw [show 2 * ((k1 + 1 : Nat) : Int) - 1 - 2 = 2 * (k1 : Int) - 1 by omega] at hP
          go_wp2_with (first | (refine wpList_ar rfl _ _ _ _ _ rfl (by first | exact arS | exact arA | exact arM | exact arQ) _ _ rfl rfl (by first | assumption | exact E.refl _ _) (by first | assumption | exact E.refl _ _) ?_; intro c n hc))
          go_roundg k1
          case measure => omega
          case rel => exact ⟨_, _, rfl, (by refine congrArg (Value.int .i64) ?_; omega), ⟨by omega⟩, ⟨hc⟩, ⟨hP⟩, ⟨by repeat (first | exact Below.refl _ _ | exact HB.out | apply pw_below_drewN | apply below_alloc | apply below_drew1)⟩⟩
        | zero =>
          have hcond : decide (1 ≤ 2 * ((0 : Nat) : Int) - 1) = false := by decide
          have hP := HP.out
          replace hP : q = pp y x := hP
          subst hP
          have hok := g3_ok hfy hfx
          cases hxn : lt0 x with
          | true =>
            have hxl : (FloatKind.f32.format.order x 0 == some .lt) = true := hxn
            cases hyn : lt0 y with
            | true =>
              have hyl : (FloatKind.f32.format.order y 0 == some .lt) = true := hyn
              have eg : g3 y x = Op.negFloat .f64 (ar .sub .f64 4602678819172646912 (g0 y x)) := by unfold g3 g2 g1; rw [hg, hxn, hyn]; rfl
              rw [eg] at hok
              go_wp2_with (first | (refine wpList_ar rfl _ _ _ _ _ rfl (by first | exact arS | exact arA | exact arM | exact arQ) _ _ rfl rfl (by first | assumption | exact E.refl _ _) (by first | assumption | exact E.refl _ _) ?_; intro c n hc) | (refine wpList_cn rfl 57 24 _ rfl v1 v2 _ rfl (by first | assumption | exact neg_E (by assumption)) hok ?_; intro r nr hr))
              go_ret
              exact ⟨_, rfl, by rw [eg]; exact hr, by repeat (first | exact Below.refl _ _ | exact HB.out | apply pw_below_drewN | apply below_alloc | apply below_drew1)⟩
            | false =>
              have hyl : (FloatKind.f32.format.order y 0 == some .lt) = false := hyn
              have eg : g3 y x = ar .sub .f64 4602678819172646912 (g0 y x) := by unfold g3 g2 g1; rw [hg, hxn, hyn]; rfl
              rw [eg] at hok
              go_wp2_with (first | (refine wpList_ar rfl _ _ _ _ _ rfl (by first | exact arS | exact arA | exact arM | exact arQ) _ _ rfl rfl (by first | assumption | exact E.refl _ _) (by first | assumption | exact E.refl _ _) ?_; intro c n hc) | (refine wpList_cn rfl 57 24 _ rfl v1 v2 _ rfl (by first | assumption | exact neg_E (by assumption)) hok ?_; intro r nr hr))
              go_ret
              exact ⟨_, rfl, by rw [eg]; exact hr, by repeat (first | exact Below.refl _ _ | exact HB.out | apply pw_below_drewN | apply below_alloc | apply below_drew1)⟩
          | false =>
            have hxl : (FloatKind.f32.format.order x 0 == some .lt) = false := hxn
            cases hyn : lt0 y with
            | true =>
              have hyl : (FloatKind.f32.format.order y 0 == some .lt) = true := hyn
              have eg : g3 y x = Op.negFloat .f64 (g0 y x) := by unfold g3 g2 g1; rw [hg, hxn, hyn]; rfl
              rw [eg] at hok
              go_wp2_with (first | (refine wpList_ar rfl _ _ _ _ _ rfl (by first | exact arS | exact arA | exact arM | exact arQ) _ _ rfl rfl (by first | assumption | exact E.refl _ _) (by first | assumption | exact E.refl _ _) ?_; intro c n hc) | (refine wpList_cn rfl 57 24 _ rfl v1 v2 _ rfl (by first | assumption | exact neg_E (by assumption)) hok ?_; intro r nr hr))
              go_ret
              exact ⟨_, rfl, by rw [eg]; exact hr, by repeat (first | exact Below.refl _ _ | exact HB.out | apply pw_below_drewN | apply below_alloc | apply below_drew1)⟩
            | false =>
              have hyl : (FloatKind.f32.format.order y 0 == some .lt) = false := hyn
              have eg : g3 y x = g0 y x := by unfold g3 g2 g1; rw [hg, hxn, hyn]; rfl
              rw [eg] at hok
              go_wp2_with (first | (refine wpList_ar rfl _ _ _ _ _ rfl (by first | exact arS | exact arA | exact arM | exact arQ) _ _ rfl rfl (by first | assumption | exact E.refl _ _) (by first | assumption | exact E.refl _ _) ?_; intro c n hc) | (refine wpList_cn rfl 57 24 _ rfl v1 v2 _ rfl (by first | assumption | exact neg_E (by assumption)) hok ?_; intro r nr hr))
              go_ret
              exact ⟨_, rfl, by rw [eg]; exact hr, by repeat (first | exact Below.refl _ _ | exact HB.out | apply pw_below_drewN | apply below_alloc | apply below_drew1)⟩
end XA
end Go.Proofs.YtnnemdjbopdjmaaDoor
end
section
set_option linter.unusedVariables false
set_option linter.unusedSimpArgs false
namespace Go.Proofs.YtnnemdjbopdjmaaDoor
open Go.RowKit Go.Proofs.YtnnemdjbopdjmaaDoorW.PrintWords Go.Proofs.YtnnemdjbopdjmaaDoorW.PrintLast Go.Proofs.YtnnemdjbopdjmaaDoorW.PrintMore
attribute [local go_sem] max2_int min2_int max_two min_two max_three min_three max_four min_four
namespace XA
open XF XL XM XW XE PB
def AngleTurns.f (y x : Nat) : Option Nat := some (AngleTurns.v y x)
set_option maxHeartbeats 4000000 in
set_option maxRecDepth 100000 in
theorem AngleTurns.calls (y x r : Nat) (w : World) (h : AngleTurns.f y x = some r) : Calls Tryd.prog 33 #[.float .f32 y, .float .f32 x] w fun e w' => ∃ c, e = .returned (.float .f32 c) ∧ E .f32 r c ∧ Below w.heap.size w w' := by
  obtain rfl := Option.some.inj h
  have u1 : (Tryd.prog.underlying 24).isSome = true := by kernel_rfl
  have u2 : Tryd.prog.underlying 57 = some (.float .f64) := by kernel_rfl
  have v1 : (Tryd.prog.underlying 57).isSome = true := by kernel_rfl
  have v2 : Tryd.prog.underlying 24 = some (.float .f32) := by kernel_rfl
  have e0 : (!([y, x].any fun x => !fin x)) = (fin y && fin x) := by cases h0 : fin y <;> cases h1 : fin x <;> simp [h0, h1]
  unfold AngleTurns.v
  cases hf : (fin y && fin x) with
  | false =>
    rw [if_neg (by decide)]
    rw [hf] at e0
    have hok : isn .f64 9221120237041090561 = true ∨ ∃ r, floatToFloatBits .f64 9221120237041090561 .f32 = some r := .inl (by decide)
    go_enter Tryd.func33, Tryd.ntmps33
    go_wp2_with (first | (go_at_call 77; refine (finitef _ 2 [y, x] _ (two_C (t := 24) (heap_alloc_new _ _)) (by simp)).mono ?_; rw [e0]; rintro e w1 ⟨rfl, ⟨nd0, rfl⟩⟩) | (go_at_call 78; refine (NaN.calls _).mono ?_; rintro e w1 ⟨rfl, ⟨nd1, rfl⟩⟩) | (refine wpList_cn rfl 57 24 _ rfl v1 v2 _ rfl (E.refl _ _) hok ?_; intro r nr hr))
    go_ret
    exact ⟨_, rfl, hr, by repeat (first | exact Below.refl _ _ | apply pw_below_drewN | apply below_alloc | apply below_drew1)⟩
  | true =>
    rw [if_pos rfl]
    have hfy : fin y = true := by simpa using (Bool.and_eq_true_iff.1 hf).1
    have hfx : fin x = true := by simpa using (Bool.and_eq_true_iff.1 hf).2
    cases hx0 : is0 x with
    | true =>
      have hx0' : (FloatKind.f32.format.order x 0 == some .eq) = true := hx0
      cases hy0 : is0 y with
      | true =>
        have hy0' : (FloatKind.f32.format.order y 0 == some .eq) = true := hy0
        rw [if_pos (by rfl)]
        rw [hf] at e0
        go_enter Tryd.func33, Tryd.ntmps33
        go_wp2_with (first | (go_at_call 77; refine (finitef _ 2 [y, x] _ (two_C (t := 24) (heap_alloc_new _ _)) (by simp)).mono ?_; rw [e0]; rintro e w1 ⟨rfl, ⟨nd0, rfl⟩⟩))
        go_ret
        exact ⟨_, rfl, E.refl _ _, by repeat (first | exact Below.refl _ _ | apply pw_below_drewN | apply below_alloc | apply below_drew1)⟩
      | false =>
        rw [if_neg (by decide)]
        cases hg : gt y x with
        | true => exact ang3 y x w hfy hfx hx0' hy0 hg
        | false => exact ang4 y x w hfy hfx hx0' hy0 hg
    | false =>
      rw [if_neg (by simp)]
      cases hg : gt y x with
      | true => exact ang1 y x w hfy hfx hx0 hg
      | false => exact ang2 y x w hfy hfx hx0 hg
def AngleOf.f (p : Nat × Nat) : Option Nat := some (AngleTurns.v p.2 p.1)
set_option maxHeartbeats 4000000 in
set_option maxRecDepth 100000 in
theorem AngleOf.calls (p : Nat × Nat) (r : Nat) (w : World) (h : AngleOf.f p = some r) : Calls Tryd.prog 34 #[.complex .f32 p.1 p.2] w fun e w' => ∃ c, e = .returned (.float .f32 c) ∧ E .f32 r c ∧ Below w.heap.size w w' := by
  go_enter Tryd.func34, Tryd.ntmps34
  go_wp2_with (first | (go_at_call 33; refine (AngleTurns.calls p.2 p.1 r _ h).mono ?_; rintro e w1 ⟨c, rfl, hc, hb⟩))
  go_ret
  exact ⟨_, rfl, hc, hb⟩
theorem SumNumbers.calls (A : Option Addr) (c : Nat) (xs : List Nat) (r1 : Nat) (r2 : Bool) (w : World) (hr0 : Kd.C (Kd.float .f32) w A xs.length xs) (hc0 : xs.length ≤ c) (h : SumNumbers.f xs = some (r1, r2)) :
    Calls Tryd.prog 29 #[.slice A xs.length c] w fun e w' => ∃ d, e = .returned (.tuple #[.float .f32 d, .bool r2]) ∧ E .f32 r1 d ∧ Drawn0 w w' := by
  unfold SumNumbers.f at h
  split at h
  · obtain ⟨rfl, rfl⟩ := Prod.mk.inj (Option.some.inj h)
    exact SumNumbers.calls' A c xs w hr0 hc0 (by assumption)
  · cases h
end XA
end Go.Proofs.YtnnemdjbopdjmaaDoor
end
section
set_option linter.unusedVariables false
set_option linter.unusedSimpArgs false
namespace Go.Proofs.YtnnemdjbopdjmaaDoor
open Go.RowKit Go.Proofs.YtnnemdjbopdjmaaDoorW.PrintWords Go.Proofs.YtnnemdjbopdjmaaDoorW.PrintLast Go.Proofs.YtnnemdjbopdjmaaDoorW.PrintMore
attribute [local go_sem] max2_int min2_int max_two min_two max_three min_three max_four min_four
namespace XA
open XF XL XM XW XE PB
abbrev q32 : Nat := 1048576000
abbrev q64 : Nat := 4598175219545276416
theorem run_trunc (P : Program) (w : World) : (Extern.MathFloor.toIntegral "math.archTrunc" .zero #[.float .f64 q64]).run P w = .ok (.float .f64 0) w := by
  have key : ∀ d : Ieee.Datum, d = .number false 4503599627370496 (-54) → (match d with
      | .nan s t =>
        if FloatKind.f64.format.quiet t = t then pure (Value.float .f64 q64) else do
        let kept ← choose (.extern "math.Floor,Ceil,Trunc,RoundToEven.signallingNaN kept" 2)
        pure (Value.float .f64 (if kept == 1 then q64 else FloatKind.f64.encode (.nan s (FloatKind.f64.format.quiet t))))
      | d => (pure (Value.float .f64 (FloatKind.f64.encode (d.integral .zero))) : Sem Value)).run P w = .ok (.float .f64 (FloatKind.f64.encode (d.integral .zero))) w := by
    intro d hd
    subst hd
    rfl
  have e1 : FloatKind.f64.decode q64 = .number false 4503599627370496 (-54) := by decide
  have e2 : FloatKind.f64.encode ((FloatKind.f64.decode q64).integral .zero) = 0 := by decide +kernel
  have := key _ e1
  rw [e2] at this
  exact this
def zs : Nat := ar .mul .f64 q64 4618760256179416344
def us : Nat := ar .mul .f64 zs zs
def snS (k : Int) (p : Nat) : Nat := ar .sub .f64 one64 (ar .quo .f64 (ar .mul .f64 us p) (floatOfInt .f64 (2 * k * (2 * k + 1))))
def snI : Nat → Nat → Nat
  | 0, p => p
  | n + 1, p => snI n (snS ((n + 1 : Nat) : Int) p)
def snV : Nat := ar .mul .f64 zs (snI 8 one64)
theorem snV_eq : cn snV = 1065353216 := by decide +kernel
theorem snV_num : isn .f64 snV = true ∨ ∃ r, floatToFloatBits .f64 snV .f32 = some r := .inr ⟨1065353216, by decide +kernel⟩
set_option maxHeartbeats 4000000 in
set_option maxRecDepth 100000 in
theorem trunc116 (w : World) : Calls Tryd.prog 116 #[.float .f64 q64] w fun e w' => e = .returned (.float .f64 0) ∧ Drawn0 w w' := by
  go_enter Tryd.func116, Tryd.ntmps116
  go_wp2
  rw [run_callFunc_extern Tryd.func123 (by kernel_rfl) (by kernel_rfl) (by kernel_rfl) (e := Extern.MathFloor.toIntegral "math.archTrunc" .zero) (by kernel_rfl)]
  rw [run_trunc]
  simp only [Result.andThen]
  rw [Oper.upon_value]
  go_wp2
  go_ret
  exact ⟨rfl, Drawn0.refl _⟩
theorem o1 : (FloatKind.f64.format.order 0 0 != some .eq) = false := by decide
theorem o2 : (FloatKind.f64.format.order q64 0 == some .lt) = false := by decide
set_option maxHeartbeats 4000000 in
set_option maxRecDepth 100000 in
theorem part108 (w : World) : Calls Tryd.prog 108 #[.float .f64 q64] w fun e w' => e = .returned (.float .f64 q64) ∧ Drawn0 w w' := by
  have h1 := o1
  have h2 := o2
  go_enter Tryd.func108, Tryd.ntmps108
  go_wp2_with (first | (go_at_call 116; refine (trunc116 _).mono ?_; rintro e w1 ⟨rfl, ⟨nd, rfl⟩⟩))
  go_ret
  exact ⟨rfl, ⟨_, rfl⟩⟩
theorem o4 : (FloatKind.f64.format.order q64 q64 == some .gt) = false := by decide
theorem o5 : FloatKind.f64.format.order q64 4602678819172646912 = some .lt := by decide
theorem o6 : FloatKind.f64.format.order q64 4841369599423283200 = some .lt := by decide
set_option maxHeartbeats 4000000 in
set_option maxRecDepth 100000 in
theorem sine83 (w : World) : Calls Tryd.prog 83 #[.float .f64 q64] w fun e w' => ∃ c, e = .returned (.float .f64 c) ∧ E .f64 snV c ∧ Drawn0 w w' := by
  have h4 := o4
  have h5 := o5
  go_enter Tryd.func83, Tryd.ntmps83
  go_wp2_with (first | (go_at_call 108; refine (part108 _).mono ?_; rintro e w1 ⟨rfl, ⟨nd, rfl⟩⟩) | (refine wpList_ar rfl _ _ _ _ _ rfl (by first | exact arS | exact arA | exact arM | exact arQ) _ _ rfl rfl (by first | assumption | exact E.refl _ _) (by first | assumption | exact E.refl _ _) ?_; intro c n hc))
  go_loopg [7, 8] 8 (fun kq v7 v8 w' => ∃ (q c : Nat), v7 = .float .f64 c ∧ v8 = .int .i64 (kq : Int) ∧ Aside0 (kq ≤ 8) ∧ Aside0 (E .f64 q c) ∧ Aside0 (snI kq q = snI 8 one64) ∧ Drawn0 w w')
  case atStart => exact ⟨_, _, rfl, rfl, ⟨Nat.le_refl _⟩, ⟨E.refl _ _⟩, ⟨rfl⟩, ⟨_, rfl⟩⟩
  case round =>
    obtain ⟨q, c, rfl, rfl, HK, HQ, HP, ⟨m, rfl⟩⟩ := hrel
    have hk8 := HK.out
    have hQ := HQ.out
    have hP := HP.out
    cases gk with
    | zero =>
      have hcond : decide (1 ≤ ((0 : Nat) : Int)) = false := by decide
      replace hP : q = snI 8 one64 := hP
      subst hP
      go_wp2_with (first | (refine wpList_ar rfl _ _ _ _ _ rfl (by first | exact arS | exact arA | exact arM | exact arQ) _ _ rfl rfl (by first | assumption | exact E.refl _ _) (by first | assumption | exact E.refl _ _) ?_; intro c n hc))
      go_ret
      exact ⟨_, rfl, hc, ⟨_, rfl⟩⟩
    | succ k1 =>
      have hcond : decide (1 ≤ ((k1 + 1 : Nat) : Int)) = true := by simp; omega
      have hw1 : wrap64 (2 * ((k1 + 1 : Nat) : Int)) = 2 * ((k1 + 1 : Nat) : Int) := by unfold wrap64; omega
      have hw2 : wrap64 (2 * ((k1 + 1 : Nat) : Int) + 1) = 2 * ((k1 + 1 : Nat) : Int) + 1 := by unfold wrap64; omega
      have hw4 : wrap64 (((k1 + 1 : Nat) : Int) - 1) = (k1 : Int) := by unfold wrap64; omega
      have hw3 : wrap64 (2 * ((k1 + 1 : Nat) : Int) * (2 * ((k1 + 1 : Nat) : Int) + 1)) = 2 * ((k1 + 1 : Nat) : Int) * (2 * ((k1 + 1 : Nat) : Int) + 1) := by
        have : 2 * ((k1 + 1 : Nat) : Int) * (2 * ((k1 + 1 : Nat) : Int) + 1) ≤ 16 * 17 := Int.mul_le_mul (by omega) (by omega) (by omega) (by omega)
        have : 0 ≤ 2 * ((k1 + 1 : Nat) : Int) * (2 * ((k1 + 1 : Nat) : Int) + 1) := Int.mul_nonneg (by omega) (by omega)
        unfold wrap64
        omega
      have hw5 : wrap64 (2 * ((k1 : Int) + 1) * (2 * ((k1 : Int) + 1) + 1)) = 2 * ((k1 : Int) + 1) * (2 * ((k1 : Int) + 1) + 1) := hw3
      go_wp2_with (first | (refine wpList_ar rfl _ _ _ _ _ rfl (by first | exact arS | exact arA | exact arM | exact arQ) _ _ rfl rfl (by first | assumption | exact E.refl _ _) (by first | assumption | exact E.refl _ _) ?_; intro c n hc))
      go_roundg k1
      case measure => omega
      case rel => exact ⟨_, _, rfl, (by refine congrArg (Value.int .i64) ?_; omega), ⟨by omega⟩, ⟨hc⟩, ⟨hP⟩, ⟨_, rfl⟩⟩
theorem fin_q : fin q32 = true := by decide
theorem wd_q : wd q32 = q64 := by decide
theorem ab_q : ab q64 = q64 := by
  rw [ab_mod]
  exact Nat.mod_eq_of_lt (by decide)
def SineTurns.f (x : Nat) : Option Nat := if x = q32 then some 1065353216 else none
set_option maxHeartbeats 4000000 in
set_option maxRecDepth 100000 in
theorem SineTurns.calls (x r : Nat) (w : World) (h : SineTurns.f x = some r) : Calls Tryd.prog 36 #[.float .f32 x] w fun e w' => e = .returned (.float .f32 r) ∧ Drawn0 w w' := by
  unfold SineTurns.f at h
  split at h
  · rename_i hx
    subst hx
    obtain rfl := Option.some.inj h
    have u1 : (Tryd.prog.underlying 24).isSome = true := by kernel_rfl
    have u2 : Tryd.prog.underlying 57 = some (.float .f64) := by kernel_rfl
    have v1 : (Tryd.prog.underlying 57).isSome = true := by kernel_rfl
    have v2 : Tryd.prog.underlying 24 = some (.float .f32) := by kernel_rfl
    have h6 := o6
    go_enter Tryd.func36, Tryd.ntmps36
    go_wp2_with (first | (go_at_call 81; refine (IsFinite.calls q32 true _ (congrArg some fin_q)).mono ?_; rintro e w1 ⟨rfl, ⟨nd, rfl⟩⟩) | (refine wpList_conv rfl 24 57 _ rfl u1 u2 _ rfl ?_; intro b n hb; obtain rfl := (wd_cv fin_q hb).trans wd_q) | (go_at_call 79; refine (Abs.calls _ _).mono ?_; rw [ab_q]; rintro e w1 ⟨rfl, ⟨nd1, rfl⟩⟩) | (go_at_call 83; refine (sine83 _).mono ?_; rintro e w1 ⟨c, rfl, hc, ⟨nd2, rfl⟩⟩) | (refine wpList_cn rfl 57 24 _ rfl v1 v2 _ rfl (by assumption) snV_num ?_; intro r nr hr))
    rw [snV_eq] at hr
    obtain rfl : r = 1065353216 := by
      rcases hr with h | h
      · exact h
      · exact absurd h.1 (by decide)
    go_ret
    exact ⟨rfl, ⟨_, rfl⟩⟩
  · cases h
end XA
end Go.Proofs.YtnnemdjbopdjmaaDoor
end
