/- Words, walks and plain laws that a claim of this seat needs, one text after the other (part 2). -/
import Derived.Test.YtnnemdjbopdjmaaDoorBP1
import Derived.Laws.Cover2
import Derived.Laws.FloatArith
import Derived.Laws.Cover3
import Derived.Laws.ComplexArith
import Derived.Test.YtnnemdjbopdjmaaDoorProg
set_option linter.unusedVariables false
set_option linter.unusedSimpArgs false
section
namespace Go.Proofs.YtnnemdjbopdjmaaDoorW.PrintWords
open Go.RowKit
namespace Kd
def float (k : FloatKind) : Kd Nat := scalar (Value.float k) (fun _ => rfl)
theorem at_float {w : World} {A : Option Addr} {n : Nat} {k : FloatKind} {xs : List Nat} (h : (Kd.float k).C w A n xs) (i : Int) (h0 : 0 ≤ i) (h1 : i < n) : ∃ ad, A = some ad ∧ w.cell? (ad.add i.toNat) = some (.float k (rdOf (0 : Nat) xs i)) :=
  ReadsOf.at_ (reads_of_C (enc := Value.float k) (d := (0 : Nat)) (h1 := fun _ => rfl) h) i h0 h1
abbrev _root_.Go.cpxV (k : FloatKind) (p : Nat × Nat) : Value := .complex k p.1 p.2
def complex (k : FloatKind) : Kd (Nat × Nat) := scalar (cpxV k) (fun _ => rfl)
theorem at_complex {w : World} {A : Option Addr} {n : Nat} {k : FloatKind} {xs : List (Nat × Nat)} (h : (Kd.complex k).C w A n xs) (i : Int) (h0 : 0 ≤ i) (h1 : i < n) : ∃ ad, A = some ad ∧ w.cell? (ad.add i.toNat) = some (.complex k (rdOf ((0, 0) : Nat × Nat) xs i).1 (rdOf ((0, 0) : Nat × Nat) xs i).2) :=
  ReadsOf.at_ (reads_of_C (enc := cpxV k) (d := ((0, 0) : Nat × Nat)) (h1 := fun _ => rfl) h) i h0 h1
end Kd
def _root_.Go.nsm (x : Nat × Nat) : Bool := (floatToFloatBits .f64 x.1 .f32).isSome && (floatToFloatBits .f64 x.2 .f32).isSome
def _root_.Go.cnar (x : Nat × Nat) : Nat × Nat := ((floatToFloatBits .f64 x.1 .f32).getD 0, (floatToFloatBits .f64 x.2 .f32).getD 0)
@[go_sem] theorem run_cnar {P : Program} (w : World) (src dst : TypeId) (a b : Nat) (hs : (P.underlying src).isSome = true) (hd : P.underlying dst = some (.complex .f32)) (h : nsm (a, b) = true) :
    (convert src dst (.complex .f64 a b)).run P w = .ok (.complex .f32 (cnar (a, b)).1 (cnar (a, b)).2) w := by
  unfold nsm at h
  rw [Bool.and_eq_true] at h
  obtain ⟨h1, h2⟩ := h
  obtain ⟨x, hx⟩ := Option.isSome_iff_exists.1 h1
  obtain ⟨y, hy⟩ := Option.isSome_iff_exists.1 h2
  have e : cConvBits .f64 a b .f32 = some (x, y) := by
    unfold cConvBits
    simp only at hx hy
    rw [hx, hy]
    rfl
  have := run_convert_complex (P := P) (w := w) src dst .f64 .f32 a b x y hs hd e
  unfold cnar
  simp only at hx hy ⊢
  rw [hx, hy]
  exact this
def _root_.Go.fok (op : BinOp) (k : FloatKind) (x y : Nat) : Bool := (floatBits op k x y).isSome
def _root_.Go.fop (op : BinOp) (k : FloatKind) (x y : Nat) : Nat := (floatBits op k x y).getD 0
def _root_.Go.cok (s : FloatKind) (x : Nat) (k : FloatKind) : Bool := (floatToFloatBits s x k).isSome
def _root_.Go.cvt (s : FloatKind) (x : Nat) (k : FloatKind) : Nat := (floatToFloatBits s x k).getD 0
theorem fop_some {op : BinOp} {k : FloatKind} {x y : Nat} (h : fok op k x y = true) : floatBits op k x y = some (fop op k x y) := by
  unfold fok at h
  obtain ⟨r, hr⟩ := Option.isSome_iff_exists.1 h
  unfold fop
  rw [hr]
  rfl
theorem cvt_some {s k : FloatKind} {x : Nat} (h : cok s x k = true) : floatToFloatBits s x k = some (cvt s x k) := by
  unfold cok at h
  obtain ⟨r, hr⟩ := Option.isSome_iff_exists.1 h
  unfold cvt
  rw [hr]
  rfl
@[go_sem] theorem run_fadd {P : Program} (w : World) (t : TypeId) (k : FloatKind) (x y : Nat) (h : fok .add k x y = true) : (binOp .add t (.float k x) (.float k y)).run P w = .ok (.float k (fop .add k x y)) w := run_float_arith w .add t k x y _ (fop_some h)
@[go_sem] theorem run_fsub {P : Program} (w : World) (t : TypeId) (k : FloatKind) (x y : Nat) (h : fok .sub k x y = true) : (binOp .sub t (.float k x) (.float k y)).run P w = .ok (.float k (fop .sub k x y)) w := run_float_arith w .sub t k x y _ (fop_some h)
@[go_sem] theorem run_fmul {P : Program} (w : World) (t : TypeId) (k : FloatKind) (x y : Nat) (h : fok .mul k x y = true) : (binOp .mul t (.float k x) (.float k y)).run P w = .ok (.float k (fop .mul k x y)) w := run_float_arith w .mul t k x y _ (fop_some h)
@[go_sem] theorem run_fquo {P : Program} (w : World) (t : TypeId) (k : FloatKind) (x y : Nat) (h : fok .quo k x y = true) : (binOp .quo t (.float k x) (.float k y)).run P w = .ok (.float k (fop .quo k x y)) w := run_float_arith w .quo t k x y _ (fop_some h)
@[go_sem] theorem run_cvt {P : Program} (w : World) (src dst : TypeId) (s k : FloatKind) (x : Nat) (hs : (P.underlying src).isSome = true) (hd : P.underlying dst = some (.float k)) (h : cok s x k = true) : (convert src dst (.float s x)).run P w = .ok (.float k (cvt s x k)) w :=
  run_convert_float_float w src dst s k x _ hs hd (cvt_some h)
@[go_sem] theorem run_store_complex (P : Program) (w : World) (a : Addr) (m : Mode) (k : FloatKind) (x y : Nat) : (store a (.complex k x y) m).run P w = stored P w a (.complex k x y) m := run_store P w a _ m rfl
@[go_sem] theorem run_store_float (P : Program) (w : World) (a : Addr) (m : Mode) (k : FloatKind) (b : Nat) : (store a (.float k b) m).run P w = stored P w a (.float k b) m := run_store P w a _ m rfl
end Go.Proofs.YtnnemdjbopdjmaaDoorW.PrintWords
end
section
set_option linter.unusedVariables false
namespace Go.Proofs.YtnnemdjbopdjmaaDoor
open Go.RowKit Go.Proofs.YtnnemdjbopdjmaaDoorW.PrintWords Go.Proofs.YtnnemdjbopdjmaaDoorW.PrintLast
namespace XF
def isn (k : FloatKind) (x : Nat) : Bool := (k.format.read x).isNaN
theorem order_nan_l {k : FloatKind} {x y : Nat} (h : isn k x = true) : k.format.order x y = none := by
  unfold isn at h
  unfold Ieee.Format.order
  cases hx : k.format.read x with
  | nan s f => rfl
  | infinity s => rw [hx] at h; cases h
  | number s m e => rw [hx] at h; cases h
theorem cut_nan32 (t : Nat) : isn .f32 ((t % 2) * 2 ^ 31 + 0x7f800000 + 1 + (t / 2) % (2 ^ 23 - 1)) = true := by
  have e : ∀ w : Nat, w % 2147483648 > 2139095040 → isn .f32 w = true := by
    intro w hw
    unfold isn Ieee.Format.read
    have h1 : FloatKind.f32.format.signWeight = 2147483648 := by decide
    have h2 : FloatKind.f32.format.infRung = 2139095040 := by decide
    have h3 : FloatKind.f32.format.binade = 8388608 := by decide
    simp only [h1, h2, h3]
    rw [if_neg (by omega), if_neg (by omega), if_neg (by omega)]
    rfl
  apply e
  have h1 : (t / 2) % (2 ^ 23 - 1) < 8388607 := Nat.mod_lt _ (by decide)
  generalize (t / 2) % (2 ^ 23 - 1) = r at h1 ⊢
  rcases Nat.mod_two_eq_zero_or_one t with h | h <;> rw [h] <;> omega
theorem cut_nan64 (t : Nat) : isn .f64 ((t % 2) * 2 ^ 63 + 0x7ff0000000000000 + 1 + (t / 2) % (2 ^ 52 - 1)) = true := by
  have e : ∀ w : Nat, w % 9223372036854775808 > 9218868437227405312 → isn .f64 w = true := by
    intro w hw
    unfold isn Ieee.Format.read
    have h1 : FloatKind.f64.format.signWeight = 9223372036854775808 := by decide
    have h2 : FloatKind.f64.format.infRung = 9218868437227405312 := by decide
    have h3 : FloatKind.f64.format.binade = 4503599627370496 := by decide
    simp only [h1, h2, h3]
    rw [if_neg (by omega), if_neg (by omega), if_neg (by omega)]
    rfl
  apply e
  have h1 : (t / 2) % (2 ^ 52 - 1) < 4503599627370495 := Nat.mod_lt _ (by decide)
  generalize (t / 2) % (2 ^ 52 - 1) = r at h1 ⊢
  rcases Nat.mod_two_eq_zero_or_one t with h | h <;> rw [h] <;> omega
def nanv (k : FloatKind) (x y t : Nat) : Nat := (Question.nanBits k x y).cut t
theorem nanv_isn (k : FloatKind) (x y t : Nat) : isn k (nanv k x y t) = true := by
  cases k
  · exact cut_nan32 t
  · exact cut_nan64 t
def arith (op : BinOp) : Prop := op = .add ∨ op = .sub ∨ op = .mul ∨ op = .quo
theorem run_arith_none {P : Program} (w : World) (op : BinOp) (hop : arith op) (t : TypeId) (k : FloatKind) (x y : Nat) (h : floatBits op k x y = none) :
    (binOp op t (.float k x) (.float k y)).run P w = .ok (.float k (nanv k x y (w.tape w.drawn (.nanBits k x y)))) w.drew := by
  rcases hop with rfl | rfl | rfl | rfl <;> (unfold floatBits at h; simp only at h; simp [binOp, Op.floatArith, h, Question.forced, nanv])
theorem run_conv_nan {P : Program} (w : World) (src dst : TypeId) (b : Nat) (hs : (P.underlying src).isSome = true) (hd : P.underlying dst = some (.float .f64)) (h : isn .f32 b = true) :
    (convert src dst (.float .f32 b)).run P w = .ok (.float .f64 ((Question.nanConv .f64 b).cut (w.tape w.drawn (.nanConv .f64 b)))) w.drew := by
  obtain ⟨u, hs'⟩ := Option.isSome_iff_exists.1 hs
  unfold isn at h
  cases hx : FloatKind.f32.format.read b with
  | infinity s => rw [hx] at h; cases h
  | number s m e => rw [hx] at h; cases h
  | nan s f =>
    have hx' : FloatKind.f32.decode b = .nan s f := hx
    cases u <;> simp [convert, run_underlying hs', run_underlying hd, Conv.floatToFloat, hx', Question.forced]
end XF
namespace XF
theorem f64s : FloatKind.f64.format.signWeight = 9223372036854775808 := by decide
theorem f64i : FloatKind.f64.format.infRung = 9218868437227405312 := by decide
theorem f64b : FloatKind.f64.format.binade = 4503599627370496 := by decide
theorem f64l : FloatKind.f64.format.leastPlace = -1074 := by decide
theorem f64f : FloatKind.f64.format.fractionBits = 52 := by decide
theorem f32s : FloatKind.f32.format.signWeight = 2147483648 := by decide
theorem f32i : FloatKind.f32.format.infRung = 2139095040 := by decide
theorem f32b : FloatKind.f32.format.binade = 8388608 := by decide
theorem f32l : FloatKind.f32.format.leastPlace = -149 := by decide
theorem cut_zero (neg : Bool) (n : Nat) : Ieee.Toward.even.cut neg n 0 = n := by
  unfold Ieee.Toward.cut
  simp [Nat.mod_one]
theorem word_read_fin {r : Nat} (neg : Bool) (h : r < 9218868437227405312) : (FloatKind.f64.format.read (FloatKind.f64.format.word neg r)).isInfinity = false ∧ (FloatKind.f64.format.read (FloatKind.f64.format.word neg r)).isNaN = false := by
  unfold Ieee.Format.read Ieee.Format.word
  simp only [f64s, f64i, f64b, f64l]
  have e : (if neg = true then 9223372036854775808 + r else r) % 9223372036854775808 = r := by cases neg <;> simp <;> omega
  simp only [e]
  split
  · exact ⟨rfl, rfl⟩
  · exact ⟨rfl, rfl⟩
theorem wide_fin (neg : Bool) (m : Nat) (e : Int) (hm : m < 16777216) (h0 : -149 ≤ e) (h1 : e ≤ 104) : (FloatKind.f64.format.read (FloatKind.f64.format.nearest neg m e)).isInfinity = false ∧ (FloatKind.f64.format.read (FloatKind.f64.format.nearest neg m e)).isNaN = false := by
  unfold Ieee.Format.nearest
  split
  · exact word_read_fin neg (by decide)
  · rename_i h
    have hl : m.log2 < 24 := (Nat.log2_lt h).2 hm
    have hlm : m < 2 ^ (m.log2 + 1) := Nat.lt_log2_self
    simp only [f64b, f64i, f64l, f64f]
    generalize m.log2 = l at hl hlm
    have e1 : max (e + (l : Int) - ((52 : Nat) : Int)) (-1074) = e + l - 52 := by omega
    rw [e1]
    have e2 : (e + (l : Int) - 52 - e).toNat = 0 := by omega
    have e3 : (e - (e + (l : Int) - 52)).toNat = 52 - l := by omega
    rw [e2, e3, cut_zero]
    have e4 : m <<< (52 - l) < 9007199254740992 := by
      rw [Nat.shiftLeft_eq]
      calc m * 2 ^ (52 - l) < 2 ^ (l + 1) * 2 ^ (52 - l) := Nat.mul_lt_mul_of_pos_right hlm (Nat.two_pow_pos _)
        _ = 2 ^ 53 := by rw [← Nat.pow_add]; congr 1; omega
        _ = 9007199254740992 := by decide
    generalize m <<< (52 - l) = K at e4
    refine word_read_fin neg ?_
    omega
def Cv (b b' : Nat) : Prop := (isn .f32 b = true ∧ isn .f64 b' = true) ∨ (isn .f32 b = false ∧ floatToFloatBits .f32 b .f64 = some b')
theorem read32 (b : Nat) : (∃ s m e, FloatKind.f32.format.read b = .number s m e ∧ m < 16777216 ∧ -149 ≤ e ∧ e ≤ 104) ∨ (∃ s, FloatKind.f32.format.read b = .infinity s) ∨ ∃ s f, FloatKind.f32.format.read b = .nan s f := by
  unfold Ieee.Format.read
  simp only [f32s, f32i, f32b, f32l]
  split
  · exact .inl ⟨_, _, _, rfl, by omega, by omega, by omega⟩
  · split
    · exact .inl ⟨_, _, _, rfl, by omega, by omega, by omega⟩
    · split
      · exact .inr (.inl ⟨_, rfl⟩)
      · exact .inr (.inr ⟨_, _, rfl⟩)
theorem cv_some {b : Nat} (h : isn .f32 b = false) : ∃ r, floatToFloatBits .f32 b .f64 = some r := by
  unfold floatToFloatBits
  rw [if_neg (by decide)]
  unfold isn at h
  rcases read32 b with ⟨s, m, e, hx, hm, h0, h1⟩ | ⟨s, hx⟩ | ⟨s, f, hx⟩
  · have hx' : FloatKind.f32.decode b = .number s m e := hx
    rw [hx']
    simp only
    have hw := (wide_fin s m e hm h0 h1).1
    rw [if_neg (by rw [show (FloatKind.f64.decode (FloatKind.f64.encode (.number s m e))).isInfinity = false from hw]; decide)]
    exact ⟨_, rfl⟩
  · have hx' : FloatKind.f32.decode b = .infinity s := hx
    rw [hx']
    exact ⟨_, rfl⟩
  · rw [hx] at h; cases h
theorem run_conv {P : Program} (w : World) (src dst : TypeId) (b : Nat) (hs : (P.underlying src).isSome = true) (hd : P.underlying dst = some (.float .f64)) :
    ∃ b' n, (convert src dst (.float .f32 b)).run P w = .ok (.float .f64 b') (w.drewN n) ∧ Cv b b' := by
  cases h : isn .f32 b with
  | true => exact ⟨_, 1, run_conv_nan w src dst b hs hd h, .inl ⟨h, cut_nan64 _⟩⟩
  | false =>
    obtain ⟨r, hr⟩ := cv_some h
    exact ⟨r, 0, run_convert_float_float w src dst .f32 .f64 b r hs hd hr, .inr ⟨h, hr⟩⟩
theorem order_self {k : FloatKind} {b : Nat} (h : isn k b = false) : k.format.order b b = some .eq := by
  unfold isn at h
  unfold Ieee.Format.order
  cases hx : k.format.read b with
  | nan s f => rw [hx] at h; cases h
  | infinity s => cases s <;> rfl
  | number s m e => simp [Ieee.Datum.order, Std.ReflCmp.compare_self]
theorem wpList_conv {P : Program} {ops : Array Oper} {rest : List Oper} {o : Oper} {a : Act} {w : World} {Q : Exit → Act → World → Prop} (hgd : o.guard = none) (src dst : TypeId) (x : Operand) (ho : o.op = .convert src dst x)
    (hs : (P.underlying src).isSome = true) (hd : P.underlying dst = some (.float .f64)) (b : Nat) (hx : a.eval x = .float .f32 b)
    (h : ∀ b' n, Cv b b' → wpList P ops Q rest (a.put o.dst (.float .f64 b')) (w.drewN n)) : wpList P ops Q (o :: rest) a w := by
  refine wpList_plain hgd fun K hK => ?_
  obtain ⟨b', n, hr, hc⟩ := run_conv (P := P) w src dst b hs hd
  unfold Oper.wp execOp
  simp only [ho, Sem.run_bind, hx, hr, Result.andThen_ok, Sem.run_pure]
  exact hK _ _ (h b' n hc)
end XF
end Go.Proofs.YtnnemdjbopdjmaaDoor
end
section
set_option linter.unusedVariables false
set_option linter.unusedSimpArgs false
namespace Go.Proofs.YtnnemdjbopdjmaaDoor
open Go.RowKit Go.Proofs.YtnnemdjbopdjmaaDoorW.PrintWords Go.Proofs.YtnnemdjbopdjmaaDoorW.PrintLast
namespace XL
open XF
def fin (x : Nat) : Bool := match floatBits .sub .f32 x x with | some r => FloatKind.f32.format.order r 0 == some .eq | none => false
def IsFinite.f (a0 : Nat) : Option Bool := some (fin a0)
set_option maxHeartbeats 4000000 in
set_option maxRecDepth 100000 in
theorem IsFinite.calls (a0 : Nat) (r : Bool) (w : World) (h : IsFinite.f a0 = some r) : Calls Tryd.prog 81 #[.float .f32 a0] w fun e w' => e = .returned (.bool r) ∧ Drawn0 w w' := by
  obtain rfl := Option.some.inj h
  cases e : floatBits .sub .f32 a0 a0 with
  | some q =>
    have q1 := fun w => run_float_arith (P := Tryd.prog) w .sub 24 .f32 a0 a0 q e
    go_enter Tryd.func81, Tryd.ntmps81
    go_wp2
    go_ret
    exact ⟨by simp [fin, e], Drawn0.refl _⟩
  | none =>
    have q1 := fun w => run_arith_none (P := Tryd.prog) w .sub (.inr (.inl rfl)) 24 .f32 a0 a0 e
    have q2 : ∀ t, (FloatKind.f32.format.order (nanv .f32 a0 a0 t) 0 == some .eq) = false := fun t => by rw [order_nan_l (nanv_isn _ _ _ _)]; rfl
    go_enter Tryd.func81, Tryd.ntmps81
    go_wp2
    go_ret
    exact ⟨by simp [fin, e, q2], ⟨1, rfl⟩⟩
def l01Finite.f (a0 : Nat) : Option Bool := some (fin a0)
set_option maxHeartbeats 4000000 in
set_option maxRecDepth 100000 in
theorem l01Finite.calls (a0 : Nat) (r : Bool) (w : World) (h : l01Finite.f a0 = some r) : Calls Tryd.prog 92 #[.float .f32 a0] w fun e w' => e = .returned (.bool r) ∧ Drawn0 w w' := by
  obtain rfl := Option.some.inj h
  cases e : floatBits .sub .f32 a0 a0 with
  | some q =>
    have q1 := fun w => run_float_arith (P := Tryd.prog) w .sub 24 .f32 a0 a0 q e
    go_enter Tryd.func92, Tryd.ntmps92
    go_wp2
    go_ret
    exact ⟨by simp [fin, e], Drawn0.refl _⟩
  | none =>
    have q1 := fun w => run_arith_none (P := Tryd.prog) w .sub (.inr (.inl rfl)) 24 .f32 a0 a0 e
    have q2 : ∀ t, (FloatKind.f32.format.order (nanv .f32 a0 a0 t) 0 == some .eq) = false := fun t => by rw [order_nan_l (nanv_isn _ _ _ _)]; rfl
    go_enter Tryd.func92, Tryd.ntmps92
    go_wp2
    go_ret
    exact ⟨by simp [fin, e, q2], ⟨1, rfl⟩⟩
theorem isNaN_eq (x : Nat) : (FloatKind.f32.format.order x x != some .eq) = isn .f32 x := by
  cases h : isn .f32 x with
  | true => rw [order_nan_l h]; rfl
  | false => rw [order_self h]; rfl
def isNaN.f (a0 : Nat) : Option Bool := some (isn .f32 a0)
set_option maxHeartbeats 4000000 in
set_option maxRecDepth 100000 in
theorem isNaN.calls (a0 : Nat) (r : Bool) (w : World) (h : isNaN.f a0 = some r) : Calls Tryd.prog 67 #[.float .f32 a0] w fun e w' => e = .returned (.bool r) ∧ Drawn0 w w' := by
  obtain rfl := Option.some.inj h
  go_enter Tryd.func67, Tryd.ntmps67
  go_wp2
  go_ret
  exact ⟨by rw [isNaN_eq]; rfl, Drawn0.refl _⟩
def bits (x : Nat) : Int := if isn .f32 x = true then 2143289344 else wrap64 (x : Int)
theorem run_bits (P : Program) (w : World) (x : Nat) : (Extern.MathFloatBits.float32bits #[.float .f32 x]).run P w = .ok (.int .u32 x) w := rfl
def l01Bits.f (a0 : Nat) : Option Int := some (bits a0)
set_option maxHeartbeats 4000000 in
set_option maxRecDepth 100000 in
theorem l01Bits.calls (a0 : Nat) (r : Int) (w : World) (h : l01Bits.f a0 = some r) : Calls Tryd.prog 94 #[.float .f32 a0] w fun e w' => e = .returned (.int .i64 r) ∧ Drawn0 w w' := by
  obtain rfl := Option.some.inj h
  unfold bits
  cases e : isn .f32 a0 with
  | true =>
    have e2 := isNaN_eq a0
    rw [e] at e2
    rw [if_pos rfl]
    go_enter Tryd.func94, Tryd.ntmps94
    go_wp2
    go_ret
    exact ⟨rfl, Drawn0.refl _⟩
  | false =>
    have e2 := isNaN_eq a0
    rw [e] at e2
    rw [if_neg (by decide)]
    go_enter Tryd.func94, Tryd.ntmps94
    go_wp2
    rw [run_callFunc_extern Tryd.func68 (by kernel_rfl) (by kernel_rfl) (by kernel_rfl) (e := Extern.MathFloatBits.float32bits) (by kernel_rfl)]
    rw [run_bits]
    simp only [Result.andThen]
    rw [Oper.upon_value]
    go_wp2
    go_ret
    exact ⟨rfl, Drawn0.refl _⟩
def BitsOf.f (a0 : Nat) : Option Int := some (bits a0)
set_option maxHeartbeats 4000000 in
set_option maxRecDepth 100000 in
theorem BitsOf.calls (a0 : Nat) (r : Int) (w : World) (h : BitsOf.f a0 = some r) : Calls Tryd.prog 25 #[.float .f32 a0] w fun e w' => e = .returned (.int .i64 r) ∧ Drawn0 w w' := by
  obtain rfl := Option.some.inj h
  unfold bits
  cases e : isn .f32 a0 with
  | true =>
    have e2 := isNaN_eq a0
    rw [e] at e2
    rw [if_pos rfl]
    go_enter Tryd.func25, Tryd.ntmps25
    go_wp2_with (go_at_call 67; refine (isNaN.calls _ _ _ (by show some _ = some _; rw [e])).mono ?_; rintro e w1 ⟨rfl, ⟨nd, rfl⟩⟩)
    go_ret
    exact ⟨rfl, by first | exact Drawn0.refl _ | exact ⟨_, rfl⟩⟩
  | false =>
    have e2 := isNaN_eq a0
    rw [e] at e2
    rw [if_neg (by decide)]
    go_enter Tryd.func25, Tryd.ntmps25
    go_wp2_with (go_at_call 67; refine (isNaN.calls _ _ _ (by show some _ = some _; rw [e])).mono ?_; rintro e w1 ⟨rfl, ⟨nd, rfl⟩⟩)
    rw [run_callFunc_extern Tryd.func68 (by kernel_rfl) (by kernel_rfl) (by kernel_rfl) (e := Extern.MathFloatBits.float32bits) (by kernel_rfl)]
    rw [run_bits]
    simp only [Result.andThen]
    rw [Oper.upon_value]
    go_wp2
    go_ret
    exact ⟨rfl, by first | exact Drawn0.refl _ | exact ⟨_, rfl⟩⟩
end XL
end Go.Proofs.YtnnemdjbopdjmaaDoor
end
section
set_option linter.unusedVariables false
set_option linter.unusedSimpArgs false
namespace Go.Proofs.YtnnemdjbopdjmaaDoor
open Go.RowKit Go.Proofs.YtnnemdjbopdjmaaDoorW.PrintWords Go.Proofs.YtnnemdjbopdjmaaDoorW.PrintLast
namespace XM
open XF XL
theorem run_frombits (P : Program) (w : World) (n : Int) : (Extern.MathFloatBits.float32frombits #[.int .u32 n]).run P w = .ok (.float .f32 n.toNat) w := rfl
def FromBits.f (a0 : Int) : Option (Nat × Bool) := if 0 ≤ a0 ∧ a0 ≤ 4294967295 then some ((a0 % 4294967296).toNat, true) else some (0, false)
set_option maxHeartbeats 4000000 in
set_option maxRecDepth 100000 in
theorem FromBits.calls (a0 : Int) (r1 : Nat) (r2 : Bool) (w : World) (h : FromBits.f a0 = some (r1, r2)) : Calls Tryd.prog 24 #[.int .i64 a0] w fun e w' => e = .returned (.tuple #[.float .f32 r1, .bool r2]) ∧ Drawn0 w w' := by
  unfold FromBits.f at h
  split at h
  · rename_i hc
    obtain ⟨rfl, rfl⟩ := Prod.mk.inj (Option.some.inj h)
    have c1 : decide (0 ≤ a0) = true := decide_eq_true hc.1
    have c2 : decide (a0 ≤ 4294967295) = true := decide_eq_true hc.2
    go_enter Tryd.func24, Tryd.ntmps24
    go_wp2
    rw [run_callFunc_extern Tryd.func66 (by kernel_rfl) (by kernel_rfl) (by kernel_rfl) (e := Extern.MathFloatBits.float32frombits) (by kernel_rfl)]
    rw [run_frombits]
    simp only [Result.andThen]
    rw [Oper.upon_value]
    go_wp2
    go_ret2
    exact ⟨by first | rfl | (simp; done) | (simp; rw [Int.emod_eq_of_lt hc.1 (by omega)]), Drawn0.refl _⟩
  · rename_i hc
    obtain ⟨rfl, rfl⟩ := Prod.mk.inj (Option.some.inj h)
    by_cases h1 : 0 ≤ a0
    · have c1 : decide (0 ≤ a0) = true := decide_eq_true h1
      have c2 : decide (a0 ≤ 4294967295) = false := decide_eq_false (fun h => hc ⟨h1, h⟩)
      go_enter Tryd.func24, Tryd.ntmps24
      go_wp2
      go_ret2
      exact ⟨by first | rfl | (simp; done), Drawn0.refl _⟩
    · have c1 : decide (0 ≤ a0) = false := decide_eq_false h1
      go_enter Tryd.func24, Tryd.ntmps24
      go_wp2
      go_ret2
      exact ⟨by first | rfl | (simp; done), Drawn0.refl _⟩
def l01From.f (a0 : Int) : Option Nat := some ((a0 % 4294967296).toNat)
set_option maxHeartbeats 4000000 in
set_option maxRecDepth 100000 in
theorem l01From.calls (a0 : Int) (r : Nat) (w : World) (h : l01From.f a0 = some r) : Calls Tryd.prog 63 #[.int .i64 a0] w fun e w' => e = .returned (.float .f32 r) ∧ Drawn0 w w' := by
  obtain rfl := Option.some.inj h
  go_enter Tryd.func63, Tryd.ntmps63
  go_wp2
  rw [run_callFunc_extern Tryd.func66 (by kernel_rfl) (by kernel_rfl) (by kernel_rfl) (e := Extern.MathFloatBits.float32frombits) (by kernel_rfl)]
  rw [run_frombits]
  simp only [Result.andThen]
  rw [Oper.upon_value]
  go_wp2
  go_ret
  exact ⟨by first | rfl | (simp; done), Drawn0.refl _⟩
def smn (x y : Nat) : Bool := if (isn .f32 x || isn .f32 y) = true then isn .f32 x && isn .f32 y else (x : Int) == (y : Int)
def SameNumber.f (a0 a1 : Nat) : Option Bool := some (smn a0 a1)
set_option maxHeartbeats 4000000 in
set_option maxRecDepth 100000 in
theorem SameNumber.calls (a0 a1 : Nat) (r : Bool) (w : World) (h : SameNumber.f a0 a1 = some r) : Calls Tryd.prog 91 #[.float .f32 a0, .float .f32 a1] w fun e w' => e = .returned (.bool r) ∧ Drawn0 w w' := by
  obtain rfl := Option.some.inj h
  unfold smn
  cases ea : isn .f32 a0 <;> cases eb : isn .f32 a1
  · go_enter Tryd.func91, Tryd.ntmps91
    go_wp2_with (first | (go_at_call 67; (refine (isNaN.calls a0 false _ (congrArg some ea)).mono ?_); rintro e w1 ⟨rfl, ⟨nd1, rfl⟩⟩) | (go_at_call 67; (refine (isNaN.calls a1 false _ (congrArg some eb)).mono ?_); rintro e w1 ⟨rfl, ⟨nd2, rfl⟩⟩))
    rw [run_callFunc_extern Tryd.func68 (by kernel_rfl) (by kernel_rfl) (by kernel_rfl) (e := Extern.MathFloatBits.float32bits) (by kernel_rfl)]
    rw [run_bits]
    simp only [Result.andThen]
    rw [Oper.upon_value]
    go_wp2
    rw [run_callFunc_extern Tryd.func68 (by kernel_rfl) (by kernel_rfl) (by kernel_rfl) (e := Extern.MathFloatBits.float32bits) (by kernel_rfl)]
    rw [run_bits]
    simp only [Result.andThen]
    rw [Oper.upon_value]
    go_wp2
    go_ret
    exact ⟨by first | rfl | (simp; done), by first | exact Drawn0.refl _ | exact ⟨_, rfl⟩⟩
  · go_enter Tryd.func91, Tryd.ntmps91
    go_wp2_with (first | (go_at_call 67; (refine (isNaN.calls a0 false _ (congrArg some ea)).mono ?_); rintro e w1 ⟨rfl, ⟨nd1, rfl⟩⟩) | (go_at_call 67; (refine (isNaN.calls a1 true _ (congrArg some eb)).mono ?_); rintro e w1 ⟨rfl, ⟨nd2, rfl⟩⟩))
    go_ret
    exact ⟨by first | rfl | (simp; done), by first | exact Drawn0.refl _ | exact ⟨_, rfl⟩⟩
  · go_enter Tryd.func91, Tryd.ntmps91
    go_wp2_with (first | (go_at_call 67; (refine (isNaN.calls a0 true _ (congrArg some ea)).mono ?_); rintro e w1 ⟨rfl, ⟨nd1, rfl⟩⟩) | (go_at_call 67; (refine (isNaN.calls a1 false _ (congrArg some eb)).mono ?_); rintro e w1 ⟨rfl, ⟨nd2, rfl⟩⟩))
    go_ret
    exact ⟨by first | rfl | (simp; done), by first | exact Drawn0.refl _ | exact ⟨_, rfl⟩⟩
  · go_enter Tryd.func91, Tryd.ntmps91
    go_wp2_with (first | (go_at_call 67; (refine (isNaN.calls a0 true _ (congrArg some ea)).mono ?_); rintro e w1 ⟨rfl, ⟨nd1, rfl⟩⟩) | (go_at_call 67; (refine (isNaN.calls a1 true _ (congrArg some eb)).mono ?_); rintro e w1 ⟨rfl, ⟨nd2, rfl⟩⟩))
    go_ret
    exact ⟨by first | rfl | (simp; done), by first | exact Drawn0.refl _ | exact ⟨_, rfl⟩⟩
end XM
end Go.Proofs.YtnnemdjbopdjmaaDoor
end
section
set_option linter.unusedVariables false
set_option linter.unusedSimpArgs false
namespace Go.Proofs.YtnnemdjbopdjmaaDoor
open Go.RowKit Go.Proofs.YtnnemdjbopdjmaaDoorW.PrintWords Go.Proofs.YtnnemdjbopdjmaaDoorW.PrintLast Go.Proofs.YtnnemdjbopdjmaaDoorW.PrintMore
attribute [local go_sem] max2_int min2_int max_two min_two max_three min_three max_four min_four
namespace XW
open XF XL
set_option maxHeartbeats 4000000 in
set_option maxRecDepth 100000 in
theorem litf (a0 : Nat) (w : World) : Calls Tryd.prog 104 #[.float .f32 a0] w fun e w' => e = .returned (.bool (!fin a0)) ∧ Drawn0 w w' := by
  go_enter Tryd.func104, Tryd.ntmps104
  go_wp2_with (go_at_call 81; refine (IsFinite.calls _ _ _ rfl).mono ?_; rintro e w1 ⟨rfl, ⟨nd, rfl⟩⟩)
  go_ret
  exact ⟨rfl, ⟨_, rfl⟩⟩
def ix {α : Type} (p : α → Bool) : List α → Int → Int
  | [], _ => -1
  | x :: r, i => if p x = true then i else ix p r (i + 1)
theorem ix_ge {α : Type} (p : α → Bool) : ∀ (xs : List α) (i : Int), 0 ≤ i → (decide (0 ≤ ix p xs i)) = xs.any p
  | [], i, _ => by simp [ix]
  | x :: r, i, h => by
    unfold ix
    cases e : p x with
    | true => simp [e, h]
    | false => simp [e, ix_ge p r (i + 1) (by omega)]
set_option maxHeartbeats 4000000 in
set_option maxRecDepth 100000 in
theorem indexf (A : Option Addr) (c : Nat) (xs : List Nat) (r : Int) (hr : ix (fun x => !fin x) xs 0 = r) (w : World) (hr0 : Kd.C (Kd.float .f32) w A xs.length xs) (hc0 : xs.length ≤ c) :
    Calls Tryd.prog 115 #[.slice A xs.length c, .func (.func 104) #[] #[]] w fun e w' => e = .returned (.int .i64 r) ∧ Drawn0 w w' := by
  have HR0 := Aside0.mk hr0
  clear hr0
  have hmx : xs.length ≤ 9223372036854775807 := Kd.C_max HR0.out
  go_enter Tryd.func115, Tryd.ntmps115
  go_wp2
  go_loopg [8] xs.length (fun kq v8 w' => ∃ (i : Nat), v8 = .int .i64 (i : Int) ∧ Aside0 (i + kq = xs.length) ∧ Aside0 (ix (fun x => !fin x) (xs.drop i) (i : Int) = r) ∧ Drawn0 w w')
  case atStart => exact ⟨0, rfl, ⟨by simp⟩, ⟨hr⟩, Drawn0.refl _⟩
  case round =>
    obtain ⟨i, rfl, HI, HX, ⟨m, rfl⟩⟩ := hrel
    have hi := HI.out
    have hx0 := HX.out
    cases gk with
    | zero =>
      have hc : decide ((i : Int) < (xs.length : Int)) = false := by simp; omega
      rw [List.drop_eq_nil_of_le (by omega), ix] at hx0
      subst hx0
      go_wp2
      go_ret
      exact ⟨rfl, ⟨_, rfl⟩⟩
    | succ k1 =>
      have hil : i < xs.length := by omega
      have hc : decide ((i : Int) < (xs.length : Int)) = true := by simp; omega
      have p0 : (0 : Int) ≤ (i : Int) := by omega
      have q0 : (i : Int) < (xs.length : Int) := by omega
      obtain ⟨ad, ead, hx⟩ := Kd.at_float HR0.out (i : Int) p0 q0
      cases ead
      rw [Int.toNat_natCast, show rdOf (0 : Nat) xs (i : Int) = xs[i] by simp [rdOf, hil]] at hx
      rw [List.drop_eq_getElem_cons hil, ix] at hx0
      generalize xs[i] = x at hx hx0
      have p0b := eq_true p0
      have q0b := eq_true q0
      cases e : fin x with
      | false =>
        rw [e, if_pos (by rfl)] at hx0
        subst hx0
        go_wp2_with (first | (go_at_call 104; refine (litf _ _).mono ?_; rintro e w1 ⟨rfl, ⟨nd, rfl⟩⟩))
        go_ret
        exact ⟨rfl, ⟨_, rfl⟩⟩
      | true =>
        rw [e, if_neg (by decide)] at hx0
        go_wp2_with (first | (go_at_call 104; refine (litf _ _).mono ?_; rintro e w1 ⟨rfl, ⟨nd, rfl⟩⟩))
        go_roundg k1
        case measure => omega
        case rel => exact ⟨i + 1, rfl, ⟨by omega⟩, ⟨hx0⟩, ⟨_, rfl⟩⟩
set_option maxHeartbeats 4000000 in
set_option maxRecDepth 100000 in
theorem containsf (A : Option Addr) (c : Nat) (xs : List Nat) (w : World) (hr0 : Kd.C (Kd.float .f32) w A xs.length xs) (hc0 : xs.length ≤ c) :
    Calls Tryd.prog 103 #[.slice A xs.length c, .func (.func 104) #[] #[]] w fun e w' => e = .returned (.bool (xs.any fun x => !fin x)) ∧ Drawn0 w w' := by
  have hg := ix_ge (fun x => !fin x) xs 0 (Int.le_refl _)
  go_enter Tryd.func103, Tryd.ntmps103
  go_wp2_with (first | (go_at_call 115; refine (indexf _ _ _ _ rfl _ hr0 hc0).mono ?_; rintro e w1 ⟨rfl, ⟨nd, rfl⟩⟩))
  go_ret
  exact ⟨by first | rfl | (rw [← hg]; rfl), ⟨_, rfl⟩⟩
set_option maxHeartbeats 4000000 in
set_option maxRecDepth 100000 in
theorem finitef (A : Option Addr) (c : Nat) (xs : List Nat) (w : World) (hr0 : Kd.C (Kd.float .f32) w A xs.length xs) (hc0 : xs.length ≤ c) :
    Calls Tryd.prog 77 #[.slice A xs.length c] w fun e w' => e = .returned (.bool (!xs.any fun x => !fin x)) ∧ Drawn0 w w' := by
  go_enter Tryd.func77, Tryd.ntmps77
  go_wp2_with (first | (go_at_call 103; refine (containsf _ _ _ _ hr0 hc0).mono ?_; rintro e w1 ⟨rfl, ⟨nd, rfl⟩⟩))
  go_ret
  exact ⟨rfl, ⟨_, rfl⟩⟩
theorem two_C {k : FloatKind} {b : Nat} {x y : Nat} {t : TypeId} {w : World} (h : w.heap[b]? = some (.cells #[.float k x, .float k y] t (0, 0))) : Kd.C (Kd.float k) w (some ⟨b, 0, none⟩) [x, y].length [x, y] := by
  refine Kd.C_of_reads (d := (0 : Nat)) ⟨rfl, by simp, fun _ => ⟨_, rfl, fun j hj => ?_⟩⟩
  have hj3 : j < 2 := hj
  rw [add_plain]
  unfold World.cell?
  rw [h]
  match j, hj3 with
  | 0, _ => rfl
  | 1, _ => rfl
def cfin (p : Nat × Nat) : Bool := fin p.1 && fin p.2
set_option maxHeartbeats 4000000 in
set_option maxRecDepth 100000 in
theorem isFiniteComplex (x y : Nat) (w : World) : Calls Tryd.prog 51 #[.complex .f32 x y] w fun e w' => e = .returned (.bool (cfin (x, y))) ∧ Below w.heap.size w w' := by
  have e0 : (!([x, y].any fun x => !fin x)) = cfin (x, y) := by unfold cfin; cases h0 : fin x <;> cases h1 : fin y <;> simp [h0, h1]
  rw [← e0]
  go_enter Tryd.func51, Tryd.ntmps51
  go_wp2_with (first | (go_at_call 77; refine (finitef _ 2 [x, y] _ (two_C (t := 24) (heap_alloc_new _ _)) (by simp)).mono ?_; rintro e w1 ⟨rfl, ⟨nd, rfl⟩⟩))
  go_ret
  exact ⟨by first | rfl | (simp; done), by repeat (first | exact Below.refl _ _ | apply below_alloc | apply pw_below_drewN | apply below_drew1)⟩
end XW
end Go.Proofs.YtnnemdjbopdjmaaDoor
end
section
set_option linter.unusedVariables false
set_option linter.unusedSimpArgs false
namespace Go.Proofs.YtnnemdjbopdjmaaDoor.PI
open Go.RowKit Go.Proofs.YtnnemdjbopdjmaaDoor Go.Proofs.YtnnemdjbopdjmaaDoorW.PrintWords
theorem f32s : FloatKind.f32.format.signWeight = 2147483648 := by decide
theorem f32i : FloatKind.f32.format.infRung = 2139095040 := by decide
theorem f32b : FloatKind.f32.format.binade = 8388608 := by decide
theorem f32l : FloatKind.f32.format.leastPlace = -149 := by decide
theorem f32f : FloatKind.f32.format.fractionBits = 23 := by decide
theorem log2_shift {m : Nat} (h : m ≠ 0) (k : Nat) : (m * 2 ^ k).log2 = m.log2 + k := by
  have h2 : m * 2 ^ k ≠ 0 := Nat.mul_ne_zero h (Nat.pos_iff_ne_zero.1 (Nat.two_pow_pos k))
  refine Nat.le_antisymm ?_ ?_
  · have : (m * 2 ^ k).log2 < m.log2 + k + 1 := (Nat.log2_lt h2).2 (by
      have := @Nat.lt_log2_self m
      calc m * 2 ^ k < 2 ^ (m.log2 + 1) * 2 ^ k := Nat.mul_lt_mul_of_pos_right this (Nat.two_pow_pos k)
        _ = 2 ^ (m.log2 + k + 1) := by rw [← Nat.pow_add]; congr 1; omega)
    omega
  · exact (Nat.le_log2 h2).2 (by
      rw [Nat.pow_add]
      exact Nat.mul_le_mul_right _ (Nat.log2_self_le h))
theorem cut_shift (neg : Bool) {m : Nat} (h : m ≠ 0) (k b : Nat) : Ieee.Toward.even.cut neg (m * 2 ^ k) (b + k) = Ieee.Toward.even.cut neg m b := by
  unfold Ieee.Toward.cut
  simp only [Nat.one_shiftLeft]
  rw [log2_shift h]
  have e : min (b + k) (m.log2 + k + 2) = min b (m.log2 + 2) + k := by omega
  rw [e, Nat.pow_add]
  have p := Nat.two_pow_pos k
  rw [Nat.mul_div_mul_right _ _ p, Nat.mul_mod_mul_right]
  generalize 2 ^ min b (m.log2 + 2) = g
  have c1 : (g * 2 ^ k < 2 * (m % g * 2 ^ k)) = (g < 2 * (m % g)) := by
    rw [← Nat.mul_assoc]
    exact propext (Nat.mul_lt_mul_right p)
  have c2 : (g * 2 ^ k == 2 * (m % g * 2 ^ k)) = (g == 2 * (m % g)) := by
    rw [← Nat.mul_assoc]
    rw [Bool.eq_iff_iff, beq_iff_eq, beq_iff_eq]
    exact ⟨fun hc => Nat.eq_of_mul_eq_mul_right p hc, fun hc => congrArg (· * 2 ^ k) hc⟩
  simp only [c1, c2]
theorem cut_zero' (neg : Bool) (n : Nat) : Ieee.Toward.even.cut neg n 0 = n := XF.cut_zero neg n
theorem cut_exact (neg : Bool) {m : Nat} (h : m ≠ 0) (k b : Nat) (hb : b ≤ k) : Ieee.Toward.even.cut neg (m * 2 ^ k) b = m * 2 ^ (k - b) := by
  have e : m * 2 ^ k = (m * 2 ^ (k - b)) * 2 ^ b := by rw [Nat.mul_assoc, ← Nat.pow_add]; congr 2; omega
  have h2 : m * 2 ^ (k - b) ≠ 0 := Nat.mul_ne_zero h (Nat.pos_iff_ne_zero.1 (Nat.two_pow_pos _))
  have := cut_shift neg h2 b 0
  rw [Nat.zero_add, cut_zero'] at this
  rw [e, this]
theorem nearest_shift (f : Ieee.Format) (neg : Bool) (m k : Nat) (p : Int) : f.nearest neg (m * 2 ^ k) p = f.nearest neg m (p + k) := by
  by_cases h : m = 0
  · subst h
    simp [Ieee.Format.nearest]
  · have h2 : m * 2 ^ k ≠ 0 := Nat.mul_ne_zero h (Nat.pos_iff_ne_zero.1 (Nat.two_pow_pos k))
    unfold Ieee.Format.nearest
    rw [if_neg h2, if_neg h, log2_shift h]
    have e : p + ((m.log2 + k : Nat) : Int) - f.fractionBits = p + k + (m.log2 : Int) - f.fractionBits := by omega
    rw [e]
    generalize max (p + k + (m.log2 : Int) - f.fractionBits) f.leastPlace = last
    have key : Ieee.Toward.even.cut neg ((m * 2 ^ k) <<< (p - last).toNat) (last - p).toNat = Ieee.Toward.even.cut neg (m <<< (p + k - last).toNat) (last - (p + k)).toNat := by
      rw [Nat.shiftLeft_eq, Nat.shiftLeft_eq]
      rcases Int.le_total last p with c | c
      · have a1 : (last - p).toNat = 0 := by omega
        have a2 : (last - (p + k)).toNat = 0 := by omega
        have a3 : (p + k - last).toNat = k + (p - last).toNat := by omega
        rw [a1, a2, a3, cut_zero', cut_zero', Nat.pow_add, Nat.mul_assoc]
      · have a1 : (p - last).toNat = 0 := by omega
        rw [a1, Nat.pow_zero, Nat.mul_one]
        rcases Int.le_total last (p + k) with c2 | c2
        · have a2 : (last - (p + k)).toNat = 0 := by omega
          have a3 : (p + k - last).toNat = k - (last - p).toNat := by omega
          rw [a2, a3, cut_zero', cut_exact neg h _ _ (by omega)]
        · have a2 : (p + k - last).toNat = 0 := by omega
          have a3 : (last - p).toNat = (last - (p + k)).toNat + k := by omega
          rw [a2, a3, Nat.pow_zero, Nat.mul_one, cut_shift neg h]
    simp only [key]
theorem read_word (neg : Bool) (r : Nat) (h : r < 2139095040) : FloatKind.f32.format.read (FloatKind.f32.format.word neg r) = if r < 8388608 then .number neg r (-149) else .number neg (8388608 + r % 8388608) (-149 + ((r / 8388608 - 1 : Nat) : Int)) := by
  unfold Ieee.Format.read Ieee.Format.word
  simp only [f32s, f32i, f32b, f32l]
  have e : (if neg = true then 2147483648 + r else r) % 2147483648 = r := by cases neg <;> simp <;> omega
  have e2 : ((if neg = true then 2147483648 + r else r) / 2147483648 % 2 == 1) = neg := by
    cases neg
    · have : r / 2147483648 = 0 := Nat.div_eq_of_lt (by omega)
      simp [this]
    · have : (2147483648 + r) / 2147483648 = 1 := by omega
      simp [this]
  simp only [e, e2]
  split
  · rfl
  · first | rfl | rw [if_pos h]
theorem read_near (s : Bool) {m : Nat} (h0 : m ≠ 0) (h : m < 16777216) : FloatKind.f32.format.read (FloatKind.f32.format.nearest s m 0) = .number s (m * 2 ^ (23 - m.log2)) (-((23 - m.log2 : Nat) : Int)) := by
  have hL : m.log2 < 24 := (Nat.log2_lt h0).2 (by simpa using h)
  unfold Ieee.Format.nearest
  rw [if_neg h0]
  simp only [f32f, f32l, f32b, f32i]
  have e1 : max (0 + (m.log2 : Int) - ((23 : Nat) : Int)) (-149) = (m.log2 : Int) - 23 := by omega
  rw [e1]
  have e2 : (0 - ((m.log2 : Int) - 23)).toNat = 23 - m.log2 := by omega
  have e3 : ((m.log2 : Int) - 23 - 0).toNat = 0 := by omega
  have e4 : ((m.log2 : Int) - 23 - -149).toNat = m.log2 + 126 := by omega
  rw [e2, e3, e4, cut_zero', Nat.shiftLeft_eq]
  have k1 : 8388608 ≤ m * 2 ^ (23 - m.log2) := by
    have := Nat.mul_le_mul_right (2 ^ (23 - m.log2)) (Nat.log2_self_le h0)
    rw [← Nat.pow_add, show m.log2 + (23 - m.log2) = 23 by omega] at this
    simpa using this
  have k2 : m * 2 ^ (23 - m.log2) < 16777216 := by
    have := Nat.mul_lt_mul_of_pos_right (@Nat.lt_log2_self m) (Nat.two_pow_pos (23 - m.log2))
    rw [← Nat.pow_add, show m.log2 + 1 + (23 - m.log2) = 24 by omega] at this
    simpa using this
  generalize m * 2 ^ (23 - m.log2) = K at k1 k2
  rw [Nat.min_eq_left (by omega), read_word s _ (by omega), if_neg (by omega)]
  have e5 : 8388608 + ((m.log2 + 126) * 8388608 + K) % 8388608 = K := by omega
  have e6 : -149 + ((((m.log2 + 126) * 8388608 + K) / 8388608 - 1 : Nat) : Int) = -((23 - m.log2 : Nat) : Int) := by omega
  rw [e5, e6]
def Zd (d : Ieee.Datum) (n : Int) : Prop := ∃ (s : Bool) (m k : Nat), d = .number s (m * 2 ^ k) (-(k : Int)) ∧ n = if s = true then -(m : Int) else m
def Zr (x : Nat) (n : Int) : Prop := Zd (FloatKind.f32.format.read x) n
theorem Zr_near (s : Bool) (m p : Nat) (h : m < 16777216) : Zr (FloatKind.f32.format.nearest s (m * 2 ^ p) (-(p : Int))) (if s = true then -(m : Int) else m) := by
  rw [nearest_shift, show -(p : Int) + (p : Int) = 0 by omega]
  by_cases h0 : m = 0
  · subst h0
    refine ⟨s, 0, 149, ?_, rfl⟩
    cases s <;> decide
  · exact ⟨s, m, _, read_near s h0 h, rfl⟩
theorem int_near (n : Int) : floatOfInt .f32 n = FloatKind.f32.format.nearest (decide (n < 0)) n.natAbs 0 := rfl
theorem Zr_int (n : Int) (h : n.natAbs < 16777216) : Zr (floatOfInt .f32 n) n := by
  have := Zr_near (decide (n < 0)) n.natAbs 0 h
  rw [Nat.pow_zero, Nat.mul_one, show -((0 : Nat) : Int) = 0 from rfl] at this
  rw [int_near]
  have e : n = if decide (n < 0) = true then -(n.natAbs : Int) else n.natAbs := by
    by_cases c : n < 0
    · rw [decide_eq_true c, if_pos rfl]; omega
    · rw [decide_eq_false c, if_neg (by decide)]; omega
  rw [← e] at this
  exact this
theorem sum_Z {d e : Ieee.Datum} {a b : Int} (hd : Zd d a) (he : Zd e b) (h : (a + b).natAbs < 16777216) : ∃ r, (d.sum e).map FloatKind.f32.format.write = some r ∧ Zr r (a + b) := by
  obtain ⟨s, m, k, rfl, rfl⟩ := hd
  obtain ⟨t, n, j, rfl, rfl⟩ := he
  generalize ha : (if s = true then -(m : Int) else m) = a at h
  generalize hb : (if t = true then -(n : Int) else n) = b at h
  have hK : min (-(k : Int)) (-(j : Int)) = -((max k j : Nat) : Int) := by omega
  have e1 : (-(k : Int) - -((max k j : Nat) : Int)).toNat = max k j - k := by omega
  have e2 : (-(j : Int) - -((max k j : Nat) : Int)).toNat = max k j - j := by omega
  have p1 : m * 2 ^ k * 2 ^ (max k j - k) = m * 2 ^ max k j := by rw [Nat.mul_assoc, ← Nat.pow_add]; congr 2; omega
  have p2 : n * 2 ^ j * 2 ^ (max k j - j) = n * 2 ^ max k j := by rw [Nat.mul_assoc, ← Nat.pow_add]; congr 2; omega
  have g1 : Ieee.signed s (m * 2 ^ k) (max k j - k) = a * ((2 ^ max k j : Nat) : Int) := by
    unfold Ieee.signed
    rw [Nat.shiftLeft_eq, p1, ← ha]
    cases s <;> simp [Int.neg_mul]
  have g2 : Ieee.signed t (n * 2 ^ j) (max k j - j) = b * ((2 ^ max k j : Nat) : Int) := by
    unfold Ieee.signed
    rw [Nat.shiftLeft_eq, p2, ← hb]
    cases t <;> simp [Int.neg_mul]
  have tot : Ieee.signed s (m * 2 ^ k) (max k j - k) + Ieee.signed t (n * 2 ^ j) (max k j - j) = (a + b) * ((2 ^ max k j : Nat) : Int) := by rw [g1, g2, Int.add_mul]
  have hs : (Ieee.Datum.number s (m * 2 ^ k) (-(k : Int))).sum (.number t (n * 2 ^ j) (-(j : Int))) = some (.number (if (a + b) * ((2 ^ max k j : Nat) : Int) = 0 then s && t else decide ((a + b) * ((2 ^ max k j : Nat) : Int) < 0)) ((a + b) * ((2 ^ max k j : Nat) : Int)).natAbs (-((max k j : Nat) : Int))) := by
    unfold Ieee.Datum.sum
    simp only [hK, e1, e2, tot]
  rw [hs]
  refine ⟨_, rfl, ?_⟩
  show Zr (FloatKind.f32.format.nearest _ _ _) _
  rw [Int.natAbs_mul, Int.natAbs_natCast]
  generalize hsg : (if (a + b) * ((2 ^ max k j : Nat) : Int) = 0 then s && t else decide ((a + b) * ((2 ^ max k j : Nat) : Int) < 0)) = sg
  have hz := Zr_near sg (a + b).natAbs (max k j) h
  have hp : (0 : Int) < ((2 ^ max k j : Nat) : Int) := by
    have := Nat.two_pow_pos (max k j)
    omega
  have e : a + b = if sg = true then -((a + b).natAbs : Int) else (a + b).natAbs := by
    by_cases c0 : a + b = 0
    · rw [c0]; simp
    · have c1 : (a + b) * ((2 ^ max k j : Nat) : Int) ≠ 0 := Int.mul_ne_zero c0 (by omega)
      rw [if_neg c1] at hsg
      by_cases c : a + b < 0
      · have : (a + b) * ((2 ^ max k j : Nat) : Int) < 0 := Int.mul_neg_of_neg_of_pos c hp
        rw [decide_eq_true this] at hsg
        subst hsg
        rw [if_pos rfl]; omega
      · have : ¬ (a + b) * ((2 ^ max k j : Nat) : Int) < 0 := by
          have := Int.mul_nonneg (by omega : 0 ≤ a + b) (by omega : 0 ≤ ((2 ^ max k j : Nat) : Int))
          omega
        rw [decide_eq_false this] at hsg
        subst hsg
        rw [if_neg (by decide)]; omega
  rw [← e] at hz
  exact hz
theorem opp_Z {d : Ieee.Datum} {a : Int} (hd : Zd d a) : Zd d.opposite (-a) := by
  obtain ⟨s, m, k, rfl, rfl⟩ := hd
  exact ⟨!s, m, k, rfl, by cases s <;> simp⟩
theorem fop_of {op : BinOp} {x y r : Nat} (h : floatBits op .f32 x y = some r) : fok op .f32 x y = true ∧ fop op .f32 x y = r := by
  unfold fok fop
  rw [h]
  exact ⟨rfl, rfl⟩
theorem Z_add {x y : Nat} {a b : Int} (hx : Zr x a) (hy : Zr y b) (h : (a + b).natAbs < 16777216) : fok .add .f32 x y = true ∧ Zr (fop .add .f32 x y) (a + b) := by
  obtain ⟨r, h1, h2⟩ := sum_Z hx hy h
  obtain ⟨h3, h4⟩ := fop_of (op := .add) (x := x) (y := y) h1
  exact ⟨h3, h4 ▸ h2⟩
theorem Z_mul {x y : Nat} {a b : Int} (hx : Zr x a) (hy : Zr y b) (h : (a * b).natAbs < 16777216) : fok .mul .f32 x y = true ∧ Zr (fop .mul .f32 x y) (a * b) := by
  obtain ⟨s, m, k, h1, rfl⟩ := hx
  obtain ⟨t, n, j, h2, rfl⟩ := hy
  have e : floatBits .mul .f32 x y = some (FloatKind.f32.format.nearest (s ^^ t) (m * n * 2 ^ (k + j)) (-((k + j : Nat) : Int))) := by
    show ((FloatKind.f32.format.read x).product (FloatKind.f32.format.read y)).map FloatKind.f32.format.write = _
    rw [h1, h2]
    have p : m * 2 ^ k * (n * 2 ^ j) = m * n * 2 ^ (k + j) := by rw [Nat.pow_add]; ac_rfl
    have q : -(k : Int) + -(j : Int) = -((k + j : Nat) : Int) := by omega
    show some (FloatKind.f32.format.nearest (s ^^ t) (m * 2 ^ k * (n * 2 ^ j)) (-(k : Int) + -(j : Int))) = _
    rw [p, q]
  obtain ⟨h3, h4⟩ := fop_of e
  have hmn : m * n < 16777216 := by
    have : ((if s = true then -(m : Int) else m) * (if t = true then -(n : Int) else n)).natAbs = m * n := by
      rw [Int.natAbs_mul]
      cases s <;> cases t <;> simp
    omega
  have hz := Zr_near (s ^^ t) (m * n) (k + j) hmn
  have e2 : (if (s ^^ t) = true then -((m * n : Nat) : Int) else ((m * n : Nat) : Int)) = (if s = true then -(m : Int) else m) * (if t = true then -(n : Int) else n) := by
    cases s <;> cases t <;> simp [Int.neg_mul, Int.mul_neg, Int.neg_neg]
  rw [e2, ← h4] at hz
  exact ⟨h3, hz⟩
theorem Z_eq {x y : Nat} {a : Int} (hx : Zr x a) (hy : Zr y a) : FloatKind.f32.format.order x y = some .eq := by
  obtain ⟨s, m, k, h1, ha⟩ := hx
  obtain ⟨t, n, j, h2, hb⟩ := hy
  unfold Ieee.Format.order
  rw [h1, h2]
  have hK : min (-(k : Int)) (-(j : Int)) = -((max k j : Nat) : Int) := by omega
  have e1 : (-(k : Int) - -((max k j : Nat) : Int)).toNat = max k j - k := by omega
  have e2 : (-(j : Int) - -((max k j : Nat) : Int)).toNat = max k j - j := by omega
  have p1 : m * 2 ^ k * 2 ^ (max k j - k) = m * 2 ^ max k j := by rw [Nat.mul_assoc, ← Nat.pow_add]; congr 2; omega
  have p2 : n * 2 ^ j * 2 ^ (max k j - j) = n * 2 ^ max k j := by rw [Nat.mul_assoc, ← Nat.pow_add]; congr 2; omega
  have g1 : Ieee.signed s (m * 2 ^ k) (max k j - k) = a * ((2 ^ max k j : Nat) : Int) := by
    unfold Ieee.signed
    rw [Nat.shiftLeft_eq, p1, ha]
    cases s <;> simp [Int.neg_mul]
  have g2 : Ieee.signed t (n * 2 ^ j) (max k j - j) = a * ((2 ^ max k j : Nat) : Int) := by
    unfold Ieee.signed
    rw [Nat.shiftLeft_eq, p2, hb]
    cases t <;> simp [Int.neg_mul]
  unfold Ieee.Datum.order
  simp only [hK, e1, e2, g1, g2]
  rw [show compare (a * ((2 ^ max k j : Nat) : Int)) (a * ((2 ^ max k j : Nat) : Int)) = .eq from by simp [compare, compareOfLessAndEq]]
end Go.Proofs.YtnnemdjbopdjmaaDoor.PI
end
section
set_option linter.unusedVariables false
set_option linter.unusedSimpArgs false
namespace Go.Proofs.YtnnemdjbopdjmaaDoor.PF
open Go.RowKit Go.Proofs.YtnnemdjbopdjmaaDoor Go.Proofs.YtnnemdjbopdjmaaDoorW.PrintWords
open Go.Proofs.YtnnemdjbopdjmaaDoor.PI (Zd Zr nearest_shift cut_zero' opp_Z)
theorem f64s : FloatKind.f64.format.signWeight = 9223372036854775808 := by decide
theorem f64i : FloatKind.f64.format.infRung = 9218868437227405312 := by decide
theorem f64b : FloatKind.f64.format.binade = 4503599627370496 := by decide
theorem f64l : FloatKind.f64.format.leastPlace = -1074 := by decide
theorem f64f : FloatKind.f64.format.fractionBits = 52 := by decide
theorem read_word64 (neg : Bool) (r : Nat) (h : r < 9218868437227405312) : FloatKind.f64.format.read (FloatKind.f64.format.word neg r) = if r < 4503599627370496 then .number neg r (-1074) else .number neg (4503599627370496 + r % 4503599627370496) (-1074 + ((r / 4503599627370496 - 1 : Nat) : Int)) := by
  unfold Ieee.Format.read Ieee.Format.word
  simp only [f64s, f64i, f64b, f64l]
  have e : (if neg = true then 9223372036854775808 + r else r) % 9223372036854775808 = r := by cases neg <;> simp <;> omega
  have e2 : ((if neg = true then 9223372036854775808 + r else r) / 9223372036854775808 % 2 == 1) = neg := by
    cases neg
    · have : r / 9223372036854775808 = 0 := Nat.div_eq_of_lt (by omega)
      simp [this]
    · have : (9223372036854775808 + r) / 9223372036854775808 = 1 := by omega
      simp [this]
  simp only [e, e2]
  split
  · rfl
  · first | rfl | rw [if_pos h]
theorem read_near64 (s : Bool) {m : Nat} (h0 : m ≠ 0) (h : m < 9007199254740992) : FloatKind.f64.format.read (FloatKind.f64.format.nearest s m 0) = .number s (m * 2 ^ (52 - m.log2)) (-((52 - m.log2 : Nat) : Int)) := by
  have hL : m.log2 < 53 := (Nat.log2_lt h0).2 (by simpa using h)
  unfold Ieee.Format.nearest
  rw [if_neg h0]
  simp only [f64f, f64l, f64b, f64i]
  have e1 : max (0 + (m.log2 : Int) - ((52 : Nat) : Int)) (-1074) = (m.log2 : Int) - 52 := by omega
  rw [e1]
  have e2 : (0 - ((m.log2 : Int) - 52)).toNat = 52 - m.log2 := by omega
  have e3 : ((m.log2 : Int) - 52 - 0).toNat = 0 := by omega
  have e4 : ((m.log2 : Int) - 52 - -1074).toNat = m.log2 + 1022 := by omega
  rw [e2, e3, e4, cut_zero', Nat.shiftLeft_eq]
  have k1 : 4503599627370496 ≤ m * 2 ^ (52 - m.log2) := by
    have := Nat.mul_le_mul_right (2 ^ (52 - m.log2)) (Nat.log2_self_le h0)
    rw [← Nat.pow_add, show m.log2 + (52 - m.log2) = 52 by omega] at this
    simpa using this
  have k2 : m * 2 ^ (52 - m.log2) < 9007199254740992 := by
    have := Nat.mul_lt_mul_of_pos_right (@Nat.lt_log2_self m) (Nat.two_pow_pos (52 - m.log2))
    rw [← Nat.pow_add, show m.log2 + 1 + (52 - m.log2) = 53 by omega] at this
    simpa using this
  generalize m * 2 ^ (52 - m.log2) = K at k1 k2
  rw [Nat.min_eq_left (by omega), read_word64 s _ (by omega), if_neg (by omega)]
  have e5 : 4503599627370496 + ((m.log2 + 1022) * 4503599627370496 + K) % 4503599627370496 = K := by omega
  have e6 : -1074 + ((((m.log2 + 1022) * 4503599627370496 + K) / 4503599627370496 - 1 : Nat) : Int) = -((52 - m.log2 : Nat) : Int) := by omega
  rw [e5, e6]
def Zr64 (x : Nat) (n : Int) : Prop := Zd (FloatKind.f64.format.read x) n
theorem Zr64_near (s : Bool) (m p : Nat) (h : m < 9007199254740992) : Zr64 (FloatKind.f64.format.nearest s (m * 2 ^ p) (-(p : Int))) (if s = true then -(m : Int) else m) := by
  rw [nearest_shift, show -(p : Int) + (p : Int) = 0 by omega]
  by_cases h0 : m = 0
  · subst h0
    obtain ⟨j, hj⟩ : ∃ j : Nat, (-1074 : Int) = -(j : Int) := ⟨1074, rfl⟩
    refine ⟨s, 0, j, ?_, rfl⟩
    rw [Nat.zero_mul, ← hj]
    cases s <;> decide
  · exact ⟨s, m, _, read_near64 s h0 h, rfl⟩
theorem sum_Z64 {d e : Ieee.Datum} {a b : Int} (hd : Zd d a) (he : Zd e b) (h : (a + b).natAbs < 9007199254740992) : ∃ r, (d.sum e).map FloatKind.f64.format.write = some r ∧ Zr64 r (a + b) := by
  obtain ⟨s, m, k, rfl, rfl⟩ := hd
  obtain ⟨t, n, j, rfl, rfl⟩ := he
  generalize ha : (if s = true then -(m : Int) else m) = a at h
  generalize hb : (if t = true then -(n : Int) else n) = b at h
  have hK : min (-(k : Int)) (-(j : Int)) = -((max k j : Nat) : Int) := by omega
  have e1 : (-(k : Int) - -((max k j : Nat) : Int)).toNat = max k j - k := by omega
  have e2 : (-(j : Int) - -((max k j : Nat) : Int)).toNat = max k j - j := by omega
  have p1 : m * 2 ^ k * 2 ^ (max k j - k) = m * 2 ^ max k j := by rw [Nat.mul_assoc, ← Nat.pow_add]; congr 2; omega
  have p2 : n * 2 ^ j * 2 ^ (max k j - j) = n * 2 ^ max k j := by rw [Nat.mul_assoc, ← Nat.pow_add]; congr 2; omega
  have g1 : Ieee.signed s (m * 2 ^ k) (max k j - k) = a * ((2 ^ max k j : Nat) : Int) := by
    unfold Ieee.signed
    rw [Nat.shiftLeft_eq, p1, ← ha]
    cases s <;> simp [Int.neg_mul]
  have g2 : Ieee.signed t (n * 2 ^ j) (max k j - j) = b * ((2 ^ max k j : Nat) : Int) := by
    unfold Ieee.signed
    rw [Nat.shiftLeft_eq, p2, ← hb]
    cases t <;> simp [Int.neg_mul]
  have tot : Ieee.signed s (m * 2 ^ k) (max k j - k) + Ieee.signed t (n * 2 ^ j) (max k j - j) = (a + b) * ((2 ^ max k j : Nat) : Int) := by rw [g1, g2, Int.add_mul]
  have hs : (Ieee.Datum.number s (m * 2 ^ k) (-(k : Int))).sum (.number t (n * 2 ^ j) (-(j : Int))) = some (.number (if (a + b) * ((2 ^ max k j : Nat) : Int) = 0 then s && t else decide ((a + b) * ((2 ^ max k j : Nat) : Int) < 0)) ((a + b) * ((2 ^ max k j : Nat) : Int)).natAbs (-((max k j : Nat) : Int))) := by
    unfold Ieee.Datum.sum
    simp only [hK, e1, e2, tot]
  rw [hs]
  refine ⟨_, rfl, ?_⟩
  show Zr64 (FloatKind.f64.format.nearest _ _ _) _
  rw [Int.natAbs_mul, Int.natAbs_natCast]
  generalize hsg : (if (a + b) * ((2 ^ max k j : Nat) : Int) = 0 then s && t else decide ((a + b) * ((2 ^ max k j : Nat) : Int) < 0)) = sg
  have hz := Zr64_near sg (a + b).natAbs (max k j) h
  have hp : (0 : Int) < ((2 ^ max k j : Nat) : Int) := by
    have := Nat.two_pow_pos (max k j)
    omega
  have e : a + b = if sg = true then -((a + b).natAbs : Int) else (a + b).natAbs := by
    by_cases c0 : a + b = 0
    · rw [c0]; simp
    · have c1 : (a + b) * ((2 ^ max k j : Nat) : Int) ≠ 0 := Int.mul_ne_zero c0 (by omega)
      rw [if_neg c1] at hsg
      by_cases c : a + b < 0
      · have : (a + b) * ((2 ^ max k j : Nat) : Int) < 0 := Int.mul_neg_of_neg_of_pos c hp
        rw [decide_eq_true this] at hsg
        subst hsg
        rw [if_pos rfl]; omega
      · have : ¬ (a + b) * ((2 ^ max k j : Nat) : Int) < 0 := by
          have := Int.mul_nonneg (by omega : 0 ≤ a + b) (by omega : 0 ≤ ((2 ^ max k j : Nat) : Int))
          omega
        rw [decide_eq_false this] at hsg
        subst hsg
        rw [if_neg (by decide)]; omega
  rw [← e] at hz
  exact hz
theorem fop_of64 {op : BinOp} {x y r : Nat} (h : floatBits op .f64 x y = some r) : fok op .f64 x y = true ∧ fop op .f64 x y = r := by
  unfold fok fop
  rw [h]
  exact ⟨rfl, rfl⟩
theorem Z64_add {x y : Nat} {a b : Int} (hx : Zr64 x a) (hy : Zr64 y b) (h : (a + b).natAbs < 9007199254740992) : fok .add .f64 x y = true ∧ Zr64 (fop .add .f64 x y) (a + b) := by
  obtain ⟨r, h1, h2⟩ := sum_Z64 hx hy h
  obtain ⟨h3, h4⟩ := fop_of64 (op := .add) (x := x) (y := y) h1
  exact ⟨h3, h4 ▸ h2⟩
theorem Z64_sub {x y : Nat} {a b : Int} (hx : Zr64 x a) (hy : Zr64 y b) (h : (a - b).natAbs < 9007199254740992) : fok .sub .f64 x y = true ∧ Zr64 (fop .sub .f64 x y) (a - b) := by
  obtain ⟨r, h1, h2⟩ := sum_Z64 hx (opp_Z hy) (by rw [← Int.sub_eq_add_neg]; exact h)
  obtain ⟨h3, h4⟩ := fop_of64 (op := .sub) (x := x) (y := y) h1
  rw [← Int.sub_eq_add_neg] at h2
  exact ⟨h3, h4 ▸ h2⟩
theorem Z64_mul {x y : Nat} {a b : Int} (hx : Zr64 x a) (hy : Zr64 y b) (h : (a * b).natAbs < 9007199254740992) : fok .mul .f64 x y = true ∧ Zr64 (fop .mul .f64 x y) (a * b) := by
  obtain ⟨s, m, k, h1, rfl⟩ := hx
  obtain ⟨t, n, j, h2, rfl⟩ := hy
  have e : floatBits .mul .f64 x y = some (FloatKind.f64.format.nearest (s ^^ t) (m * n * 2 ^ (k + j)) (-((k + j : Nat) : Int))) := by
    show ((FloatKind.f64.format.read x).product (FloatKind.f64.format.read y)).map FloatKind.f64.format.write = _
    rw [h1, h2]
    have p : m * 2 ^ k * (n * 2 ^ j) = m * n * 2 ^ (k + j) := by rw [Nat.pow_add]; ac_rfl
    have q : -(k : Int) + -(j : Int) = -((k + j : Nat) : Int) := by omega
    show some (FloatKind.f64.format.nearest (s ^^ t) (m * 2 ^ k * (n * 2 ^ j)) (-(k : Int) + -(j : Int))) = _
    rw [p, q]
  obtain ⟨h3, h4⟩ := fop_of64 e
  have hmn : m * n < 9007199254740992 := by
    have : ((if s = true then -(m : Int) else m) * (if t = true then -(n : Int) else n)).natAbs = m * n := by
      rw [Int.natAbs_mul]
      cases s <;> cases t <;> simp
    omega
  have hz := Zr64_near (s ^^ t) (m * n) (k + j) hmn
  have e2 : (if (s ^^ t) = true then -((m * n : Nat) : Int) else ((m * n : Nat) : Int)) = (if s = true then -(m : Int) else m) * (if t = true then -(n : Int) else n) := by
    cases s <;> cases t <;> simp [Int.neg_mul, Int.mul_neg, Int.neg_neg]
  rw [e2, ← h4] at hz
  exact ⟨h3, hz⟩
end Go.Proofs.YtnnemdjbopdjmaaDoor.PF
end
section
set_option linter.unusedVariables false
set_option linter.unusedSimpArgs false
namespace Go.Proofs.YtnnemdjbopdjmaaDoor.PG
open Go.RowKit Go.Proofs.YtnnemdjbopdjmaaDoor Go.Proofs.YtnnemdjbopdjmaaDoorW.PrintWords
open Go.Proofs.YtnnemdjbopdjmaaDoor.PI (Zd Zr nearest_shift cut_zero' opp_Z)
open Go.Proofs.YtnnemdjbopdjmaaDoor.PF (Zr64)
theorem near64 (s : Bool) {m : Nat} (p : Int) (h0 : m ≠ 0) (h : m < 9007199254740992) (h1 : -900 ≤ p) (h2 : p ≤ 900) : FloatKind.f64.format.read (FloatKind.f64.format.nearest s m p) = .number s (m * 2 ^ (52 - m.log2)) (p - ((52 - m.log2 : Nat) : Int)) := by
  have hL : m.log2 < 53 := (Nat.log2_lt h0).2 (by simpa using h)
  unfold Ieee.Format.nearest
  rw [if_neg h0]
  simp only [PF.f64f, PF.f64l, PF.f64b, PF.f64i]
  have e1 : max (p + (m.log2 : Int) - ((52 : Nat) : Int)) (-1074) = p + (m.log2 : Int) - 52 := by omega
  rw [e1]
  have e2 : (p - (p + (m.log2 : Int) - 52)).toNat = 52 - m.log2 := by omega
  have e3 : (p + (m.log2 : Int) - 52 - p).toNat = 0 := by omega
  rw [e2, e3, cut_zero', Nat.shiftLeft_eq]
  have k1 : 4503599627370496 ≤ m * 2 ^ (52 - m.log2) := by
    have := Nat.mul_le_mul_right (2 ^ (52 - m.log2)) (Nat.log2_self_le h0)
    rw [← Nat.pow_add, show m.log2 + (52 - m.log2) = 52 by omega] at this
    simpa using this
  have k2 : m * 2 ^ (52 - m.log2) < 9007199254740992 := by
    have := Nat.mul_lt_mul_of_pos_right (@Nat.lt_log2_self m) (Nat.two_pow_pos (52 - m.log2))
    rw [← Nat.pow_add, show m.log2 + 1 + (52 - m.log2) = 53 by omega] at this
    simpa using this
  generalize m * 2 ^ (52 - m.log2) = K at k1 k2
  obtain ⟨q, hq⟩ : ∃ q : Nat, p + (m.log2 : Int) - 52 - -1074 = (q : Int) := ⟨(p + (m.log2 : Int) - 52 - -1074).toNat, by omega⟩
  rw [hq, Int.toNat_natCast]
  rw [Nat.min_eq_left (by omega), PF.read_word64 s _ (by omega), if_neg (by omega)]
  have e5 : 4503599627370496 + (q * 4503599627370496 + K) % 4503599627370496 = K := by omega
  have e6 : -1074 + (((q * 4503599627370496 + K) / 4503599627370496 - 1 : Nat) : Int) = p - ((52 - m.log2 : Nat) : Int) := by omega
  rw [e5, e6]
theorem split32 (x : Nat) (h : x < 4294967296) : x = FloatKind.f32.format.word (x / 2147483648 % 2 == 1) (x % 2147483648) := by
  unfold Ieee.Format.word
  rw [PI.f32s]
  have : x / 2147483648 = 0 ∨ x / 2147483648 = 1 := by omega
  rcases this with c | c
  · rw [c]
    simp
    omega
  · rw [c]
    simp
    omega
theorem write_read (x : Nat) (h : x < 4294967296) (hn : XF.isn .f32 x = false) : FloatKind.f32.format.write (FloatKind.f32.format.read x) = x := by
  have hs := split32 x h
  unfold XF.isn at hn
  generalize hd : FloatKind.f32.format.read x = d at hn
  unfold Ieee.Format.read at hd
  simp only [PI.f32s, PI.f32b, PI.f32i, PI.f32l] at hd
  generalize (x / 2147483648 % 2 == 1) = s at hd hs
  have hr : x % 2147483648 < 2147483648 := Nat.mod_lt _ (by decide)
  generalize x % 2147483648 = r at hd hs hr
  rw [hs]
  split at hd
  · rename_i c
    subst hd
    show FloatKind.f32.format.nearest s r (-149) = _
    unfold Ieee.Format.nearest
    by_cases h0 : r = 0
    · rw [if_pos h0, h0]
    · have hL : r.log2 < 23 := (Nat.log2_lt h0).2 (by simpa using c)
      rw [if_neg h0]
      simp only [PI.f32f, PI.f32l, PI.f32b, PI.f32i]
      have e1 : max (-149 + (r.log2 : Int) - ((23 : Nat) : Int)) (-149) = -149 := by omega
      rw [e1]
      simp only [Int.sub_self, Int.toNat_zero, Nat.shiftLeft_zero, cut_zero', Nat.zero_mul, Nat.zero_add]
      rw [Nat.min_eq_left (by omega)]
  · rename_i c
    split at hd
    · rename_i c2
      subst hd
      show FloatKind.f32.format.nearest s (8388608 + r % 8388608) (-149 + ((r / 8388608 - 1 : Nat) : Int)) = _
      have hm : r % 8388608 < 8388608 := Nat.mod_lt _ (by decide)
      have h0 : 8388608 + r % 8388608 ≠ 0 := by omega
      have hL : (8388608 + r % 8388608).log2 = 23 := by
        have a : (8388608 + r % 8388608).log2 < 24 := (Nat.log2_lt h0).2 (by have : (2 : Nat) ^ 24 = 16777216 := by decide
                                                                             omega)
        have b : 23 ≤ (8388608 + r % 8388608).log2 := (Nat.le_log2 h0).2 (by have : (2 : Nat) ^ 23 = 8388608 := by decide
                                                                             omega)
        omega
      unfold Ieee.Format.nearest
      rw [if_neg h0]
      simp only [PI.f32f, PI.f32l, PI.f32b, PI.f32i, hL]
      have e1 : max (-149 + ((r / 8388608 - 1 : Nat) : Int) + ((23 : Nat) : Int) - ((23 : Nat) : Int)) (-149) = -149 + ((r / 8388608 - 1 : Nat) : Int) := by omega
      rw [e1]
      have e2 : (-149 + ((r / 8388608 - 1 : Nat) : Int) - -149).toNat = r / 8388608 - 1 := by omega
      simp only [Int.sub_self, Int.toNat_zero, Nat.shiftLeft_zero, cut_zero', e2]
      rw [Nat.min_eq_left (by omega)]
      congr 1
      omega
    · split at hd
      · rename_i c3
        subst hd
        show FloatKind.f32.format.word s FloatKind.f32.format.infRung = _
        rw [PI.f32i, c3]
      · subst hd
        cases hn
theorem ne_kind : ¬ (FloatKind.f32 = FloatKind.f64) := by decide
theorem ne_kind' : ¬ (FloatKind.f64 = FloatKind.f32) := by decide
theorem wide_num {x : Nat} {s : Bool} {m : Nat} {e : Int} (hx : FloatKind.f32.format.read x = .number s m e) : ∃ b k : Nat, floatToFloatBits .f32 x .f64 = some b ∧ FloatKind.f64.format.read b = .number s (m * 2 ^ k) (e - (k : Int)) ∨ (m = 0 ∧ floatToFloatBits .f32 x .f64 = some b ∧ FloatKind.f64.format.read b = .number s 0 (-1074)) := by
  obtain ⟨hm, he1, he2⟩ : m < 16777216 ∧ -149 ≤ e ∧ e ≤ 104 := by
    rcases XF.read32 x with ⟨s', m', e', h1, h2, h3, h4⟩ | ⟨s', h1⟩ | ⟨s', f', h1⟩
    · rw [hx] at h1
      cases h1
      exact ⟨h2, h3, h4⟩
    · rw [hx] at h1; cases h1
    · rw [hx] at h1; cases h1
  have hdec : FloatKind.f32.decode x = .number s m e := hx
  by_cases h0 : m = 0
  · refine ⟨FloatKind.f64.format.nearest s m e, 0, .inr ⟨h0, ?_, ?_⟩⟩
    · unfold floatToFloatBits
      rw [if_neg ne_kind, hdec]
      simp only
      rw [if_neg]
      · rfl
      · subst h0
        show ¬ ((FloatKind.f64.format.read (FloatKind.f64.format.nearest s 0 e)).isInfinity = true)
        unfold Ieee.Format.nearest
        rw [if_pos rfl]
        cases s <;> decide
    · subst h0
      unfold Ieee.Format.nearest
      rw [if_pos rfl]
      cases s <;> decide
  · have hr := near64 s e h0 (by omega : m < 9007199254740992) (by omega) (by omega)
    refine ⟨FloatKind.f64.format.nearest s m e, 52 - m.log2, .inl ⟨?_, hr⟩⟩
    unfold floatToFloatBits
    rw [if_neg ne_kind, hdec]
    simp only
    rw [if_neg]
    · rfl
    · show ¬ ((FloatKind.f64.format.read (FloatKind.f64.format.nearest s m e)).isInfinity = true)
      rw [hr]
      intro c
      cases c
theorem zero32 (s : Bool) (p : Int) : FloatKind.f32.format.nearest s 0 p = FloatKind.f32.format.word s 0 := by
  unfold Ieee.Format.nearest
  rw [if_pos rfl]
theorem back32 {x b : Nat} (h : x < 4294967296) (hn : XF.isn .f32 x = false) (hb : floatToFloatBits .f32 x .f64 = some b) : floatToFloatBits .f64 b .f32 = some x := by
  have hw := write_read x h hn
  rcases XF.read32 x with ⟨s, m, e, h1, h2, h3, h4⟩ | ⟨s, h1⟩ | ⟨s, f, h1⟩
  · obtain ⟨b', k, hh⟩ := wide_num h1
    rw [h1] at hw
    have hw' : FloatKind.f32.format.nearest s m e = x := hw
    have fin : ¬ ((FloatKind.f32.decode x).isInfinity = true) := by
      show ¬ ((FloatKind.f32.format.read x).isInfinity = true)
      rw [h1]
      intro c
      cases c
    rcases hh with ⟨g1, g2⟩ | ⟨g0, g1, g2⟩
    · obtain rfl := Option.some.inj (hb.symm.trans g1)
      have hdec : FloatKind.f64.decode b = .number s (m * 2 ^ k) (e - (k : Int)) := g2
      have henc : FloatKind.f32.encode (.number s (m * 2 ^ k) (e - (k : Int))) = x := by
        show FloatKind.f32.format.nearest s (m * 2 ^ k) (e - (k : Int)) = x
        rw [nearest_shift, show e - (k : Int) + (k : Int) = e by omega, hw']
      unfold floatToFloatBits
      rw [if_neg ne_kind', hdec]
      simp only [henc]
      rw [if_neg fin]
    · obtain rfl := Option.some.inj (hb.symm.trans g1)
      subst g0
      have hdec : FloatKind.f64.decode b = .number s 0 (-1074) := g2
      have henc : FloatKind.f32.encode (.number s 0 (-1074)) = x := by
        show FloatKind.f32.format.nearest s 0 (-1074) = x
        rw [zero32, ← hw', zero32]
      unfold floatToFloatBits
      rw [if_neg ne_kind', hdec]
      simp only [henc]
      rw [if_neg fin]
  · have hdec : FloatKind.f32.decode x = .infinity s := h1
    unfold floatToFloatBits at hb
    rw [if_neg ne_kind, hdec] at hb
    simp only [Option.some.injEq] at hb
    subst hb
    have hdec2 : FloatKind.f64.decode (FloatKind.f64.encode (.infinity s)) = .infinity s := by cases s <;> decide
    unfold floatToFloatBits
    rw [if_neg ne_kind', hdec2]
    simp only
    rw [h1] at hw
    exact congrArg some hw
  · unfold XF.isn at hn
    rw [h1] at hn
    cases hn
end Go.Proofs.YtnnemdjbopdjmaaDoor.PG
end
section
set_option linter.unusedVariables false
set_option linter.unusedSimpArgs false
namespace Go.Proofs.YtnnemdjbopdjmaaDoor
open Go.RowKit Go.Proofs.YtnnemdjbopdjmaaDoorW.PrintWords Go.Proofs.YtnnemdjbopdjmaaDoorW.PrintLast Go.Proofs.YtnnemdjbopdjmaaDoorW.PrintMore
attribute [local go_sem] max2_int min2_int max_two min_two max_three min_three max_four min_four
namespace XZ
open XF XL XW
def _root_.Go.fik (s : FloatKind) (x : Nat) (k : IntKind) : Bool := (floatToIntVal s x k).isSome
def _root_.Go.fiv (s : FloatKind) (x : Nat) (k : IntKind) : Int := (floatToIntVal s x k).getD 0
@[go_sem] theorem run_fiv {P : Program} (w : World) (src dst : TypeId) (s : FloatKind) (k : IntKind) (x : Nat) (hs : (P.underlying src).isSome = true) (hd : P.underlying dst = some (.int k)) (h : fik s x k = true) : (convert src dst (.float s x)).run P w = .ok (.int k (fiv s x k)) w := by
  refine run_convert_float_int w src dst s k x _ hs hd ?_
  unfold fik at h
  obtain ⟨r, hr⟩ := Option.isSome_iff_exists.1 h
  unfold fiv
  rw [hr]
  rfl
@[go_sem] theorem run_fneg {P : Program} (w : World) (k : FloatKind) (x : Nat) : (Op.unary .neg (.float k x)).run P w = .ok (.float k (Op.negFloat k x)) w := rfl
theorem csum {op : BinOp} {k : FloatKind} {a b c d : Nat} (h1 : fok op k a c = true) (h2 : fok op k b d = true) : cSumBits op k a b c d = some (fop op k a c, fop op k b d) := by
  unfold cSumBits
  rw [fop_some h1, fop_some h2]
  rfl
@[go_sem] theorem run_cadd {P : Program} (w : World) (t : TypeId) (k : FloatKind) (a b c d : Nat) (h1 : fok .add k a c = true) (h2 : fok .add k b d = true) : (binOp .add t (.complex k a b) (.complex k c d)).run P w = .ok (.complex k (fop .add k a c) (fop .add k b d)) w :=
  run_complex_sum w .add (.inl rfl) t k a b c d _ _ (csum h1 h2)
@[go_sem] theorem run_csub {P : Program} (w : World) (t : TypeId) (k : FloatKind) (a b c d : Nat) (h1 : fok .sub k a c = true) (h2 : fok .sub k b d = true) : (binOp .sub t (.complex k a b) (.complex k c d)).run P w = .ok (.complex k (fop .sub k a c) (fop .sub k b d)) w :=
  run_complex_sum w .sub (.inr rfl) t k a b c d _ _ (csum h1 h2)
def IsFiniteComplex.f (a0 : Nat × Nat) : Option Bool := some (cfin a0)
theorem IsFiniteComplex.calls (a0 : Nat × Nat) (r : Bool) (w : World) (h : IsFiniteComplex.f a0 = some r) : Calls Tryd.prog 51 #[.complex .f32 a0.1 a0.2] w fun e w' => e = .returned (.bool r) ∧ Below w.heap.size w w' := by
  obtain rfl := Option.some.inj h
  exact isFiniteComplex a0.1 a0.2 w
def Nc (b c : Nat) : Prop := (isn .f64 b = true → isn .f32 c = true) ∧ ∀ r, floatToFloatBits .f64 b .f32 = some r → c = r
theorem run_narrow_nan {P : Program} (w : World) (src dst : TypeId) (b : Nat) (hs : (P.underlying src).isSome = true) (hd : P.underlying dst = some (.float .f32)) (h : isn .f64 b = true) :
    (convert src dst (.float .f64 b)).run P w = .ok (.float .f32 ((Question.nanConv .f32 b).cut (w.tape w.drawn (.nanConv .f32 b)))) w.drew := by
  obtain ⟨u, hs'⟩ := Option.isSome_iff_exists.1 hs
  unfold isn at h
  cases hx : FloatKind.f64.format.read b with
  | infinity s => rw [hx] at h; cases h
  | number s m e => rw [hx] at h; cases h
  | nan s f =>
    have hx' : FloatKind.f64.decode b = .nan s f := hx
    cases u <;> simp [convert, run_underlying hs', run_underlying hd, Conv.floatToFloat, hx', Question.forced]
theorem wpList_narrow {P : Program} {ops : Array Oper} {rest : List Oper} {o : Oper} {a : Act} {w : World} {Q : Exit → Act → World → Prop} (hgd : o.guard = none) (src dst : TypeId) (x : Operand) (ho : o.op = .convert src dst x)
    (hs : (P.underlying src).isSome = true) (hd : P.underlying dst = some (.float .f32)) (b : Nat) (hx : a.eval x = .float .f64 b) (hok : isn .f64 b = true ∨ ∃ r, floatToFloatBits .f64 b .f32 = some r)
    (h : ∀ c n, Nc b c → wpList P ops Q rest (a.put o.dst (.float .f32 c)) (w.drewN n)) : wpList P ops Q (o :: rest) a w := by
  refine wpList_plain hgd fun K hK => ?_
  have hr : ∃ c n, (convert src dst (.float .f64 b)).run P w = .ok (.float .f32 c) (w.drewN n) ∧ Nc b c := by
    rcases hok with hn | ⟨r, hr⟩
    · refine ⟨_, 1, run_narrow_nan w src dst b hs hd hn, fun _ => cut_nan32 _, fun r hr => ?_⟩
      exfalso
      unfold isn at hn
      unfold floatToFloatBits at hr
      rw [if_neg PG.ne_kind'] at hr
      cases hx : FloatKind.f64.format.read b with
      | infinity s => rw [hx] at hn; cases hn
      | number s m e => rw [hx] at hn; cases hn
      | nan s f =>
        have hx' : FloatKind.f64.decode b = .nan s f := hx
        rw [hx'] at hr
        cases hr
    · refine ⟨r, 0, run_convert_float_float w src dst .f64 .f32 b r hs hd hr, fun hn => ?_, fun r' hr' => Option.some.inj (hr.symm.trans hr')⟩
      exfalso
      unfold isn at hn
      unfold floatToFloatBits at hr
      rw [if_neg PG.ne_kind'] at hr
      cases hx : FloatKind.f64.format.read b with
      | infinity s => rw [hx] at hn; cases hn
      | number s m e => rw [hx] at hn; cases hn
      | nan s f =>
        have hx' : FloatKind.f64.decode b = .nan s f := hx
        rw [hx'] at hr
        cases hr
  obtain ⟨c, n, hr, hc⟩ := hr
  unfold Oper.wp execOp
  simp only [ho, Sem.run_bind, hx, hr, Result.andThen_ok, Sem.run_pure]
  exact hK _ _ (h c n hc)
def Nw (x c : Nat) : Prop := (isn .f32 x = true ∧ isn .f32 c = true) ∨ (isn .f32 x = false ∧ c = x)
theorem cv_ok {x b : Nat} (h : x < 4294967296) (hc : Cv x b) : isn .f64 b = true ∨ ∃ r, floatToFloatBits .f64 b .f32 = some r := by
  rcases hc with ⟨_, h2⟩ | ⟨h1, h2⟩
  · exact .inl h2
  · exact .inr ⟨x, PG.back32 h h1 h2⟩
theorem nw_of {x b c : Nat} (h : x < 4294967296) (hc : Cv x b) (hn : Nc b c) : Nw x c := by
  rcases hc with ⟨h1, h2⟩ | ⟨h1, h2⟩
  · exact .inl ⟨h1, hn.1 h2⟩
  · exact .inr ⟨h1, hn.2 x (PG.back32 h h1 h2)⟩
theorem smn_nw {x c : Nat} (h : Nw x c) : XM.smn c x = true := by
  unfold XM.smn
  rcases h with ⟨h1, h2⟩ | ⟨h1, rfl⟩
  · rw [h1, h2]
    rfl
  · rw [h1]
    simp
def NarrowComplex.f (a0 : Nat × Nat) : Option (Nat × Nat) := some a0
set_option maxHeartbeats 4000000 in
set_option maxRecDepth 100000 in
theorem NarrowComplex.calls (x y b1 b2 : Nat) (hx : x < 4294967296) (hy : y < 4294967296) (h1 : Cv x b1) (h2 : Cv y b2) (w : World) : Calls Tryd.prog 50 #[.complex .f64 b1 b2] w fun e w' => ∃ c1 c2, e = .returned (.complex .f32 c1 c2) ∧ Nw x c1 ∧ Nw y c2 ∧ Drawn0 w w' := by
  have u1 : (Tryd.prog.underlying 57).isSome = true := by kernel_rfl
  have u2 : Tryd.prog.underlying 24 = some (.float .f32) := by kernel_rfl
  have k1 := cv_ok hx h1
  have k2 := cv_ok hy h2
  go_enter Tryd.func50, Tryd.ntmps50
  go_wp2_with (first | (refine wpList_narrow rfl 57 24 _ rfl u1 u2 b1 rfl k1 ?_; intro c1 n1 hc1) | (refine wpList_narrow rfl 57 24 _ rfl u1 u2 b2 rfl k2 ?_; intro c2 n2 hc2))
  go_ret
  exact ⟨c1, c2, by first | rfl | (simp; done), nw_of hx h1 hc1, nw_of hy h2 hc2, ⟨_, rfl⟩⟩
end XZ
end Go.Proofs.YtnnemdjbopdjmaaDoor
end
