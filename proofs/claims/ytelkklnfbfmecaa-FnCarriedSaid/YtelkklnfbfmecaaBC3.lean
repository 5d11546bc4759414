/- Words, walks and plain laws that a claim of this seat needs, one text after the other (part 3). -/
import Derived.Test.YtelkklnfbfmecaaBC2
import Derived.Laws.Cover2
import Derived.Laws.FloatArith
import Derived.Laws.Cover3
import Derived.Laws.ComplexArith
import Derived.Test.YtelkklnfbfmecaaProg
import Derived.Laws.StructEq
set_option linter.unusedVariables false
set_option linter.unusedSimpArgs false
section
namespace Go.Proofs.YtelkklnfbfmecaaW.PrintWords
open Go.RowKit
namespace Kd
def float (k : FloatKind) : Kd Nat := scalar (Value.float k) (fun _ => rfl)
theorem heap_float (k : FloatKind) : Heap (Kd.float k) := ⟨fun _ h => h⟩
theorem at_float {w : World} {A : Option Addr} {n : Nat} {k : FloatKind} {xs : List Nat} (h : (Kd.float k).C w A n xs) (i : Int) (h0 : 0 ≤ i) (h1 : i < n) : ∃ ad, A = some ad ∧ w.cell? (ad.add i.toNat) = some (.float k (rdOf (0 : Nat) xs i)) :=
  ReadsOf.at_ (reads_of_C (enc := Value.float k) (d := (0 : Nat)) (h1 := fun _ => rfl) h) i h0 h1
abbrev _root_.Go.cpxV (k : FloatKind) (p : Nat × Nat) : Value := .complex k p.1 p.2
def complex (k : FloatKind) : Kd (Nat × Nat) := scalar (cpxV k) (fun _ => rfl)
end Kd
theorem ro_ne {w : World} {g h : Nat} {c1 c2 : Array Value} {t1 t2 : TypeId} {f1 f2 : Nat × Nat} (h1 : w.heap[g]? = some (.cells c1 t1 f1)) (h2 : w.heap[h]? = some (.cells c2 t2 f2)) (ht : t1 ≠ t2) : g ≠ h := by
  rintro rfl
  rw [h1] at h2
  cases h2
  exact ht rfl
def _root_.Go.nsm (x : Nat × Nat) : Bool := (floatToFloatBits .f64 x.1 .f32).isSome && (floatToFloatBits .f64 x.2 .f32).isSome
def _root_.Go.cnar (x : Nat × Nat) : Nat × Nat := ((floatToFloatBits .f64 x.1 .f32).getD 0, (floatToFloatBits .f64 x.2 .f32).getD 0)
@[go_sem] theorem run_cnar {P : Program} (w : World) (src dst : TypeId) (a b : Nat) (hs : (P.underlying src).isSome = true) (hd : P.underlying dst = some (.complex .f32)) (h : nsm (a, b) = true) :
    (convert src dst (.complex .f64 a b)).run P w = .ok (.complex .f32 (cnar (a, b)).1 (cnar (a, b)).2) w := by
  unfold nsm at h
  rw [Bool.and_eq_true] at h
  obtain ⟨h1, h2⟩ := h
  obtain ⟨x, hx⟩ := Option.isSome_iff_exists.1 h1
  obtain ⟨y, hy⟩ := Option.isSome_iff_exists.1 h2
  have e : cConvBits .f64 a b .f32 = some (x, y) := by
    unfold cConvBits
    simp only at hx hy
    rw [hx, hy]
    rfl
  have := run_convert_complex (P := P) (w := w) src dst .f64 .f32 a b x y hs hd e
  unfold cnar
  simp only at hx hy ⊢
  rw [hx, hy]
  exact this
def _root_.Go.fok (op : BinOp) (k : FloatKind) (x y : Nat) : Bool := (floatBits op k x y).isSome
def _root_.Go.fop (op : BinOp) (k : FloatKind) (x y : Nat) : Nat := (floatBits op k x y).getD 0
def _root_.Go.cok (s : FloatKind) (x : Nat) (k : FloatKind) : Bool := (floatToFloatBits s x k).isSome
def _root_.Go.cvt (s : FloatKind) (x : Nat) (k : FloatKind) : Nat := (floatToFloatBits s x k).getD 0
theorem fop_some {op : BinOp} {k : FloatKind} {x y : Nat} (h : fok op k x y = true) : floatBits op k x y = some (fop op k x y) := by
  unfold fok at h
  obtain ⟨r, hr⟩ := Option.isSome_iff_exists.1 h
  unfold fop
  rw [hr]
  rfl
theorem cvt_some {s k : FloatKind} {x : Nat} (h : cok s x k = true) : floatToFloatBits s x k = some (cvt s x k) := by
  unfold cok at h
  obtain ⟨r, hr⟩ := Option.isSome_iff_exists.1 h
  unfold cvt
  rw [hr]
  rfl
def _root_.Go.fge (k : FloatKind) (a b : Nat) : Bool := k.format.order a b == some .gt || k.format.order a b == some .eq
def _root_.Go.fle (k : FloatKind) (a b : Nat) : Bool := k.format.order a b == some .lt || k.format.order a b == some .eq
def _root_.Go.fmok (k : FloatKind) (a b : Nat) : Bool := (k.format.order a b).isSome
def _root_.Go.fmx (k : FloatKind) (a b : Nat) : Nat := match k.format.order a b with | some .lt => b | some .gt => a | some .eq => if (k.decode a).neg then b else a | none => 0
@[go_sem] theorem run_fmax {P : Program} (w : World) (ts : Array TypeId) (t : TypeId) (k k' : FloatKind) (x y : Nat) (h : fmok k x y = true) : (Builtin.max_ ts t #[.float k x, .float k' y]).run P w = .ok (.float k (fmx k x y)) w := by
  unfold fmok at h
  unfold fmx
  cases e : k.format.order x y with
  | none => rw [e] at h; cases h
  | some o => cases o <;> simp [Builtin.max_, Builtin.max2, e]
@[go_sem] theorem run_fmax2 {P : Program} (w : World) (k k' : FloatKind) (x y : Nat) (h : fmok k x y = true) : (Builtin.max2 (.float k x) (.float k' y)).run P w = .ok (.float k (fmx k x y)) w := by
  unfold fmok at h
  unfold fmx
  cases e : k.format.order x y with
  | none => rw [e] at h; cases h
  | some o => cases o <;> simp [Builtin.max2, e]
theorem binOp_fge (t : TypeId) (k : FloatKind) (a b : Nat) : binOp .geq t (.float k a) (.float k b) = pure (.bool (fge k a b)) := binOp_float_cmp_geq t k a b
theorem binOp_fle (t : TypeId) (k : FloatKind) (a b : Nat) : binOp .leq t (.float k a) (.float k b) = pure (.bool (fle k a b)) := binOp_float_cmp_leq t k a b
@[go_sem] theorem run_fneg {P : Program} (w : World) (k : FloatKind) (x : Nat) : (Op.unary .neg (.float k x)).run P w = .ok (.float k (Op.negFloat k x)) w := rfl
@[go_sem] theorem run_fadd {P : Program} (w : World) (t : TypeId) (k : FloatKind) (x y : Nat) (h : fok .add k x y = true) : (binOp .add t (.float k x) (.float k y)).run P w = .ok (.float k (fop .add k x y)) w := run_float_arith w .add t k x y _ (fop_some h)
@[go_sem] theorem run_fsub {P : Program} (w : World) (t : TypeId) (k : FloatKind) (x y : Nat) (h : fok .sub k x y = true) : (binOp .sub t (.float k x) (.float k y)).run P w = .ok (.float k (fop .sub k x y)) w := run_float_arith w .sub t k x y _ (fop_some h)
@[go_sem] theorem run_fmul {P : Program} (w : World) (t : TypeId) (k : FloatKind) (x y : Nat) (h : fok .mul k x y = true) : (binOp .mul t (.float k x) (.float k y)).run P w = .ok (.float k (fop .mul k x y)) w := run_float_arith w .mul t k x y _ (fop_some h)
@[go_sem] theorem run_fquo {P : Program} (w : World) (t : TypeId) (k : FloatKind) (x y : Nat) (h : fok .quo k x y = true) : (binOp .quo t (.float k x) (.float k y)).run P w = .ok (.float k (fop .quo k x y)) w := run_float_arith w .quo t k x y _ (fop_some h)
@[go_sem] theorem run_cvt {P : Program} (w : World) (src dst : TypeId) (s k : FloatKind) (x : Nat) (hs : (P.underlying src).isSome = true) (hd : P.underlying dst = some (.float k)) (h : cok s x k = true) : (convert src dst (.float s x)).run P w = .ok (.float k (cvt s x k)) w :=
 run_convert_float_float w src dst s k x _ hs hd (cvt_some h)
@[go_sem] theorem run_store_complex (P : Program) (w : World) (a : Addr) (m : Mode) (k : FloatKind) (x y : Nat) : (store a (.complex k x y) m).run P w = stored P w a (.complex k x y) m := run_store P w a _ m rfl
@[go_sem] theorem run_store_float (P : Program) (w : World) (a : Addr) (m : Mode) (k : FloatKind) (b : Nat) : (store a (.float k b) m).run P w = stored P w a (.float k b) m := run_store P w a _ m rfl
end Go.Proofs.YtelkklnfbfmecaaW.PrintWords
end
section
namespace Go.Proofs.Ytelkklnfbfmecaa
open Go.RowKit YtelkklnfbfmecaaW.PrintWords YtelkklnfbfmecaaW.PrintLast
namespace XF
def isn (k : FloatKind) (x : Nat) : Bool := (k.format.read x).isNaN
theorem order_nan_l {k : FloatKind} {x y : Nat} (h : isn k x = true) : k.format.order x y = none := by
  unfold isn at h
  unfold Ieee.Format.order
  cases hx : k.format.read x with
  | nan s f => rfl
  | infinity s => rw [hx] at h; cases h
  | number s m e => rw [hx] at h; cases h
theorem cut_nan32 (t : Nat) : isn .f32 ((t % 2) * 2 ^ 31 + 0x7f800000 + 1 + (t / 2) % (2 ^ 23 - 1)) = true := by
  have e : ∀ w : Nat, w % 2147483648 > 2139095040 → isn .f32 w = true := by
    intro w hw
    unfold isn Ieee.Format.read
    have h1 : FloatKind.f32.format.signWeight = 2147483648 := by decide
    have h2 : FloatKind.f32.format.infRung = 2139095040 := by decide
    have h3 : FloatKind.f32.format.binade = 8388608 := by decide
    simp only [h1, h2, h3]
    rw [if_neg (by omega), if_neg (by omega), if_neg (by omega)]
    rfl
  apply e
  have h1 : (t / 2) % (2 ^ 23 - 1) < 8388607 := Nat.mod_lt _ (by decide)
  generalize (t / 2) % (2 ^ 23 - 1) = r at h1 ⊢
  rcases Nat.mod_two_eq_zero_or_one t with h | h <;> rw [h] <;> omega
theorem cut_nan64 (t : Nat) : isn .f64 ((t % 2) * 2 ^ 63 + 0x7ff0000000000000 + 1 + (t / 2) % (2 ^ 52 - 1)) = true := by
  have e : ∀ w : Nat, w % 9223372036854775808 > 9218868437227405312 → isn .f64 w = true := by
    intro w hw
    unfold isn Ieee.Format.read
    have h1 : FloatKind.f64.format.signWeight = 9223372036854775808 := by decide
    have h2 : FloatKind.f64.format.infRung = 9218868437227405312 := by decide
    have h3 : FloatKind.f64.format.binade = 4503599627370496 := by decide
    simp only [h1, h2, h3]
    rw [if_neg (by omega), if_neg (by omega), if_neg (by omega)]
    rfl
  apply e
  have h1 : (t / 2) % (2 ^ 52 - 1) < 4503599627370495 := Nat.mod_lt _ (by decide)
  generalize (t / 2) % (2 ^ 52 - 1) = r at h1 ⊢
  rcases Nat.mod_two_eq_zero_or_one t with h | h <;> rw [h] <;> omega
def nanv (k : FloatKind) (x y t : Nat) : Nat := (Question.nanBits k x y).cut t
theorem nanv_isn (k : FloatKind) (x y t : Nat) : isn k (nanv k x y t) = true := by
  cases k
  · exact cut_nan32 t
  · exact cut_nan64 t
def arith (op : BinOp) : Prop := op = .add ∨ op = .sub ∨ op = .mul ∨ op = .quo
theorem run_arith_none {P : Program} (w : World) (op : BinOp) (hop : arith op) (t : TypeId) (k : FloatKind) (x y : Nat) (h : floatBits op k x y = none) :
    (binOp op t (.float k x) (.float k y)).run P w = .ok (.float k (nanv k x y (w.tape w.drawn (.nanBits k x y)))) w.drew := by
  rcases hop with rfl | rfl | rfl | rfl <;> (unfold floatBits at h; simp only at h; simp [binOp, Op.floatArith, h, Question.forced, nanv])
end XF
namespace XF
theorem order_self {k : FloatKind} {b : Nat} (h : isn k b = false) : k.format.order b b = some .eq := by
  unfold isn at h
  unfold Ieee.Format.order
  cases hx : k.format.read b with
  | nan s f => rw [hx] at h; cases h
  | infinity s => cases s <;> rfl
  | number s m e => simp [Ieee.Datum.order, Std.ReflCmp.compare_self]
end XF
end Go.Proofs.Ytelkklnfbfmecaa
end
section
namespace Go.Proofs.Ytelkklnfbfmecaa
open Go.RowKit YtelkklnfbfmecaaW.PrintWords YtelkklnfbfmecaaW.PrintLast
namespace XL
open XF
def fin (x : Nat) : Bool := match floatBits .sub .f32 x x with | some r => FloatKind.f32.format.order r 0 == some .eq | none => false
def IsFinite.f (a0 : Nat) : Option Bool := some (fin a0)
set_option maxHeartbeats 4000000 in
set_option maxRecDepth 100000 in
theorem IsFinite.calls (a0 : Nat) (r : Bool) (w : World) (h : IsFinite.f a0 = some r) : Calls Try.prog 50 #[.float .f32 a0] w fun e w' => e = .returned (.bool r) ∧ Drawn0 w w' := by
  obtain rfl := Option.some.inj h
  cases e : floatBits .sub .f32 a0 a0 with
  | some q =>
    have q1 := fun w => run_float_arith (P := Try.prog) w .sub 32 .f32 a0 a0 q e
    go_enter Try.func50, Try.ntmps50
    go_wp2
    go_ret
    exact ⟨by simp [fin, e], Drawn0.refl _⟩
  | none =>
    have q1 := fun w => run_arith_none (P := Try.prog) w .sub (.inr (.inl rfl)) 32 .f32 a0 a0 e
    have q2 : ∀ t, (FloatKind.f32.format.order (nanv .f32 a0 a0 t) 0 == some .eq) = false := fun t => by rw [order_nan_l (nanv_isn _ _ _ _)]; rfl
    go_enter Try.func50, Try.ntmps50
    go_wp2
    go_ret
    exact ⟨by simp [fin, e, q2], ⟨1, rfl⟩⟩
theorem isNaN_eq (x : Nat) : (FloatKind.f32.format.order x x != some .eq) = isn .f32 x := by
  cases h : isn .f32 x with
  | true => rw [order_nan_l h]; rfl
  | false => rw [order_self h]; rfl
def isNaN.f (a0 : Nat) : Option Bool := some (isn .f32 a0)
set_option maxHeartbeats 4000000 in
set_option maxRecDepth 100000 in
theorem isNaN.calls (a0 : Nat) (r : Bool) (w : World) (h : isNaN.f a0 = some r) : Calls Try.prog 75 #[.float .f32 a0] w fun e w' => e = .returned (.bool r) ∧ Drawn0 w w' := by
  obtain rfl := Option.some.inj h
  go_enter Try.func75, Try.ntmps75
  go_wp2
  go_ret
  exact ⟨by rw [isNaN_eq]; rfl, Drawn0.refl _⟩
def bits (x : Nat) : Int := if isn .f32 x = true then 2143289344 else wrap64 (x : Int)
theorem run_bits (P : Program) (w : World) (x : Nat) : (Extern.MathFloatBits.float32bits #[.float .f32 x]).run P w = .ok (.int .u32 x) w := rfl
end XL
end Go.Proofs.Ytelkklnfbfmecaa
end
section
namespace Go.Proofs.Ytelkklnfbfmecaa
open Go.RowKit YtelkklnfbfmecaaW.PrintWords YtelkklnfbfmecaaW.PrintLast YtelkklnfbfmecaaW.PrintMore
attribute [local go_sem] max2_int min2_int max_two min_two max_three min_three max_four min_four
namespace XW
open XF XL
set_option maxHeartbeats 4000000 in
set_option maxRecDepth 100000 in
theorem litf (a0 : Nat) (w : World) : Calls Try.prog 67 #[.float .f32 a0] w fun e w' => e = .returned (.bool (!fin a0)) ∧ Drawn0 w w' := by
  go_enter Try.func67, Try.ntmps67
  go_wp2_with (go_at_call 50; refine (IsFinite.calls _ _ _ rfl).mono ?_; rintro e w1 ⟨rfl, ⟨nd, rfl⟩⟩)
  go_ret
  exact ⟨rfl, ⟨_, rfl⟩⟩
def ix {α : Type} (p : α → Bool) : List α → Int → Int
  | [], _ => -1
  | x :: r, i => if p x = true then i else ix p r (i + 1)
theorem ix_ge {α : Type} (p : α → Bool) : ∀ (xs : List α) (i : Int), 0 ≤ i → (decide (0 ≤ ix p xs i)) = xs.any p
  | [], i, _ => by simp [ix]
  | x :: r, i, h => by
    unfold ix
    cases e : p x with
    | true => simp [e, h]
    | false => simp [e, ix_ge p r (i + 1) (by omega)]
set_option maxHeartbeats 4000000 in
set_option maxRecDepth 100000 in
theorem indexf (A : Option Addr) (c : Nat) (xs : List Nat) (r : Int) (hr : ix (fun x => !fin x) xs 0 = r) (w : World) (hr0 : Kd.C (Kd.float .f32) w A xs.length xs) (hc0 : xs.length ≤ c) :
  Calls Try.prog 77 #[.slice A xs.length c, .func (.func 67) #[] #[]] w fun e w' => e = .returned (.int .i64 r) ∧ Drawn0 w w' := by
 have a1 := Aside0.mk hr0
 clear hr0
 have hmx : xs.length ≤ 9223372036854775807 := Kd.C_max a1.out
 go_enter Try.func77, Try.ntmps77
 go_wp2
 go_loopg [8] xs.length (fun kq v8 w' => ∃ (i : Nat), v8 = .int .i64 (i : Int) ∧ Aside0 (i + kq = xs.length) ∧ Aside0 (ix (fun x => !fin x) (xs.drop i) (i : Int) = r) ∧ Drawn0 w w')
 case atStart => exact ⟨0, rfl, ⟨by simp⟩, ⟨hr⟩, Drawn0.refl _⟩
 case round =>
  obtain ⟨i, rfl, HI, HX, ⟨m, rfl⟩⟩ := hrel
  have hi := HI.out
  have a0 := HX.out
  cases gk with
  | zero =>
   have hc : decide ((i : Int) < (xs.length : Int)) = false := by simp; omega
   rw [List.drop_eq_nil_of_le (by omega), ix] at a0
   subst a0
   go_wp2
   go_ret
   exact ⟨rfl, ⟨_, rfl⟩⟩
  | succ k1 =>
   have hil : i < xs.length := by omega
   have hc : decide ((i : Int) < (xs.length : Int)) = true := by simp; omega
   have p0 : (0 : Int) ≤ (i : Int) := by omega
   have q0 : (i : Int) < (xs.length : Int) := by omega
   obtain ⟨ad, ead, hx⟩ := Kd.at_float a1.out (i : Int) p0 q0
   cases ead
   rw [Int.toNat_natCast, show rdOf (0 : Nat) xs (i : Int) = xs[i] by simp [rdOf, hil]] at hx
   rw [List.drop_eq_getElem_cons hil, ix] at a0
   generalize xs[i] = x at hx a0
   have p0b := eq_true p0
   have q0b := eq_true q0
   cases e : fin x with
   | false =>
    rw [e, if_pos (by rfl)] at a0
    subst a0
    go_wp2_with (first | (go_at_call 67; refine (litf _ _).mono ?_; rintro e w1 ⟨rfl, ⟨nd, rfl⟩⟩))
    go_ret
    exact ⟨rfl, ⟨_, rfl⟩⟩
   | true =>
    rw [e, if_neg (by decide)] at a0
    go_wp2_with (first | (go_at_call 67; refine (litf _ _).mono ?_; rintro e w1 ⟨rfl, ⟨nd, rfl⟩⟩))
    go_roundg k1
    case measure => omega
    case rel => exact ⟨i + 1, rfl, ⟨by omega⟩, ⟨a0⟩, ⟨_, rfl⟩⟩
set_option maxHeartbeats 4000000 in
set_option maxRecDepth 100000 in
theorem containsf (A : Option Addr) (c : Nat) (xs : List Nat) (w : World) (hr0 : Kd.C (Kd.float .f32) w A xs.length xs) (hc0 : xs.length ≤ c) :
    Calls Try.prog 66 #[.slice A xs.length c, .func (.func 67) #[] #[]] w fun e w' => e = .returned (.bool (xs.any fun x => !fin x)) ∧ Drawn0 w w' := by
  have hg := ix_ge (fun x => !fin x) xs 0 (Int.le_refl _)
  go_enter Try.func66, Try.ntmps66
  go_wp2_with (first | (go_at_call 77; refine (indexf _ _ _ _ rfl _ hr0 hc0).mono ?_; rintro e w1 ⟨rfl, ⟨nd, rfl⟩⟩))
  go_ret
  exact ⟨by first | rfl | (rw [← hg]; rfl), ⟨_, rfl⟩⟩
set_option maxHeartbeats 4000000 in
set_option maxRecDepth 100000 in
theorem finitef (A : Option Addr) (c : Nat) (xs : List Nat) (w : World) (hr0 : Kd.C (Kd.float .f32) w A xs.length xs) (hc0 : xs.length ≤ c) :
    Calls Try.prog 43 #[.slice A xs.length c] w fun e w' => e = .returned (.bool (!xs.any fun x => !fin x)) ∧ Drawn0 w w' := by
  go_enter Try.func43, Try.ntmps43
  go_wp2_with (first | (go_at_call 66; refine (containsf _ _ _ _ hr0 hc0).mono ?_; rintro e w1 ⟨rfl, ⟨nd, rfl⟩⟩))
  go_ret
  exact ⟨rfl, ⟨_, rfl⟩⟩
end XW
end Go.Proofs.Ytelkklnfbfmecaa
end
section
namespace Go.Proofs.Ytelkklnfbfmecaa
open Go.RowKit YtelkklnfbfmecaaW.PrintWords YtelkklnfbfmecaaW.PrintLast
namespace XM
open XF XL
def smn (x y : Nat) : Bool := if (isn .f32 x || isn .f32 y) = true then isn .f32 x && isn .f32 y else (x : Int) == (y : Int)
def SameNumber.f (a0 a1 : Nat) : Option Bool := some (smn a0 a1)
set_option maxHeartbeats 4000000 in
set_option maxRecDepth 100000 in
theorem SameNumber.calls (a0 a1 : Nat) (r : Bool) (w : World) (h : SameNumber.f a0 a1 = some r) : Calls Try.prog 65 #[.float .f32 a0, .float .f32 a1] w fun e w' => e = .returned (.bool r) ∧ Drawn0 w w' := by
 obtain rfl := Option.some.inj h
 unfold smn
 cases ea : isn .f32 a0 <;> cases eb : isn .f32 a1
 ·go_enter Try.func65, Try.ntmps65
  go_wp2_with (first | (go_at_call 75; (refine (isNaN.calls a0 false _ (congrArg some ea)).mono ?_); rintro e w1 ⟨rfl, ⟨nd1, rfl⟩⟩) | (go_at_call 75; (refine (isNaN.calls a1 false _ (congrArg some eb)).mono ?_); rintro e w1 ⟨rfl, ⟨nd2, rfl⟩⟩))
  rw [run_callFunc_extern Try.func76 (by kernel_rfl) (by kernel_rfl) (by kernel_rfl) (e := Extern.MathFloatBits.float32bits) (by kernel_rfl)]
  rw [run_bits]
  simp only [Result.andThen]
  rw [Oper.upon_value]
  go_wp2
  rw [run_callFunc_extern Try.func76 (by kernel_rfl) (by kernel_rfl) (by kernel_rfl) (e := Extern.MathFloatBits.float32bits) (by kernel_rfl)]
  rw [run_bits]
  simp only [Result.andThen]
  rw [Oper.upon_value]
  go_wp2
  go_ret
  exact ⟨by first | rfl | (simp; done), by first | exact Drawn0.refl _ | exact ⟨_, rfl⟩⟩
 ·go_enter Try.func65, Try.ntmps65
  go_wp2_with (first | (go_at_call 75; (refine (isNaN.calls a0 false _ (congrArg some ea)).mono ?_); rintro e w1 ⟨rfl, ⟨nd1, rfl⟩⟩) | (go_at_call 75; (refine (isNaN.calls a1 true _ (congrArg some eb)).mono ?_); rintro e w1 ⟨rfl, ⟨nd2, rfl⟩⟩))
  go_ret
  exact ⟨by first | rfl | (simp; done), by first | exact Drawn0.refl _ | exact ⟨_, rfl⟩⟩
 ·go_enter Try.func65, Try.ntmps65
  go_wp2_with (first | (go_at_call 75; (refine (isNaN.calls a0 true _ (congrArg some ea)).mono ?_); rintro e w1 ⟨rfl, ⟨nd1, rfl⟩⟩) | (go_at_call 75; (refine (isNaN.calls a1 false _ (congrArg some eb)).mono ?_); rintro e w1 ⟨rfl, ⟨nd2, rfl⟩⟩))
  go_ret
  exact ⟨by first | rfl | (simp; done), by first | exact Drawn0.refl _ | exact ⟨_, rfl⟩⟩
 go_enter Try.func65, Try.ntmps65
 go_wp2_with (first | (go_at_call 75; (refine (isNaN.calls a0 true _ (congrArg some ea)).mono ?_); rintro e w1 ⟨rfl, ⟨nd1, rfl⟩⟩) | (go_at_call 75; (refine (isNaN.calls a1 true _ (congrArg some eb)).mono ?_); rintro e w1 ⟨rfl, ⟨nd2, rfl⟩⟩))
 go_ret
 exact ⟨by first | rfl | (simp; done), by first | exact Drawn0.refl _ | exact ⟨_, rfl⟩⟩
end XM
end Go.Proofs.Ytelkklnfbfmecaa
end
section
namespace Go.Proofs.Ytelkklnfbfmecaa
open Go.RowKit YtelkklnfbfmecaaW.PrintWords YtelkklnfbfmecaaW.PrintLast YtelkklnfbfmecaaW.PrintMore
namespace XW
open XF XL
def finite.f (l0 : List Nat) : Option Bool := some (!(l0.any fun x => !fin x))
theorem finite.calls (A0 : Option Addr) (c0 : Nat) (l0 : List Nat) (r : Bool) (w : World) (hr0 : Kd.C (Kd.float .f32) w A0 l0.length l0) (hc0 : l0.length ≤ c0) (h : finite.f l0 = some r) :
    Calls Try.prog 43 #[.slice A0 l0.length c0] w fun e w' => e = .returned (.bool r) ∧ Below w.heap.size w w' := by
  obtain rfl := Option.some.inj h
  refine (finitef A0 c0 l0 w hr0 hc0).mono ?_
  rintro e w' ⟨rfl, ⟨nd, rfl⟩⟩
  exact ⟨rfl, pw_below_drewN (Below.refl _ _) _⟩
end XW
end Go.Proofs.Ytelkklnfbfmecaa
end
section
namespace Go.Proofs.Ytelkklnfbfmecaa
open Go.RowKit YtelkklnfbfmecaaW.PrintWords YtelkklnfbfmecaaW.PrintLast YtelkklnfbfmecaaW.PrintMore
attribute [local go_sem] max2_int min2_int max_two min_two max_three min_three max_four min_four
namespace XK
theorem eql_nil (P : Program) (w : World) (t e : TypeId) (a : Option Addr) (l c : Nat) (h : P.underlying t = some (.slice e)) : (binOp .eql t (.slice a l c) (.slice none 0 0)).run P w = .ok (.bool a.isNone) w := by
  simp [binOp, run_equal_slice_nil w t e a l c h]
def cloneF.f (l0 : List Nat) : Option (List Nat) := if l0.length < 11728124029610 then some l0 else none
theorem cloneF_info : (Try.prog.info? 32).map (fun i => (i.zero, i.size, i.bytes)) = some (some (.float .f32 0), 1, 4) := by kernel_rfl
set_option maxHeartbeats 4000000 in
set_option maxRecDepth 100000 in
theorem cloneF.calls (A0 : Option Addr) (c0 : Nat) (l0 r : List Nat) (w : World) (hr0 : Kd.C (Kd.float .f32) w A0 l0.length l0) (hc0 : l0.length ≤ c0) (h : cloneF.f l0 = some r) :
  Calls Try.prog 47 #[.slice A0 l0.length c0] w fun e w' => ∃ v0_ : Value, e = .returned (v0_) ∧ Kd.R (Kd.float .f32) 32 w' w.heap.size (fun _ => True) v0_ r ∧ Below w.heap.size w w' := by
 have hlen : l0.length < 11728124029610 ∧ l0 = r := by
  unfold cloneF.f at h
  by_cases c : l0.length < 11728124029610
  ·rw [if_pos c] at h
   exact ⟨c, Option.some.inj h⟩
  rw [if_neg c] at h
  cases h
 obtain ⟨hlen, rfl⟩ := hlen
 have he := eql_nil Try.prog w 24 32 A0 l0.length c0 Try.underlying24
 cases A0 with
 | none =>
  have hz : l0 = [] := by
   rcases Nat.eq_zero_or_pos l0.length with h0 | h0
   ·exact List.eq_nil_of_length_eq_zero h0
   obtain ⟨ad, h, _⟩ := hr0.2.2 h0
   cases h
  subst hz
  replace he : (binOp .eql 24 (.slice none 0 c0) (.slice none 0 0)).run Try.prog w = .ok (.bool true) w := he
  go_enter Try.func47, Try.ntmps47
  go_wp2
  go_ret
  exact ⟨_, rfl, Kd.R_nil _ _ _ _ _, Below.refl _ _⟩
 | some ad =>
  replace he : (binOp .eql 24 (.slice (some ad) l0.length c0) (.slice none 0 0)).run Try.prog w = .ok (.bool false) w := he
  go_enter Try.func47, Try.ntmps47
  go_wp2_with (first | ((with_reducible refine gate_dst (N := 5) rfl ?_); refine Kd.R_lit (Kd.float .f32) _ 32 ?hg (N := 5) ?hd (xs := ([] : List Nat)) (inner := []) (ok := fun _ => True) (okp := fun _ => True) ?hr ?hp (fun _ hk => hk) trivial (Below.refl _ _) (Nat.le_refl _) (by simp) ?_; (case hd => rfl); (case hg => rfl); (case hr => first | (go_simp; done) | (go_simp; rfl)); (case hp => exact (Reps.none _ _)); intro v1 w1 ho1 hb1 hg_ hnew_; clear hg_ hnew_) | ((with_reducible refine gate_dst (N := 7) rfl ?_); refine Kd.R_append_rows (Kd.float .f32) (w0 := w) w.heap.size rfl (.tmp 5) (.tmp 6) 24 32 (.float .f32 0) 4 rfl Try.underlying24 cloneF_info rfl (by decide) (by decide) v1 [] l0 (some ad) l0.length c0 (fun _ => True) (fun _ => False) rfl rfl ho1 (Kd.C_below hr0 hb1) (fun _ _ h => h) (fun _ h => h.elim) (fun _ _ => trivial) hb1 hb1.size ?hl ?_; (case hl => simp; omega); intro v2 w2 ho2 hb2 _ _))
  go_ret
  exact ⟨_, rfl, ho2, hb2⟩
end XK
end Go.Proofs.Ytelkklnfbfmecaa
end
section
namespace Go.Proofs.YtelkklnfbfmecaaW.PrintLast
section
variable {P : Program} {ops : Array Oper} {Q : Exit → Act → World → Prop} {md : Region.Mode} {S : World → Prop} {ds : List Nat} {T : Bool × List (List Nat × List Nat)}
end
end Go.Proofs.YtelkklnfbfmecaaW.PrintLast
end
section
namespace Go.Proofs.YtelkklnfbfmecaaW.PrintWords
open Go.RowKit
namespace Kd
section
variable {α : Type} {d : Kd α} {W : World} {g n : Nat} {S ok : Nat → Prop} {A : Option Addr} {ad : Addr} {xs : List α}
end
end Kd
end Go.Proofs.YtelkklnfbfmecaaW.PrintWords
end
section
namespace Go.Proofs.YtelkklnfbfmecaaW.PrintWords
open Go.RowKit
section
variable {w w' u : World} {m B g : Nat} {o : Obj} {row : Option Nat} {S : Nat → Prop} {a : Addr} {v : Value}
end
namespace Kd
section
variable {α : Type} {d : Kd α} {e base n m : Nat} {ok : Nat → Prop} {w w' : World} {v : Value} {A : Option Addr} {xs : List α}
end
end Kd
end Go.Proofs.YtelkklnfbfmecaaW.PrintWords
end
section
namespace Go.Proofs.YtelkklnfbfmecaaW.PrintWords
open Go.RowKit
section
variable {P : Program} {d : Nat} {xs ys : Array Value} {f : Field} {fs : List Field} {a b : Value} {r s : Bool} {w : World}
end
end Go.Proofs.YtelkklnfbfmecaaW.PrintWords
end
section
namespace Go.Proofs.YtelkklnfbfmecaaW.PrintWords
theorem Reps.one {α : Type} {R : α → List Value → Prop} {ps : List α} {cs : List Value} {p : α} {v : Value} (hp : R p [v]) (h : Reps R 1 ps cs) : Reps R 1 (p :: ps) (v :: cs) := by
  refine ⟨by simp [h.1], fun j q hq => ?_⟩
  cases j with
  | zero =>
    simp only [List.getElem?_cons_zero, Option.some.injEq] at hq
    subst hq
    simpa using hp
  | succ j =>
    simp only [List.getElem?_cons_succ] at hq
    have h1 := h.2 j q hq
    simpa [Nat.mul_one] using h1
theorem Reps.front {α : Type} {R : α → List Value → Prop} {size : Nat} {ps : List α} {cs c all : List Value} {p : α} (hp : R p c) (hc : c.length = size) (h : Reps R size ps cs) (ha : c ++ cs = all) : Reps R size (p :: ps) all := by
  subst ha
  refine ⟨by rw [List.length_append, hc, h.1, List.length_cons, Nat.succ_mul, Nat.add_comm], fun j q hq => ?_⟩
  cases j with
  | zero =>
    simp only [List.getElem?_cons_zero, Option.some.injEq] at hq
    subst hq
    rw [Nat.zero_mul, List.drop_zero, List.take_append_of_le_length (by omega), List.take_of_length_le (by omega)]
    exact hp
  | succ j =>
    simp only [List.getElem?_cons_succ] at hq
    have h1 := h.2 j q hq
    rw [Nat.succ_mul, List.drop_append, List.drop_of_length_le (by rw [hc]; exact Nat.le_add_left _ _), List.nil_append, hc, Nat.add_sub_cancel]
    exact h1
theorem Reps.c3 {α : Type} {R : α → List Value → Prop} {ps : List α} {cs : List Value} {p : α} {va vb vc : Value} (hp : R p [va, vb, vc]) (h : Reps R 3 ps cs) : Reps R 3 (p :: ps) (va :: vb :: vc :: cs) := Reps.front hp rfl h rfl
end Go.Proofs.YtelkklnfbfmecaaW.PrintWords
end
section
namespace Go.Proofs.YtelkklnfbfmecaaW.PrintLast
section
variable {P : Program} {ops : Array Oper} {Q : Exit → Act → World → Prop} {md : Region.Mode} {T : Bool × List (List Nat × List Nat)} {B : List Nat} {O : List Nat} {b : Nat → Bool} {i j n : Nat}
end
end Go.Proofs.YtelkklnfbfmecaaW.PrintLast
end
section
namespace Go.Proofs.YtelkklnfbfmecaaW.PrintWords
open Go.RowKit
end Go.Proofs.YtelkklnfbfmecaaW.PrintWords
namespace Go.Proofs.YtelkklnfbfmecaaW.PrintLast
section
variable {ops : Array Oper} {a : Act} {o og : Oper} {g : Nat} {t : Tmp} {u : Bool}
end
end Go.Proofs.YtelkklnfbfmecaaW.PrintLast
end
section
namespace Go.Proofs.YtelkklnfbfmecaaW.PrintWords
open Go.RowKit
section
variable {P : Program} {ops : Array Oper} {rest : List Oper} {o : Oper} {a : Act} {Q : Exit → Act → World → Prop} {W : World}
theorem gate_guard (hw : Region.wanted o (yielded ops a.tmps) = true) (h : wpList P ops Q ({ o with guard := none } :: rest) a W) : wpList P ops Q (o :: rest) a W := by
  have h1 : Region.wanted { o with guard := none } (yielded ops a.tmps) = true := rfl
  unfold wpList at h ⊢
  rw [if_pos h1] at h
  rw [if_pos hw]
  exact h
end
end Go.Proofs.YtelkklnfbfmecaaW.PrintWords
end
section
namespace Go.Proofs.Ytelkklnfbfmecaa.B0
open Go.RowKit YtelkklnfbfmecaaW.PrintWords YtelkklnfbfmecaaW.PrintLast YtelkklnfbfmecaaW.PrintMore
attribute [local go_sem] max2_int min2_int max_two min_two max_three min_three max_four min_four
attribute [local go_sem high] binOp_fge binOp_fle
def errW : Option Int → Value
  | none => .nilIface
  | some c => .iface 0 (.int .i64 c)
theorem errW_none : errW none = .nilIface := rfl
theorem errW_some (c : Int) : errW (some c) = .iface 0 (.int .i64 c) := rfl
theorem info32 : (Try.prog.info? 32).map (fun i => (i.zero, i.size, i.bytes)) = some (some (.float .f32 0), 1, 4) := by kernel_rfl
structure S26 where
  f0 : Int
  f1 : Int
  f2 : (List Nat)
def z26 : S26 := ⟨(0 : Int), (0 : Int), ([] : List Nat)⟩
def k26 : Kd S26 := Kd.iso (Kd.pair (Kd.int .i64) (Kd.pair (Kd.int .i64) (Kd.slice 32 (Kd.float .f32)))) (fun x : S26 => (x.f0, x.f1, x.f2))
theorem k26_open {w : World} {x : S26} {cs : List Value} (h : k26.K w x cs) : ∃ A2 c2, cs = [.int .i64 x.f0, .int .i64 x.f1, .slice A2 x.f2.length c2] ∧ x.f2.length ≤ c2 ∧ (Kd.float .f32).C w A2 x.f2.length x.f2 := by
  obtain ⟨_, _, rfl, rfl, ⟨_, _, rfl, rfl, ⟨A2, c2, rfl, l2, g2⟩⟩⟩ := h
  exact ⟨A2, c2, rfl, l2, g2⟩
theorem k26_mk (w : World) (x : S26) {A2 : Option Addr} {c2 : Nat} (l2 : x.f2.length ≤ c2) (g2 : (Kd.float .f32).C w A2 x.f2.length x.f2) : k26.K w x [.int .i64 x.f0, .int .i64 x.f1, .slice A2 x.f2.length c2] := ⟨[.int .i64 x.f0], [.int .i64 x.f1, .slice A2 x.f2.length c2], rfl, rfl, ⟨[.int .i64 x.f1], [.slice A2 x.f2.length c2], rfl, rfl, ⟨A2, c2, rfl, l2, g2⟩⟩⟩
def rd_T26 (xs : List S26) (i : Int) : S26 := xs.getD i.toNat z26
theorem at_T26 {w : World} {A : Option Addr} {n : Nat} {xs : List S26} (h : Kd.C k26 w A n xs) (i : Int) (h0 : 0 ≤ i) (h1 : i < n) : ∃ ad A2 c2, A = some ad ∧ w.cell? (ad.add (i.toNat * 3)) = some (.int .i64 (rd_T26 xs i).f0) ∧ w.cell? ⟨(ad.add (i.toNat * 3)).block, (ad.add (i.toNat * 3)).off + 1, none⟩ = some (.int .i64 (rd_T26 xs i).f1) ∧ w.cell? ⟨(ad.add (i.toNat * 3)).block, (ad.add (i.toNat * 3)).off + 2, none⟩ = some (.slice A2 (rd_T26 xs i).f2.length c2) ∧ (rd_T26 xs i).f2.length ≤ c2 ∧ (Kd.float .f32).C w A2 (rd_T26 xs i).f2.length (rd_T26 xs i).f2 := by
  obtain ⟨ad, c, e, _, hK, hc0⟩ := Kd.C_get h z26 i h0 h1
  have hc : ∀ j u, c[j]? = some u → w.cell? (ad.add (i.toNat * 3 + j)) = some u := hc0
  obtain ⟨A2, c2, rfl, l2, g2⟩ := k26_open hK
  exact ⟨ad, A2, c2, e, hc 0 _ rfl, by rw [← add_field _ _ 1 (by omega)]; exact hc 1 _ rfl, by rw [← add_field _ _ 2 (by omega)]; exact hc 2 _ rfl, l2, g2⟩
end Go.Proofs.Ytelkklnfbfmecaa.B0
end
section
namespace Go.Proofs.Ytelkklnfbfmecaa.B0
open Go.RowKit YtelkklnfbfmecaaW.PrintWords YtelkklnfbfmecaaW.PrintLast YtelkklnfbfmecaaW.PrintMore
attribute [local go_sem] max2_int min2_int max_two min_two max_three min_three max_four min_four
attribute [local go_sem high] binOp_fge binOp_fle
def impl_Basin_place.f (a0_0 : Int) (a0_1 : Int) (l0_2 : List Nat) (a1 : Int) (a2 : Int) : Option (Int) := if a0_0 = 0 then (none) else (if a0_1 = 0 then (none) else (some (wrap64 ((Int.tmod (wrap64 ((Int.tmod a1 a0_0) + a0_0)) a0_0) + (wrap64 (a0_0 * (Int.tmod (wrap64 ((Int.tmod a2 a0_1) + a0_1)) a0_1)))))))
set_option maxHeartbeats 8000000 in
set_option maxRecDepth 100000 in
theorem impl_Basin_place.calls (g0 : Nat) (a0 : Int) (a3 : Int) (a6 : Option Addr) (a7 : Nat) (a4 : List Nat) (a1 : Int) (a2 : Int) (r : Int) (w : World) (hb0_ : w.heap[g0]? = some (.cells #[.int .i64 a0, .int .i64 a3, .slice a6 a4.length a7] 26 (0, 0))) (hr0_2 : Kd.C (Kd.float .f32) w a6 a4.length a4) (a5 : a4.length ≤ a7) (h : impl_Basin_place.f a0 a3 a4 a1 a2 = some r) :
  Calls Try.prog 48 #[.pointer (some ⟨g0, 0, none⟩), .int .i64 a1, .int .i64 a2] w fun e w' => e = .returned (.int .i64 r) ∧ Below w.heap.size w w' := by
 have ag := Aside0.mk hr0_2; have af := Aside0.mk a5; clear hr0_2 a5; have a8 := Aside0.mk hb0_; clear hb0_; have HB := AS (Below.refl w.heap.size w); have H : (if a0 = 0 then (none) else (if a3 = 0 then (none) else (some (wrap64 ((Int.tmod (wrap64 ((Int.tmod a1 a0) + a0)) a0) + (wrap64 (a0 * (Int.tmod (wrap64 ((Int.tmod a2 a3) + a3)) a3)))))))) = some r := h; clear h; by_cases c4 : a0 = 0
 ·rw [if_pos c4] at H
  exact absurd H (by simp)
 rw [if_neg c4] at H
 have ah : (a0 == 0) = false := beq_eq_false_iff_ne.mpr c4; have ai : (a0 != 0) = true := bne_iff_ne.mpr c4; by_cases c5 : a3 = 0
 ·rw [if_pos c5] at H
  exact absurd H (by simp)
 rw [if_neg c5] at H
 have aj : (a3 == 0) = false := beq_eq_false_iff_ne.mpr c5; have ak : (a3 != 0) = true := bne_iff_ne.mpr c5; obtain rfl := Option.some.inj H; have a9 : w.cell? ⟨g0, 0, none⟩ = some (.int .i64 a0) := (blk_cell a8.out 0).trans rfl; have aa : w.cell? ⟨g0, 1, none⟩ = some (.int .i64 a3) := (blk_cell a8.out 1).trans rfl; have ab : w.cell? ⟨g0, 2, none⟩ = some (.slice a6 a4.length a7) := (blk_cell a8.out 2).trans rfl; have ac := blk_frozen a8.out 0; have ad := blk_frozen a8.out 1; have ae := blk_frozen a8.out 2; go_enter Try.func48, Try.ntmps48; go_wp2; (repeat (go_quiet (fail); try go_wp2)); go_ret; exact ⟨by first | rfl | (simp [errW_none, errW_some] <;> rfl) | (simp [*, errW_none, errW_some] <;> rfl), BW HB⟩
def impl_Basin_at.f (a0_0 : Int) (a0_1 : Int) (l0_2 : List Nat) (a1 : Int) (a2 : Int) : Option (Nat) := (impl_Basin_place.f a0_0 a0_1 l0_2 a1 a2).bind fun t101 => (if 0 ≤ t101 then (if t101 < (l0_2.length : Int) then (some (rdOf (0 : Nat) l0_2 t101)) else (none)) else (none))
def impl_Basin_at.T1 : Bool × List (List Nat × List Nat) := (true, [([], []), ([0], [0]), ([1], [1]), ([2], [2]), ([], []), ([], []), ([], []), ([4, 5, 6], [4, 5, 6]), ([3, 7], [3, 7]), ([8], [8]), ([9, 7, 0, 1, 2, 3, 4, 5, 6, 7, 8, 9], [9])])
def impl_Basin_at.B1 : List Nat := [0, 1, 3, 7, 0, 0, 0, 112, 255, 511, 1023]
theorem impl_Basin_at.tab1 : rtab .any (opsOf Try.f34 1) = impl_Basin_at.T1 := by kernel_rfl
theorem impl_Basin_at.bits1 : waitsOk impl_Basin_at.T1.2 impl_Basin_at.B1 = true := by kernel_rfl
set_option maxHeartbeats 8000000 in
set_option maxRecDepth 100000 in
theorem impl_Basin_at.calls (g0 : Nat) (a8 : Int) (a9 : Int) (ad : Option Addr) (aa : Nat) (a3 : List Nat) (a1 : Int) (a2 : Int) (r : Nat) (w : World) (hb0_ : w.heap[g0]? = some (.cells #[.int .i64 a8, .int .i64 a9, .slice ad a3.length aa] 26 (0, 0))) (hr0_2 : Kd.C (Kd.float .f32) w ad a3.length a3) (ac : a3.length ≤ aa) (h : impl_Basin_at.f a8 a9 a3 a1 a2 = some r) :
  Calls Try.prog 34 #[.pointer (some ⟨g0, 0, none⟩), .int .i64 a1, .int .i64 a2] w fun e w' => e = .returned (.float .f32 r) ∧ Below w.heap.size w w' := by
 have ab := Aside0.mk hr0_2; have ae := Aside0.mk ac; clear hr0_2 ac; have a6 := Aside0.mk hb0_; clear hb0_; have HB := AS (Below.refl w.heap.size w); have H : ((impl_Basin_place.f a8 a9 a3 a1 a2).bind fun a0 => (if 0 ≤ a0 then (if a0 < (a3.length : Int) then (some (rdOf (0 : Nat) a3 a0)) else (none)) else (none))) = some r := h; clear h; replace H := OC H; obtain ⟨a0, af, H⟩ := H; replace H : (if 0 ≤ a0 then (if a0 < (a3.length : Int) then (some (rdOf (0 : Nat) a3 a0)) else (none)) else (none)) = some r := H; have A4 := Aside0.mk af; clear af; by_cases c5 : 0 ≤ a0
 ·rw [if_pos c5] at H
  have ah : decide (0 ≤ a0) = true := decide_eq_true c5; clear c5; by_cases c6 : a0 < (a3.length : Int)
  ·rw [if_pos c6] at H
   have ai : decide (a0 < (a3.length : Int)) = true := decide_eq_true c6; clear c6; obtain rfl := Option.some.inj H; go_enter Try.func34, Try.ntmps34; (try go_wp2); replace a6 := AS (blk_drew a6.out); replace HB := AS (below_drew1 HB.out); have p102 : 0 ≤ (a0 : Int) := of_decide_eq_true (by first | (with_reducible assumption) | assumption); have q102 : a0 < (a3.length : Int) := of_decide_eq_true (by first | (with_reducible assumption) | assumption); obtain ⟨ad102, e102, a4⟩ := Kd.at_float ab.out a0 p102 q102; have hw102_0 := a4; cases e102; replace a4 := (HB.out.cell (World.block_lt_of_cell? w _ a4)).trans a4; replace p102 := eq_true p102; replace q102 := eq_true q102; refine start_ (n := 11) (S := fun w' => w'.cell? ⟨g0, 0, none⟩ = some (.int .i64 a8) ∧ w'.cell? ⟨g0, 1, none⟩ = some (.int .i64 a9) ∧ w'.cell? ⟨g0, 2, none⟩ = some (.slice (some ad102) a3.length aa) ∧ w'.cell? (ad102.add (a0).toNat) = some (.float .f32 (rdOf (0 : Nat) a3 a0))) (ds := []) #[false, false, false, false, false, false, false, false, false, false, false] (by kernel_rfl) rfl rfl ⟨(blk_cell a6.out 0).trans rfl, (blk_cell a6.out 1).trans rfl, (blk_cell a6.out 2).trans rfl, ((HB.out.cell (World.block_lt_of_cell? w _ hw102_0)).trans hw102_0)⟩ (fun a5 => ?_); refine with_tabW impl_Basin_at.tab1 impl_Basin_at.bits1 (fun a7 ag => ?_); generalize w.drew = w7 at a6 HB a4 a5 ⊢; refine pureT 0 7 a7.out ?_; refine pureT 1 8 a7.out ?_; refine pureT 2 9 a7.out ?_; refine pureT 4 11 a7.out ?_; refine pureT 5 12 a7.out ?_; refine pureT 6 13 a7.out ?_; refine takeU 3 10 a7.out ag.out a5 ?_ (hy := by rintro w' ⟨s0, s1, s2, s3⟩; go_simp; with_reducible rfl); refine one_ (i := 7) (N := some 14) #[true, true, true, true, true, true, true, true, false, false, false] rfl rfl (one_of a7.out (by kernel_rfl)) (by decide) (fun K hK => ?_); refine goes_ Try.func48 (by kernel_rfl) rfl #[.pointer (some ⟨g0, 0, none⟩), .int .i64 a1, .int .i64 a2] (by rfl) rfl rfl (by (try simp only [List.map_toArray, List.map_cons, List.map_nil]); first | done | rfl | (simp only [List.length_drop, List.length_take]; rfl)) ?_; (with_reducible refine (impl_Basin_place.calls g0 a8 a9 (some ad102) aa a3 a1 a2 a0 _ ?s1 ?s2 ?s3 A4.out).mono ?_); (case s1 => exact (KS a6.out)); (case s2 => exact CS (Kd.C_below ab.out HB.out)); (case s3 => exact ae.out); rintro e w8 ⟨rfl, hb⟩; refine ⟨_, rfl, ?_⟩; replace a6 := KB a6 hb; replace HB := BB HB hb; (try clear hb); refine hK.out _ _ ⟨(blk_cell a6.out 0).trans rfl, (blk_cell a6.out 1).trans rfl, (blk_cell a6.out 2).trans rfl, ((HB.out.cell (World.block_lt_of_cell? w _ hw102_0)).trans hw102_0)⟩ (fun a5 => ?_); clear hK K; refine norm_ (a' := ?_) ?_ ?_; rotate_left
   ·show Act.put _ (some 14) _ = _
    simp only [Act.put, List.setIfInBounds_toArray, List.set_cons_zero, List.set_cons_succ, i64_w, i32_w]; rfl
   refine pureT 8 15 a7.out ?_; refine takeU 9 16 a7.out ag.out a5 ?_ (hy := by rintro w' ⟨s0, s1, s2, s3⟩; go_simp; with_reducible rfl); refine pureT 10 6 a7.out ?_; refine done_ (done_of a7.out (by kernel_rfl)) ?_; (try go_wp2); go_ret; exact ⟨by first | rfl | (simp [errW_none, errW_some] <;> rfl) | (simp [*, errW_none, errW_some] <;> rfl), BW HB⟩
  rw [if_neg c6] at H
  exact absurd H (by simp)
 rw [if_neg c5] at H
 exact absurd H (by simp)
def impl_in.f (a0 : Int) (a1 : Int) (a2 : Int) : Option (Bool) := if a0 ≥ a1 then (some (decide (a0 ≤ a2))) else (some false)
set_option maxHeartbeats 8000000 in
set_option maxRecDepth 100000 in
theorem impl_in.calls (a0 : Int) (a1 : Int) (a2 : Int) (r : Bool) (w : World) (h : impl_in.f a0 a1 a2 = some r) :
    Calls Try.prog 38 #[.int .i64 a0, .int .i64 a1, .int .i64 a2] w fun e w' => e = .returned (.bool r) ∧ Drawn0 w w' := by
  have H : (if a0 ≥ a1 then (some (decide (a0 ≤ a2))) else (some false)) = some r := h; clear h; by_cases c4 : a0 ≥ a1
  · rw [if_pos c4] at H
    have c4b0 : decide (a1 ≤ a0) = true := decide_eq_true c4; clear c4; obtain rfl := Option.some.inj H; go_enter Try.func38, Try.ntmps38; go_wp2; go_ret; exact ⟨by first | rfl | (simp; done) | (simp [*]; done), by repeat (first | exact Drawn0.refl _ | apply Drawn0.step)⟩
  · rw [if_neg c4] at H
    have c4b0 : decide (a1 ≤ a0) = false := decide_eq_false c4; clear c4; obtain rfl := Option.some.inj H; go_enter Try.func38, Try.ntmps38; go_wp2; go_ret; exact ⟨by first | rfl | (simp; done) | (simp [*]; done), by repeat (first | exact Drawn0.refl _ | apply Drawn0.step)⟩
def impl_sideOk.f (a0 : Int) : Option (Bool) := (impl_in.f a0 3 16).bind fun t103 => (some t103)
set_option maxHeartbeats 8000000 in
set_option maxRecDepth 100000 in
theorem impl_sideOk.calls (a0 : Int) (r : Bool) (w : World) (h : impl_sideOk.f a0 = some r) :
    Calls Try.prog 42 #[.int .i64 a0] w fun e w' => e = .returned (.bool r) ∧ Drawn0 w w' := by
  have H : ((impl_in.f a0 3 16).bind fun t103 => (some t103)) = some r := h; clear h; replace H := OC H; obtain ⟨t103, A20, H⟩ := H; replace H : (some t103) = some r := H; have A2 := Aside0.mk A20; clear A20; obtain rfl := Option.some.inj H; go_enter Try.func42, Try.ntmps42; go_wp2_with (first | ((with_reducible refine gate_callee (f := 38) rfl ?_); refine goesM 4 Try.func38 #[.int .i64 a0, .int .i64 3, .int .i64 16] ?_; (with_reducible refine (impl_in.calls a0 3 16 t103 _ A2.out).mono ?_); rintro e w' ⟨rfl, ⟨nd, rfl⟩⟩; refine ⟨_, rfl, ?_⟩)); go_ret; exact ⟨by first | rfl | (simp; done) | (simp [*]; done), by repeat (first | exact Drawn0.refl _ | apply Drawn0.step)⟩
def impl_ValidBasin.f (a0_0 : Int) (a0_1 : Int) (l0_2 : List Nat) : Option (Bool) := (impl_sideOk.f a0_0).bind fun t105 => (if t105 = true then ((impl_sideOk.f a0_1).bind fun t106 => (if t106 = true then (if (l0_2.length : Int) = (wrap64 (a0_0 * a0_1)) then ((XW.finite.f l0_2).bind fun t107 => (some t107)) else (some false)) else (some false))) else (some false))
set_option maxHeartbeats 8000000 in
set_option maxRecDepth 100000 in
theorem impl_ValidBasin.calls (a0 : Int) (a2 : Int) (a6 : Option Addr) (a7 : Nat) (a1 : List Nat) (r : Bool) (w : World) (hr0_2 : Kd.C (Kd.float .f32) w a6 a1.length a1) (ab : a1.length ≤ a7) (h : impl_ValidBasin.f a0 a2 a1 = some r) :
  Calls Try.prog 16 #[.agg #[.int .i64 a0, .int .i64 a2, .slice a6 a1.length a7]] w fun e w' => e = .returned (.bool r) ∧ Below w.heap.size w w' := by
 have hu26 := Try.underlying26; have ad := Aside0.mk hr0_2; have ac := Aside0.mk ab; clear hr0_2 ab; have HB := AS (Below.refl w.heap.size w); have H : ((impl_sideOk.f a0).bind fun aa => (if aa = true then ((impl_sideOk.f a2).bind fun a5 => (if a5 = true then (if (a1.length : Int) = (wrap64 (a0 * a2)) then ((XW.finite.f a1).bind fun a4 => (some a4)) else (some false)) else (some false))) else (some false))) = some r := h; clear h; replace H := OC H; obtain ⟨aa, aG, H⟩ := H; replace H : (if aa = true then ((impl_sideOk.f a2).bind fun a5 => (if a5 = true then (if (a1.length : Int) = (wrap64 (a0 * a2)) then ((XW.finite.f a1).bind fun a4 => (some a4)) else (some false)) else (some false))) else (some false)) = some r := H; have A2 := Aside0.mk aG; clear aG; by_cases c3 : aa = true
 ·subst c3
  have H1 : ((impl_sideOk.f a2).bind fun a5 => (if a5 = true then (if (a1.length : Int) = (wrap64 (a0 * a2)) then ((XW.finite.f a1).bind fun a4 => (some a4)) else (some false)) else (some false))) = some r := (by rw [if_pos rfl] at H; exact H); clear H; have H := H1; clear H1; replace H := OC H; obtain ⟨a5, aH, H⟩ := H; replace H : (if a5 = true then (if (a1.length : Int) = (wrap64 (a0 * a2)) then ((XW.finite.f a1).bind fun a4 => (some a4)) else (some false)) else (some false)) = some r := H; have A4 := Aside0.mk aH; clear aH; by_cases c5 : a5 = true
  ·subst c5
   have H1 : (if (a1.length : Int) = (wrap64 (a0 * a2)) then ((XW.finite.f a1).bind fun a4 => (some a4)) else (some false)) = some r := (by rw [if_pos rfl] at H; exact H); clear H; have H := H1; clear H1; by_cases c6 : (a1.length : Int) = (wrap64 (a0 * a2))
   ·rw [if_pos c6] at H
    have ay : ((a1.length : Int) == (wrap64 (a0 * a2))) = true := beq_iff_eq.mpr c6; have az : ((a1.length : Int) != (wrap64 (a0 * a2))) = false := bne_eq_false_iff_eq.mpr c6; clear c6; replace H := OC H; obtain ⟨a4, aI, H⟩ := H; replace H : (some a4) = some r := H; have A7 := Aside0.mk aI; clear aI; obtain rfl := Option.some.inj H; go_enter Try.func16, Try.ntmps16; go_wp2_with (first | ((with_reducible refine gate_dst (N := 1) rfl ?_); (try (refine gate_guard (by rfl) ?_; dsimp only)); refine boxM 1 #[.int .i64 a0, .int .i64 a2, .slice a6 a1.length a7] 26 ?_; intro a9 hg w8 hbox hb; have a3 := AS (hbox); have a8 := BG HB hg; replace HB := BB HB hb; clear hb hbox hg; obtain ⟨aA, aB, aC, aD, aE, aF⟩ := CZ3 a3) | ((with_reducible refine gate_callee (f := 42) rfl ?_); refine goesM 5 Try.func42 #[.int .i64 a0] ?_; (with_reducible refine (impl_sideOk.calls a0 true _ A2.out).mono ?_); rintro e w' ⟨rfl, ⟨nd, rfl⟩⟩; refine ⟨_, rfl, ?_⟩) | (go_at_call 42; (with_reducible refine (impl_sideOk.calls a2 true _ A4.out).mono ?_); rintro e w' ⟨rfl, ⟨nd, rfl⟩⟩) | (go_at_call 43; (with_reducible refine (XW.finite.calls _ _ a1 a4 _ ?s1 ?s2 A7.out).mono ?_); (case s1 => repeat (first | exact (Kd.C_below ad.out (BW HB)) | (with_reducible refine Kd.C_alloc ?_ _) | (with_reducible refine Kd.C_drewN ?_ _) | (with_reducible refine Kd.C_drew ?_))); (case s2 => exact ac.out); rintro e aJ ⟨rfl, hb⟩; replace a3 := KB a3 hb; replace HB := BB HB hb; (try clear hb))); go_ret; exact ⟨by first | rfl | (simp [errW_none, errW_some] <;> rfl) | (simp [*, errW_none, errW_some] <;> rfl), BW HB⟩
   rw [if_neg c6] at H
   have ay : ((a1.length : Int) == (wrap64 (a0 * a2))) = false := beq_eq_false_iff_ne.mpr c6; have az : ((a1.length : Int) != (wrap64 (a0 * a2))) = true := bne_iff_ne.mpr c6; obtain rfl := Option.some.inj H; go_enter Try.func16, Try.ntmps16; go_wp2_with (first | ((with_reducible refine gate_dst (N := 1) rfl ?_); (try (refine gate_guard (by rfl) ?_; dsimp only)); refine boxM 1 #[.int .i64 a0, .int .i64 a2, .slice a6 a1.length a7] 26 ?_; intro a9 hg aK hbox hb; have a3 := AS (hbox); have a8 := BG HB hg; replace HB := BB HB hb; clear hb hbox hg; obtain ⟨ae, af, ag, an, ao, ap⟩ := CZ3 a3) | ((with_reducible refine gate_callee (f := 42) rfl ?_); refine goesM 5 Try.func42 #[.int .i64 a0] ?_; (with_reducible refine (impl_sideOk.calls a0 true _ A2.out).mono ?_); rintro e w' ⟨rfl, ⟨nd, rfl⟩⟩; refine ⟨_, rfl, ?_⟩) | (go_at_call 42; (with_reducible refine (impl_sideOk.calls a2 true _ A4.out).mono ?_); rintro e w' ⟨rfl, ⟨nd, rfl⟩⟩)); go_ret; exact ⟨by first | rfl | (simp [errW_none, errW_some] <;> rfl) | (simp [*, errW_none, errW_some] <;> rfl), BW HB⟩
  replace c5 := Bool.eq_false_iff.mpr c5
  subst c5; have H1 : (some false) = some r := (by rw [if_neg (show ¬ (false = true) by decide)] at H; exact H); clear H; have H := H1; clear H1; obtain rfl := Option.some.inj H; go_enter Try.func16, Try.ntmps16; go_wp2_with (first | ((with_reducible refine gate_dst (N := 1) rfl ?_); (try (refine gate_guard (by rfl) ?_; dsimp only)); refine boxM 1 #[.int .i64 a0, .int .i64 a2, .slice a6 a1.length a7] 26 ?_; intro a9 hg aL hbox hb; have a3 := AS (hbox); have a8 := BG HB hg; replace HB := BB HB hb; clear hb hbox hg; obtain ⟨ah, ai, aj, aq, ar, au⟩ := CZ3 a3) | ((with_reducible refine gate_callee (f := 42) rfl ?_); refine goesM 5 Try.func42 #[.int .i64 a0] ?_; (with_reducible refine (impl_sideOk.calls a0 true _ A2.out).mono ?_); rintro e w' ⟨rfl, ⟨nd, rfl⟩⟩; refine ⟨_, rfl, ?_⟩) | (go_at_call 42; (with_reducible refine (impl_sideOk.calls a2 false _ A4.out).mono ?_); rintro e w' ⟨rfl, ⟨nd, rfl⟩⟩)); go_ret; exact ⟨by first | rfl | (simp [errW_none, errW_some] <;> rfl) | (simp [*, errW_none, errW_some] <;> rfl), BW HB⟩
 replace c3 := Bool.eq_false_iff.mpr c3
 subst c3; have H1 : (some false) = some r := (by rw [if_neg (show ¬ (false = true) by decide)] at H; exact H); clear H; have H := H1; clear H1; obtain rfl := Option.some.inj H; go_enter Try.func16, Try.ntmps16; go_wp2_with (first | ((with_reducible refine gate_dst (N := 1) rfl ?_); (try (refine gate_guard (by rfl) ?_; dsimp only)); refine boxM 1 #[.int .i64 a0, .int .i64 a2, .slice a6 a1.length a7] 26 ?_; intro a9 hg aM hbox hb; have a3 := AS (hbox); have a8 := BG HB hg; replace HB := BB HB hb; clear hb hbox hg; obtain ⟨ak, al, am, av, aw, ax⟩ := CZ3 a3) | ((with_reducible refine gate_callee (f := 42) rfl ?_); refine goesM 5 Try.func42 #[.int .i64 a0] ?_; (with_reducible refine (impl_sideOk.calls a0 false _ A2.out).mono ?_); rintro e w' ⟨rfl, ⟨nd, rfl⟩⟩; refine ⟨_, rfl, ?_⟩)); go_ret; exact ⟨by first | rfl | (simp [errW_none, errW_some] <;> rfl) | (simp [*, errW_none, errW_some] <;> rfl), BW HB⟩
def impl_toldBasin.f (a0_0 : Int) (a0_1 : Int) (l0_2 : List Nat) : Option (Int × Int × List Nat × Bool) := (impl_ValidBasin.f a0_0 a0_1 l0_2).bind fun t116 => (if t116 = true then (some (a0_0, a0_1, l0_2, true)) else (some (0, 0, ([] : List Nat), false)))
set_option maxHeartbeats 8000000 in
set_option maxRecDepth 100000 in
theorem impl_toldBasin.calls (a6 : Int) (a7 : Int) (a2 : Nat → Prop) (u9000_ : Value) (a4 : List Nat) (r1 : Int) (r2 : Int) (r3 : List Nat) (r4 : Bool) (w0 w : World) (hB : Below w0.heap.size w0 w) (ho0_2 : Kd.R (Kd.float .f32) 32 w w0.heap.size a2 u9000_ a4) (h : impl_toldBasin.f a6 a7 a4 = some (r1, r2, r3, r4)) :
  Calls Try.prog 49 #[.agg #[.int .i64 a6, .int .i64 a7, u9000_]] w fun e w' => ∃ v2_ : Value, e = .returned (.tuple #[.agg #[.int .i64 r1, .int .i64 r2, v2_], .bool r4]) ∧ Kd.R (Kd.float .f32) 32 w' w0.heap.size (fun k_ => (a2 k_ ∨ w.heap.size ≤ k_)) v2_ r3 ∧ Below w0.heap.size w0 w' ∧ Kept w w' (fun k_ => a2 k_) := by
 have hu26 := Try.underlying26; have a0 := AS (show Kd.R (Kd.float .f32) 32 w w0.heap.size (fun k_ => (a2 k_ ∨ w.heap.size ≤ k_)) u9000_ a4 from Kd.R_mono ho0_2 (fun k_ hk => (.inl hk))); have HK := AS (Kept.refl w (fun k_ => a2 k_)); have HW0 := Aside0.mk hB.size; have HB := Aside0.mk hB; clear hB; have H : ((impl_ValidBasin.f a6 a7 a4).bind fun ad => (if ad = true then (some (a6, a7, a4, true)) else (some (0, 0, ([] : List Nat), false)))) = some (r1, r2, r3, r4) := h; clear h; replace H := OC H; obtain ⟨ad, aT, H⟩ := H; replace H : (if ad = true then (some (a6, a7, a4, true)) else (some (0, 0, ([] : List Nat), false))) = some (r1, r2, r3, r4) := H; have A2 := Aside0.mk aT; clear aT; by_cases c3 : ad = true
 ·subst c3
  have H1 : (some (a6, a7, a4, true)) = some (r1, r2, r3, r4) := (by rw [if_pos rfl] at H; exact H); clear H; have H := H1; clear H1; simp only [Option.some.injEq, Prod.mk.injEq] at H; obtain ⟨rfl, rfl, rfl, rfl⟩ := H; obtain ⟨ak, al, aW⟩ := Kd.R_slice a0.out; subst aW; go_enter Try.func49, Try.ntmps49; go_wp2_with (first | ((with_reducible refine gate_dst (N := 1) rfl ?_); refine boxM 1 #[.int .i64 a6, .int .i64 a7, .slice ak a4.length al] 26 ?_; intro ac hg w5 hbox hb; have ai := AS (Kept.below (S := (fun k_ => a2 k_)) (by repeat (first | (with_reducible first | exact HK.out | apply Kept.alloc | apply Kept.drewN | apply Kept.drew) | exact HK.out)) hb); have a1 := AS (hbox); have a5 := AS ((by rw [hg]; exact (by first | exact HK.out.1 | exact (show Kept w _ (fun k_ => a2 k_) from by repeat (first | (with_reducible first | exact HK.out | apply Kept.alloc | apply Kept.drewN | apply Kept.drew) | exact HK.out)).1) : w.heap.size ≤ ac)); have af := AS ((by rw [hg]; exact (below_size (BW HB)) : w0.heap.size ≤ ac)); replace a0 := RB a0 hb; replace HB := BB HB hb; replace HK := ai; clear ai; clear hb hbox hg) | ((with_reducible refine gate_dst (N := 2) rfl ?_); refine boxM 2 #[.int .i64 0, .int .i64 0, .slice none 0 0] 26 ?_; intro aa hg w6 hbox hb; have aj := AS (Kept.below (S := (fun k_ => a2 k_)) (by repeat (first | (with_reducible first | exact HK.out | apply Kept.alloc | apply Kept.drewN | apply Kept.drew | refine Kept.setCell ?_ (.inr a5.out) _) | exact HK.out)) hb); have a3 := AS (hbox); have ab := AS ((by rw [hg]; exact (by first | exact HK.out.1 | exact (show Kept w _ (fun k_ => a2 k_) from by repeat (first | (with_reducible first | exact HK.out | apply Kept.alloc | apply Kept.drewN | apply Kept.drew | refine Kept.setCell ?_ (.inr a5.out) _) | exact HK.out)).1) : w.heap.size ≤ aa)); have ag := AS ((by rw [hg]; exact (below_size (BW HB)) : w0.heap.size ≤ aa)); have a8 := KN a1 hg; have a9 := KM a1 hg; replace a0 := RB a0 hb; replace a1 := KB a1 hb; replace HB := BB HB hb; replace HK := aj; clear aj; clear hb hbox hg; have aX := a8.out; have aY := a9.out; obtain ⟨aN, aO, aP, aQ, aR, aS⟩ := CZ3 a1) | ((with_reducible refine gate_callee (f := 16) rfl ?_); refine goesM 5 Try.func16 #[.agg #[.int .i64 a6, .int .i64 a7, .slice ak a4.length al]] ?_; (with_reducible refine (impl_ValidBasin.calls a6 a7 _ _ a4 true _ ?s1 ?s2 A2.out).mono ?_); (case s1 => exact CS (Kd.R_reads' a0.out).2.2); (case s2 => exact (Kd.R_reads' a0.out).2.1); rintro e w9 ⟨rfl, hb⟩; refine ⟨_, rfl, ?_⟩; replace HK := AS (Kept.below (S := (fun k_ => a2 k_)) (by repeat (first | (with_reducible first | exact HK.out | apply Kept.alloc | apply Kept.drewN | apply Kept.drew | refine Kept.setCell ?_ (.inr a5.out) _ | refine Kept.setCell ?_ (.inr ab.out) _) | exact HK.out)) hb); replace a0 := RB a0 hb; replace a1 := KB a1 hb; replace a3 := KB a3 hb; replace HB := BB HB hb; (try clear hb); (try clear hk); obtain ⟨am, an, ao, aA, aB, aC⟩ := CZ3 a1; obtain ⟨ap, aq, ar, aD, aE, aF⟩ := CZ3 a3)); refine bodyPost_ret (results_ct rfl _ _ aa 26 #[.int .i64 a6, .int .i64 a7, .slice ak a4.length al] (0, 0) _ rfl (KP3 a3) Try.underlying26 rfl (by kernel_rfl)) rfl ?_; exact ⟨_, by first | rfl | (simp [errW_none, errW_some] <;> rfl) | (simp [*, errW_none, errW_some] <;> rfl), by (with_reducible repeat (first | apply Kd.R_alloc | apply Kd.R_drewN | apply Kd.R_drew)); exact (RF3 a0 a3 (.int .i64 a6) (.int .i64 a7) (.slice ak a4.length al)), BW HB, by repeat (first | (with_reducible first | exact HK.out | apply Kept.alloc | apply Kept.drewN | apply Kept.drew | refine Kept.setCell ?_ (.inr a5.out) _ | refine Kept.setCell ?_ (.inr ab.out) _) | exact HK.out)⟩
 replace c3 := Bool.eq_false_iff.mpr c3
 subst c3; have H1 : (some (0, 0, ([] : List Nat), false)) = some (r1, r2, r3, r4) := (by rw [if_neg (show ¬ (false = true) by decide)] at H; exact H); clear H; have H := H1; clear H1; simp only [Option.some.injEq, Prod.mk.injEq] at H; obtain ⟨rfl, rfl, rfl, rfl⟩ := H; obtain ⟨ae, ah, aM⟩ := Kd.R_slice a0.out; subst aM; go_enter Try.func49, Try.ntmps49; go_wp2_with (first | ((with_reducible refine gate_dst (N := 1) rfl ?_); refine boxM 1 #[.int .i64 a6, .int .i64 a7, .slice ae a4.length ah] 26 ?_; intro ac hg aZ hbox hb; have ai := AS (Kept.below (S := (fun k_ => a2 k_)) (by repeat (first | (with_reducible first | exact HK.out | apply Kept.alloc | apply Kept.drewN | apply Kept.drew) | exact HK.out)) hb); have a1 := AS (hbox); have a5 := AS ((by rw [hg]; exact (by first | exact HK.out.1 | exact (show Kept w _ (fun k_ => a2 k_) from by repeat (first | (with_reducible first | exact HK.out | apply Kept.alloc | apply Kept.drewN | apply Kept.drew) | exact HK.out)).1) : w.heap.size ≤ ac)); have af := AS ((by rw [hg]; exact (below_size (BW HB)) : w0.heap.size ≤ ac)); replace a0 := RB a0 hb; replace HB := BB HB hb; replace HK := ai; clear ai; clear hb hbox hg) | ((with_reducible refine gate_dst (N := 2) rfl ?_); refine boxM 2 #[.int .i64 0, .int .i64 0, .slice none 0 0] 26 ?_; intro aa hg b0 hbox hb; have aj := AS (Kept.below (S := (fun k_ => a2 k_)) (by repeat (first | (with_reducible first | exact HK.out | apply Kept.alloc | apply Kept.drewN | apply Kept.drew | refine Kept.setCell ?_ (.inr a5.out) _) | exact HK.out)) hb); have a3 := AS (hbox); have ab := AS ((by rw [hg]; exact (by first | exact HK.out.1 | exact (show Kept w _ (fun k_ => a2 k_) from by repeat (first | (with_reducible first | exact HK.out | apply Kept.alloc | apply Kept.drewN | apply Kept.drew | refine Kept.setCell ?_ (.inr a5.out) _) | exact HK.out)).1) : w.heap.size ≤ aa)); have ag := AS ((by rw [hg]; exact (below_size (BW HB)) : w0.heap.size ≤ aa)); have a8 := KN a1 hg; have a9 := KM a1 hg; replace a0 := RB a0 hb; replace a1 := KB a1 hb; replace HB := BB HB hb; replace HK := aj; clear aj; clear hb hbox hg; have aU := a8.out; have aV := a9.out; obtain ⟨au, av, aw, aG, aH, aI⟩ := CZ3 a1) | ((with_reducible refine gate_callee (f := 16) rfl ?_); refine goesM 5 Try.func16 #[.agg #[.int .i64 a6, .int .i64 a7, .slice ae a4.length ah]] ?_; (with_reducible refine (impl_ValidBasin.calls a6 a7 _ _ a4 false _ ?s1 ?s2 A2.out).mono ?_); (case s1 => exact CS (Kd.R_reads' a0.out).2.2); (case s2 => exact (Kd.R_reads' a0.out).2.1); rintro e b1 ⟨rfl, hb⟩; refine ⟨_, rfl, ?_⟩; replace HK := AS (Kept.below (S := (fun k_ => a2 k_)) (by repeat (first | (with_reducible first | exact HK.out | apply Kept.alloc | apply Kept.drewN | apply Kept.drew | refine Kept.setCell ?_ (.inr a5.out) _ | refine Kept.setCell ?_ (.inr ab.out) _) | exact HK.out)) hb); replace a0 := RB a0 hb; replace a1 := KB a1 hb; replace a3 := KB a3 hb; replace HB := BB HB hb; (try clear hb); (try clear hk); obtain ⟨ax, ay, az, aJ, aK, aL⟩ := CZ3 a3)); refine bodyPost_ret (results_ct rfl _ _ aa 26 #[.int .i64 0, .int .i64 0, .slice none 0 0] (0, 0) _ rfl (KP3 a3) Try.underlying26 rfl (by kernel_rfl)) rfl ?_; exact ⟨_, by first | rfl | (simp [errW_none, errW_some] <;> rfl) | (simp [*, errW_none, errW_some] <;> rfl), by first | exact Kd.R_nil _ _ _ _ _ | exact Kd.N_nil _ _ _ _ _ | exact Kd.V_nil _ _ _ _ _ | exact Kd.Q_nil _ _ _ _ _ | exact Kd.S_nil _ _ _ _ _, BW HB, by repeat (first | (with_reducible first | exact HK.out | apply Kept.alloc | apply Kept.drewN | apply Kept.drew | refine Kept.setCell ?_ (.inr a5.out) _ | refine Kept.setCell ?_ (.inr ab.out) _) | exact HK.out)⟩
end Go.Proofs.Ytelkklnfbfmecaa.B0
end
section
namespace Go.Proofs.Ytelkklnfbfmecaa.B0
open Go.RowKit YtelkklnfbfmecaaW.PrintWords YtelkklnfbfmecaaW.PrintLast YtelkklnfbfmecaaW.PrintMore
attribute [local go_sem] max2_int min2_int max_two min_two max_three min_three max_four min_four
attribute [local go_sem high] binOp_fge binOp_fle
def impl_RangeInBasin.l0 : Nat → Nat → Nat → List Nat → Int → Int → Option (Nat × Nat × Bool)
  | 0, _, _, _, _, _ => none
  | k + 1, x5, x6, x21, x22, x23 => if x23 < x22 then (if 0 ≤ x23 then (if x23 < (x21.length : Int) then (if (FloatKind.f32.format.order (rdOf (0 : Nat) x21 x23) x5 == some .lt) = true then (if (FloatKind.f32.format.order (rdOf (0 : Nat) x21 x23) x6 == some .gt) = true then (impl_RangeInBasin.l0 k (rdOf (0 : Nat) x21 x23) (rdOf (0 : Nat) x21 x23) x21 x22 (wrap64 (x23 + 1))) else (impl_RangeInBasin.l0 k (rdOf (0 : Nat) x21 x23) x6 x21 x22 (wrap64 (x23 + 1)))) else (if (FloatKind.f32.format.order (rdOf (0 : Nat) x21 x23) x6 == some .gt) = true then (impl_RangeInBasin.l0 k x5 (rdOf (0 : Nat) x21 x23) x21 x22 (wrap64 (x23 + 1))) else (impl_RangeInBasin.l0 k x5 x6 x21 x22 (wrap64 (x23 + 1))))) else (none)) else (none)) else (some (x5, x6, true))
def impl_RangeInBasin.f (k : Nat) (a0_0 : Int) (a0_1 : Int) (l0_2 : List Nat) : Option (Nat × Nat × Bool) := (impl_ValidBasin.f a0_0 a0_1 l0_2).bind fun t133 => (if t133 = true then (if 0 < (l0_2.length : Int) then (impl_RangeInBasin.l0 k (rdOf (0 : Nat) l0_2 0) (rdOf (0 : Nat) l0_2 0) l0_2 (l0_2.length : Int) 0) else (none)) else (some (0, 0, false)))
set_option maxHeartbeats 8000000 in
set_option maxRecDepth 100000 in
theorem impl_RangeInBasin.calls (k : Nat) (a8 : Int) (a9 : Int) (ae : Option Addr) (ad : Nat) (a0 : List Nat) (r1 : Nat) (r2 : Nat) (r3 : Bool) (w : World) (hr0_2 : Kd.C (Kd.float .f32) w ae a0.length a0) (aF : a0.length ≤ ad) (h : impl_RangeInBasin.f k a8 a9 a0 = some (r1, r2, r3)) :
  Calls Try.prog 18 #[.agg #[.int .i64 a8, .int .i64 a9, .slice ae a0.length ad]] w fun e w' => e = .returned (.tuple #[.float .f32 r1, .float .f32 r2, .bool r3]) ∧ Below w.heap.size w w' := by
 have hu26 := Try.underlying26; have a6 := Aside0.mk hr0_2; have ab := Aside0.mk aF; clear hr0_2 aF; have HB := AS (Below.refl w.heap.size w); have H : ((impl_ValidBasin.f a8 a9 a0).bind fun aD => (if aD = true then (if 0 < (a0.length : Int) then (impl_RangeInBasin.l0 k (rdOf (0 : Nat) a0 0) (rdOf (0 : Nat) a0 0) a0 (a0.length : Int) 0) else (none)) else (some (0, 0, false)))) = some (r1, r2, r3) := h; clear h; replace H := OC H; obtain ⟨aD, aU, H⟩ := H; replace H : (if aD = true then (if 0 < (a0.length : Int) then (impl_RangeInBasin.l0 k (rdOf (0 : Nat) a0 0) (rdOf (0 : Nat) a0 0) a0 (a0.length : Int) 0) else (none)) else (some (0, 0, false))) = some (r1, r2, r3) := H; have A2 := Aside0.mk aU; clear aU; by_cases c3 : aD = true
 ·subst c3
  have H1 : (if 0 < (a0.length : Int) then (impl_RangeInBasin.l0 k (rdOf (0 : Nat) a0 0) (rdOf (0 : Nat) a0 0) a0 (a0.length : Int) 0) else (none)) = some (r1, r2, r3) := (by rw [if_pos rfl] at H; exact H); clear H; have H := H1; clear H1; by_cases c4 : 0 < (a0.length : Int)
  ·rw [if_pos c4] at H
   have aR : decide (0 < (a0.length : Int)) = true := decide_eq_true c4; have aS : decide (0 < a0.length) = true := decide_eq_true (by omega); clear c4; have H' := Aside0.mk H; clear H; go_enter Try.func18, Try.ntmps18; go_wp2_with (first | ((with_reducible refine gate_dst (N := 1) rfl ?_); refine boxM 1 #[.int .i64 a8, .int .i64 a9, .slice ae a0.length ad] 26 ?_; intro ac hg w5 hbox hb; have a2 := AS (hbox); have af := BG HB hg; replace HB := BB HB hb; clear hb hbox hg; obtain ⟨ag, ah, ai, am, an, ao⟩ := CZ3 a2) | (go_at_call 16; (with_reducible refine (impl_ValidBasin.calls a8 a9 _ _ a0 true _ ?s1 ?s2 A2.out).mono ?_); (case s1 => exact CS (Kd.C_below a6.out HB.out)); (case s2 => exact ab.out); rintro e w7 ⟨rfl, hb⟩; replace a2 := KB a2 hb; replace HB := BB HB hb; (try clear hb); obtain ⟨aj, ak, al, ap, aq, ar⟩ := CZ3 a2; have p134 : 0 ≤ (0 : Int) := (by omega); have q134 : 0 < (a0.length : Int) := of_decide_eq_true (by first | (with_reducible assumption) | assumption); obtain ⟨ad134, e134, a3⟩ := Kd.at_float a6.out 0 p134 q134; cases e134; have qi134 : (0 < a0.length) = True := eq_true (by omega); (try rw [show ((0 : Int)).toNat = 0 from rfl] at a3); (try rw [Addr.add_zero'] at a3); replace a3 := (HB.out.cell (World.block_lt_of_cell? w _ a3)).trans a3; replace p134 := eq_true p134; replace q134 := eq_true q134; have p135 : 0 ≤ (0 : Int) := (by omega); have q135 : 0 < (a0.length : Int) := of_decide_eq_true (by first | (with_reducible assumption) | assumption); obtain ⟨ad135, e135, a4⟩ := Kd.at_float a6.out 0 p135 q135; obtain rfl : ad134 = ad135 := (by injection e135); have qi135 : (0 < a0.length) = True := eq_true (by omega); (try rw [show ((0 : Int)).toNat = 0 from rfl] at a4); (try rw [Addr.add_zero'] at a4); replace a4 := (HB.out.cell (World.block_lt_of_cell? w _ a4)).trans a4; replace p135 := eq_true p135; replace q135 := eq_true q135)); (repeat (go_quiet (first | ((with_reducible refine gate_dst (N := 1) rfl ?_); refine boxM 1 #[.int .i64 a8, .int .i64 a9, .slice ae a0.length ad] 26 ?_; intro ac hg w5 hbox hb; have a2 := AS (hbox); have af := BG HB hg; replace HB := BB HB hb; clear hb hbox hg; obtain ⟨ag, ah, ai, am, an, ao⟩ := CZ3 a2) | (go_at_call 16; (with_reducible refine (impl_ValidBasin.calls a8 a9 _ _ a0 true _ ?s1 ?s2 A2.out).mono ?_); (case s1 => exact CS (Kd.C_below a6.out HB.out)); (case s2 => exact ab.out); rintro e w7 ⟨rfl, hb⟩; replace a2 := KB a2 hb; replace HB := BB HB hb; (try clear hb); obtain ⟨aj, ak, al, ap, aq, ar⟩ := CZ3 a2; have p134 : 0 ≤ (0 : Int) := (by omega); have q134 : 0 < (a0.length : Int) := of_decide_eq_true (by first | (with_reducible assumption) | assumption); obtain ⟨ad134, e134, a3⟩ := Kd.at_float a6.out 0 p134 q134; cases e134; have qi134 : (0 < a0.length) = True := eq_true (by omega); (try rw [show ((0 : Int)).toNat = 0 from rfl] at a3); (try rw [Addr.add_zero'] at a3); replace a3 := (HB.out.cell (World.block_lt_of_cell? w _ a3)).trans a3; replace p134 := eq_true p134; replace q134 := eq_true q134; have p135 : 0 ≤ (0 : Int) := (by omega); have q135 : 0 < (a0.length : Int) := of_decide_eq_true (by first | (with_reducible assumption) | assumption); obtain ⟨ad135, e135, a4⟩ := Kd.at_float a6.out 0 p135 q135; obtain rfl : ad134 = ad135 := (by injection e135); have qi135 : (0 < a0.length) = True := eq_true (by omega); (try rw [show ((0 : Int)).toNat = 0 from rfl] at a4); (try rw [Addr.add_zero'] at a4); replace a4 := (HB.out.cell (World.block_lt_of_cell? w _ a4)).trans a4; replace p135 := eq_true p135; replace q135 := eq_true q135)); try go_wp2_with (first | ((with_reducible refine gate_dst (N := 1) rfl ?_); refine boxM 1 #[.int .i64 a8, .int .i64 a9, .slice ae a0.length ad] 26 ?_; intro ac hg w5 hbox hb; have a2 := AS (hbox); have af := BG HB hg; replace HB := BB HB hb; clear hb hbox hg; obtain ⟨ag, ah, ai, am, an, ao⟩ := CZ3 a2) | (go_at_call 16; (with_reducible refine (impl_ValidBasin.calls a8 a9 _ _ a0 true _ ?s1 ?s2 A2.out).mono ?_); (case s1 => exact CS (Kd.C_below a6.out HB.out)); (case s2 => exact ab.out); rintro e w7 ⟨rfl, hb⟩; replace a2 := KB a2 hb; replace HB := BB HB hb; (try clear hb); obtain ⟨aj, ak, al, ap, aq, ar⟩ := CZ3 a2; have p134 : 0 ≤ (0 : Int) := (by omega); have q134 : 0 < (a0.length : Int) := of_decide_eq_true (by first | (with_reducible assumption) | assumption); obtain ⟨ad134, e134, a3⟩ := Kd.at_float a6.out 0 p134 q134; cases e134; have qi134 : (0 < a0.length) = True := eq_true (by omega); (try rw [show ((0 : Int)).toNat = 0 from rfl] at a3); (try rw [Addr.add_zero'] at a3); replace a3 := (HB.out.cell (World.block_lt_of_cell? w _ a3)).trans a3; replace p134 := eq_true p134; replace q134 := eq_true q134; have p135 : 0 ≤ (0 : Int) := (by omega); have q135 : 0 < (a0.length : Int) := of_decide_eq_true (by first | (with_reducible assumption) | assumption); obtain ⟨ad135, e135, a4⟩ := Kd.at_float a6.out 0 p135 q135; obtain rfl : ad134 = ad135 := (by injection e135); have qi135 : (0 < a0.length) = True := eq_true (by omega); (try rw [show ((0 : Int)).toNat = 0 from rfl] at a4); (try rw [Addr.add_zero'] at a4); replace a4 := (HB.out.cell (World.block_lt_of_cell? w _ a4)).trans a4; replace p135 := eq_true p135; replace q135 := eq_true q135)))); go_loopg [5, 6, 23] k (fun kq v5 v6 b2 w' => ∃ (aa : Nat) (a7 : Nat) (a1 : Int), v5 = .float .f32 aa ∧ v6 = .float .f32 a7 ∧ b2 = .int .i64 a1 ∧ Aside0 (impl_RangeInBasin.l0 kq aa a7 a0 (a0.length : Int) a1 = some (r1, r2, r3)) ∧ Aside0 (kq ≤ k) ∧ Aside0 (w'.heap[ac]? = some (.cells #[.int .i64 a8, .int .i64 a9, (.slice (some ad134) a0.length ad)] 26 (0, 0))) ∧ Aside0 (Below w.heap.size w w'))
   case atStart => exact ⟨(rdOf (0 : Nat) a0 0), (rdOf (0 : Nat) a0 0), (0), (by first | rfl | (simp; done) | (simp [*]; done)), (by first | rfl | (simp; done) | (simp [*]; done)), (by first | rfl | (simp; done) | (simp [*]; done)), H', ⟨Nat.le_refl _⟩, ⟨KS a2.out⟩, ⟨BW HB⟩⟩
   case round =>
    clear H'; (try clear c1); (try clear p1); (try clear q1); (try clear b3); (try clear qi1); (try clear p2); (try clear c3); (try clear c4); (try clear aR); (try clear aS); (try clear ag ah ai aj ak al am an ao ap aq ar); (try clear a3); (try clear a4); (try clear p134); (try clear p135); (try clear q134); (try clear q135); obtain ⟨aa, a7, a1, rfl, rfl, rfl, HA, aE, a2, HB⟩ := hrel; cases gk with
    | zero => exact absurd HA.out (by simp [impl_RangeInBasin.l0])
    | succ k1 =>
     have H := HA.out; clear HA; simp only [impl_RangeInBasin.l0] at H; by_cases c9 : a1 < (a0.length : Int)
     ·rw [if_pos c9] at H
      have aT : decide (a1 < (a0.length : Int)) = true := decide_eq_true c9; clear c9; by_cases aP : 0 ≤ a1
      ·rw [if_pos aP] at H
       have aV : decide (0 ≤ a1) = true := decide_eq_true aP; clear aP; by_cases aQ : a1 < (a0.length : Int)
       ·rw [if_pos aQ] at H
        have aW : decide (a1 < (a0.length : Int)) = true := decide_eq_true aQ; clear aQ; by_cases aA : (FloatKind.f32.format.order (rdOf (0 : Nat) a0 a1) aa == some .lt) = true
        ·rw [if_pos aA] at H
         have aG : (FloatKind.f32.format.order (rdOf (0 : Nat) a0 a1) aa == some .lt) = true := aA; (try (have aH : decide (FloatKind.f32.format.order (rdOf (0 : Nat) a0 a1) aa = some .lt) = true := by simpa using aA)); (try (have aI : (FloatKind.f32.format.order (rdOf (0 : Nat) a0 a1) aa == some .lt) = true := by simpa using aA)); clear aA; by_cases aB : (FloatKind.f32.format.order (rdOf (0 : Nat) a0 a1) a7 == some .gt) = true
         ·rw [if_pos aB] at H
          have aJ : (FloatKind.f32.format.order (rdOf (0 : Nat) a0 a1) a7 == some .gt) = true := aB; (try (have aK : decide (FloatKind.f32.format.order (rdOf (0 : Nat) a0 a1) a7 = some .gt) = true := by simpa using aB)); (try (have aL : (FloatKind.f32.format.order (rdOf (0 : Nat) a0 a1) a7 == some .gt) = true := by simpa using aB)); clear aB; have H' := Aside0.mk H; clear H; have p136 : 0 ≤ (a1 : Int) := of_decide_eq_true (by first | (with_reducible assumption) | assumption); have q136 : a1 < (a0.length : Int) := of_decide_eq_true (by first | (with_reducible assumption) | assumption); obtain ⟨ad136, e136, a5⟩ := Kd.at_float a6.out a1 p136 q136; obtain rfl : ad134 = ad136 := (by injection e136); replace a5 := (HB.out.cell (World.block_lt_of_cell? w _ a5)).trans a5; replace p136 := eq_true p136; replace q136 := eq_true q136; go_wp2; (repeat (go_quiet (fail); try go_wp2)); go_roundg k1
          case measure => have := aE.out; omega
          case rel => exact ⟨(rdOf (0 : Nat) a0 a1), (rdOf (0 : Nat) a0 a1), (wrap64 (a1 + 1)), (by first | rfl | (simp; done) | (simp [*]; done)), (by first | rfl | (simp; done) | (simp [*]; done)), (by first | rfl | (simp; done) | (simp [*]; done)), H', ⟨by have := aE.out; omega⟩, ⟨KS a2.out⟩, ⟨BW HB⟩⟩
         rw [if_neg aB] at H
         have aJ : (FloatKind.f32.format.order (rdOf (0 : Nat) a0 a1) a7 == some .gt) = false := (by simpa using aB); (try (have aK : decide (FloatKind.f32.format.order (rdOf (0 : Nat) a0 a1) a7 = some .gt) = false := by simpa using aB)); (try (have aL : (FloatKind.f32.format.order (rdOf (0 : Nat) a0 a1) a7 == some .gt) = false := by simpa using aB)); (try (have aY : ¬ (FloatKind.f32.format.order (rdOf (0 : Nat) a0 a1) a7 = some .gt) := by simpa using aB)); clear aB; have H' := Aside0.mk H; clear H; have p136 : 0 ≤ (a1 : Int) := of_decide_eq_true (by first | (with_reducible assumption) | assumption); have q136 : a1 < (a0.length : Int) := of_decide_eq_true (by first | (with_reducible assumption) | assumption); obtain ⟨ad136, e136, a5⟩ := Kd.at_float a6.out a1 p136 q136; obtain rfl : ad134 = ad136 := (by injection e136); replace a5 := (HB.out.cell (World.block_lt_of_cell? w _ a5)).trans a5; replace p136 := eq_true p136; replace q136 := eq_true q136; go_wp2; (repeat (go_quiet (fail); try go_wp2)); go_roundg k1
         case measure => have := aE.out; omega
         case rel => exact ⟨(rdOf (0 : Nat) a0 a1), (a7), (wrap64 (a1 + 1)), (by first | rfl | (simp; done) | (simp [*]; done)), (by first | rfl | (simp; done) | (simp [*]; done)), (by first | rfl | (simp; done) | (simp [*]; done)), H', ⟨by have := aE.out; omega⟩, ⟨KS a2.out⟩, ⟨BW HB⟩⟩
        rw [if_neg aA] at H
        have aG : (FloatKind.f32.format.order (rdOf (0 : Nat) a0 a1) aa == some .lt) = false := (by simpa using aA); (try (have aH : decide (FloatKind.f32.format.order (rdOf (0 : Nat) a0 a1) aa = some .lt) = false := by simpa using aA)); (try (have aI : (FloatKind.f32.format.order (rdOf (0 : Nat) a0 a1) aa == some .lt) = false := by simpa using aA)); (try (have aX : ¬ (FloatKind.f32.format.order (rdOf (0 : Nat) a0 a1) aa = some .lt) := by simpa using aA)); clear aA; by_cases aC : (FloatKind.f32.format.order (rdOf (0 : Nat) a0 a1) a7 == some .gt) = true
        ·rw [if_pos aC] at H
         have aM : (FloatKind.f32.format.order (rdOf (0 : Nat) a0 a1) a7 == some .gt) = true := aC; (try (have aN : decide (FloatKind.f32.format.order (rdOf (0 : Nat) a0 a1) a7 = some .gt) = true := by simpa using aC)); (try (have aO : (FloatKind.f32.format.order (rdOf (0 : Nat) a0 a1) a7 == some .gt) = true := by simpa using aC)); clear aC; have H' := Aside0.mk H; clear H; have p136 : 0 ≤ (a1 : Int) := of_decide_eq_true (by first | (with_reducible assumption) | assumption); have q136 : a1 < (a0.length : Int) := of_decide_eq_true (by first | (with_reducible assumption) | assumption); obtain ⟨ad136, e136, a5⟩ := Kd.at_float a6.out a1 p136 q136; obtain rfl : ad134 = ad136 := (by injection e136); replace a5 := (HB.out.cell (World.block_lt_of_cell? w _ a5)).trans a5; replace p136 := eq_true p136; replace q136 := eq_true q136; go_wp2; (repeat (go_quiet (fail); try go_wp2)); go_roundg k1
         case measure => have := aE.out; omega
         case rel => exact ⟨(aa), (rdOf (0 : Nat) a0 a1), (wrap64 (a1 + 1)), (by first | rfl | (simp; done) | (simp [*]; done)), (by first | rfl | (simp; done) | (simp [*]; done)), (by first | rfl | (simp; done) | (simp [*]; done)), H', ⟨by have := aE.out; omega⟩, ⟨KS a2.out⟩, ⟨BW HB⟩⟩
        rw [if_neg aC] at H
        have aM : (FloatKind.f32.format.order (rdOf (0 : Nat) a0 a1) a7 == some .gt) = false := (by simpa using aC); (try (have aN : decide (FloatKind.f32.format.order (rdOf (0 : Nat) a0 a1) a7 = some .gt) = false := by simpa using aC)); (try (have aO : (FloatKind.f32.format.order (rdOf (0 : Nat) a0 a1) a7 == some .gt) = false := by simpa using aC)); (try (have aZ : ¬ (FloatKind.f32.format.order (rdOf (0 : Nat) a0 a1) a7 = some .gt) := by simpa using aC)); clear aC; have H' := Aside0.mk H; clear H; have p136 : 0 ≤ (a1 : Int) := of_decide_eq_true (by first | (with_reducible assumption) | assumption); have q136 : a1 < (a0.length : Int) := of_decide_eq_true (by first | (with_reducible assumption) | assumption); obtain ⟨ad136, e136, a5⟩ := Kd.at_float a6.out a1 p136 q136; obtain rfl : ad134 = ad136 := (by injection e136); replace a5 := (HB.out.cell (World.block_lt_of_cell? w _ a5)).trans a5; replace p136 := eq_true p136; replace q136 := eq_true q136; go_wp2; (repeat (go_quiet (fail); try go_wp2)); go_roundg k1
        case measure => have := aE.out; omega
        case rel => exact ⟨(aa), (a7), (wrap64 (a1 + 1)), (by first | rfl | (simp; done) | (simp [*]; done)), (by first | rfl | (simp; done) | (simp [*]; done)), (by first | rfl | (simp; done) | (simp [*]; done)), H', ⟨by have := aE.out; omega⟩, ⟨KS a2.out⟩, ⟨BW HB⟩⟩
       rw [if_neg aQ] at H
       exact absurd H (by simp)
      rw [if_neg aP] at H
      exact absurd H (by simp)
     rw [if_neg c9] at H
     have aT : decide (a1 < (a0.length : Int)) = false := decide_eq_false c9; clear c9; simp only [Option.some.injEq, Prod.mk.injEq] at H; obtain ⟨rfl, rfl, rfl⟩ := H; go_wp2; (repeat (go_quiet (fail); try go_wp2)); go_ret3; exact ⟨by first | rfl | (simp [errW_none, errW_some] <;> rfl) | (simp [*, errW_none, errW_some] <;> rfl), BW HB⟩
  rw [if_neg c4] at H
  exact absurd H (by simp)
 replace c3 := Bool.eq_false_iff.mpr c3
 subst c3; have H1 : (some (0, 0, false)) = some (r1, r2, r3) := (by rw [if_neg (show ¬ (false = true) by decide)] at H; exact H); clear H; have H := H1; clear H1; simp only [Option.some.injEq, Prod.mk.injEq] at H; obtain ⟨rfl, rfl, rfl⟩ := H; go_enter Try.func18, Try.ntmps18; go_wp2_with (first | ((with_reducible refine gate_dst (N := 1) rfl ?_); refine boxM 1 #[.int .i64 a8, .int .i64 a9, .slice ae a0.length ad] 26 ?_; intro ac hg b0 hbox hb; have a2 := AS (hbox); have af := BG HB hg; replace HB := BB HB hb; clear hb hbox hg; obtain ⟨au, av, aw, ax, ay, az⟩ := CZ3 a2) | (go_at_call 16; (with_reducible refine (impl_ValidBasin.calls a8 a9 _ _ a0 false _ ?s1 ?s2 A2.out).mono ?_); (case s1 => exact CS (Kd.C_below a6.out HB.out)); (case s2 => exact ab.out); rintro e b1 ⟨rfl, hb⟩; replace a2 := KB a2 hb; replace HB := BB HB hb; (try clear hb))); (repeat (go_quiet (first | ((with_reducible refine gate_dst (N := 1) rfl ?_); refine boxM 1 #[.int .i64 a8, .int .i64 a9, .slice ae a0.length ad] 26 ?_; intro ac hg b0 hbox hb; have a2 := AS (hbox); have af := BG HB hg; replace HB := BB HB hb; clear hb hbox hg; obtain ⟨au, av, aw, ax, ay, az⟩ := CZ3 a2) | (go_at_call 16; (with_reducible refine (impl_ValidBasin.calls a8 a9 _ _ a0 false _ ?s1 ?s2 A2.out).mono ?_); (case s1 => exact CS (Kd.C_below a6.out HB.out)); (case s2 => exact ab.out); rintro e b1 ⟨rfl, hb⟩; replace a2 := KB a2 hb; replace HB := BB HB hb; (try clear hb))); try go_wp2_with (first | ((with_reducible refine gate_dst (N := 1) rfl ?_); refine boxM 1 #[.int .i64 a8, .int .i64 a9, .slice ae a0.length ad] 26 ?_; intro ac hg b0 hbox hb; have a2 := AS (hbox); have af := BG HB hg; replace HB := BB HB hb; clear hb hbox hg; obtain ⟨au, av, aw, ax, ay, az⟩ := CZ3 a2) | (go_at_call 16; (with_reducible refine (impl_ValidBasin.calls a8 a9 _ _ a0 false _ ?s1 ?s2 A2.out).mono ?_); (case s1 => exact CS (Kd.C_below a6.out HB.out)); (case s2 => exact ab.out); rintro e b1 ⟨rfl, hb⟩; replace a2 := KB a2 hb; replace HB := BB HB hb; (try clear hb))))); go_ret3; exact ⟨by first | rfl | (simp [errW_none, errW_some] <;> rfl) | (simp [*, errW_none, errW_some] <;> rfl), BW HB⟩
def impl_toldNumber.f (a0 : Nat) : Option (Nat × Bool) := (XL.IsFinite.f a0).bind fun t137 => (if t137 = true then (some (a0, true)) else (some (0, false)))
set_option maxHeartbeats 8000000 in
set_option maxRecDepth 100000 in
theorem impl_toldNumber.calls (a0 : Nat) (r1 : Nat) (r2 : Bool) (w : World) (h : impl_toldNumber.f a0 = some (r1, r2)) :
  Calls Try.prog 36 #[.float .f32 a0] w fun e w' => e = .returned (.tuple #[.float .f32 r1, .bool r2]) ∧ Drawn0 w w' := by
 have H : ((XL.IsFinite.f a0).bind fun a1 => (if a1 = true then (some (a0, true)) else (some (0, false)))) = some (r1, r2) := h; clear h; replace H := OC H; obtain ⟨a1, a2, H⟩ := H; replace H : (if a1 = true then (some (a0, true)) else (some (0, false))) = some (r1, r2) := H; have A2 := Aside0.mk a2; clear a2; by_cases c3 : a1 = true
 ·subst c3
  have H1 : (some (a0, true)) = some (r1, r2) := (by rw [if_pos rfl] at H; exact H); clear H; have H := H1; clear H1; simp only [Option.some.injEq, Prod.mk.injEq] at H; obtain ⟨rfl, rfl⟩ := H; go_enter Try.func36, Try.ntmps36; go_wp2_with (first | ((with_reducible refine gate_callee (f := 50) rfl ?_); refine goesM 5 Try.func50 #[.float .f32 a0] ?_; (with_reducible refine (XL.IsFinite.calls a0 true _ A2.out).mono ?_); rintro e w' ⟨rfl, ⟨nd, rfl⟩⟩; refine ⟨_, rfl, ?_⟩)); go_ret2; exact ⟨by first | rfl | (simp; done) | (simp [*]; done), by repeat (first | exact Drawn0.refl _ | apply Drawn0.step)⟩
 replace c3 := Bool.eq_false_iff.mpr c3
 subst c3; have H1 : (some (0, false)) = some (r1, r2) := (by rw [if_neg (show ¬ (false = true) by decide)] at H; exact H); clear H; have H := H1; clear H1; simp only [Option.some.injEq, Prod.mk.injEq] at H; obtain ⟨rfl, rfl⟩ := H; go_enter Try.func36, Try.ntmps36; go_wp2_with (first | ((with_reducible refine gate_callee (f := 50) rfl ?_); refine goesM 5 Try.func50 #[.float .f32 a0] ?_; (with_reducible refine (XL.IsFinite.calls a0 false _ A2.out).mono ?_); rintro e w' ⟨rfl, ⟨nd, rfl⟩⟩; refine ⟨_, rfl, ?_⟩)); go_ret2; exact ⟨by first | rfl | (simp; done) | (simp [*]; done), by repeat (first | exact Drawn0.refl _ | apply Drawn0.step)⟩
end Go.Proofs.Ytelkklnfbfmecaa.B0
end
section
namespace Go.Proofs.Ytelkklnfbfmecaa.B0
open Go.RowKit YtelkklnfbfmecaaW.PrintWords YtelkklnfbfmecaaW.PrintLast YtelkklnfbfmecaaW.PrintMore
attribute [local go_sem] max2_int min2_int max_two min_two max_three min_three max_four min_four
attribute [local go_sem high] binOp_fge binOp_fle
def impl_dot.l0 : Nat → List Nat → Nat → List Nat → Int → Int → Option (Nat)
  | 0, _, _, _, _, _ => none
  | k + 1, x1, x5, x8, x9, x10 => if x10 < x9 then (if 0 ≤ x10 then (if x10 < (x8.length : Int) then (if x10 < (x1.length : Int) then (if fok .mul .f32 (rdOf (0 : Nat) x8 x10) (rdOf (0 : Nat) x1 x10) = true then (if fok .add .f32 x5 (fop .mul .f32 (rdOf (0 : Nat) x8 x10) (rdOf (0 : Nat) x1 x10)) = true then (impl_dot.l0 k x1 (fop .add .f32 x5 (fop .mul .f32 (rdOf (0 : Nat) x8 x10) (rdOf (0 : Nat) x1 x10))) x8 x9 (wrap64 (x10 + 1))) else (none)) else (none)) else (none)) else (none)) else (none)) else (some x5)
def impl_dot.f (k : Nat) (l0 : List Nat) (l1 : List Nat) : Option (Nat) := impl_dot.l0 k l1 0 l0 (l0.length : Int) 0
set_option maxHeartbeats 8000000 in
set_option maxRecDepth 100000 in
theorem impl_dot.calls (k : Nat) (A0 : Option Addr) (c0 : Nat) (l0 : List Nat) (A1 : Option Addr) (c1 : Nat) (l1 : List Nat) (r : Nat) (w : World) (hr0 : Kd.C (Kd.float .f32) w A0 l0.length l0) (hc0 : l0.length ≤ c0) (hr1 : Kd.C (Kd.float .f32) w A1 l1.length l1) (hc1 : l1.length ≤ c1) (h : impl_dot.f k l0 l1 = some r) :
  Calls Try.prog 45 #[.slice A0 l0.length c0, .slice A1 l1.length c1] w fun e w' => e = .returned (.float .f32 r) ∧ Drawn0 w w' := by
 have a6 := Aside0.mk hr0; have ag := Aside0.mk hc0; clear hr0 hc0; have a7 := Aside0.mk hr1; have ah := Aside0.mk hc1; clear hr1 hc1; have H : (impl_dot.l0 k l1 0 l0 (l0.length : Int) 0) = some r := h; clear h; have H' := Aside0.mk H; clear H; go_enter Try.func45, Try.ntmps45; go_wp2; go_loopg [5, 10] k (fun kq v5 af w' => ∃ (a1 : Nat) (a0 : Int), v5 = .float .f32 a1 ∧ af = .int .i64 a0 ∧ Aside0 (impl_dot.l0 kq l1 a1 l0 (l0.length : Int) a0 = some r) ∧ Aside0 (kq ≤ k) ∧ Drawn0 w w')
 case atStart => exact ⟨(0), (0), (by first | rfl | (simp; done) | (simp [*]; done)), (by first | rfl | (simp; done) | (simp [*]; done)), H', ⟨Nat.le_refl _⟩, by repeat (first | exact Drawn0.refl _ | apply Drawn0.step)⟩
 case round =>
  clear H'; (try clear c1); (try clear p2); obtain ⟨a1, a0, rfl, rfl, HA, a5, ⟨m1, rfl⟩⟩ := hrel; cases gk with
  | zero => exact absurd HA.out (by simp [impl_dot.l0])
  | succ k1 =>
   have H := HA.out; clear HA; simp only [impl_dot.l0] at H; by_cases c3 : a0 < (l0.length : Int)
   ·rw [if_pos c3] at H
    have a4 : decide (a0 < (l0.length : Int)) = true := decide_eq_true c3; clear c3; by_cases c4 : 0 ≤ a0
    ·rw [if_pos c4] at H
     have a8 : decide (0 ≤ a0) = true := decide_eq_true c4; clear c4; by_cases c5 : a0 < (l0.length : Int)
     ·rw [if_pos c5] at H
      have a9 : decide (a0 < (l0.length : Int)) = true := decide_eq_true c5; clear c5; by_cases c6 : a0 < (l1.length : Int)
      ·rw [if_pos c6] at H
       have aa : decide (a0 < (l1.length : Int)) = true := decide_eq_true c6; clear c6; by_cases c7 : fok .mul .f32 (rdOf (0 : Nat) l0 a0) (rdOf (0 : Nat) l1 a0) = true
       ·rw [if_pos c7] at H
        have ab := eq_true c7; have ac : decide (fok .mul .f32 (rdOf (0 : Nat) l0 a0) (rdOf (0 : Nat) l1 a0) = true) = true := decide_eq_true c7; clear c7; by_cases c8 : fok .add .f32 a1 (fop .mul .f32 (rdOf (0 : Nat) l0 a0) (rdOf (0 : Nat) l1 a0)) = true
        ·rw [if_pos c8] at H
         have ad := eq_true c8; have ae : decide (fok .add .f32 a1 (fop .mul .f32 (rdOf (0 : Nat) l0 a0) (rdOf (0 : Nat) l1 a0)) = true) = true := decide_eq_true c8; clear c8; have H' := Aside0.mk H; clear H; have p138 : 0 ≤ (a0 : Int) := of_decide_eq_true (by first | (with_reducible assumption) | assumption); have q138 : a0 < (l0.length : Int) := of_decide_eq_true (by first | (with_reducible assumption) | assumption); obtain ⟨ad138, e138, a2⟩ := Kd.at_float a6.out a0 p138 q138; cases e138; replace p138 := eq_true p138; replace q138 := eq_true q138; have p139 : 0 ≤ (a0 : Int) := of_decide_eq_true (by first | (with_reducible assumption) | assumption); have q139 : a0 < (l1.length : Int) := of_decide_eq_true (by first | (with_reducible assumption) | assumption); obtain ⟨ad139, e139, a3⟩ := Kd.at_float a7.out a0 p139 q139; cases e139; replace p139 := eq_true p139; replace q139 := eq_true q139; go_wp2; go_roundg k1
         case measure => have := a5.out; omega
         case rel => exact ⟨(fop .add .f32 a1 (fop .mul .f32 (rdOf (0 : Nat) l0 a0) (rdOf (0 : Nat) l1 a0))), (wrap64 (a0 + 1)), (by first | rfl | (simp; done) | (simp [*]; done)), (by first | rfl | (simp; done) | (simp [*]; done)), H', ⟨by have := a5.out; omega⟩, by repeat (first | exact Drawn0.refl _ | apply Drawn0.step)⟩
        rw [if_neg c8] at H
        exact absurd H (by simp)
       rw [if_neg c7] at H
       exact absurd H (by simp)
      rw [if_neg c6] at H
      exact absurd H (by simp)
     rw [if_neg c5] at H
     exact absurd H (by simp)
    rw [if_neg c4] at H
    exact absurd H (by simp)
   rw [if_neg c3] at H
   have a4 : decide (a0 < (l0.length : Int)) = false := decide_eq_false c3; clear c3; obtain rfl := Option.some.inj H; go_wp2; go_ret; exact ⟨by first | rfl | (simp; done) | (simp [*]; done), by repeat (first | exact Drawn0.refl _ | apply Drawn0.step)⟩
def impl_SquaresInBasin.f (k : Nat) (a0_0 : Int) (a0_1 : Int) (l0_2 : List Nat) : Option (Nat × Bool) := (impl_ValidBasin.f a0_0 a0_1 l0_2).bind fun t141 => (if t141 = true then ((impl_dot.f k l0_2 l0_2).bind fun t142 => ((impl_toldNumber.f t142).bind fun bt143 => (some (bt143.1, bt143.2)))) else (some (0, false)))
set_option maxHeartbeats 8000000 in
set_option maxRecDepth 100000 in
theorem impl_SquaresInBasin.calls (k : Nat) (a3 : Int) (a4 : Int) (a5 : Option Addr) (a6 : Nat) (a0 : List Nat) (r1 : Nat) (r2 : Bool) (w : World) (hr0_2 : Kd.C (Kd.float .f32) w a5 a0.length a0) (aa : a0.length ≤ a6) (h : impl_SquaresInBasin.f k a3 a4 a0 = some (r1, r2)) :
  Calls Try.prog 19 #[.agg #[.int .i64 a3, .int .i64 a4, .slice a5 a0.length a6]] w fun e w' => e = .returned (.tuple #[.float .f32 r1, .bool r2]) ∧ Below w.heap.size w w' := by
 have hu26 := Try.underlying26; have a8 := Aside0.mk hr0_2; have a7 := Aside0.mk aa; clear hr0_2 aa; have HB := AS (Below.refl w.heap.size w); have H : ((impl_ValidBasin.f a3 a4 a0).bind fun a9 => (if a9 = true then ((impl_dot.f k a0 a0).bind fun a2 => ((impl_toldNumber.f a2).bind fun bt143 => (some (bt143.1, bt143.2)))) else (some (0, false)))) = some (r1, r2) := h; clear h; replace H := OC H; obtain ⟨a9, az, H⟩ := H; replace H : (if a9 = true then ((impl_dot.f k a0 a0).bind fun a2 => ((impl_toldNumber.f a2).bind fun bt143 => (some (bt143.1, bt143.2)))) else (some (0, false))) = some (r1, r2) := H; have A2 := Aside0.mk az; clear az; by_cases c3 : a9 = true
 ·subst c3
  have H1 : ((impl_dot.f k a0 a0).bind fun a2 => ((impl_toldNumber.f a2).bind fun bt143 => (some (bt143.1, bt143.2)))) = some (r1, r2) := (by rw [if_pos rfl] at H; exact H); clear H; have H := H1; clear H1; replace H := OC H; obtain ⟨a2, aA, H⟩ := H; replace H : ((impl_toldNumber.f a2).bind fun bt143 => (some (bt143.1, bt143.2))) = some (r1, r2) := H; have A4 := Aside0.mk aA; clear aA; replace H := OC H; obtain ⟨⟨ad, ae⟩, aB, H⟩ := H; replace H : (some (ad, ae)) = some (r1, r2) := H; have A5 := Aside0.mk aB; clear aB; simp only [Option.some.injEq, Prod.mk.injEq] at H; obtain ⟨rfl, rfl⟩ := H; go_enter Try.func19, Try.ntmps19; go_wp2_with (first | ((with_reducible refine gate_dst (N := 1) rfl ?_); refine boxM 1 #[.int .i64 a3, .int .i64 a4, .slice a5 a0.length a6] 26 ?_; intro ac hg w6 hbox hb; have a1 := AS (hbox); have ab := BG HB hg; replace HB := BB HB hb; clear hb hbox hg; obtain ⟨al, am, an, ar, au, av⟩ := CZ3 a1) | ((with_reducible refine gate_callee (f := 16) rfl ?_); refine goesM 5 Try.func16 #[.agg #[.int .i64 a3, .int .i64 a4, .slice a5 a0.length a6]] ?_; (with_reducible refine (impl_ValidBasin.calls a3 a4 _ _ a0 true _ ?s1 ?s2 A2.out).mono ?_); (case s1 => exact CS (Kd.C_below a8.out HB.out)); (case s2 => exact a7.out); rintro e w8 ⟨rfl, hb⟩; refine ⟨_, rfl, ?_⟩; replace a1 := KB a1 hb; replace HB := BB HB hb; (try clear hb); obtain ⟨ao, ap, aq, aw, ax, ay⟩ := CZ3 a1) | ((with_reducible refine gate_callee (f := 45) rfl ?_); refine goesM 11 Try.func45 #[.slice a5 a0.length a6, .slice a5 a0.length a6] ?_; (with_reducible refine (impl_dot.calls k _ _ a0 _ _ a0 a2 _ ?s1 ?s2 ?s3 ?s4 A4.out).mono ?_); (case s1 => exact CS (Kd.C_below a8.out HB.out)); (case s2 => exact a7.out); (case s3 => exact CS (Kd.C_below a8.out HB.out)); (case s4 => exact a7.out); rintro e w' ⟨rfl, ⟨nd, rfl⟩⟩; refine ⟨_, rfl, ?_⟩) | ((with_reducible refine gate_callee (f := 36) rfl ?_); refine goesM 12 Try.func36 #[.float .f32 a2] ?_; (with_reducible refine (impl_toldNumber.calls a2 ad ae _ A5.out).mono ?_); rintro e w' ⟨rfl, ⟨nd, rfl⟩⟩; refine ⟨_, rfl, ?_⟩)); go_ret2; exact ⟨by first | rfl | (simp [errW_none, errW_some] <;> rfl) | (simp [*, errW_none, errW_some] <;> rfl), BW HB⟩
 replace c3 := Bool.eq_false_iff.mpr c3
 subst c3; have H1 : (some (0, false)) = some (r1, r2) := (by rw [if_neg (show ¬ (false = true) by decide)] at H; exact H); clear H; have H := H1; clear H1; simp only [Option.some.injEq, Prod.mk.injEq] at H; obtain ⟨rfl, rfl⟩ := H; go_enter Try.func19, Try.ntmps19; go_wp2_with (first | ((with_reducible refine gate_dst (N := 1) rfl ?_); refine boxM 1 #[.int .i64 a3, .int .i64 a4, .slice a5 a0.length a6] 26 ?_; intro ac hg aC hbox hb; have a1 := AS (hbox); have ab := BG HB hg; replace HB := BB HB hb; clear hb hbox hg; obtain ⟨af, ag, ah, ai, aj, ak⟩ := CZ3 a1) | ((with_reducible refine gate_callee (f := 16) rfl ?_); refine goesM 5 Try.func16 #[.agg #[.int .i64 a3, .int .i64 a4, .slice a5 a0.length a6]] ?_; (with_reducible refine (impl_ValidBasin.calls a3 a4 _ _ a0 false _ ?s1 ?s2 A2.out).mono ?_); (case s1 => exact CS (Kd.C_below a8.out HB.out)); (case s2 => exact a7.out); rintro e aD ⟨rfl, hb⟩; refine ⟨_, rfl, ?_⟩; replace a1 := KB a1 hb; replace HB := BB HB hb; (try clear hb))); go_ret2; exact ⟨by first | rfl | (simp [errW_none, errW_some] <;> rfl) | (simp [*, errW_none, errW_some] <;> rfl), BW HB⟩
def impl_sum.l0 : Nat → Nat → List Nat → Int → Int → Option (Nat)
  | 0, _, _, _, _ => none
  | k + 1, x3, x6, x7, x8 => if x8 < x7 then (if 0 ≤ x8 then (if x8 < (x6.length : Int) then (if fok .add .f32 x3 (rdOf (0 : Nat) x6 x8) = true then (impl_sum.l0 k (fop .add .f32 x3 (rdOf (0 : Nat) x6 x8)) x6 x7 (wrap64 (x8 + 1))) else (none)) else (none)) else (none)) else (some x3)
def impl_sum.f (k : Nat) (l0 : List Nat) : Option (Nat) := impl_sum.l0 k 0 l0 (l0.length : Int) 0
theorem impl_sum.mono_l : ∀ k, (∀ y0 y1 y2 y3, LeO (impl_sum.l0 k y0 y1 y2 y3) (impl_sum.l0 (k + 1) y0 y1 y2 y3))
  | 0 => fun _ _ _ _ r h => by simp [impl_sum.l0] at h
  | k + 1 => by
    have ih0 := impl_sum.mono_l k
    · intro y0 y1 y2 y3
      unfold impl_sum.l0; repeat' first
      | (with_reducible exact ih0 _ _ _ _)
      | (with_reducible exact LeO.refl _)
      | (with_reducible exact LeO.none _)
      | (with_reducible refine LeO.ite ?_ ?_)
      | (with_reducible refine LeO.bind ?_ (fun _ => ?_))
      | exact ih0 _ _ _ _
      | exact LeO.none _
      | refine LeO.ite ?_ ?_
      | refine LeO.bind ?_ (fun _ => ?_)
theorem impl_sum.mono : ∀ a0 k, LeO (impl_sum.f k a0) (impl_sum.f (k + 1) a0) := by
  intro a0 k; have ih0 := impl_sum.mono_l k; unfold impl_sum.f
  repeat' first
      | (with_reducible exact ih0 _ _ _ _)
      | (with_reducible exact LeO.refl _)
      | (with_reducible exact LeO.none _)
      | (with_reducible refine LeO.ite ?_ ?_)
      | (with_reducible refine LeO.bind ?_ (fun _ => ?_))
      | exact ih0 _ _ _ _
      | exact LeO.none _
      | refine LeO.ite ?_ ?_
      | refine LeO.bind ?_ (fun _ => ?_)
set_option maxHeartbeats 8000000 in
set_option maxRecDepth 100000 in
theorem impl_sum.calls (k : Nat) (A0 : Option Addr) (c0 : Nat) (l0 : List Nat) (r : Nat) (w : World) (hr0 : Kd.C (Kd.float .f32) w A0 l0.length l0) (hc0 : l0.length ≤ c0) (h : impl_sum.f k l0 = some r) :
  Calls Try.prog 37 #[.slice A0 l0.length c0] w fun e w' => e = .returned (.float .f32 r) ∧ Drawn0 w w' := by
 have a5 := Aside0.mk hr0; have aa := Aside0.mk hc0; clear hr0 hc0; have H : (impl_sum.l0 k 0 l0 (l0.length : Int) 0) = some r := h; clear h; have H' := Aside0.mk H; clear H; go_enter Try.func37, Try.ntmps37; go_wp2; go_loopg [3, 8] k (fun kq v3 v8 w' => ∃ (a1 : Nat) (a0 : Int), v3 = .float .f32 a1 ∧ v8 = .int .i64 a0 ∧ Aside0 (impl_sum.l0 kq a1 l0 (l0.length : Int) a0 = some r) ∧ Aside0 (kq ≤ k) ∧ Drawn0 w w')
 case atStart => exact ⟨(0), (0), (by first | rfl | (simp; done) | (simp [*]; done)), (by first | rfl | (simp; done) | (simp [*]; done)), H', ⟨Nat.le_refl _⟩, by repeat (first | exact Drawn0.refl _ | apply Drawn0.step)⟩
 case round =>
  clear H'; obtain ⟨a1, a0, rfl, rfl, HA, a4, ⟨m1, rfl⟩⟩ := hrel; cases gk with
  | zero => exact absurd HA.out (by simp [impl_sum.l0])
  | succ k1 =>
   have H := HA.out; clear HA; simp only [impl_sum.l0] at H; by_cases c2 : a0 < (l0.length : Int)
   ·rw [if_pos c2] at H
    have a3 : decide (a0 < (l0.length : Int)) = true := decide_eq_true c2; clear c2; by_cases c3 : 0 ≤ a0
    ·rw [if_pos c3] at H
     have a6 : decide (0 ≤ a0) = true := decide_eq_true c3; clear c3; by_cases c4 : a0 < (l0.length : Int)
     ·rw [if_pos c4] at H
      have a7 : decide (a0 < (l0.length : Int)) = true := decide_eq_true c4; clear c4; by_cases c5 : fok .add .f32 a1 (rdOf (0 : Nat) l0 a0) = true
      ·rw [if_pos c5] at H
       have a8 := eq_true c5; have a9 : decide (fok .add .f32 a1 (rdOf (0 : Nat) l0 a0) = true) = true := decide_eq_true c5; clear c5; have H' := Aside0.mk H; clear H; have p145 : 0 ≤ (a0 : Int) := of_decide_eq_true (by first | (with_reducible assumption) | assumption); have q145 : a0 < (l0.length : Int) := of_decide_eq_true (by first | (with_reducible assumption) | assumption); obtain ⟨ad145, e145, a2⟩ := Kd.at_float a5.out a0 p145 q145; cases e145; replace p145 := eq_true p145; replace q145 := eq_true q145; go_wp2; go_roundg k1
       case measure => have := a4.out; omega
       case rel => exact ⟨(fop .add .f32 a1 (rdOf (0 : Nat) l0 a0)), (wrap64 (a0 + 1)), (by first | rfl | (simp; done) | (simp [*]; done)), (by first | rfl | (simp; done) | (simp [*]; done)), H', ⟨by have := a4.out; omega⟩, by repeat (first | exact Drawn0.refl _ | apply Drawn0.step)⟩
      rw [if_neg c5] at H
      exact absurd H (by simp)
     rw [if_neg c4] at H
     exact absurd H (by simp)
    rw [if_neg c3] at H
    exact absurd H (by simp)
   rw [if_neg c2] at H
   have a3 : decide (a0 < (l0.length : Int)) = false := decide_eq_false c2; clear c2; obtain rfl := Option.some.inj H; go_wp2; go_ret; exact ⟨by first | rfl | (simp; done) | (simp [*]; done), by repeat (first | exact Drawn0.refl _ | apply Drawn0.step)⟩
def impl_TotalInBasin.f (k : Nat) (a0_0 : Int) (a0_1 : Int) (l0_2 : List Nat) : Option (Nat × Bool) := (impl_ValidBasin.f a0_0 a0_1 l0_2).bind fun t147 => (if t147 = true then ((impl_sum.f k l0_2).bind fun t148 => ((impl_toldNumber.f t148).bind fun bt149 => (some (bt149.1, bt149.2)))) else (some (0, false)))
set_option maxHeartbeats 8000000 in
set_option maxRecDepth 100000 in
theorem impl_TotalInBasin.calls (k : Nat) (a3 : Int) (a4 : Int) (a5 : Option Addr) (a6 : Nat) (a0 : List Nat) (r1 : Nat) (r2 : Bool) (w : World) (hr0_2 : Kd.C (Kd.float .f32) w a5 a0.length a0) (aa : a0.length ≤ a6) (h : impl_TotalInBasin.f k a3 a4 a0 = some (r1, r2)) :
  Calls Try.prog 10 #[.agg #[.int .i64 a3, .int .i64 a4, .slice a5 a0.length a6]] w fun e w' => e = .returned (.tuple #[.float .f32 r1, .bool r2]) ∧ Below w.heap.size w w' := by
 have hu26 := Try.underlying26; have a8 := Aside0.mk hr0_2; have a7 := Aside0.mk aa; clear hr0_2 aa; have HB := AS (Below.refl w.heap.size w); have H : ((impl_ValidBasin.f a3 a4 a0).bind fun a9 => (if a9 = true then ((impl_sum.f k a0).bind fun a2 => ((impl_toldNumber.f a2).bind fun bt149 => (some (bt149.1, bt149.2)))) else (some (0, false)))) = some (r1, r2) := h; clear h; replace H := OC H; obtain ⟨a9, az, H⟩ := H; replace H : (if a9 = true then ((impl_sum.f k a0).bind fun a2 => ((impl_toldNumber.f a2).bind fun bt149 => (some (bt149.1, bt149.2)))) else (some (0, false))) = some (r1, r2) := H; have A2 := Aside0.mk az; clear az; by_cases c3 : a9 = true
 ·subst c3
  have H1 : ((impl_sum.f k a0).bind fun a2 => ((impl_toldNumber.f a2).bind fun bt149 => (some (bt149.1, bt149.2)))) = some (r1, r2) := (by rw [if_pos rfl] at H; exact H); clear H; have H := H1; clear H1; replace H := OC H; obtain ⟨a2, aA, H⟩ := H; replace H : ((impl_toldNumber.f a2).bind fun bt149 => (some (bt149.1, bt149.2))) = some (r1, r2) := H; have A4 := Aside0.mk aA; clear aA; replace H := OC H; obtain ⟨⟨ad, ae⟩, aB, H⟩ := H; replace H : (some (ad, ae)) = some (r1, r2) := H; have A5 := Aside0.mk aB; clear aB; simp only [Option.some.injEq, Prod.mk.injEq] at H; obtain ⟨rfl, rfl⟩ := H; go_enter Try.func10, Try.ntmps10; go_wp2_with (first | ((with_reducible refine gate_dst (N := 1) rfl ?_); refine boxM 1 #[.int .i64 a3, .int .i64 a4, .slice a5 a0.length a6] 26 ?_; intro ac hg w6 hbox hb; have a1 := AS (hbox); have ab := BG HB hg; replace HB := BB HB hb; clear hb hbox hg; obtain ⟨al, am, an, ar, au, av⟩ := CZ3 a1) | ((with_reducible refine gate_callee (f := 16) rfl ?_); refine goesM 5 Try.func16 #[.agg #[.int .i64 a3, .int .i64 a4, .slice a5 a0.length a6]] ?_; (with_reducible refine (impl_ValidBasin.calls a3 a4 _ _ a0 true _ ?s1 ?s2 A2.out).mono ?_); (case s1 => exact CS (Kd.C_below a8.out HB.out)); (case s2 => exact a7.out); rintro e w8 ⟨rfl, hb⟩; refine ⟨_, rfl, ?_⟩; replace a1 := KB a1 hb; replace HB := BB HB hb; (try clear hb); obtain ⟨ao, ap, aq, aw, ax, ay⟩ := CZ3 a1) | ((with_reducible refine gate_callee (f := 37) rfl ?_); refine goesM 9 Try.func37 #[.slice a5 a0.length a6] ?_; (with_reducible refine (impl_sum.calls k _ _ a0 a2 _ ?s1 ?s2 A4.out).mono ?_); (case s1 => exact CS (Kd.C_below a8.out HB.out)); (case s2 => exact a7.out); rintro e w' ⟨rfl, ⟨nd, rfl⟩⟩; refine ⟨_, rfl, ?_⟩) | ((with_reducible refine gate_callee (f := 36) rfl ?_); refine goesM 10 Try.func36 #[.float .f32 a2] ?_; (with_reducible refine (impl_toldNumber.calls a2 ad ae _ A5.out).mono ?_); rintro e w' ⟨rfl, ⟨nd, rfl⟩⟩; refine ⟨_, rfl, ?_⟩)); go_ret2; exact ⟨by first | rfl | (simp [errW_none, errW_some] <;> rfl) | (simp [*, errW_none, errW_some] <;> rfl), BW HB⟩
 replace c3 := Bool.eq_false_iff.mpr c3
 subst c3; have H1 : (some (0, false)) = some (r1, r2) := (by rw [if_neg (show ¬ (false = true) by decide)] at H; exact H); clear H; have H := H1; clear H1; simp only [Option.some.injEq, Prod.mk.injEq] at H; obtain ⟨rfl, rfl⟩ := H; go_enter Try.func10, Try.ntmps10; go_wp2_with (first | ((with_reducible refine gate_dst (N := 1) rfl ?_); refine boxM 1 #[.int .i64 a3, .int .i64 a4, .slice a5 a0.length a6] 26 ?_; intro ac hg aC hbox hb; have a1 := AS (hbox); have ab := BG HB hg; replace HB := BB HB hb; clear hb hbox hg; obtain ⟨af, ag, ah, ai, aj, ak⟩ := CZ3 a1) | ((with_reducible refine gate_callee (f := 16) rfl ?_); refine goesM 5 Try.func16 #[.agg #[.int .i64 a3, .int .i64 a4, .slice a5 a0.length a6]] ?_; (with_reducible refine (impl_ValidBasin.calls a3 a4 _ _ a0 false _ ?s1 ?s2 A2.out).mono ?_); (case s1 => exact CS (Kd.C_below a8.out HB.out)); (case s2 => exact a7.out); rintro e aD ⟨rfl, hb⟩; refine ⟨_, rfl, ?_⟩; replace a1 := KB a1 hb; replace HB := BB HB hb; (try clear hb))); go_ret2; exact ⟨by first | rfl | (simp [errW_none, errW_some] <;> rfl) | (simp [*, errW_none, errW_some] <;> rfl), BW HB⟩
def slices_EqualFunc_float32_float32_float32_float32.l0 : Nat → List Nat → List Nat → Int → Int → Option (Bool)
  | 0, _, _, _, _ => none
  | k + 1, x1, x15, x16, x17 => if x17 < x16 then (if 0 ≤ x17 then (if x17 < (x15.length : Int) then (if x17 < (x1.length : Int) then ((XM.SameNumber.f (rdOf (0 : Nat) x15 x17) (rdOf (0 : Nat) x1 x17)).bind fun t153 => (if t153 = true then (slices_EqualFunc_float32_float32_float32_float32.l0 k x1 x15 x16 (wrap64 (x17 + 1))) else (some false))) else (none)) else (none)) else (none)) else (some true)
def slices_EqualFunc_float32_float32_float32_float32.f (k : Nat) (l0 : List Nat) (l1 : List Nat)  : Option (Bool) := if (l0.length : Int) = (l1.length : Int) then (slices_EqualFunc_float32_float32_float32_float32.l0 k l1 l0 (l0.length : Int) 0) else (some false)
set_option maxHeartbeats 8000000 in
set_option maxRecDepth 100000 in
theorem slices_EqualFunc_float32_float32_float32_float32.calls (k : Nat) (A0 : Option Addr) (c0 : Nat) (l0 : List Nat) (A1 : Option Addr) (c1 : Nat) (l1 : List Nat)  (r : Bool) (w : World) (hr0 : Kd.C (Kd.float .f32) w A0 l0.length l0) (hc0 : l0.length ≤ c0) (hr1 : Kd.C (Kd.float .f32) w A1 l1.length l1) (hc1 : l1.length ≤ c1) (h : slices_EqualFunc_float32_float32_float32_float32.f k l0 l1 = some r) :
  Calls Try.prog 64 #[.slice A0 l0.length c0, .slice A1 l1.length c1, .func (.func 65) #[] #[]] w fun e w' => e = .returned (.bool r) ∧ Below w.heap.size w w' := by
 have ab := Aside0.mk hr0; have ah := Aside0.mk hc0; clear hr0 hc0; have ac := Aside0.mk hr1; have ai := Aside0.mk hc1; clear hr1 hc1; have HB := AS (Below.refl w.heap.size w); have H : (if (l0.length : Int) = (l1.length : Int) then (slices_EqualFunc_float32_float32_float32_float32.l0 k l1 l0 (l0.length : Int) 0) else (some false)) = some r := h; clear h; by_cases c4 : (l0.length : Int) = (l1.length : Int)
 ·rw [if_pos c4] at H
  have a3 : ((l0.length : Int) == (l1.length : Int)) = true := beq_iff_eq.mpr c4; have a4 : ((l0.length : Int) != (l1.length : Int)) = false := bne_eq_false_iff_eq.mpr c4; have a5 : (l0.length == l1.length) = true := (by first | simpa using c4 | (simp at c4 ⊢; omega)); clear c4; have H' := Aside0.mk H; clear H; go_enter Try.func64, Try.ntmps64; go_wp2; go_loopg [17] k (fun kq ag w' => ∃ (a0 : Int), ag = .int .i64 a0 ∧ Aside0 (slices_EqualFunc_float32_float32_float32_float32.l0 kq l1 l0 (l0.length : Int) a0 = some r) ∧ Aside0 (kq ≤ k) ∧ Aside0 (Below w.heap.size w w'))
  case atStart => exact ⟨(0), (by first | rfl | (simp; done) | (simp [*]; done)), H', ⟨Nat.le_refl _⟩, ⟨BW HB⟩⟩
  case round =>
   clear H'; (try clear c1); (try clear p2); (try clear c4); (try clear a3); (try clear a4); (try clear a5); obtain ⟨a0, rfl, HA, aa, HB⟩ := hrel; cases gk with
   | zero => exact absurd HA.out (by simp [slices_EqualFunc_float32_float32_float32_float32.l0])
   | succ k1 =>
    have H := HA.out; clear HA; simp only [slices_EqualFunc_float32_float32_float32_float32.l0] at H; by_cases c5 : a0 < (l0.length : Int)
    ·rw [if_pos c5] at H
     have a8 : decide (a0 < (l0.length : Int)) = true := decide_eq_true c5; clear c5; by_cases c6 : 0 ≤ a0
     ·rw [if_pos c6] at H
      have ad : decide (0 ≤ a0) = true := decide_eq_true c6; clear c6; by_cases c7 : a0 < (l0.length : Int)
      ·rw [if_pos c7] at H
       have ae : decide (a0 < (l0.length : Int)) = true := decide_eq_true c7; clear c7; by_cases c8 : a0 < (l1.length : Int)
       ·rw [if_pos c8] at H
        have af : decide (a0 < (l1.length : Int)) = true := decide_eq_true c8; clear c8; replace H := OC H; obtain ⟨a6, a9, H⟩ := H; replace H : (if a6 = true then (slices_EqualFunc_float32_float32_float32_float32.l0 k1 l1 l0 (l0.length : Int) (wrap64 (a0 + 1))) else (some false)) = some r := H; have A9 := Aside0.mk a9; clear a9; by_cases a7 : a6 = true
        ·subst a7
         have H1 : (slices_EqualFunc_float32_float32_float32_float32.l0 k1 l1 l0 (l0.length : Int) (wrap64 (a0 + 1))) = some r := (by rw [if_pos rfl] at H; exact H); clear H; have H := H1; clear H1; have H' := Aside0.mk H; clear H; have p151 : 0 ≤ (a0 : Int) := of_decide_eq_true (by first | (with_reducible assumption) | assumption); have q151 : a0 < (l0.length : Int) := of_decide_eq_true (by first | (with_reducible assumption) | assumption); obtain ⟨ad151, e151, a1⟩ := Kd.at_float ab.out a0 p151 q151; cases e151; replace a1 := (HB.out.cell (World.block_lt_of_cell? w _ a1)).trans a1; replace p151 := eq_true p151; replace q151 := eq_true q151; have p152 : 0 ≤ (a0 : Int) := of_decide_eq_true (by first | (with_reducible assumption) | assumption); have q152 : a0 < (l1.length : Int) := of_decide_eq_true (by first | (with_reducible assumption) | assumption); obtain ⟨ad152, e152, a2⟩ := Kd.at_float ac.out a0 p152 q152; cases e152; replace a2 := (HB.out.cell (World.block_lt_of_cell? w _ a2)).trans a2; replace p152 := eq_true p152; replace q152 := eq_true q152; go_wp2_with (first | (go_at_call 65; (with_reducible refine (XM.SameNumber.calls (rdOf (0 : Nat) l0 a0) (rdOf (0 : Nat) l1 a0) true _ A9.out).mono ?_); rintro e w' ⟨rfl, ⟨nd, rfl⟩⟩)); go_roundg k1
         case measure => have := aa.out; omega
         case rel => exact ⟨(wrap64 (a0 + 1)), (by first | rfl | (simp; done) | (simp [*]; done)), H', ⟨by have := aa.out; omega⟩, ⟨BW HB⟩⟩
        replace a7 := Bool.eq_false_iff.mpr a7
        subst a7; have H1 : (some false) = some r := (by rw [if_neg (show ¬ (false = true) by decide)] at H; exact H); clear H; have H := H1; clear H1; obtain rfl := Option.some.inj H; have p151 : 0 ≤ (a0 : Int) := of_decide_eq_true (by first | (with_reducible assumption) | assumption); have q151 : a0 < (l0.length : Int) := of_decide_eq_true (by first | (with_reducible assumption) | assumption); obtain ⟨ad151, e151, a1⟩ := Kd.at_float ab.out a0 p151 q151; cases e151; replace a1 := (HB.out.cell (World.block_lt_of_cell? w _ a1)).trans a1; replace p151 := eq_true p151; replace q151 := eq_true q151; have p152 : 0 ≤ (a0 : Int) := of_decide_eq_true (by first | (with_reducible assumption) | assumption); have q152 : a0 < (l1.length : Int) := of_decide_eq_true (by first | (with_reducible assumption) | assumption); obtain ⟨ad152, e152, a2⟩ := Kd.at_float ac.out a0 p152 q152; cases e152; replace a2 := (HB.out.cell (World.block_lt_of_cell? w _ a2)).trans a2; replace p152 := eq_true p152; replace q152 := eq_true q152; go_wp2_with (first | (go_at_call 65; (with_reducible refine (XM.SameNumber.calls (rdOf (0 : Nat) l0 a0) (rdOf (0 : Nat) l1 a0) false _ A9.out).mono ?_); rintro e w' ⟨rfl, ⟨nd, rfl⟩⟩)); go_ret; exact ⟨by first | rfl | (simp [errW_none, errW_some] <;> rfl) | (simp [*, errW_none, errW_some] <;> rfl), BW HB⟩
       rw [if_neg c8] at H
       exact absurd H (by simp)
      rw [if_neg c7] at H
      exact absurd H (by simp)
     rw [if_neg c6] at H
     exact absurd H (by simp)
    rw [if_neg c5] at H
    have a8 : decide (a0 < (l0.length : Int)) = false := decide_eq_false c5; clear c5; obtain rfl := Option.some.inj H; go_wp2; go_ret; exact ⟨by first | rfl | (simp [errW_none, errW_some] <;> rfl) | (simp [*, errW_none, errW_some] <;> rfl), BW HB⟩
 rw [if_neg c4] at H
 have a3 : ((l0.length : Int) == (l1.length : Int)) = false := beq_eq_false_iff_ne.mpr c4; have a4 : ((l0.length : Int) != (l1.length : Int)) = true := bne_iff_ne.mpr c4; have a5 : (l0.length == l1.length) = false := (by first | simpa using c4 | (simp at c4 ⊢; omega)); obtain rfl := Option.some.inj H; go_enter Try.func64, Try.ntmps64; go_wp2; go_ret; exact ⟨by first | rfl | (simp [errW_none, errW_some] <;> rfl) | (simp [*, errW_none, errW_some] <;> rfl), BW HB⟩
def impl_sameList.f (k : Nat) (l0 : List Nat) (l1 : List Nat) : Option (Bool) := (slices_EqualFunc_float32_float32_float32_float32.f k l0 l1).bind fun t154 => (some t154)
set_option maxHeartbeats 8000000 in
set_option maxRecDepth 100000 in
theorem impl_sameList.calls (k : Nat) (A0 : Option Addr) (c0 : Nat) (l0 : List Nat) (A1 : Option Addr) (c1 : Nat) (l1 : List Nat) (r : Bool) (w : World) (hr0 : Kd.C (Kd.float .f32) w A0 l0.length l0) (hc0 : l0.length ≤ c0) (hr1 : Kd.C (Kd.float .f32) w A1 l1.length l1) (hc1 : l1.length ≤ c1) (h : impl_sameList.f k l0 l1 = some r) :
  Calls Try.prog 41 #[.slice A0 l0.length c0, .slice A1 l1.length c1] w fun e w' => e = .returned (.bool r) ∧ Below w.heap.size w w' := by
 have a4 := Aside0.mk hr0; have a2 := Aside0.mk hc0; clear hr0 hc0; have a5 := Aside0.mk hr1; have a3 := Aside0.mk hc1; clear hr1 hc1; have HB := AS (Below.refl w.heap.size w); have H : ((slices_EqualFunc_float32_float32_float32_float32.f k l0 l1).bind fun a0 => (some a0)) = some r := h; clear h; replace H := OC H; obtain ⟨a0, a1, H⟩ := H; replace H : (some a0) = some r := H; have A3 := Aside0.mk a1; clear a1; obtain rfl := Option.some.inj H; go_enter Try.func41, Try.ntmps41; go_wp2_with (first | ((with_reducible refine gate_callee (f := 64) rfl ?_); refine goesM 7 Try.func64 #[.slice A0 l0.length c0, .slice A1 l1.length c1, .func (.func 65) #[] #[]] ?_; (with_reducible refine (slices_EqualFunc_float32_float32_float32_float32.calls k _ _ l0 _ _ l1  a0 _ ?s1 ?s2 ?s3 ?s4 A3.out).mono ?_); (case s1 => exact CS a4.out); (case s2 => exact a2.out); (case s3 => exact CS a5.out); (case s4 => exact a3.out); rintro e w4 ⟨rfl, hb⟩; refine ⟨_, rfl, ?_⟩; replace HB := BB HB hb; (try clear hb))); go_ret; exact ⟨by first | rfl | (simp [errW_none, errW_some] <;> rfl) | (simp [*, errW_none, errW_some] <;> rfl), BW HB⟩
def impl_SameBasin.f (k : Nat) (a0_0 : Int) (a0_1 : Int) (l0_2 : List Nat) (a1_0 : Int) (a1_1 : Int) (l1_2 : List Nat) : Option (Bool) := if a0_0 = a1_0 then (if a0_1 = a1_1 then ((impl_sameList.f k l0_2 l1_2).bind fun t157 => (some t157)) else (some false)) else (some false)
set_option maxHeartbeats 8000000 in
set_option maxRecDepth 100000 in
theorem impl_SameBasin.calls (k : Nat) (a4 : Int) (a5 : Int) (aa : Option Addr) (ac : Nat) (a8 : List Nat) (a6 : Int) (a7 : Int) (ab : Option Addr) (ad : Nat) (a9 : List Nat) (r : Bool) (w : World) (hr0_2 : Kd.C (Kd.float .f32) w aa a8.length a8) (aj : a8.length ≤ ac) (hr1_2 : Kd.C (Kd.float .f32) w ab a9.length a9) (ak : a9.length ≤ ad) (h : impl_SameBasin.f k a4 a5 a8 a6 a7 a9 = some r) :
  Calls Try.prog 15 #[.agg #[.int .i64 a4, .int .i64 a5, .slice aa a8.length ac], .agg #[.int .i64 a6, .int .i64 a7, .slice ab a9.length ad]] w fun e w' => e = .returned (.bool r) ∧ Below w.heap.size w w' := by
 have hu26 := Try.underlying26; have an := Aside0.mk hr0_2; have al := Aside0.mk aj; clear hr0_2 aj; have ao := Aside0.mk hr1_2; have am := Aside0.mk ak; clear hr1_2 ak; have HB := AS (Below.refl w.heap.size w); have H : (if a4 = a6 then (if a5 = a7 then ((impl_sameList.f k a8 a9).bind fun ae => (some ae)) else (some false)) else (some false)) = some r := h; clear h; by_cases c3 : a4 = a6
 ·rw [if_pos c3] at H
  have aV : (a4 == a6) = true := beq_iff_eq.mpr c3; have aW : (a4 != a6) = false := bne_eq_false_iff_eq.mpr c3; clear c3; by_cases c4 : a5 = a7
  ·rw [if_pos c4] at H
   have aX : (a5 == a7) = true := beq_iff_eq.mpr c4; have aY : (a5 != a7) = false := bne_eq_false_iff_eq.mpr c4; clear c4; replace H := OC H; obtain ⟨ae, b5, H⟩ := H; replace H : (some ae) = some r := H; have A5 := Aside0.mk b5; clear b5; obtain rfl := Option.some.inj H; go_enter Try.func15, Try.ntmps15; go_wp2_with (first | ((with_reducible refine gate_dst (N := 2) rfl ?_); refine boxM 2 #[.int .i64 a4, .int .i64 a5, .slice aa a8.length ac] 26 ?_; intro ah hg w6 hbox hb; have a0 := AS (hbox); have af := BG HB hg; replace HB := BB HB hb; clear hb hbox hg) | ((with_reducible refine gate_dst (N := 3) rfl ?_); refine boxM 3 #[.int .i64 a6, .int .i64 a7, .slice ab a9.length ad] 26 ?_; intro ai hg w7 hbox hb; have a3 := AS (hbox); have ag := BG HB hg; have a1 := KN a0 hg; have a2 := KM a0 hg; replace a0 := KB a0 hb; replace HB := BB HB hb; clear hb hbox hg; have ba := a1.out; have bb := a2.out; obtain ⟨aZ, b0, b1, b2, b3, b4⟩ := CZ3 a0; obtain ⟨ap, aq, ar, aG, aH, aI⟩ := CZ3 a3) | (go_at_call 41; (with_reducible refine (impl_sameList.calls k _ _ a8 _ _ a9 ae _ ?s1 ?s2 ?s3 ?s4 A5.out).mono ?_); (case s1 => exact CS (Kd.C_below an.out HB.out)); (case s2 => exact al.out); (case s3 => exact CS (Kd.C_below ao.out HB.out)); (case s4 => exact am.out); rintro e bc ⟨rfl, hb⟩; replace a0 := KB a0 hb; replace a3 := KB a3 hb; replace HB := BB HB hb; (try clear hb))); go_ret; exact ⟨by first | rfl | (simp [errW_none, errW_some] <;> rfl) | (simp [*, errW_none, errW_some] <;> rfl), BW HB⟩
  rw [if_neg c4] at H
  have aX : (a5 == a7) = false := beq_eq_false_iff_ne.mpr c4; have aY : (a5 != a7) = true := bne_iff_ne.mpr c4; obtain rfl := Option.some.inj H; go_enter Try.func15, Try.ntmps15; go_wp2_with (first | ((with_reducible refine gate_dst (N := 2) rfl ?_); refine boxM 2 #[.int .i64 a4, .int .i64 a5, .slice aa a8.length ac] 26 ?_; intro ah hg bd hbox hb; have a0 := AS (hbox); have af := BG HB hg; replace HB := BB HB hb; clear hb hbox hg) | ((with_reducible refine gate_dst (N := 3) rfl ?_); refine boxM 3 #[.int .i64 a6, .int .i64 a7, .slice ab a9.length ad] 26 ?_; intro ai hg be hbox hb; have a3 := AS (hbox); have ag := BG HB hg; have a1 := KN a0 hg; have a2 := KM a0 hg; replace a0 := KB a0 hb; replace HB := BB HB hb; clear hb hbox hg; have b6 := a1.out; have b8 := a2.out; obtain ⟨au, av, aw, aJ, aK, aL⟩ := CZ3 a0; obtain ⟨ax, ay, az, aM, aN, aO⟩ := CZ3 a3)); go_ret; exact ⟨by first | rfl | (simp [errW_none, errW_some] <;> rfl) | (simp [*, errW_none, errW_some] <;> rfl), BW HB⟩
 rw [if_neg c3] at H
 have aV : (a4 == a6) = false := beq_eq_false_iff_ne.mpr c3; have aW : (a4 != a6) = true := bne_iff_ne.mpr c3; obtain rfl := Option.some.inj H; go_enter Try.func15, Try.ntmps15; go_wp2_with (first | ((with_reducible refine gate_dst (N := 2) rfl ?_); refine boxM 2 #[.int .i64 a4, .int .i64 a5, .slice aa a8.length ac] 26 ?_; intro ah hg bf hbox hb; have a0 := AS (hbox); have af := BG HB hg; replace HB := BB HB hb; clear hb hbox hg) | ((with_reducible refine gate_dst (N := 3) rfl ?_); refine boxM 3 #[.int .i64 a6, .int .i64 a7, .slice ab a9.length ad] 26 ?_; intro ai hg bg hbox hb; have a3 := AS (hbox); have ag := BG HB hg; have a1 := KN a0 hg; have a2 := KM a0 hg; replace a0 := KB a0 hb; replace HB := BB HB hb; clear hb hbox hg; have b7 := a1.out; have b9 := a2.out; obtain ⟨aA, aB, aC, aP, aQ, aR⟩ := CZ3 a0; obtain ⟨aD, aE, aF, aS, aT, aU⟩ := CZ3 a3)); go_ret; exact ⟨by first | rfl | (simp [errW_none, errW_some] <;> rfl) | (simp [*, errW_none, errW_some] <;> rfl), BW HB⟩
end Go.Proofs.Ytelkklnfbfmecaa.B0
end
section
namespace Go.Proofs.Ytelkklnfbfmecaa.B0
open Go.RowKit YtelkklnfbfmecaaW.PrintWords YtelkklnfbfmecaaW.PrintLast YtelkklnfbfmecaaW.PrintMore
attribute [local go_sem] max2_int min2_int max_two min_two max_three min_three max_four min_four
attribute [local go_sem high] binOp_fge binOp_fle
def impl_alike_1.f (a0_0 : Int) (a0_1 : Int) (l0_2 : List Nat) (l1 : List (S26)) : Option (Bool) := (impl_ValidBasin.f a0_0 a0_1 l0_2).bind fun t159 => (if t159 = true then (if 0 < (l1.length : Int) then (if a0_0 = ((rd_T26 l1 0).f0) then (some (a0_1 != ((rd_T26 l1 0).f1))) else (some true)) else (none)) else (some true))
def impl_alike_1.T1 : Bool × List (List Nat × List Nat) := (true, [([], []), ([0], [0]), ([1], [1]), ([2, 1], [2]), ([3], [3]), ([4, 3], [3, 4]), ([3], [3]), ([6, 3], [3, 6]), ([7, 3], [3, 7]), ([8, 3], [3, 8]), ([5, 9, 3], [3, 5, 9]), ([3, 10], [3, 10]), ([11, 3], [11]), ([12], [12]), ([13, 12], [12, 13]), ([12], [12]), ([15, 12], [12, 15]), ([16, 12], [12, 16]), ([17, 12], [12, 17]), ([14, 18, 12], [12, 14, 18]), ([12, 19], [12, 19]), ([20, 12, 0, 1, 2, 3, 4, 5, 6, 7, 8, 9, 10, 11, 12, 13, 14, 15, 16, 17, 18, 19, 20], [20])])
def impl_alike_1.B1 : List Nat := [0, 1, 3, 7, 15, 31, 15, 79, 207, 463, 1023, 2047, 4095, 8191, 16383, 8191, 40959, 106495, 237567, 524287, 1048575, 2097151]
theorem impl_alike_1.tab1 : rtab .any (opsOf Try.f62 1) = impl_alike_1.T1 := by kernel_rfl
theorem impl_alike_1.bits1 : waitsOk impl_alike_1.T1.2 impl_alike_1.B1 = true := by kernel_rfl
set_option maxHeartbeats 8000000 in
set_option maxRecDepth 100000 in
theorem impl_alike_1.calls (a7 : Int) (aa : Int) (ae : Option Addr) (af : Nat) (ab : List Nat) (g1 : Nat) (A1 : Option Addr) (c1 : Nat) (l1 : List (S26)) (r : Bool) (w : World) (hr0_2 : Kd.C (Kd.float .f32) w ae ab.length ab) (aq : ab.length ≤ af) (hb1_ : w.heap[g1]? = some (.cells #[.slice A1 l1.length c1] 81 (0, 0))) (hr1 : Kd.C k26 w A1 l1.length l1) (hc1 : l1.length ≤ c1) (h : impl_alike_1.f a7 aa ab l1 = some r) :
  Calls Try.prog 62 #[.agg #[.int .i64 a7, .int .i64 aa, .slice ae ab.length af], .pointer (some ⟨g1, 0, none⟩)] w fun e w' => e = .returned (.bool r) ∧ Below w.heap.size w w' := by
 have hu26 := Try.underlying26; have al := Aside0.mk hr0_2; have ak := Aside0.mk aq; clear hr0_2 aq; have au := Aside0.mk hr1; have aC := Aside0.mk hc1; clear hr1 hc1; have ad := Aside0.mk hb1_; clear hb1_; have HB := AS (Below.refl w.heap.size w); have H : ((impl_ValidBasin.f a7 aa ab).bind fun ao => (if ao = true then (if 0 < (l1.length : Int) then (if a7 = ((rd_T26 l1 0).f0) then (some (aa != ((rd_T26 l1 0).f1))) else (some true)) else (none)) else (some true))) = some r := h; clear h; replace H := OC H; obtain ⟨ao, ax, H⟩ := H; replace H : (if ao = true then (if 0 < (l1.length : Int) then (if a7 = ((rd_T26 l1 0).f0) then (some (aa != ((rd_T26 l1 0).f1))) else (some true)) else (none)) else (some true)) = some r := H; have A3 := Aside0.mk ax; clear ax; by_cases c4 : ao = true
 ·subst c4
  have H1 : (if 0 < (l1.length : Int) then (if a7 = ((rd_T26 l1 0).f0) then (some (aa != ((rd_T26 l1 0).f1))) else (some true)) else (none)) = some r := (by rw [if_pos rfl] at H; exact H); clear H; have H := H1; clear H1; by_cases c5 : 0 < (l1.length : Int)
  ·rw [if_pos c5] at H
   have ay : decide (0 < (l1.length : Int)) = true := decide_eq_true c5; have az : decide (0 < l1.length) = true := decide_eq_true (by omega); clear c5; by_cases c6 : a7 = ((rd_T26 l1 0).f0)
   ·rw [if_pos c6] at H
    have av : (a7 == ((rd_T26 l1 0).f0)) = true := beq_iff_eq.mpr c6; have aw : (a7 != ((rd_T26 l1 0).f0)) = false := bne_eq_false_iff_eq.mpr c6; clear c6; obtain rfl := Option.some.inj H; go_enter Try.func62, Try.ntmps62; (try go_wp2_with (first | ((with_reducible refine gate_dst (N := 2) rfl ?_); refine boxM 2 #[.int .i64 a7, .int .i64 aa, .slice ae ab.length af] 26 ?_; intro ac hg w7 hbox hb; have a0 := AS (hbox); have ap := BG HB hg; have aj := KN ad hg; have ai := KM ad hg; replace ad := KB ad hb; replace HB := BB HB hb; clear hb hbox hg))); replace ad := AS (blk_drew ad.out); replace a0 := AS (blk_drew a0.out); replace HB := AS (below_drew1 HB.out); have p160 : 0 ≤ (0 : Int) := (by omega); have q160 : 0 < (l1.length : Int) := of_decide_eq_true (by first | (with_reducible assumption) | assumption); obtain ⟨ad160, A160_2, c160_2, e160, a2, a3, a1, hl160_2, hi160_2⟩ := at_T26 au.out 0 p160 q160; have hw160_2 := a1; (try rw [show ((0 : Int)).toNat = 0 from rfl] at hw160_2); (try rw [show 0 * 3 = 0 from rfl] at hw160_2); (try rw [Addr.add_zero'] at hw160_2); have hw160_1 := a3; (try rw [show ((0 : Int)).toNat = 0 from rfl] at hw160_1); (try rw [show 0 * 3 = 0 from rfl] at hw160_1); (try rw [Addr.add_zero'] at hw160_1); have hw160_0 := a2; (try rw [show ((0 : Int)).toNat = 0 from rfl] at hw160_0); (try rw [show 0 * 3 = 0 from rfl] at hw160_0); (try rw [Addr.add_zero'] at hw160_0); cases e160; have qi160 : (0 < l1.length) = True := eq_true (by omega); (try rw [show ((0 : Int)).toNat = 0 from rfl] at a2); (try rw [show 0 * 3 = 0 from rfl] at a2); (try rw [Addr.add_zero'] at a2); (try rw [show ((0 : Int)).toNat = 0 from rfl] at a3); (try rw [show 0 * 3 = 0 from rfl] at a3); (try rw [Addr.add_zero'] at a3); (try rw [show ((0 : Int)).toNat = 0 from rfl] at a1); (try rw [show 0 * 3 = 0 from rfl] at a1); (try rw [Addr.add_zero'] at a1); replace a2 := (HB.out.cell (World.block_lt_of_cell? w _ a2)).trans a2; replace a3 := (HB.out.cell (World.block_lt_of_cell? w _ a3)).trans a3; replace a1 := (HB.out.cell (World.block_lt_of_cell? w _ a1)).trans a1; have ag := Aside0.mk hi160_2; have am := Aside0.mk hl160_2; clear hi160_2 hl160_2; replace p160 := eq_true p160; replace q160 := eq_true q160; have p161 : 0 ≤ (0 : Int) := (by omega); have q161 : 0 < (l1.length : Int) := of_decide_eq_true (by first | (with_reducible assumption) | assumption); obtain ⟨ad161, A161_2, c161_2, e161, a8, a9, a6, hl161_2, hi161_2⟩ := at_T26 au.out 0 p161 q161; have hw161_2 := a6; (try rw [show ((0 : Int)).toNat = 0 from rfl] at hw161_2); (try rw [show 0 * 3 = 0 from rfl] at hw161_2); (try rw [Addr.add_zero'] at hw161_2); have hw161_1 := a9; (try rw [show ((0 : Int)).toNat = 0 from rfl] at hw161_1); (try rw [show 0 * 3 = 0 from rfl] at hw161_1); (try rw [Addr.add_zero'] at hw161_1); have hw161_0 := a8; (try rw [show ((0 : Int)).toNat = 0 from rfl] at hw161_0); (try rw [show 0 * 3 = 0 from rfl] at hw161_0); (try rw [Addr.add_zero'] at hw161_0); obtain rfl : ad160 = ad161 := (by injection e161); have qi161 : (0 < l1.length) = True := eq_true (by omega); (try rw [show ((0 : Int)).toNat = 0 from rfl] at a8); (try rw [show 0 * 3 = 0 from rfl] at a8); (try rw [Addr.add_zero'] at a8); (try rw [show ((0 : Int)).toNat = 0 from rfl] at a9); (try rw [show 0 * 3 = 0 from rfl] at a9); (try rw [Addr.add_zero'] at a9); (try rw [show ((0 : Int)).toNat = 0 from rfl] at a6); (try rw [show 0 * 3 = 0 from rfl] at a6); (try rw [Addr.add_zero'] at a6); replace a8 := (HB.out.cell (World.block_lt_of_cell? w _ a8)).trans a8; replace a9 := (HB.out.cell (World.block_lt_of_cell? w _ a9)).trans a9; replace a6 := (HB.out.cell (World.block_lt_of_cell? w _ a6)).trans a6; have an := Aside0.mk hi161_2; have ar := Aside0.mk hl161_2; clear hi161_2 hl161_2; replace p161 := eq_true p161; replace q161 := eq_true q161; have ea_ := Option.some.inj (a1.symm.trans a6); injection ea_ with ea_ en_ ec_; subst ea_; subst ec_; clear en_; refine start_ (n := 22) (S := fun w' => w'.cell? ⟨ac, 0, none⟩ = some (.int .i64 a7) ∧ w'.cell? ⟨ac, 1, none⟩ = some (.int .i64 aa) ∧ w'.cell? ⟨ac, 2, none⟩ = some (.slice ae ab.length af) ∧ w'.cell? ⟨g1, 0, none⟩ = some (.slice (some ad160) l1.length c1) ∧ w'.cell? ad160 = some (.int .i64 ((rd_T26 l1 0).f0)) ∧ w'.cell? ⟨ad160.block, ad160.off + 1, none⟩ = some (.int .i64 ((rd_T26 l1 0).f1)) ∧ w'.cell? ⟨ad160.block, ad160.off + 2, none⟩ = some (.slice A160_2 ((rd_T26 l1 0).f2).length c160_2) ∧ w'.cell? ad160 = some (.int .i64 ((rd_T26 l1 0).f0)) ∧ w'.cell? ⟨ad160.block, ad160.off + 1, none⟩ = some (.int .i64 ((rd_T26 l1 0).f1)) ∧ w'.cell? ⟨ad160.block, ad160.off + 2, none⟩ = some (.slice A160_2 ((rd_T26 l1 0).f2).length c160_2)) (ds := []) #[false, false, false, false, false, false, false, false, false, false, false, false, false, false, false, false, false, false, false, false, false, false] (by kernel_rfl) rfl rfl ⟨(blk_cell a0.out 0).trans rfl, (blk_cell a0.out 1).trans rfl, (blk_cell a0.out 2).trans rfl, (blk_cell ad.out 0).trans rfl, ((HB.out.cell (World.block_lt_of_cell? w _ hw160_0)).trans hw160_0), ((HB.out.cell (World.block_lt_of_cell? w _ hw160_1)).trans hw160_1), ((HB.out.cell (World.block_lt_of_cell? w _ hw160_2)).trans hw160_2), ((HB.out.cell (World.block_lt_of_cell? w _ hw161_0)).trans hw161_0), ((HB.out.cell (World.block_lt_of_cell? w _ hw161_1)).trans hw161_1), ((HB.out.cell (World.block_lt_of_cell? w _ hw161_2)).trans hw161_2)⟩ (fun a5 => ?_); refine with_tabW impl_alike_1.tab1 impl_alike_1.bits1 (fun a4 ah => ?_); generalize w7.drew = w8 at ad a0 HB ag an a2 a3 a1 a8 a9 a6 a5 ⊢; refine takeU 0 4 a4.out ah.out a5 ?_ (hy := by rintro w' ⟨s0, s1, s2, s3, s4, s5, s6, s7, s8, s9⟩; go_simp; with_reducible rfl); refine one_ (i := 1) (N := some 5) #[true, true, false, false, false, false, false, false, false, false, false, false, false, false, false, false, false, false, false, false, false, false] rfl rfl (one_of a4.out (by kernel_rfl)) (by decide) (fun K hK => ?_); refine goes_ Try.func16 (by kernel_rfl) rfl #[.agg #[.int .i64 a7, .int .i64 aa, .slice ae ab.length af]] (by rfl) rfl rfl (by (try simp only [List.map_toArray, List.map_cons, List.map_nil]); first | done | rfl | (simp only [List.length_drop, List.length_take]; rfl)) ?_; (with_reducible refine (impl_ValidBasin.calls a7 aa _ _ ab true _ ?s1 ?s2 A3.out).mono ?_); (case s1 => exact CS (Kd.C_below al.out HB.out)); (case s2 => exact ak.out); rintro e w9 ⟨rfl, hb⟩; refine ⟨_, rfl, ?_⟩; replace ad := KB ad hb; replace a0 := KB a0 hb; replace HB := BB HB hb; (try clear hb); refine hK.out _ _ ⟨(blk_cell a0.out 0).trans rfl, (blk_cell a0.out 1).trans rfl, (blk_cell a0.out 2).trans rfl, (blk_cell ad.out 0).trans rfl, ((HB.out.cell (World.block_lt_of_cell? w _ hw160_0)).trans hw160_0), ((HB.out.cell (World.block_lt_of_cell? w _ hw160_1)).trans hw160_1), ((HB.out.cell (World.block_lt_of_cell? w _ hw160_2)).trans hw160_2), ((HB.out.cell (World.block_lt_of_cell? w _ hw161_0)).trans hw161_0), ((HB.out.cell (World.block_lt_of_cell? w _ hw161_1)).trans hw161_1), ((HB.out.cell (World.block_lt_of_cell? w _ hw161_2)).trans hw161_2)⟩ (fun a5 => ?_); clear hK K; refine norm_ (a' := ?_) ?_ ?_; rotate_left
    ·show Act.put _ (some 5) _ = _
     simp only [Act.put, List.setIfInBounds_toArray, List.set_cons_zero, List.set_cons_succ, i64_w, i32_w]; rfl
    refine pureT 2 6 a4.out ?_; refine pureT 3 7 a4.out ?_; refine pureT 4 8 a4.out ?_; refine takeU 5 9 a4.out ah.out a5 ?_ (hy := by rintro w' ⟨s0, s1, s2, s3, s4, s5, s6, s7, s8, s9⟩; go_simp; with_reducible rfl); refine takeU 6 10 a4.out ah.out a5 ?_ (hy := by rintro w' ⟨s0, s1, s2, s3, s4, s5, s6, s7, s8, s9⟩; go_simp; with_reducible rfl); refine pureT 7 11 a4.out ?_; refine pureT 8 12 a4.out ?_; refine takeU 9 13 a4.out ah.out a5 ?_ (hy := by rintro w' ⟨s0, s1, s2, s3, s4, s5, s6, s7, s8, s9⟩; go_simp; with_reducible rfl); refine pureT 10 14 a4.out ?_; refine pureT 11 15 a4.out ?_; refine pureT 12 16 a4.out ?_; refine pureT 13 17 a4.out ?_; refine takeU 14 18 a4.out ah.out a5 ?_ (hy := by rintro w' ⟨s0, s1, s2, s3, s4, s5, s6, s7, s8, s9⟩; go_simp; with_reducible rfl); refine takeU 15 19 a4.out ah.out a5 ?_ (hy := by rintro w' ⟨s0, s1, s2, s3, s4, s5, s6, s7, s8, s9⟩; go_simp; with_reducible rfl); refine pureT 16 20 a4.out ?_; refine pureT 17 21 a4.out ?_; refine takeU 18 22 a4.out ah.out a5 ?_ (hy := by rintro w' ⟨s0, s1, s2, s3, s4, s5, s6, s7, s8, s9⟩; go_simp; with_reducible rfl); refine pureT 19 23 a4.out ?_; refine pureT 20 24 a4.out ?_; refine pureT 21 3 a4.out ?_; refine done_ (done_of a4.out (by kernel_rfl)) ?_; (try go_wp2); go_ret; exact ⟨by first | rfl | (simp [errW_none, errW_some] <;> rfl) | (simp [*, errW_none, errW_some] <;> rfl), BW HB⟩
   rw [if_neg c6] at H
   have av : (a7 == ((rd_T26 l1 0).f0)) = false := beq_eq_false_iff_ne.mpr c6; have aw : (a7 != ((rd_T26 l1 0).f0)) = true := bne_iff_ne.mpr c6; obtain rfl := Option.some.inj H; go_enter Try.func62, Try.ntmps62; (try go_wp2_with (first | ((with_reducible refine gate_dst (N := 2) rfl ?_); refine boxM 2 #[.int .i64 a7, .int .i64 aa, .slice ae ab.length af] 26 ?_; intro ac hg aA hbox hb; have a0 := AS (hbox); have ap := BG HB hg; have aj := KN ad hg; have ai := KM ad hg; replace ad := KB ad hb; replace HB := BB HB hb; clear hb hbox hg))); replace ad := AS (blk_drew ad.out); replace a0 := AS (blk_drew a0.out); replace HB := AS (below_drew1 HB.out); have p160 : 0 ≤ (0 : Int) := (by omega); have q160 : 0 < (l1.length : Int) := of_decide_eq_true (by first | (with_reducible assumption) | assumption); obtain ⟨ad160, A160_2, c160_2, e160, a2, a3, a1, hl160_2, hi160_2⟩ := at_T26 au.out 0 p160 q160; have hw160_2 := a1; (try rw [show ((0 : Int)).toNat = 0 from rfl] at hw160_2); (try rw [show 0 * 3 = 0 from rfl] at hw160_2); (try rw [Addr.add_zero'] at hw160_2); have hw160_1 := a3; (try rw [show ((0 : Int)).toNat = 0 from rfl] at hw160_1); (try rw [show 0 * 3 = 0 from rfl] at hw160_1); (try rw [Addr.add_zero'] at hw160_1); have hw160_0 := a2; (try rw [show ((0 : Int)).toNat = 0 from rfl] at hw160_0); (try rw [show 0 * 3 = 0 from rfl] at hw160_0); (try rw [Addr.add_zero'] at hw160_0); cases e160; have qi160 : (0 < l1.length) = True := eq_true (by omega); (try rw [show ((0 : Int)).toNat = 0 from rfl] at a2); (try rw [show 0 * 3 = 0 from rfl] at a2); (try rw [Addr.add_zero'] at a2); (try rw [show ((0 : Int)).toNat = 0 from rfl] at a3); (try rw [show 0 * 3 = 0 from rfl] at a3); (try rw [Addr.add_zero'] at a3); (try rw [show ((0 : Int)).toNat = 0 from rfl] at a1); (try rw [show 0 * 3 = 0 from rfl] at a1); (try rw [Addr.add_zero'] at a1); replace a2 := (HB.out.cell (World.block_lt_of_cell? w _ a2)).trans a2; replace a3 := (HB.out.cell (World.block_lt_of_cell? w _ a3)).trans a3; replace a1 := (HB.out.cell (World.block_lt_of_cell? w _ a1)).trans a1; have ag := Aside0.mk hi160_2; have am := Aside0.mk hl160_2; clear hi160_2 hl160_2; replace p160 := eq_true p160; replace q160 := eq_true q160; refine start_ (n := 22) (S := fun w' => w'.cell? ⟨ac, 0, none⟩ = some (.int .i64 a7) ∧ w'.cell? ⟨ac, 1, none⟩ = some (.int .i64 aa) ∧ w'.cell? ⟨ac, 2, none⟩ = some (.slice ae ab.length af) ∧ w'.cell? ⟨g1, 0, none⟩ = some (.slice (some ad160) l1.length c1) ∧ w'.cell? ad160 = some (.int .i64 ((rd_T26 l1 0).f0)) ∧ w'.cell? ⟨ad160.block, ad160.off + 1, none⟩ = some (.int .i64 ((rd_T26 l1 0).f1)) ∧ w'.cell? ⟨ad160.block, ad160.off + 2, none⟩ = some (.slice A160_2 ((rd_T26 l1 0).f2).length c160_2)) (ds := []) #[false, false, false, false, false, false, false, false, false, false, false, false, false, false, false, false, false, false, false, false, false, false] (by kernel_rfl) rfl rfl ⟨(blk_cell a0.out 0).trans rfl, (blk_cell a0.out 1).trans rfl, (blk_cell a0.out 2).trans rfl, (blk_cell ad.out 0).trans rfl, ((HB.out.cell (World.block_lt_of_cell? w _ hw160_0)).trans hw160_0), ((HB.out.cell (World.block_lt_of_cell? w _ hw160_1)).trans hw160_1), ((HB.out.cell (World.block_lt_of_cell? w _ hw160_2)).trans hw160_2)⟩ (fun a5 => ?_); refine with_tabW impl_alike_1.tab1 impl_alike_1.bits1 (fun a4 ah => ?_); generalize aA.drew = aD at ad a0 HB ag a2 a3 a1 a5 ⊢; refine takeU 0 4 a4.out ah.out a5 ?_ (hy := by rintro w' ⟨s0, s1, s2, s3, s4, s5, s6⟩; go_simp; with_reducible rfl); refine one_ (i := 1) (N := some 5) #[true, true, false, false, false, false, false, false, false, false, false, false, false, false, false, false, false, false, false, false, false, false] rfl rfl (one_of a4.out (by kernel_rfl)) (by decide) (fun K hK => ?_); refine goes_ Try.func16 (by kernel_rfl) rfl #[.agg #[.int .i64 a7, .int .i64 aa, .slice ae ab.length af]] (by rfl) rfl rfl (by (try simp only [List.map_toArray, List.map_cons, List.map_nil]); first | done | rfl | (simp only [List.length_drop, List.length_take]; rfl)) ?_; (with_reducible refine (impl_ValidBasin.calls a7 aa _ _ ab true _ ?s1 ?s2 A3.out).mono ?_); (case s1 => exact CS (Kd.C_below al.out HB.out)); (case s2 => exact ak.out); rintro e aE ⟨rfl, hb⟩; refine ⟨_, rfl, ?_⟩; replace ad := KB ad hb; replace a0 := KB a0 hb; replace HB := BB HB hb; (try clear hb); refine hK.out _ _ ⟨(blk_cell a0.out 0).trans rfl, (blk_cell a0.out 1).trans rfl, (blk_cell a0.out 2).trans rfl, (blk_cell ad.out 0).trans rfl, ((HB.out.cell (World.block_lt_of_cell? w _ hw160_0)).trans hw160_0), ((HB.out.cell (World.block_lt_of_cell? w _ hw160_1)).trans hw160_1), ((HB.out.cell (World.block_lt_of_cell? w _ hw160_2)).trans hw160_2)⟩ (fun a5 => ?_); clear hK K; refine norm_ (a' := ?_) ?_ ?_; rotate_left
   ·show Act.put _ (some 5) _ = _
    simp only [Act.put, List.setIfInBounds_toArray, List.set_cons_zero, List.set_cons_succ, i64_w, i32_w]; rfl
   refine pureT 2 6 a4.out ?_; refine pureT 3 7 a4.out ?_; refine pureT 4 8 a4.out ?_; refine takeU 5 9 a4.out ah.out a5 ?_ (hy := by rintro w' ⟨s0, s1, s2, s3, s4, s5, s6⟩; go_simp; with_reducible rfl); refine takeU 6 10 a4.out ah.out a5 ?_ (hy := by rintro w' ⟨s0, s1, s2, s3, s4, s5, s6⟩; go_simp; with_reducible rfl); refine pureT 7 11 a4.out ?_; refine pureT 8 12 a4.out ?_; refine takeU 9 13 a4.out ah.out a5 ?_ (hy := by rintro w' ⟨s0, s1, s2, s3, s4, s5, s6⟩; go_simp; with_reducible rfl); refine pureT 10 14 a4.out ?_; refine pureT 11 15 a4.out ?_; refine pureT 12 16 a4.out ?_; refine pureS (i := 13) (N := some 17) (v := undef) (a' := ?_) rfl rfl (any_of a4.out (by kernel_rfl)) (fun _ _ _ h => h) (Or.inr ⟨by rfl, rfl⟩) ?_ ?_; rotate_left; (· simp only [Act.put, List.setIfInBounds_toArray, List.set_cons_zero, List.set_cons_succ, i64_w, i32_w]; rfl); refine pureS (i := 14) (N := some 18) (v := undef) (a' := ?_) rfl rfl (any_of a4.out (by kernel_rfl)) (fun _ _ _ h => h) (Or.inr ⟨by rfl, rfl⟩) ?_ ?_; rotate_left; (· simp only [Act.put, List.setIfInBounds_toArray, List.set_cons_zero, List.set_cons_succ, i64_w, i32_w]; rfl); refine pureS (i := 15) (N := some 19) (v := undef) (a' := ?_) rfl rfl (any_of a4.out (by kernel_rfl)) (fun _ _ _ h => h) (Or.inr ⟨by rfl, rfl⟩) ?_ ?_; rotate_left; (· simp only [Act.put, List.setIfInBounds_toArray, List.set_cons_zero, List.set_cons_succ, i64_w, i32_w]; rfl); refine pureS (i := 16) (N := some 20) (v := undef) (a' := ?_) rfl rfl (any_of a4.out (by kernel_rfl)) (fun _ _ _ h => h) (Or.inr ⟨by rfl, rfl⟩) ?_ ?_; rotate_left; (· simp only [Act.put, List.setIfInBounds_toArray, List.set_cons_zero, List.set_cons_succ, i64_w, i32_w]; rfl); refine pureS (i := 17) (N := some 21) (v := undef) (a' := ?_) rfl rfl (any_of a4.out (by kernel_rfl)) (fun _ _ _ h => h) (Or.inr ⟨by rfl, rfl⟩) ?_ ?_; rotate_left; (· simp only [Act.put, List.setIfInBounds_toArray, List.set_cons_zero, List.set_cons_succ, i64_w, i32_w]; rfl); refine pureS (i := 18) (N := some 22) (v := undef) (a' := ?_) rfl rfl (any_of a4.out (by kernel_rfl)) (fun _ _ _ h => h) (Or.inr ⟨by rfl, rfl⟩) ?_ ?_; rotate_left; (· simp only [Act.put, List.setIfInBounds_toArray, List.set_cons_zero, List.set_cons_succ, i64_w, i32_w]; rfl); refine pureS (i := 19) (N := some 23) (v := undef) (a' := ?_) rfl rfl (any_of a4.out (by kernel_rfl)) (fun _ _ _ h => h) (Or.inr ⟨by rfl, rfl⟩) ?_ ?_; rotate_left; (· simp only [Act.put, List.setIfInBounds_toArray, List.set_cons_zero, List.set_cons_succ, i64_w, i32_w]; rfl); refine pureT 20 24 a4.out ?_; refine pureT 21 3 a4.out ?_; refine done_ (done_of a4.out (by kernel_rfl)) ?_; (try go_wp2); go_ret; exact ⟨by first | rfl | (simp [errW_none, errW_some] <;> rfl) | (simp [*, errW_none, errW_some] <;> rfl), BW HB⟩
  rw [if_neg c5] at H
  exact absurd H (by simp)
 replace c4 := Bool.eq_false_iff.mpr c4
 subst c4; have H1 : (some true) = some r := (by rw [if_neg (show ¬ (false = true) by decide)] at H; exact H); clear H; have H := H1; clear H1; obtain rfl := Option.some.inj H; go_enter Try.func62, Try.ntmps62; (try go_wp2_with (first | ((with_reducible refine gate_dst (N := 2) rfl ?_); refine boxM 2 #[.int .i64 a7, .int .i64 aa, .slice ae ab.length af] 26 ?_; intro ac hg aB hbox hb; have a0 := AS (hbox); have ap := BG HB hg; have aj := KN ad hg; have ai := KM ad hg; replace ad := KB ad hb; replace HB := BB HB hb; clear hb hbox hg))); replace ad := AS (blk_drew ad.out); replace a0 := AS (blk_drew a0.out); replace HB := AS (below_drew1 HB.out); refine start_ (n := 22) (S := fun w' => w'.cell? ⟨ac, 0, none⟩ = some (.int .i64 a7) ∧ w'.cell? ⟨ac, 1, none⟩ = some (.int .i64 aa) ∧ w'.cell? ⟨ac, 2, none⟩ = some (.slice ae ab.length af)) (ds := []) #[false, false, false, false, false, false, false, false, false, false, false, false, false, false, false, false, false, false, false, false, false, false] (by kernel_rfl) rfl rfl ⟨(blk_cell a0.out 0).trans rfl, (blk_cell a0.out 1).trans rfl, (blk_cell a0.out 2).trans rfl⟩ (fun a5 => ?_); refine with_tabW impl_alike_1.tab1 impl_alike_1.bits1 (fun a4 ah => ?_); generalize aB.drew = aF at ad a0 HB a5 ⊢; refine takeU 0 4 a4.out ah.out a5 ?_ (hy := by rintro w' ⟨s0, s1, s2⟩; go_simp; with_reducible rfl); refine one_ (i := 1) (N := some 5) #[true, true, false, false, false, false, false, false, false, false, false, false, false, false, false, false, false, false, false, false, false, false] rfl rfl (one_of a4.out (by kernel_rfl)) (by decide) (fun K hK => ?_); refine goes_ Try.func16 (by kernel_rfl) rfl #[.agg #[.int .i64 a7, .int .i64 aa, .slice ae ab.length af]] (by rfl) rfl rfl (by (try simp only [List.map_toArray, List.map_cons, List.map_nil]); first | done | rfl | (simp only [List.length_drop, List.length_take]; rfl)) ?_; (with_reducible refine (impl_ValidBasin.calls a7 aa _ _ ab false _ ?s1 ?s2 A3.out).mono ?_); (case s1 => exact CS (Kd.C_below al.out HB.out)); (case s2 => exact ak.out); rintro e aG ⟨rfl, hb⟩; refine ⟨_, rfl, ?_⟩; replace ad := KB ad hb; replace a0 := KB a0 hb; replace HB := BB HB hb; (try clear hb); refine hK.out _ _ ⟨(blk_cell a0.out 0).trans rfl, (blk_cell a0.out 1).trans rfl, (blk_cell a0.out 2).trans rfl⟩ (fun a5 => ?_); clear hK K; refine norm_ (a' := ?_) ?_ ?_; rotate_left
 ·show Act.put _ (some 5) _ = _
  simp only [Act.put, List.setIfInBounds_toArray, List.set_cons_zero, List.set_cons_succ, i64_w, i32_w]; rfl
 refine pureT 2 6 a4.out ?_; refine pureT 3 7 a4.out ?_; refine pureS (i := 4) (N := some 8) (v := undef) (a' := ?_) rfl rfl (any_of a4.out (by kernel_rfl)) (fun _ _ _ h => h) (Or.inr ⟨by rfl, rfl⟩) ?_ ?_; rotate_left; (· simp only [Act.put, List.setIfInBounds_toArray, List.set_cons_zero, List.set_cons_succ, i64_w, i32_w]; rfl); refine pureS (i := 5) (N := some 9) (v := undef) (a' := ?_) rfl rfl (any_of a4.out (by kernel_rfl)) (fun _ _ _ h => h) (Or.inr ⟨by rfl, rfl⟩) ?_ ?_; rotate_left; (· simp only [Act.put, List.setIfInBounds_toArray, List.set_cons_zero, List.set_cons_succ, i64_w, i32_w]; rfl); refine pureS (i := 6) (N := some 10) (v := undef) (a' := ?_) rfl rfl (any_of a4.out (by kernel_rfl)) (fun _ _ _ h => h) (Or.inr ⟨by rfl, rfl⟩) ?_ ?_; rotate_left; (· simp only [Act.put, List.setIfInBounds_toArray, List.set_cons_zero, List.set_cons_succ, i64_w, i32_w]; rfl); refine pureS (i := 7) (N := some 11) (v := undef) (a' := ?_) rfl rfl (any_of a4.out (by kernel_rfl)) (fun _ _ _ h => h) (Or.inr ⟨by rfl, rfl⟩) ?_ ?_; rotate_left; (· simp only [Act.put, List.setIfInBounds_toArray, List.set_cons_zero, List.set_cons_succ, i64_w, i32_w]; rfl); refine pureS (i := 8) (N := some 12) (v := undef) (a' := ?_) rfl rfl (any_of a4.out (by kernel_rfl)) (fun _ _ _ h => h) (Or.inr ⟨by rfl, rfl⟩) ?_ ?_; rotate_left; (· simp only [Act.put, List.setIfInBounds_toArray, List.set_cons_zero, List.set_cons_succ, i64_w, i32_w]; rfl); refine pureS (i := 9) (N := some 13) (v := undef) (a' := ?_) rfl rfl (any_of a4.out (by kernel_rfl)) (fun _ _ _ h => h) (Or.inr ⟨by rfl, rfl⟩) ?_ ?_; rotate_left; (· simp only [Act.put, List.setIfInBounds_toArray, List.set_cons_zero, List.set_cons_succ, i64_w, i32_w]; rfl); refine pureS (i := 10) (N := some 14) (v := undef) (a' := ?_) rfl rfl (any_of a4.out (by kernel_rfl)) (fun _ _ _ h => h) (Or.inr ⟨by rfl, rfl⟩) ?_ ?_; rotate_left; (· simp only [Act.put, List.setIfInBounds_toArray, List.set_cons_zero, List.set_cons_succ, i64_w, i32_w]; rfl); refine pureT 11 15 a4.out ?_; refine pureT 12 16 a4.out ?_; refine pureS (i := 13) (N := some 17) (v := undef) (a' := ?_) rfl rfl (any_of a4.out (by kernel_rfl)) (fun _ _ _ h => h) (Or.inr ⟨by rfl, rfl⟩) ?_ ?_; rotate_left; (· simp only [Act.put, List.setIfInBounds_toArray, List.set_cons_zero, List.set_cons_succ, i64_w, i32_w]; rfl); refine pureS (i := 14) (N := some 18) (v := undef) (a' := ?_) rfl rfl (any_of a4.out (by kernel_rfl)) (fun _ _ _ h => h) (Or.inr ⟨by rfl, rfl⟩) ?_ ?_; rotate_left; (· simp only [Act.put, List.setIfInBounds_toArray, List.set_cons_zero, List.set_cons_succ, i64_w, i32_w]; rfl); refine pureS (i := 15) (N := some 19) (v := undef) (a' := ?_) rfl rfl (any_of a4.out (by kernel_rfl)) (fun _ _ _ h => h) (Or.inr ⟨by rfl, rfl⟩) ?_ ?_; rotate_left; (· simp only [Act.put, List.setIfInBounds_toArray, List.set_cons_zero, List.set_cons_succ, i64_w, i32_w]; rfl); refine pureS (i := 16) (N := some 20) (v := undef) (a' := ?_) rfl rfl (any_of a4.out (by kernel_rfl)) (fun _ _ _ h => h) (Or.inr ⟨by rfl, rfl⟩) ?_ ?_; rotate_left; (· simp only [Act.put, List.setIfInBounds_toArray, List.set_cons_zero, List.set_cons_succ, i64_w, i32_w]; rfl); refine pureS (i := 17) (N := some 21) (v := undef) (a' := ?_) rfl rfl (any_of a4.out (by kernel_rfl)) (fun _ _ _ h => h) (Or.inr ⟨by rfl, rfl⟩) ?_ ?_; rotate_left; (· simp only [Act.put, List.setIfInBounds_toArray, List.set_cons_zero, List.set_cons_succ, i64_w, i32_w]; rfl); refine pureS (i := 18) (N := some 22) (v := undef) (a' := ?_) rfl rfl (any_of a4.out (by kernel_rfl)) (fun _ _ _ h => h) (Or.inr ⟨by rfl, rfl⟩) ?_ ?_; rotate_left; (· simp only [Act.put, List.setIfInBounds_toArray, List.set_cons_zero, List.set_cons_succ, i64_w, i32_w]; rfl); refine pureS (i := 19) (N := some 23) (v := undef) (a' := ?_) rfl rfl (any_of a4.out (by kernel_rfl)) (fun _ _ _ h => h) (Or.inr ⟨by rfl, rfl⟩) ?_ ?_; rotate_left; (· simp only [Act.put, List.setIfInBounds_toArray, List.set_cons_zero, List.set_cons_succ, i64_w, i32_w]; rfl); refine pureT 20 24 a4.out ?_; refine pureT 21 3 a4.out ?_; refine done_ (done_of a4.out (by kernel_rfl)) ?_; (try go_wp2); go_ret; exact ⟨by first | rfl | (simp [errW_none, errW_some] <;> rfl) | (simp [*, errW_none, errW_some] <;> rfl), BW HB⟩
def impl_Basin_74.l0 : Nat → List (S26) → Int → Int → List (S26) → Option (Int)
  | 0, _, _, _, _ => none
  | k + 1, x0, x7, x8, x3000 => if x8 < x7 then (if 0 ≤ x8 then (if x8 < (x0.length : Int) then ((impl_alike_1.f ((rd_T26 x0 x8).f0) ((rd_T26 x0 x8).f1) ((rd_T26 x0 x8).f2) x3000).bind fun t163 => (if t163 = true then (some x8) else (impl_Basin_74.l0 k x0 x7 (wrap64 (x8 + 1)) x3000))) else (none)) else (none)) else (some (-1))
def impl_Basin_74.f (k : Nat) (l0 : List (S26))  (l2 : List (S26)) : Option (Int) := impl_Basin_74.l0 k l0 (l0.length : Int) 0 l2
theorem impl_Basin_74.mono_l : ∀ k, (∀ y0 y1 y2 y3, LeO (impl_Basin_74.l0 k y0 y1 y2 y3) (impl_Basin_74.l0 (k + 1) y0 y1 y2 y3))
  | 0 => fun _ _ _ _ r h => by simp [impl_Basin_74.l0] at h
  | k + 1 => by
    have ih0 := impl_Basin_74.mono_l k
    · intro y0 y1 y2 y3
      unfold impl_Basin_74.l0; repeat' first
      | (with_reducible exact ih0 _ _ _ _)
      | (with_reducible exact LeO.refl _)
      | (with_reducible exact LeO.none _)
      | (with_reducible refine LeO.ite ?_ ?_)
      | (with_reducible refine LeO.bind ?_ (fun _ => ?_))
      | exact ih0 _ _ _ _
      | exact LeO.none _
      | refine LeO.ite ?_ ?_
      | refine LeO.bind ?_ (fun _ => ?_)
theorem impl_Basin_74.mono : ∀ a0 a1 k, LeO (impl_Basin_74.f k a0 a1) (impl_Basin_74.f (k + 1) a0 a1) := by
  intro a0 a1 k; have ih0 := impl_Basin_74.mono_l k; unfold impl_Basin_74.f
  repeat' first
      | (with_reducible exact ih0 _ _ _ _)
      | (with_reducible exact LeO.refl _)
      | (with_reducible exact LeO.none _)
      | (with_reducible refine LeO.ite ?_ ?_)
      | (with_reducible refine LeO.bind ?_ (fun _ => ?_))
      | exact ih0 _ _ _ _
      | exact LeO.none _
      | refine LeO.ite ?_ ?_
      | refine LeO.bind ?_ (fun _ => ?_)
set_option maxHeartbeats 8000000 in
set_option maxRecDepth 100000 in
theorem impl_Basin_74.calls (k : Nat) (A0 : Option Addr) (c0 : Nat) (l0 : List (S26))  (g2 : Nat) (A2 : Option Addr) (c2 : Nat) (l2 : List (S26)) (r : Int) (w : World) (hr0 : Kd.C k26 w A0 l0.length l0) (hc0 : l0.length ≤ c0) (hb2_ : w.heap[g2]? = some (.cells #[.slice A2 l2.length c2] 81 (0, 0))) (hr2 : Kd.C k26 w A2 l2.length l2) (hc2 : l2.length ≤ c2) (h : impl_Basin_74.f k l0 l2 = some r) :
  Calls Try.prog 74 #[.slice A0 l0.length c0, .func (.func 62) #[] #[.pointer (some ⟨g2, 0, none⟩)]] w fun e w' => e = .returned (.int .i64 r) ∧ Below w.heap.size w w' := by
 have hu26 := Try.underlying26; have ac := Aside0.mk hr0; have ag := Aside0.mk hc0; clear hr0 hc0; have ad := Aside0.mk hr2; have aa := Aside0.mk hc2; clear hr2 hc2; have a6 := Aside0.mk hb2_; clear hb2_; have HB := AS (Below.refl w.heap.size w); have H : (impl_Basin_74.l0 k l0 (l0.length : Int) 0 l2) = some r := h; clear h; have H' := Aside0.mk H; clear H; go_enter Try.func74, Try.ntmps74; go_wp2; go_loopg [8] k (fun kq v8 w' => ∃ (a0 : Int), v8 = .int .i64 a0 ∧ Aside0 (impl_Basin_74.l0 kq l0 (l0.length : Int) a0 l2 = some r) ∧ Aside0 (kq ≤ k) ∧ Aside0 (w'.heap[g2]? = some (.cells #[(.slice A2 l2.length c2)] 81 (0, 0))) ∧ Aside0 (Below w.heap.size w w'))
 case atStart => exact ⟨(0), (by first | rfl | (simp; done) | (simp [*]; done)), H', ⟨Nat.le_refl _⟩, ⟨KS a6.out⟩, ⟨BW HB⟩⟩
 case round =>
  clear H'; (try clear c2); (try clear p2); obtain ⟨a0, rfl, HA, ab, a6, HB⟩ := hrel; cases gk with
  | zero => exact absurd HA.out (by simp [impl_Basin_74.l0])
  | succ k1 =>
   have H := HA.out; clear HA; simp only [impl_Basin_74.l0] at H; by_cases c4 : a0 < (l0.length : Int)
   ·rw [if_pos c4] at H
    have a8 : decide (a0 < (l0.length : Int)) = true := decide_eq_true c4; clear c4; by_cases c5 : 0 ≤ a0
    ·rw [if_pos c5] at H
     have ae : decide (0 ≤ a0) = true := decide_eq_true c5; clear c5; by_cases c6 : a0 < (l0.length : Int)
     ·rw [if_pos c6] at H
      have af : decide (a0 < (l0.length : Int)) = true := decide_eq_true c6; clear c6; replace H := OC H; obtain ⟨a7, a9, H⟩ := H; replace H : (if a7 = true then (some a0) else (impl_Basin_74.l0 k1 l0 (l0.length : Int) (wrap64 (a0 + 1)) l2)) = some r := H; have A7 := Aside0.mk a9; clear a9; by_cases c8 : a7 = true
      ·subst c8
       have H1 : (some a0) = some r := (by rw [if_pos rfl] at H; exact H); clear H; have H := H1; clear H1; obtain rfl := Option.some.inj H; have p162 : 0 ≤ (a0 : Int) := of_decide_eq_true (by first | (with_reducible assumption) | assumption); have q162 : a0 < (l0.length : Int) := of_decide_eq_true (by first | (with_reducible assumption) | assumption); obtain ⟨ad162, A162_2, c162_2, e162, a1, a2, a3, hl162_2, hi162_2⟩ := at_T26 ac.out a0 p162 q162; cases e162; replace a1 := (HB.out.cell (World.block_lt_of_cell? w _ a1)).trans a1; replace a2 := (HB.out.cell (World.block_lt_of_cell? w _ a2)).trans a2; replace a3 := (HB.out.cell (World.block_lt_of_cell? w _ a3)).trans a3; have a5 := Aside0.mk hi162_2; have a4 := Aside0.mk hl162_2; clear hi162_2 hl162_2; replace p162 := eq_true p162; replace q162 := eq_true q162; go_wp2_with (first | (go_at_call 62; (with_reducible refine (impl_alike_1.calls ((rd_T26 l0 a0).f0) ((rd_T26 l0 a0).f1) _ _ ((rd_T26 l0 a0).f2) g2 A2 c2 l2 true _ ?s1 ?s2 ?s3 ?s4 ?s5 A7.out).mono ?_); (case s1 => exact CS (Kd.C_below a5.out HB.out)); (case s2 => exact a4.out); (case s3 => exact (KS a6.out)); (case s4 => exact CS (Kd.C_below ad.out HB.out)); (case s5 => exact aa.out); rintro e w9 ⟨rfl, hb⟩; replace a6 := KB a6 hb; replace HB := BB HB hb; (try clear hb))); go_ret; exact ⟨by first | rfl | (simp [errW_none, errW_some] <;> rfl) | (simp [*, errW_none, errW_some] <;> rfl), BW HB⟩
      replace c8 := Bool.eq_false_iff.mpr c8
      subst c8; have H1 : (impl_Basin_74.l0 k1 l0 (l0.length : Int) (wrap64 (a0 + 1)) l2) = some r := (by rw [if_neg (show ¬ (false = true) by decide)] at H; exact H); clear H; have H := H1; clear H1; have H' := Aside0.mk H; clear H; have p162 : 0 ≤ (a0 : Int) := of_decide_eq_true (by first | (with_reducible assumption) | assumption); have q162 : a0 < (l0.length : Int) := of_decide_eq_true (by first | (with_reducible assumption) | assumption); obtain ⟨ad162, A162_2, c162_2, e162, a1, a2, a3, hl162_2, hi162_2⟩ := at_T26 ac.out a0 p162 q162; cases e162; replace a1 := (HB.out.cell (World.block_lt_of_cell? w _ a1)).trans a1; replace a2 := (HB.out.cell (World.block_lt_of_cell? w _ a2)).trans a2; replace a3 := (HB.out.cell (World.block_lt_of_cell? w _ a3)).trans a3; have a5 := Aside0.mk hi162_2; have a4 := Aside0.mk hl162_2; clear hi162_2 hl162_2; replace p162 := eq_true p162; replace q162 := eq_true q162; go_wp2_with (first | (go_at_call 62; (with_reducible refine (impl_alike_1.calls ((rd_T26 l0 a0).f0) ((rd_T26 l0 a0).f1) _ _ ((rd_T26 l0 a0).f2) g2 A2 c2 l2 false _ ?s1 ?s2 ?s3 ?s4 ?s5 A7.out).mono ?_); (case s1 => exact CS (Kd.C_below a5.out HB.out)); (case s2 => exact a4.out); (case s3 => exact (KS a6.out)); (case s4 => exact CS (Kd.C_below ad.out HB.out)); (case s5 => exact aa.out); rintro e ah ⟨rfl, hb⟩; replace a6 := KB a6 hb; replace HB := BB HB hb; (try clear hb))); go_roundg k1
      case measure => have := ab.out; omega
      case rel => exact ⟨(wrap64 (a0 + 1)), (by first | rfl | (simp; done) | (simp [*]; done)), H', ⟨by have := ab.out; omega⟩, ⟨KS a6.out⟩, ⟨BW HB⟩⟩
     rw [if_neg c6] at H
     exact absurd H (by simp)
    rw [if_neg c5] at H
    exact absurd H (by simp)
   rw [if_neg c4] at H
   have a8 : decide (a0 < (l0.length : Int)) = false := decide_eq_false c4; clear c4; obtain rfl := Option.some.inj H; go_wp2; go_ret; exact ⟨by first | rfl | (simp [errW_none, errW_some] <;> rfl) | (simp [*, errW_none, errW_some] <;> rfl), BW HB⟩
end Go.Proofs.Ytelkklnfbfmecaa.B0
end
section
namespace Go.Proofs.Ytelkklnfbfmecaa.B0
open Go.RowKit YtelkklnfbfmecaaW.PrintWords YtelkklnfbfmecaaW.PrintLast YtelkklnfbfmecaaW.PrintMore
attribute [local go_sem] max2_int min2_int max_two min_two max_three min_three max_four min_four
attribute [local go_sem high] binOp_fge binOp_fle
def impl_Basin_61.f (k : Nat) (l0 : List (S26))  (l2 : List (S26)) : Option (Bool) := (impl_Basin_74.f k l0 l2).bind fun t164 => (some (decide (t164 ≥ 0)))
theorem impl_Basin_61.mono : ∀ a0 a1 k, LeO (impl_Basin_61.f k a0 a1) (impl_Basin_61.f (k + 1) a0 a1) := by
  intro a0 a1 k; unfold impl_Basin_61.f
  repeat' first
      | (with_reducible exact impl_Basin_74.mono _ _ _)
      | (with_reducible exact LeO.refl _)
      | (with_reducible exact LeO.none _)
      | (with_reducible refine LeO.ite ?_ ?_)
      | (with_reducible refine LeO.bind ?_ (fun _ => ?_))
      | exact impl_Basin_74.mono _ _ _
      | exact LeO.none _
      | refine LeO.ite ?_ ?_
      | refine LeO.bind ?_ (fun _ => ?_)
set_option maxHeartbeats 8000000 in
set_option maxRecDepth 100000 in
theorem impl_Basin_61.calls (k : Nat) (A0 : Option Addr) (c0 : Nat) (l0 : List (S26))  (g2 : Nat) (A2 : Option Addr) (c2 : Nat) (l2 : List (S26)) (r : Bool) (w : World) (hr0 : Kd.C k26 w A0 l0.length l0) (hc0 : l0.length ≤ c0) (hb2_ : w.heap[g2]? = some (.cells #[.slice A2 l2.length c2] 81 (0, 0))) (hr2 : Kd.C k26 w A2 l2.length l2) (hc2 : l2.length ≤ c2) (h : impl_Basin_61.f k l0 l2 = some r) :
  Calls Try.prog 61 #[.slice A0 l0.length c0, .func (.func 62) #[] #[.pointer (some ⟨g2, 0, none⟩)]] w fun e w' => e = .returned (.bool r) ∧ Below w.heap.size w w' := by
 have a5 := Aside0.mk hr0; have a3 := Aside0.mk hc0; clear hr0 hc0; have a6 := Aside0.mk hr2; have a4 := Aside0.mk hc2; clear hr2 hc2; have a1 := Aside0.mk hb2_; clear hb2_; have HB := AS (Below.refl w.heap.size w); have H : ((impl_Basin_74.f k l0 l2).bind fun a0 => (some (decide (a0 ≥ 0)))) = some r := h; clear h; replace H := OC H; obtain ⟨a0, a2, H⟩ := H; replace H : (some (decide (a0 ≥ 0))) = some r := H; have A4 := Aside0.mk a2; clear a2; obtain rfl := Option.some.inj H; go_enter Try.func61, Try.ntmps61; go_wp2_with (first | ((with_reducible refine gate_callee (f := 74) rfl ?_); refine goesM 7 Try.func74 #[.slice A0 l0.length c0, .func (.func 62) #[] #[.pointer (some ⟨g2, 0, none⟩)]] ?_; (with_reducible refine (impl_Basin_74.calls k _ _ l0  g2 A2 c2 l2 a0 _ ?s1 ?s2 ?s3 ?s4 ?s5 A4.out).mono ?_); (case s1 => exact CS a5.out); (case s2 => exact a3.out); (case s3 => exact (KS a1.out)); (case s4 => exact CS a6.out); (case s5 => exact a4.out); rintro e w5 ⟨rfl, hb⟩; refine ⟨_, rfl, ?_⟩; replace a1 := KB a1 hb; replace HB := BB HB hb; (try clear hb))); go_ret; exact ⟨by first | rfl | (simp [errW_none, errW_some] <;> rfl) | (simp [*, errW_none, errW_some] <;> rfl), BW HB⟩
def impl_alike.f (k : Nat) (l0 : List (S26)) : Option (Bool) := (impl_Basin_61.f k l0 l0).bind fun t166 => (some (!t166))
theorem impl_alike.mono : ∀ a0 k, LeO (impl_alike.f k a0) (impl_alike.f (k + 1) a0) := by
  intro a0 k; unfold impl_alike.f
  repeat' first
      | (with_reducible exact impl_Basin_61.mono _ _ _)
      | (with_reducible exact LeO.refl _)
      | (with_reducible exact LeO.none _)
      | (with_reducible refine LeO.ite ?_ ?_)
      | (with_reducible refine LeO.bind ?_ (fun _ => ?_))
      | exact impl_Basin_61.mono _ _ _
      | exact LeO.none _
      | refine LeO.ite ?_ ?_
      | refine LeO.bind ?_ (fun _ => ?_)
set_option maxHeartbeats 8000000 in
set_option maxRecDepth 100000 in
theorem impl_alike.calls (k : Nat) (A0 : Option Addr) (c0 : Nat) (l0 : List (S26)) (r : Bool) (w : World) (hr0 : Kd.C k26 w A0 l0.length l0) (hc0 : l0.length ≤ c0) (h : impl_alike.f k l0 = some r) :
  Calls Try.prog 31 #[.slice A0 l0.length c0] w fun e w' => e = .returned (.bool r) ∧ Below w.heap.size w w' := by
 have a8 := Aside0.mk hr0; have a7 := Aside0.mk hc0; clear hr0 hc0; have HB := AS (Below.refl w.heap.size w); have H : ((impl_Basin_61.f k l0 l0).bind fun a2 => (some (!a2))) = some r := h; clear h; replace H := OC H; obtain ⟨a2, a5, H⟩ := H; replace H : (some (!a2)) = some r := H; have A2 := Aside0.mk a5; clear a5; obtain rfl := Option.some.inj H; go_enter Try.func31, Try.ntmps31; go_wp2_with (first | ((with_reducible refine gate_dst (N := 1) rfl ?_); refine boxM 1 #[.slice A0 l0.length c0] 81 ?_; intro a1 hg w3 hbox hb; have a0 := AS (hbox); have a6 := BG HB hg; replace HB := BB HB hb; clear hb hbox hg; have a3 : w3.cell? ⟨a1, 0, none⟩ = some (.slice A0 l0.length c0) := (blk_cell a0.out 0).trans rfl; have a4 := blk_frozen a0.out 0) | ((with_reducible refine gate_callee (f := 61) rfl ?_); refine goesM 5 Try.func61 #[.slice A0 l0.length c0, .func (.func 62) #[] #[.pointer (some ⟨a1, 0, none⟩)]] ?_; (with_reducible refine (impl_Basin_61.calls k _ _ l0  a1 A0 c0 l0 a2 _ ?s1 ?s2 ?s3 ?s4 ?s5 A2.out).mono ?_); (case s1 => exact CS (Kd.C_below a8.out HB.out)); (case s2 => exact a7.out); (case s3 => exact (KS a0.out)); (case s4 => exact CS (Kd.C_below a8.out HB.out)); (case s5 => exact a7.out); rintro e w5 ⟨rfl, hb⟩; refine ⟨_, rfl, ?_⟩; replace a0 := KB a0 hb; replace HB := BB HB hb; (try clear hb))); go_ret; exact ⟨by first | rfl | (simp [errW_none, errW_some] <;> rfl) | (simp [*, errW_none, errW_some] <;> rfl), BW HB⟩
def impl_Basin_around.f (a0_0 : Int) (a0_1 : Int) (l0_2 : List Nat) (a1 : Int) (a2 : Int) : Option (Nat) := (impl_Basin_at.f a0_0 a0_1 l0_2 (wrap64 (a1 - 1)) a2).bind fun t167 => ((impl_Basin_at.f a0_0 a0_1 l0_2 (wrap64 (a1 + 1)) a2).bind fun t168 => (if fok .add .f32 t167 t168 = true then ((impl_Basin_at.f a0_0 a0_1 l0_2 a1 (wrap64 (a2 - 1))).bind fun t169 => ((impl_Basin_at.f a0_0 a0_1 l0_2 a1 (wrap64 (a2 + 1))).bind fun t170 => (if fok .add .f32 t169 t170 = true then (if fok .add .f32 (fop .add .f32 t167 t168) (fop .add .f32 t169 t170) = true then (some (fop .add .f32 (fop .add .f32 t167 t168) (fop .add .f32 t169 t170))) else (none)) else (none)))) else (none)))
set_option maxHeartbeats 8000000 in
set_option maxRecDepth 100000 in
theorem impl_Basin_around.calls (g0 : Nat) (a7 : Int) (a8 : Int) (ab : Option Addr) (ac : Nat) (a0 : List Nat) (a1 : Int) (a2 : Int) (r : Nat) (w : World) (hb0_ : w.heap[g0]? = some (.cells #[.int .i64 a7, .int .i64 a8, .slice ab a0.length ac] 26 (0, 0))) (hr0_2 : Kd.C (Kd.float .f32) w ab a0.length a0) (ae : a0.length ≤ ac) (h : impl_Basin_around.f a7 a8 a0 a1 a2 = some r) :
  Calls Try.prog 63 #[.pointer (some ⟨g0, 0, none⟩), .int .i64 a1, .int .i64 a2] w fun e w' => e = .returned (.float .f32 r) ∧ Below w.heap.size w w' := by
 have aa := Aside0.mk hr0_2; have a9 := Aside0.mk ae; clear hr0_2 ae; have ad := Aside0.mk hb0_; clear hb0_; have HB := AS (Below.refl w.heap.size w); have H : ((impl_Basin_at.f a7 a8 a0 (wrap64 (a1 - 1)) a2).bind fun a5 => ((impl_Basin_at.f a7 a8 a0 (wrap64 (a1 + 1)) a2).bind fun a6 => (if fok .add .f32 a5 a6 = true then ((impl_Basin_at.f a7 a8 a0 a1 (wrap64 (a2 - 1))).bind fun a3 => ((impl_Basin_at.f a7 a8 a0 a1 (wrap64 (a2 + 1))).bind fun a4 => (if fok .add .f32 a3 a4 = true then (if fok .add .f32 (fop .add .f32 a5 a6) (fop .add .f32 a3 a4) = true then (some (fop .add .f32 (fop .add .f32 a5 a6) (fop .add .f32 a3 a4))) else (none)) else (none)))) else (none)))) = some r := h; clear h; replace H := OC H; obtain ⟨a5, ag, H⟩ := H; (try dsimp only at H); have A4 := Aside0.mk ag; clear ag; replace H := OC H; obtain ⟨a6, ah, H⟩ := H; (try dsimp only at H); have A5 := Aside0.mk ah; clear ah; by_cases c6 : fok .add .f32 a5 a6 = true
 ·rw [if_pos c6] at H
  have am := eq_true c6; have an : decide (fok .add .f32 a5 a6 = true) = true := decide_eq_true c6; clear c6; replace H := OC H; obtain ⟨a3, ai, H⟩ := H; (try dsimp only at H); have A7 := Aside0.mk ai; clear ai; replace H := OC H; obtain ⟨a4, aj, H⟩ := H; replace H : (if fok .add .f32 a3 a4 = true then (if fok .add .f32 (fop .add .f32 a5 a6) (fop .add .f32 a3 a4) = true then (some (fop .add .f32 (fop .add .f32 a5 a6) (fop .add .f32 a3 a4))) else (none)) else (none)) = some r := H; have A8 := Aside0.mk aj; clear aj; by_cases c9 : fok .add .f32 a3 a4 = true
  ·rw [if_pos c9] at H
   have ao := eq_true c9; have ap : decide (fok .add .f32 a3 a4 = true) = true := decide_eq_true c9; clear c9; by_cases af : fok .add .f32 (fop .add .f32 a5 a6) (fop .add .f32 a3 a4) = true
   ·rw [if_pos af] at H
    have ak := eq_true af; have al : decide (fok .add .f32 (fop .add .f32 a5 a6) (fop .add .f32 a3 a4) = true) = true := decide_eq_true af; clear af; obtain rfl := Option.some.inj H; go_enter Try.func63, Try.ntmps63; go_wp2_with (first | ((with_reducible refine gate_callee (f := 34) rfl ?_); refine goesM 11 Try.func34 #[.pointer (some ⟨g0, 0, none⟩), .int .i64 (wrap64 (a1 - 1)), .int .i64 a2] ?_; (with_reducible refine (impl_Basin_at.calls g0 a7 a8 ab ac a0 (wrap64 (a1 - 1)) a2 a5 _ ?s1 ?s2 ?s3 A4.out).mono ?_); (case s1 => exact (KS ad.out)); (case s2 => exact CS aa.out); (case s3 => exact a9.out); rintro e aq ⟨rfl, hb⟩; refine ⟨_, rfl, ?_⟩; replace ad := KB ad hb; replace HB := BB HB hb; (try clear hb)) | ((with_reducible refine gate_callee (f := 34) rfl ?_); refine goesM 16 Try.func34 #[.pointer (some ⟨g0, 0, none⟩), .int .i64 (wrap64 (a1 + 1)), .int .i64 a2] ?_; (with_reducible refine (impl_Basin_at.calls g0 a7 a8 ab ac a0 (wrap64 (a1 + 1)) a2 a6 _ ?s1 ?s2 ?s3 A5.out).mono ?_); (case s1 => exact (KS ad.out)); (case s2 => exact CS (Kd.C_below aa.out HB.out)); (case s3 => exact a9.out); rintro e ar ⟨rfl, hb⟩; refine ⟨_, rfl, ?_⟩; replace ad := KB ad hb; replace HB := BB HB hb; (try clear hb)) | ((with_reducible refine gate_callee (f := 34) rfl ?_); refine goesM 22 Try.func34 #[.pointer (some ⟨g0, 0, none⟩), .int .i64 a1, .int .i64 (wrap64 (a2 - 1))] ?_; (with_reducible refine (impl_Basin_at.calls g0 a7 a8 ab ac a0 a1 (wrap64 (a2 - 1)) a3 _ ?s1 ?s2 ?s3 A7.out).mono ?_); (case s1 => exact (KS ad.out)); (case s2 => exact CS (Kd.C_below aa.out HB.out)); (case s3 => exact a9.out); rintro e au ⟨rfl, hb⟩; refine ⟨_, rfl, ?_⟩; replace ad := KB ad hb; replace HB := BB HB hb; (try clear hb)) | ((with_reducible refine gate_callee (f := 34) rfl ?_); refine goesM 27 Try.func34 #[.pointer (some ⟨g0, 0, none⟩), .int .i64 a1, .int .i64 (wrap64 (a2 + 1))] ?_; (with_reducible refine (impl_Basin_at.calls g0 a7 a8 ab ac a0 a1 (wrap64 (a2 + 1)) a4 _ ?s1 ?s2 ?s3 A8.out).mono ?_); (case s1 => exact (KS ad.out)); (case s2 => exact CS (Kd.C_below aa.out HB.out)); (case s3 => exact a9.out); rintro e av ⟨rfl, hb⟩; refine ⟨_, rfl, ?_⟩; replace ad := KB ad hb; replace HB := BB HB hb; (try clear hb))); go_ret; exact ⟨by first | rfl | (simp [errW_none, errW_some] <;> rfl) | (simp [*, errW_none, errW_some] <;> rfl), BW HB⟩
   rw [if_neg af] at H
   exact absurd H (by simp)
  rw [if_neg c9] at H
  exact absurd H (by simp)
 rw [if_neg c6] at H
 exact absurd H (by simp)
def impl_Basin_laplace.f (a0_0 : Int) (a0_1 : Int) (l0_2 : List Nat) (a1 : Int) (a2 : Int) : Option (Nat) := (impl_Basin_around.f a0_0 a0_1 l0_2 a1 a2).bind fun t171 => ((impl_Basin_at.f a0_0 a0_1 l0_2 a1 a2).bind fun t172 => (if fok .mul .f32 1082130432 t172 = true then (if fok .sub .f32 t171 (fop .mul .f32 1082130432 t172) = true then (some (fop .sub .f32 t171 (fop .mul .f32 1082130432 t172))) else (none)) else (none)))
set_option maxHeartbeats 8000000 in
set_option maxRecDepth 100000 in
theorem impl_Basin_laplace.calls (g0 : Nat) (a5 : Int) (a6 : Int) (a7 : Option Addr) (a8 : Nat) (a3 : List Nat) (a1 : Int) (a2 : Int) (r : Nat) (w : World) (hb0_ : w.heap[g0]? = some (.cells #[.int .i64 a5, .int .i64 a6, .slice a7 a3.length a8] 26 (0, 0))) (hr0_2 : Kd.C (Kd.float .f32) w a7 a3.length a3) (ab : a3.length ≤ a8) (h : impl_Basin_laplace.f a5 a6 a3 a1 a2 = some r) :
  Calls Try.prog 35 #[.pointer (some ⟨g0, 0, none⟩), .int .i64 a1, .int .i64 a2] w fun e w' => e = .returned (.float .f32 r) ∧ Below w.heap.size w w' := by
 have aa := Aside0.mk hr0_2; have a9 := Aside0.mk ab; clear hr0_2 ab; have ac := Aside0.mk hb0_; clear hb0_; have HB := AS (Below.refl w.heap.size w); have H : ((impl_Basin_around.f a5 a6 a3 a1 a2).bind fun a4 => ((impl_Basin_at.f a5 a6 a3 a1 a2).bind fun a0 => (if fok .mul .f32 1082130432 a0 = true then (if fok .sub .f32 a4 (fop .mul .f32 1082130432 a0) = true then (some (fop .sub .f32 a4 (fop .mul .f32 1082130432 a0))) else (none)) else (none)))) = some r := h; clear h; replace H := OC H; obtain ⟨a4, ad, H⟩ := H; replace H : ((impl_Basin_at.f a5 a6 a3 a1 a2).bind fun a0 => (if fok .mul .f32 1082130432 a0 = true then (if fok .sub .f32 a4 (fop .mul .f32 1082130432 a0) = true then (some (fop .sub .f32 a4 (fop .mul .f32 1082130432 a0))) else (none)) else (none))) = some r := H; have A4 := Aside0.mk ad; clear ad; replace H := OC H; obtain ⟨a0, ae, H⟩ := H; replace H : (if fok .mul .f32 1082130432 a0 = true then (if fok .sub .f32 a4 (fop .mul .f32 1082130432 a0) = true then (some (fop .sub .f32 a4 (fop .mul .f32 1082130432 a0))) else (none)) else (none)) = some r := H; have A5 := Aside0.mk ae; clear ae; by_cases c6 : fok .mul .f32 1082130432 a0 = true
 ·rw [if_pos c6] at H
  have af := eq_true c6; have ag : decide (fok .mul .f32 1082130432 a0 = true) = true := decide_eq_true c6; clear c6; by_cases c7 : fok .sub .f32 a4 (fop .mul .f32 1082130432 a0) = true
  ·rw [if_pos c7] at H
   have ah := eq_true c7; have ai : decide (fok .sub .f32 a4 (fop .mul .f32 1082130432 a0) = true) = true := decide_eq_true c7; clear c7; obtain rfl := Option.some.inj H; go_enter Try.func35, Try.ntmps35; go_wp2_with (first | ((with_reducible refine gate_callee (f := 63) rfl ?_); refine goesM 10 Try.func63 #[.pointer (some ⟨g0, 0, none⟩), .int .i64 a1, .int .i64 a2] ?_; (with_reducible refine (impl_Basin_around.calls g0 a5 a6 a7 a8 a3 a1 a2 a4 _ ?s1 ?s2 ?s3 A4.out).mono ?_); (case s1 => exact (KS ac.out)); (case s2 => exact CS aa.out); (case s3 => exact a9.out); rintro e w8 ⟨rfl, hb⟩; refine ⟨_, rfl, ?_⟩; replace ac := KB ac hb; replace HB := BB HB hb; (try clear hb)) | ((with_reducible refine gate_callee (f := 34) rfl ?_); refine goesM 14 Try.func34 #[.pointer (some ⟨g0, 0, none⟩), .int .i64 a1, .int .i64 a2] ?_; (with_reducible refine (impl_Basin_at.calls g0 a5 a6 a7 a8 a3 a1 a2 a0 _ ?s1 ?s2 ?s3 A5.out).mono ?_); (case s1 => exact (KS ac.out)); (case s2 => exact CS (Kd.C_below aa.out HB.out)); (case s3 => exact a9.out); rintro e w9 ⟨rfl, hb⟩; refine ⟨_, rfl, ?_⟩; replace ac := KB ac hb; replace HB := BB HB hb; (try clear hb))); go_ret; exact ⟨by first | rfl | (simp [errW_none, errW_some] <;> rfl) | (simp [*, errW_none, errW_some] <;> rfl), BW HB⟩
  rw [if_neg c7] at H
  exact absurd H (by simp)
 rw [if_neg c6] at H
 exact absurd H (by simp)
def IsS78 (w0 W : World) (g : Nat) (f0 : List Int) (f1 : Int) (f2 : Int) : Prop := ∃ A0 c0, W.heap[g]? = some (.cells #[.slice A0 f0.length c0, .int .i64 f1, .int .u64 f2] 78 (0, 0)) ∧ w0.heap.size ≤ g ∧ Kd.C (Kd.int .u8) w0 A0 f0.length f0
theorem IsS78.grown {w0 W : World} {g : Nat} {f0 : List Int} {f1 : Int} {f2 : Int} {W1 : World} {row : Option Nat} (h : IsS78 w0 W g f0 f1 f2) (hw : W.grownBy W1 row) (hne : some g ≠ row) : IsS78 w0 W1 g f0 f1 f2 := by
  obtain ⟨A0, c0, hb, hg, hr0⟩ := h; exact ⟨A0, c0, blk_grown hb hw hne, hg, hr0⟩
theorem IsS78.below {w0 W : World} {g : Nat} {f0 : List Int} {f1 : Int} {f2 : Int} {W1 : World} (h : IsS78 w0 W g f0 f1 f2) (hw : Below W.heap.size W W1) : IsS78 w0 W1 g f0 f1 f2 := h.grown (grown_of_below hw none) (by simp)
theorem IsS78.drewN {w0 W : World} {g : Nat} {f0 : List Int} {f1 : Int} {f2 : Int} (h : IsS78 w0 W g f0 f1 f2) (m : Nat) : IsS78 w0 (W.drewN m) g f0 f1 f2 := h
theorem IsS78.drew {w0 W : World} {g : Nat} {f0 : List Int} {f1 : Int} {f2 : Int} (h : IsS78 w0 W g f0 f1 f2) : IsS78 w0 W.drew g f0 f1 f2 := h
theorem IsS78.apart {w0 W : World} {g : Nat} {f0 : List Int} {f1 : Int} {f2 : Int} {α : Type} {d : Kd α} {e : Nat} {base : Nat} {ok : Nat → Prop} {v : Value} {xs : List α} (h : IsS78 w0 W g f0 f1 f2) (ho : d.R e W base ok v xs) (ht : ∀ q, q ∈ e :: d.E → q ≠ 78) : d.R e W base (fun k => ok k ∧ k ≠ g) v xs := by
  obtain ⟨A0, c0, hb, hg, hr0⟩ := h; exact Kd.R_types ho hb ht
theorem IsS78.own_ne {w0 W : World} {g : Nat} {f0 : List Int} {f1 : Int} {f2 : Int} {α : Type} {d : Kd α} {e : Nat} {base : Nat} {ok : Nat → Prop} {v : Value} {xs : List α} (h : IsS78 w0 W g f0 f1 f2) (ho : d.R e W base ok v xs) (ht : e ≠ 78) : some g ≠ v.ownBlock := by
  obtain ⟨A0, c0, hb, hg, hr0⟩ := h; exact Kd.R_ne ho hb ht
theorem IsS78.lt {w0 W : World} {g : Nat} {f0 : List Int} {f1 : Int} {f2 : Int} (h : IsS78 w0 W g f0 f1 f2) : g < W.heap.size := by
  obtain ⟨A0, c0, hb, hg, hr0⟩ := h; exact blk_lt hb
theorem IsS78.ge {w0 W : World} {g : Nat} {f0 : List Int} {f1 : Int} {f2 : Int} (h : IsS78 w0 W g f0 f1 f2) : w0.heap.size ≤ g := by
  obtain ⟨A0, c0, hb, hg, hr0⟩ := h; exact hg
theorem IsS78.ne_blk {w0 W : World} {g : Nat} {f0 : List Int} {f1 : Int} {f2 : Int} {a : Nat} {cs : Array Value} {t : TypeId} {fr : Nat × Nat} (h : IsS78 w0 W g f0 f1 f2) (hb2 : W.heap[a]? = some (.cells cs t fr)) (ht : t ≠ 78) : g ≠ a := by
  obtain ⟨A0, c0, hb, hg, hr0⟩ := h; rintro rfl; rw [hb] at hb2; injection hb2 with hb2; injection hb2 with _ ht2; exact ht ht2.symm
theorem IsS78.far {w0 W : World} {g : Nat} {f0 : List Int} {f1 : Int} {f2 : Int} {p : Addr} (h : IsS78 w0 W g f0 f1 f2) (hne : g ≠ p.block) (u : Value) : IsS78 w0 (W.setCell p u) g f0 f1 f2 := by
  obtain ⟨A0, c0, hb, hg, hr0⟩ := h; exact ⟨A0, c0, blk_far hb hne u, hg, hr0⟩
theorem cellS78_0 {W : World} {g : Nat} {A0 : Option Addr} {c0 : Nat} {f0 : List Int} {f1 : Int} {f2 : Int} (h : W.heap[g]? = some (.cells #[.slice A0 f0.length c0, .int .i64 f1, .int .u64 f2] 78 (0, 0))) : W.cell? ⟨g, 0, none⟩ = some (.slice A0 f0.length c0) := (blk_cell h 0).trans rfl
theorem cellS78_1 {W : World} {g : Nat} {A0 : Option Addr} {c0 : Nat} {f0 : List Int} {f1 : Int} {f2 : Int} (h : W.heap[g]? = some (.cells #[.slice A0 f0.length c0, .int .i64 f1, .int .u64 f2] 78 (0, 0))) : W.cell? ⟨g, 1, none⟩ = some (.int .i64 f1) := (blk_cell h 1).trans rfl
theorem IsS78.set_1 {w0 W : World} {g : Nat} {f0 : List Int} {f1 : Int} {f2 : Int} (h : IsS78 w0 W g f0 f1 f2) (x : Int) : IsS78 w0 (W.setCell ⟨g, 1, none⟩ (.int .i64 x)) g f0 x f2 := by
  obtain ⟨A0, c0, hb, hg, hr0⟩ := h; exact ⟨A0, c0, by simpa using blk_set hb 1 (.int .i64 x), hg, hr0⟩
theorem cellS78_2 {W : World} {g : Nat} {A0 : Option Addr} {c0 : Nat} {f0 : List Int} {f1 : Int} {f2 : Int} (h : W.heap[g]? = some (.cells #[.slice A0 f0.length c0, .int .i64 f1, .int .u64 f2] 78 (0, 0))) : W.cell? ⟨g, 2, none⟩ = some (.int .u64 f2) := (blk_cell h 2).trans rfl
theorem IsS78.set_2 {w0 W : World} {g : Nat} {f0 : List Int} {f1 : Int} {f2 : Int} (h : IsS78 w0 W g f0 f1 f2) (x : Int) : IsS78 w0 (W.setCell ⟨g, 2, none⟩ (.int .u64 x)) g f0 f1 x := by
  obtain ⟨A0, c0, hb, hg, hr0⟩ := h; exact ⟨A0, c0, by simpa using blk_set hb 2 (.int .u64 x), hg, hr0⟩
def spec_l00From.f (l0 : List Int) : Option (List Int × Int × Int) := some (l0, 0, 0)
set_option maxHeartbeats 8000000 in
set_option maxRecDepth 100000 in
theorem spec_l00From.calls (A0 : Option Addr) (c0 : Nat) (l0 : List Int) (r1 : List Int) (r2 : Int) (r3 : Int) (w0 w : World) (hB : Below w0.heap.size w0 w) (hr0 : Kd.C (Kd.int .u8) w0 A0 l0.length l0) (hc0 : l0.length ≤ c0) (h : spec_l00From.f l0 = some (r1, r2, r3)) :
  Calls Try.prog 28 #[.slice A0 l0.length c0] w fun e w' => ∃ g_ : Nat, e = .returned (.pointer (some ⟨g_, 0, none⟩)) ∧ IsS78 w0 w' g_ r1 r2 r3 ∧ Below w0.heap.size w0 w' ∧ Below w.heap.size w w' := by
 have hu78 := Try.underlying78; have a5 := Aside0.mk hr0; have a6 := Aside0.mk hc0; clear hr0 hc0; have HBW := AS (Below.refl w.heap.size w); have HW0 := Aside0.mk hB.size; have HB := Aside0.mk hB; clear hB; have H : (some (l0, 0, 0)) = some (r1, r2, r3) := h; clear h; simp only [Option.some.injEq, Prod.mk.injEq] at H; obtain ⟨rfl, rfl, rfl⟩ := H; go_enter Try.func28, Try.ntmps28; go_wp2_with (first | ((with_reducible refine gate_dst (N := 5) rfl ?_); refine boxM 5 #[.slice A0 l0.length c0, .int .i64 0, .int .u64 0] 78 ?_; intro a0 hg w2 hbox hb; have a4 := AS (below_step HBW.out hb); have a1 := AS (hbox); have a3 := AS ((by rw [hg]; exact (below_size (by repeat (first | (with_reducible first | exact HBW.out | apply below_alloc | apply pw_below_drewN | apply below_drew1) | exact HBW.out))) : w.heap.size ≤ a0)); have a2 := AS ((Nat.le_trans HW0.out (by rw [hg]; exact (below_size (by repeat (first | (with_reducible first | exact HBW.out | apply below_alloc | apply pw_below_drewN | apply below_drew1) | exact HBW.out))) : w.heap.size ≤ a0) : w0.heap.size ≤ a0)); replace HB := BB HB hb; replace HBW := a4; clear a4; clear hb hbox hg)); go_ret; exact ⟨_, rfl, (show IsS78 w0 _ a0 l0 0 0 from ⟨_, _, KS a1.out, a2.out, a5.out⟩), BW HB, by repeat (first | (with_reducible first | exact HBW.out | apply below_alloc | apply pw_below_drewN | apply below_drew1 | refine below_set ?_ a3.out) | exact HBW.out)⟩
def spec_l00Src_next.f (s0_0 : List Int) (s0_1 : Int) (s0_2 : Int) : Option (Int × Int × Int) := if s0_1 < (s0_0.length : Int) then (if 0 ≤ s0_1 then (if (wrap64 (s0_1 + 1)) ≤ (s0_0.length : Int) then (some (wrap64 (rd s0_0 s0_1), wrap64 (s0_1 + 1), IntKind.u64.wrap ((IntKind.u64.wrap ((IntKind.u64.wrap (s0_2 * 6364136223846793005)) + (IntKind.u64.wrap (wrap64 (rd s0_0 s0_1))))) + 1442695040888963407))) else (some (wrap64 (Go.bits .and .u64 ((IntKind.u64.wrap ((IntKind.u64.wrap ((IntKind.u64.wrap (s0_2 * 6364136223846793005)) + (IntKind.u64.wrap (wrap64 (rd s0_0 s0_1))))) + 1442695040888963407)) / 1099511627776) 255), wrap64 (s0_1 + 1), IntKind.u64.wrap ((IntKind.u64.wrap ((IntKind.u64.wrap (s0_2 * 6364136223846793005)) + (IntKind.u64.wrap (wrap64 (rd s0_0 s0_1))))) + 1442695040888963407)))) else (none)) else (if (wrap64 (s0_1 + 1)) ≤ (s0_0.length : Int) then (some (0, wrap64 (s0_1 + 1), IntKind.u64.wrap ((IntKind.u64.wrap ((IntKind.u64.wrap (s0_2 * 6364136223846793005)) + 0)) + 1442695040888963407))) else (some (wrap64 (Go.bits .and .u64 ((IntKind.u64.wrap ((IntKind.u64.wrap ((IntKind.u64.wrap (s0_2 * 6364136223846793005)) + 0)) + 1442695040888963407)) / 1099511627776) 255), wrap64 (s0_1 + 1), IntKind.u64.wrap ((IntKind.u64.wrap ((IntKind.u64.wrap (s0_2 * 6364136223846793005)) + 0)) + 1442695040888963407))))
set_option maxHeartbeats 8000000 in
set_option maxRecDepth 100000 in
theorem spec_l00Src_next.calls (g : Nat) (s0_0 : List Int) (s0_1 : Int) (s0_2 : Int) (r1 : Int) (r2 : Int) (r3 : Int) (w0 w : World) (hI : IsS78 w0 w g s0_0 s0_1 s0_2) (hB : Below w0.heap.size w0 w) (h : spec_l00Src_next.f s0_0 s0_1 s0_2 = some (r1, r2, r3)) :
  Calls Try.prog 73 #[.pointer (some ⟨g, 0, none⟩)] w fun e w' => e = .returned (.int .i64 r1) ∧ IsS78 w0 w' g s0_0 r2 r3 ∧ Below w0.heap.size w0 w' ∧ KeepBut w w' g none := by
 have HI0 := Aside0.mk hI; have HK := AS (KeepBut.refl w g none); have HL := Aside0.mk hB.size; clear hI; have HW0 := Aside0.mk hB.size; have HB := Aside0.mk hB; clear hB; have H : (if s0_1 < (s0_0.length : Int) then (if 0 ≤ s0_1 then (if (wrap64 (s0_1 + 1)) ≤ (s0_0.length : Int) then (some (wrap64 (rd s0_0 s0_1), wrap64 (s0_1 + 1), IntKind.u64.wrap ((IntKind.u64.wrap ((IntKind.u64.wrap (s0_2 * 6364136223846793005)) + (IntKind.u64.wrap (wrap64 (rd s0_0 s0_1))))) + 1442695040888963407))) else (some (wrap64 (Go.bits .and .u64 ((IntKind.u64.wrap ((IntKind.u64.wrap ((IntKind.u64.wrap (s0_2 * 6364136223846793005)) + (IntKind.u64.wrap (wrap64 (rd s0_0 s0_1))))) + 1442695040888963407)) / 1099511627776) 255), wrap64 (s0_1 + 1), IntKind.u64.wrap ((IntKind.u64.wrap ((IntKind.u64.wrap (s0_2 * 6364136223846793005)) + (IntKind.u64.wrap (wrap64 (rd s0_0 s0_1))))) + 1442695040888963407)))) else (none)) else (if (wrap64 (s0_1 + 1)) ≤ (s0_0.length : Int) then (some (0, wrap64 (s0_1 + 1), IntKind.u64.wrap ((IntKind.u64.wrap ((IntKind.u64.wrap (s0_2 * 6364136223846793005)) + 0)) + 1442695040888963407))) else (some (wrap64 (Go.bits .and .u64 ((IntKind.u64.wrap ((IntKind.u64.wrap ((IntKind.u64.wrap (s0_2 * 6364136223846793005)) + 0)) + 1442695040888963407)) / 1099511627776) 255), wrap64 (s0_1 + 1), IntKind.u64.wrap ((IntKind.u64.wrap ((IntKind.u64.wrap (s0_2 * 6364136223846793005)) + 0)) + 1442695040888963407))))) = some (r1, r2, r3) := h; clear h; by_cases c2 : s0_1 < (s0_0.length : Int)
 ·rw [if_pos c2] at H
  have a1 : decide (s0_1 < (s0_0.length : Int)) = true := decide_eq_true c2; clear c2; by_cases c3 : 0 ≤ s0_1
  ·rw [if_pos c3] at H
   have ao : decide (0 ≤ s0_1) = true := decide_eq_true c3; clear c3; by_cases c4 : (wrap64 (s0_1 + 1)) ≤ (s0_0.length : Int)
   ·rw [if_pos c4] at H
    have a2 : decide ((wrap64 (s0_1 + 1)) ≤ (s0_0.length : Int)) = true := decide_eq_true c4; clear c4; simp only [Option.some.injEq, Prod.mk.injEq] at H; obtain ⟨rfl, rfl, rfl⟩ := H; obtain ⟨ASz5_0, cSz5_0, HGz5, hgz5, HSz5_0⟩ := HI0.out; have a4 := cellS78_0 HGz5; have a5 := cellS78_1 HGz5; have a6 := cellS78_2 HGz5; have ag := blk_frozen HGz5 1; have ah := blk_frozen HGz5 2; clear HGz5 hgz5; have p174 : 0 ≤ (s0_1 : Int) := of_decide_eq_true (by first | (with_reducible assumption) | assumption); have q174 : s0_1 < (s0_0.length : Int) := of_decide_eq_true (by first | (with_reducible assumption) | assumption); obtain ⟨ad174, e174, a0⟩ := Kd.at_int HSz5_0 s0_1 p174 q174; cases e174; replace a0 := pw_cell_below HB.out a0; replace p174 := eq_true p174; replace q174 := eq_true q174; go_enter Try.func73, Try.ntmps73; go_wp2; (repeat (go_quiet (fail); try go_wp2)); go_ret; (try simp only [Int.add_zero]); exact ⟨by first | rfl | (simp [errW_none, errW_some] <;> rfl) | (simp [*, errW_none, errW_some] <;> rfl), by repeat (first | (with_reducible first | exact HI0.out | apply IsS78.alloc | apply IsS78.drewN | apply IsS78.drew | apply IsS78.set_1 | apply IsS78.set_2) | exact HI0.out), by repeat (first | (with_reducible first | exact HB.out | apply below_alloc | apply pw_below_drewN | apply below_drew1 | refine below_set ?_ (IsS78.ge HI0.out)) | exact HB.out), by repeat (first | (with_reducible first | exact HK.out | apply KeepBut.set_ | apply keep_drewN | apply keep_drew | apply keep_alloc) | exact HK.out)⟩
   rw [if_neg c4] at H
   have a2 : decide ((wrap64 (s0_1 + 1)) ≤ (s0_0.length : Int)) = false := decide_eq_false c4; clear c4; simp only [Option.some.injEq, Prod.mk.injEq] at H; obtain ⟨rfl, rfl, rfl⟩ := H; obtain ⟨ASz6_0, cSz6_0, HGz6, hgz6, HSz6_0⟩ := HI0.out; have a7 := cellS78_0 HGz6; have a8 := cellS78_1 HGz6; have a9 := cellS78_2 HGz6; have ai := blk_frozen HGz6 1; have aj := blk_frozen HGz6 2; clear HGz6 hgz6; have p174 : 0 ≤ (s0_1 : Int) := of_decide_eq_true (by first | (with_reducible assumption) | assumption); have q174 : s0_1 < (s0_0.length : Int) := of_decide_eq_true (by first | (with_reducible assumption) | assumption); obtain ⟨ad174, e174, a0⟩ := Kd.at_int HSz6_0 s0_1 p174 q174; cases e174; replace a0 := pw_cell_below HB.out a0; replace p174 := eq_true p174; replace q174 := eq_true q174; go_enter Try.func73, Try.ntmps73; go_wp2; (repeat (go_quiet (fail); try go_wp2)); go_ret; (try simp only [Int.add_zero]); exact ⟨by first | rfl | (simp [errW_none, errW_some] <;> rfl) | (simp [*, errW_none, errW_some] <;> rfl), by repeat (first | (with_reducible first | exact HI0.out | apply IsS78.alloc | apply IsS78.drewN | apply IsS78.drew | apply IsS78.set_1 | apply IsS78.set_2) | exact HI0.out), by repeat (first | (with_reducible first | exact HB.out | apply below_alloc | apply pw_below_drewN | apply below_drew1 | refine below_set ?_ (IsS78.ge HI0.out)) | exact HB.out), by repeat (first | (with_reducible first | exact HK.out | apply KeepBut.set_ | apply keep_drewN | apply keep_drew | apply keep_alloc) | exact HK.out)⟩
  rw [if_neg c3] at H
  exact absurd H (by simp)
 rw [if_neg c2] at H
 have a1 : decide (s0_1 < (s0_0.length : Int)) = false := decide_eq_false c2; clear c2; by_cases c7 : (wrap64 (s0_1 + 1)) ≤ (s0_0.length : Int)
 ·rw [if_pos c7] at H
  have a3 : decide ((wrap64 (s0_1 + 1)) ≤ (s0_0.length : Int)) = true := decide_eq_true c7; clear c7; simp only [Option.some.injEq, Prod.mk.injEq] at H; obtain ⟨rfl, rfl, rfl⟩ := H; obtain ⟨ASz8_0, cSz8_0, HGz8, hgz8, HSz8_0⟩ := HI0.out; have aa := cellS78_0 HGz8; have ab := cellS78_1 HGz8; have ac := cellS78_2 HGz8; have ak := blk_frozen HGz8 1; have al := blk_frozen HGz8 2; clear HGz8 hgz8; go_enter Try.func73, Try.ntmps73; go_wp2; (repeat (go_quiet (fail); try go_wp2)); go_ret; (try simp only [Int.add_zero]); exact ⟨by first | rfl | (simp [errW_none, errW_some] <;> rfl) | (simp [*, errW_none, errW_some] <;> rfl), by repeat (first | (with_reducible first | exact HI0.out | apply IsS78.alloc | apply IsS78.drewN | apply IsS78.drew | apply IsS78.set_1 | apply IsS78.set_2) | exact HI0.out), by repeat (first | (with_reducible first | exact HB.out | apply below_alloc | apply pw_below_drewN | apply below_drew1 | refine below_set ?_ (IsS78.ge HI0.out)) | exact HB.out), by repeat (first | (with_reducible first | exact HK.out | apply KeepBut.set_ | apply keep_drewN | apply keep_drew | apply keep_alloc) | exact HK.out)⟩
 rw [if_neg c7] at H
 have a3 : decide ((wrap64 (s0_1 + 1)) ≤ (s0_0.length : Int)) = false := decide_eq_false c7; clear c7; simp only [Option.some.injEq, Prod.mk.injEq] at H; obtain ⟨rfl, rfl, rfl⟩ := H; obtain ⟨ASz9_0, cSz9_0, HGz9, hgz9, HSz9_0⟩ := HI0.out; have ad := cellS78_0 HGz9; have ae := cellS78_1 HGz9; have af := cellS78_2 HGz9; have am := blk_frozen HGz9 1; have an := blk_frozen HGz9 2; clear HGz9 hgz9; go_enter Try.func73, Try.ntmps73; go_wp2; (repeat (go_quiet (fail); try go_wp2)); go_ret; (try simp only [Int.add_zero]); exact ⟨by first | rfl | (simp [errW_none, errW_some] <;> rfl) | (simp [*, errW_none, errW_some] <;> rfl), by repeat (first | (with_reducible first | exact HI0.out | apply IsS78.alloc | apply IsS78.drewN | apply IsS78.drew | apply IsS78.set_1 | apply IsS78.set_2) | exact HI0.out), by repeat (first | (with_reducible first | exact HB.out | apply below_alloc | apply pw_below_drewN | apply below_drew1 | refine below_set ?_ (IsS78.ge HI0.out)) | exact HB.out), by repeat (first | (with_reducible first | exact HK.out | apply KeepBut.set_ | apply keep_drewN | apply keep_drew | apply keep_alloc) | exact HK.out)⟩
def spec_l00Src_pick.f (s0_0 : List Int) (s0_1 : Int) (s0_2 : Int) (a1 : Int) : Option (Int × Int × Int) := if a1 ≤ 1 then (some (0, s0_1, s0_2)) else ((spec_l00Src_next.f s0_0 s0_1 s0_2).bind fun bt175 => (if a1 > 200 then ((spec_l00Src_next.f s0_0 bt175.2.1 bt175.2.2).bind fun bt178 => (if a1 = 0 then (none) else (some (Int.tmod (wrap64 ((wrap64 (bt175.1 * 256)) + bt178.1)) a1, bt178.2.1, bt178.2.2)))) else (if a1 = 0 then (none) else (some (Int.tmod bt175.1 a1, bt175.2.1, bt175.2.2)))))
set_option maxHeartbeats 8000000 in
set_option maxRecDepth 100000 in
theorem spec_l00Src_pick.calls (g : Nat) (s0_0 : List Int) (s0_1 : Int) (s0_2 : Int) (a1 : Int) (r1 : Int) (r2 : Int) (r3 : Int) (w0 w : World) (hI : IsS78 w0 w g s0_0 s0_1 s0_2) (hB : Below w0.heap.size w0 w) (h : spec_l00Src_pick.f s0_0 s0_1 s0_2 a1 = some (r1, r2, r3)) :
  Calls Try.prog 59 #[.pointer (some ⟨g, 0, none⟩), .int .i64 a1] w fun e w' => e = .returned (.int .i64 r1) ∧ IsS78 w0 w' g s0_0 r2 r3 ∧ Below w0.heap.size w0 w' ∧ KeepBut w w' g none := by
 have HI0 := Aside0.mk hI; have HK := AS (KeepBut.refl w g none); have HL := Aside0.mk hB.size; clear hI; have HW0 := Aside0.mk hB.size; have HB := Aside0.mk hB; clear hB; have H : (if a1 ≤ 1 then (some (0, s0_1, s0_2)) else ((spec_l00Src_next.f s0_0 s0_1 s0_2).bind fun bt175 => (if a1 > 200 then ((spec_l00Src_next.f s0_0 bt175.2.1 bt175.2.2).bind fun bt178 => (if a1 = 0 then (none) else (some (Int.tmod (wrap64 ((wrap64 (bt175.1 * 256)) + bt178.1)) a1, bt178.2.1, bt178.2.2)))) else (if a1 = 0 then (none) else (some (Int.tmod bt175.1 a1, bt175.2.1, bt175.2.2)))))) = some (r1, r2, r3) := h; clear h; by_cases c3 : a1 ≤ 1
 ·rw [if_pos c3] at H
  have a8 : decide (a1 ≤ 1) = true := decide_eq_true c3; clear c3; simp only [Option.some.injEq, Prod.mk.injEq] at H; obtain ⟨rfl, rfl, rfl⟩ := H; go_enter Try.func59, Try.ntmps59; go_wp2; go_ret; exact ⟨by first | rfl | (simp [errW_none, errW_some] <;> rfl) | (simp [*, errW_none, errW_some] <;> rfl), by repeat (first | (with_reducible first | exact HI0.out | apply IsS78.alloc | apply IsS78.drewN | apply IsS78.drew | apply IsS78.set_1 | apply IsS78.set_2) | exact HI0.out), by repeat (first | (with_reducible first | exact HB.out | apply below_alloc | apply pw_below_drewN | apply below_drew1 | refine below_set ?_ (IsS78.ge HI0.out)) | exact HB.out), by repeat (first | (with_reducible first | exact HK.out | apply KeepBut.set_ | apply keep_drewN | apply keep_drew | apply keep_alloc) | exact HK.out)⟩
 rw [if_neg c3] at H
 have a8 : decide (a1 ≤ 1) = false := decide_eq_false c3; clear c3; replace H := OC H; obtain ⟨⟨a0, a2, a3⟩, aa, H⟩ := H; replace H : (if a1 > 200 then ((spec_l00Src_next.f s0_0 a2 a3).bind fun bt178 => (if a1 = 0 then (none) else (some (Int.tmod (wrap64 ((wrap64 (a0 * 256)) + bt178.1)) a1, bt178.2.1, bt178.2.2)))) else (if a1 = 0 then (none) else (some (Int.tmod a0 a1, a2, a3)))) = some (r1, r2, r3) := H; have A4 := Aside0.mk aa; clear aa; by_cases c5 : a1 > 200
 ·rw [if_pos c5] at H
  have a9 : decide (200 < a1) = true := decide_eq_true c5; clear c5; replace H := OC H; obtain ⟨⟨a4, a5, a6⟩, ab, H⟩ := H; replace H : (if a1 = 0 then (none) else (some (Int.tmod (wrap64 ((wrap64 (a0 * 256)) + a4)) a1, a5, a6))) = some (r1, r2, r3) := H; have A6 := Aside0.mk ab; clear ab; by_cases c7 : a1 = 0
  ·rw [if_pos c7] at H
   exact absurd H (by simp)
  rw [if_neg c7] at H
  have ae : (a1 == 0) = false := beq_eq_false_iff_ne.mpr c7; have af : (a1 != 0) = true := bne_iff_ne.mpr c7; simp only [Option.some.injEq, Prod.mk.injEq] at H; obtain ⟨rfl, rfl, rfl⟩ := H; go_enter Try.func59, Try.ntmps59; go_wp2_with (first | ((with_reducible refine gate_callee (f := 73) rfl ?_); refine goesM 9 Try.func73 #[.pointer (some ⟨g, 0, none⟩)] ?_; (with_reducible refine (spec_l00Src_next.calls g s0_0 s0_1 s0_2 a0 a2 a3 w0 _ ?s1 ?s2 A4.out).mono ?_); (case s1 => repeat (first | (with_reducible first | exact HI0.out | apply IsS78.alloc | apply IsS78.drewN | apply IsS78.drew | apply IsS78.set_1 | apply IsS78.set_2) | exact HI0.out)); (case s2 => repeat (first | (with_reducible first | exact HB.out | apply below_alloc | apply pw_below_drewN | apply below_drew1 | refine below_set ?_ (IsS78.ge HI0.out)) | exact HB.out)); rintro e w8 ⟨rfl, hi, hb, hk⟩; refine ⟨_, rfl, ?_⟩; replace HK := AS (KeepBut.trans (by repeat (first | (with_reducible first | exact HK.out | apply KeepBut.set_ | apply keep_drewN | apply keep_drew | apply keep_alloc) | exact HK.out)) hk (.inl rfl)); replace HB := AS (hb); replace HI0 := AS (hi); (try clear hb); (try clear hk); (try clear hi)) | ((with_reducible refine gate_callee (f := 73) rfl ?_); refine goesM 15 Try.func73 #[.pointer (some ⟨g, 0, none⟩)] ?_; (with_reducible refine (spec_l00Src_next.calls g s0_0 a2 a3 a4 a5 a6 w0 _ ?s1 ?s2 A6.out).mono ?_); (case s1 => repeat (first | (with_reducible first | exact HI0.out | apply IsS78.alloc | apply IsS78.drewN | apply IsS78.drew | apply IsS78.set_1 | apply IsS78.set_2) | exact HI0.out)); (case s2 => repeat (first | (with_reducible first | exact HB.out | apply below_alloc | apply pw_below_drewN | apply below_drew1 | refine below_set ?_ (IsS78.ge HI0.out)) | exact HB.out)); rintro e w9 ⟨rfl, hi, hb, hk⟩; refine ⟨_, rfl, ?_⟩; replace HK := AS (KeepBut.trans (by repeat (first | (with_reducible first | exact HK.out | apply KeepBut.set_ | apply keep_drewN | apply keep_drew | apply keep_alloc) | exact HK.out)) hk (.inl rfl)); replace HB := AS (hb); replace HI0 := AS (hi); (try clear hb); (try clear hk); (try clear hi))); go_ret; exact ⟨by first | rfl | (simp [errW_none, errW_some] <;> rfl) | (simp [*, errW_none, errW_some] <;> rfl), by repeat (first | (with_reducible first | exact HI0.out | apply IsS78.alloc | apply IsS78.drewN | apply IsS78.drew | apply IsS78.set_1 | apply IsS78.set_2) | exact HI0.out), by repeat (first | (with_reducible first | exact HB.out | apply below_alloc | apply pw_below_drewN | apply below_drew1 | refine below_set ?_ (IsS78.ge HI0.out)) | exact HB.out), by repeat (first | (with_reducible first | exact HK.out | apply KeepBut.set_ | apply keep_drewN | apply keep_drew | apply keep_alloc) | exact HK.out)⟩
 rw [if_neg c5] at H
 have a9 : decide (200 < a1) = false := decide_eq_false c5; clear c5; by_cases a7 : a1 = 0
 ·rw [if_pos a7] at H
  exact absurd H (by simp)
 rw [if_neg a7] at H
 have ac : (a1 == 0) = false := beq_eq_false_iff_ne.mpr a7; have ad : (a1 != 0) = true := bne_iff_ne.mpr a7; simp only [Option.some.injEq, Prod.mk.injEq] at H; obtain ⟨rfl, rfl, rfl⟩ := H; go_enter Try.func59, Try.ntmps59; go_wp2_with (first | ((with_reducible refine gate_callee (f := 73) rfl ?_); refine goesM 9 Try.func73 #[.pointer (some ⟨g, 0, none⟩)] ?_; (with_reducible refine (spec_l00Src_next.calls g s0_0 s0_1 s0_2 a0 a2 a3 w0 _ ?s1 ?s2 A4.out).mono ?_); (case s1 => repeat (first | (with_reducible first | exact HI0.out | apply IsS78.alloc | apply IsS78.drewN | apply IsS78.drew | apply IsS78.set_1 | apply IsS78.set_2) | exact HI0.out)); (case s2 => repeat (first | (with_reducible first | exact HB.out | apply below_alloc | apply pw_below_drewN | apply below_drew1 | refine below_set ?_ (IsS78.ge HI0.out)) | exact HB.out)); rintro e ag ⟨rfl, hi, hb, hk⟩; refine ⟨_, rfl, ?_⟩; replace HK := AS (KeepBut.trans (by repeat (first | (with_reducible first | exact HK.out | apply KeepBut.set_ | apply keep_drewN | apply keep_drew | apply keep_alloc) | exact HK.out)) hk (.inl rfl)); replace HB := AS (hb); replace HI0 := AS (hi); (try clear hb); (try clear hk); (try clear hi))); go_ret; exact ⟨by first | rfl | (simp [errW_none, errW_some] <;> rfl) | (simp [*, errW_none, errW_some] <;> rfl), by repeat (first | (with_reducible first | exact HI0.out | apply IsS78.alloc | apply IsS78.drewN | apply IsS78.drew | apply IsS78.set_1 | apply IsS78.set_2) | exact HI0.out), by repeat (first | (with_reducible first | exact HB.out | apply below_alloc | apply pw_below_drewN | apply below_drew1 | refine below_set ?_ (IsS78.ge HI0.out)) | exact HB.out), by repeat (first | (with_reducible first | exact HK.out | apply KeepBut.set_ | apply keep_drewN | apply keep_drew | apply keep_alloc) | exact HK.out)⟩
def spec_l04New.f (a0 : Int) (a1 : Int) : Option (Int × Int × List Nat) := some (a0, a1, (([] : List Nat)))
set_option maxHeartbeats 8000000 in
set_option maxRecDepth 100000 in
theorem spec_l04New.calls (a0 : Int) (a1 : Int) (r1 : Int) (r2 : Int) (r3 : List Nat) (w : World) (h : spec_l04New.f a0 a1 = some (r1, r2, r3)) :
  Calls Try.prog 60 #[.int .i64 a0, .int .i64 a1] w fun e w' => ∃ v2_ : Value, e = .returned (.agg #[.int .i64 r1, .int .i64 r2, v2_]) ∧ Kd.R (Kd.float .f32) 32 w' w.heap.size (fun _ => True) v2_ r3 ∧ Below w.heap.size w w' := by
 have hu26 := Try.underlying26; have HB := AS (Below.refl w.heap.size w); have H : (some (a0, a1, (([] : List Nat)))) = some (r1, r2, r3) := h; clear h; obtain ⟨y182, hy182⟩ : ∃ y_ : List Nat, y_ = (([] : List Nat)) := ⟨_, rfl⟩; replace H : (some (a0, a1, y182)) = some (r1, r2, r3) := (by first | (rw [hy182]; with_reducible exact H) | (have H2_ := (Option.bind_some _ _).symm.trans H; rw [hy182]; with_reducible exact H2_) | (have H2_ := (Option.bind_some _ _).symm.trans H; with_reducible exact H2_) | with_reducible exact H | (rw [hy182]; exact H) | exact H); have Ny182 := Aside0.mk hy182; clear hy182; simp only [Option.some.injEq, Prod.mk.injEq] at H; obtain ⟨rfl, rfl, rfl⟩ := H; go_enter Try.func60, Try.ntmps60; go_wp2_with (first | ((with_reducible refine gate_dst (N := 4) rfl ?_); refine boxM 4 #[.int .i64 0, .int .i64 0, .slice none 0 0] 26 ?_; intro a4 hg w3 hbox hb; have a2 := AS (hbox); have ac := BG HB hg; replace HB := BB HB hb; clear hb hbox hg) | ((with_reducible refine gate_dst (N := 7) rfl ?_); refine Kd.R_lit (Kd.float .f32) _ 32 ?hg (N := 7) ?hd (xs := ([] : List Nat)) (inner := []) (ok := fun _ => True) (okp := fun _ => True) ?hr ?hp (fun _ hk => hk) trivial (Below.refl _ _) (Nat.le_refl _) (by simp) ?_; (case hd => rfl); (case hg => rfl); (case hr => first | (go_simp; done) | (go_simp; rfl)); (case hp => exact (Reps.none _ _)); intro af w4 ho5 hb hg_ hnew_; clear hg_ hnew_; (first | rw [← Ny182.out] at ho5 | (simp only [Int.reduceToNat] at ho5; rw [← Ny182.out] at ho5)); have a3 := AS (Kd.R_lower ho5 (below_size (BW HB))); replace a2 := KB a2 hb; replace HB := BB HB hb; clear hb ho5; obtain ⟨ab, ad, ae⟩ := Kd.R_slice a3.out; subst ae; obtain ⟨a5, a6, a7, a8, a9, aa⟩ := CZ3 a2)); refine bodyPost_ret (results_cell_row rfl _ _ a4 26 #[.int .i64 a0, .int .i64 a1, .slice ab y182.length ad] (0, 0) _ rfl (KP3 a2) Try.underlying26 rfl (by kernel_rfl)) rfl ?_; exact ⟨_, by first | rfl | (simp [errW_none, errW_some] <;> rfl) | (simp [*, errW_none, errW_some] <;> rfl), by (with_reducible repeat (first | apply Kd.R_alloc | apply Kd.R_drewN | apply Kd.R_drew)); exact (RF3T a3 a2 (.int .i64 a0) (.int .i64 a1) (.slice ab y182.length ad)), BW HB⟩
def spec_l04DrawOk.l0 : Nat → Int → List Int → Int → Int → Int → Int → List Nat → Option (Int × Int × List Nat × Int × Int)
  | 0, _, _, _, _, _, _, _ => none
  | k + 1, x5, x1000, x1001, x1002, x198000, x198001, x198002 => if x5 < (wrap64 (x198000 * x198001)) then ((spec_l00Src_pick.f x1000 x1001 x1002 17).bind fun bt198 => (if fok .quo .f32 (floatOfInt .f32 (wrap64 (bt198.1 - 8))) 1082130432 = true then (if x198002.length < 35184372088832 then (spec_l04DrawOk.l0 k (wrap64 (x5 + 1)) x1000 bt198.2.1 bt198.2.2 x198000 x198001 (x198002 ++ [fop .quo .f32 (floatOfInt .f32 (wrap64 (bt198.1 - 8))) 1082130432])) else (none)) else (none))) else (some (x198000, x198001, x198002, x1001, x1002))
def spec_l04DrawOk.f (k : Nat) (s0_0 : List Int) (s0_1 : Int) (s0_2 : Int) : Option (Int × Int × List Nat × Int × Int) := (spec_l00Src_pick.f s0_0 s0_1 s0_2 4).bind fun bt186 => ((spec_l00Src_pick.f s0_0 bt186.2.1 bt186.2.2 4).bind fun bt189 => ((spec_l04New.f (wrap64 (3 + bt186.1)) (wrap64 (3 + bt189.1))).bind fun bt192 => (spec_l04DrawOk.l0 k 0 s0_0 bt189.2.1 bt189.2.2 bt192.1 bt192.2.1 bt192.2.2)))
def spec_l04DrawOk.T6 : Bool × List (List Nat × List Nat) := (true, [([], []), ([0], [0]), ([], []), ([2], [2]), ([3], [3]), ([4], [4]), ([5], [5]), ([6], [6]), ([1, 7, 3], [1, 7]), ([0, 1, 2, 3, 4, 5, 6, 7, 8], []), ([9, 8, 8, 0, 1, 2, 3, 4, 5, 6, 7, 8], [8, 9])])
def spec_l04DrawOk.B6 : List Nat := [0, 1, 0, 4, 12, 28, 60, 124, 255, 511, 1023]
theorem spec_l04DrawOk.tab6 : rtab .any (opsOf Try.f29 6) = spec_l04DrawOk.T6 := by kernel_rfl
theorem spec_l04DrawOk.bits6 : waitsOk spec_l04DrawOk.T6.2 spec_l04DrawOk.B6 = true := by kernel_rfl
set_option maxHeartbeats 8000000 in
set_option maxRecDepth 100000 in
theorem spec_l04DrawOk.calls (k : Nat) (g : Nat) (s0_0 : List Int) (s0_1 : Int) (s0_2 : Int) (r1 : Int) (r2 : Int) (r3 : List Nat) (r4 : Int) (r5 : Int) (w0 w : World) (hI : IsS78 w0 w g s0_0 s0_1 s0_2) (hB : Below w0.heap.size w0 w) (h : spec_l04DrawOk.f k s0_0 s0_1 s0_2 = some (r1, r2, r3, r4, r5)) :
  Calls Try.prog 29 #[.pointer (some ⟨g, 0, none⟩)] w fun e w' => ∃ v2_ : Value, e = .returned (.agg #[.int .i64 r1, .int .i64 r2, v2_]) ∧ Kd.R (Kd.float .f32) 32 w' w.heap.size (fun _ => True) v2_ r3 ∧ IsS78 w0 w' g s0_0 r4 r5 ∧ Below w0.heap.size w0 w' ∧ KeepBut w w' g none := by
 have hu26 := Try.underlying26; have HI0 := Aside0.mk hI; have HK := AS (KeepBut.refl w g none); have HL := Aside0.mk hB.size; clear hI; have HW0 := Aside0.mk hB.size; have HB := Aside0.mk hB; clear hB; have H : ((spec_l00Src_pick.f s0_0 s0_1 s0_2 4).bind fun bt186 => ((spec_l00Src_pick.f s0_0 bt186.2.1 bt186.2.2 4).bind fun bt189 => ((spec_l04New.f (wrap64 (3 + bt186.1)) (wrap64 (3 + bt189.1))).bind fun bt192 => (spec_l04DrawOk.l0 k 0 s0_0 bt189.2.1 bt189.2.2 bt192.1 bt192.2.1 bt192.2.2)))) = some (r1, r2, r3, r4, r5) := h; clear h; replace H := OC H; obtain ⟨⟨ar, aE, aG⟩, bj, H⟩ := H; replace H : ((spec_l00Src_pick.f s0_0 aE aG 4).bind fun bt189 => ((spec_l04New.f (wrap64 (3 + ar)) (wrap64 (3 + bt189.1))).bind fun bt192 => (spec_l04DrawOk.l0 k 0 s0_0 bt189.2.1 bt189.2.2 bt192.1 bt192.2.1 bt192.2.2))) = some (r1, r2, r3, r4, r5) := H; have A2 := Aside0.mk bj; clear bj; replace H := OC H; obtain ⟨⟨aB, an, ao⟩, bk, H⟩ := H; replace H : ((spec_l04New.f (wrap64 (3 + ar)) (wrap64 (3 + aB))).bind fun bt192 => (spec_l04DrawOk.l0 k 0 s0_0 an ao bt192.1 bt192.2.1 bt192.2.2)) = some (r1, r2, r3, r4, r5) := H; have A3 := Aside0.mk bk; clear bk; replace H := OC H; obtain ⟨⟨ab, ac, au⟩, bl, H⟩ := H; replace H : (spec_l04DrawOk.l0 k 0 s0_0 an ao ab ac au) = some (r1, r2, r3, r4, r5) := H; have A4 := Aside0.mk bl; clear bl; have H' := Aside0.mk H; clear H; go_enter Try.func29, Try.ntmps29; go_wp2_with (first | ((with_reducible refine gate_dst (N := 2) rfl ?_); refine boxM 2 #[.int .i64 0, .int .i64 0, .slice none 0 0] 26 ?_; intro a8 hg w5 hbox hb; have bE := AS (IsS78.below (by repeat (first | (with_reducible first | exact HI0.out | apply IsS78.alloc | apply IsS78.drewN | apply IsS78.drew | apply IsS78.set_1 | apply IsS78.set_2) | exact HI0.out)) hb); have aD := AS (KeepBut.trans (by repeat (first | (with_reducible first | exact HK.out | apply KeepBut.set_ | apply keep_drewN | apply keep_drew | apply keep_alloc) | exact HK.out)) (KeepBut.of_below hb g none) (.inl rfl)); replace HB := AS (below_step (by repeat (first | (with_reducible first | exact HB.out | apply below_alloc | apply pw_below_drewN | apply below_drew1 | refine below_set ?_ (IsS78.ge HI0.out)) | exact HB.out)) hb); have a2 := AS (hbox); have a6 := AS ((by rw [hg]; exact (keep_size (w := w) (g := g) (row := none) (by repeat (first | (with_reducible first | exact HK.out | apply KeepBut.set_ | apply keep_drewN | apply keep_drew | apply keep_alloc) | exact HK.out))) : w.heap.size ≤ a8)); have ad := AS ((Nat.le_trans HW0.out (by rw [hg]; exact (keep_size (w := w) (g := g) (row := none) (by repeat (first | (with_reducible first | exact HK.out | apply KeepBut.set_ | apply keep_drewN | apply keep_drew | apply keep_alloc) | exact HK.out))) : w.heap.size ≤ a8) : w0.heap.size ≤ a8)); have a3 := AS ((by rw [hg]; exact Nat.ne_of_lt (IsS78.lt (show IsS78 w0 _ g s0_0 s0_1 s0_2 from by repeat (first | (with_reducible first | exact HI0.out | apply IsS78.alloc | apply IsS78.drewN | apply IsS78.drew | apply IsS78.set_1 | apply IsS78.set_2) | exact HI0.out))) : g ≠ a8)); have ag := AS ((by rw [hg]; exact Nat.ne_of_gt (IsS78.lt (show IsS78 w0 _ g s0_0 s0_1 s0_2 from by repeat (first | (with_reducible first | exact HI0.out | apply IsS78.alloc | apply IsS78.drewN | apply IsS78.drew | apply IsS78.set_1 | apply IsS78.set_2) | exact HI0.out))) : a8 ≠ g)); replace HI0 := bE; replace HK := aD; clear bE aD; clear hb hbox hg) | ((with_reducible refine gate_callee (f := 59) rfl ?_); refine goesM 7 Try.func59 #[.pointer (some ⟨g, 0, none⟩), .int .i64 4] ?_; (with_reducible refine (spec_l00Src_pick.calls g s0_0 s0_1 s0_2 4 ar aE aG w0 _ ?s1 ?s2 A2.out).mono ?_); (case s1 => repeat (first | (with_reducible first | exact HI0.out | apply IsS78.alloc | apply IsS78.drewN | apply IsS78.drew | apply IsS78.set_1 | apply IsS78.set_2 | refine IsS78.far ?_ a3.out _) | exact HI0.out)); (case s2 => repeat (first | (with_reducible first | exact HB.out | apply below_alloc | apply pw_below_drewN | apply below_drew1 | refine below_set ?_ (IsS78.ge HI0.out) | refine below_set ?_ ad.out) | exact HB.out)); rintro e w6 ⟨rfl, hi, hb, hk⟩; refine ⟨_, rfl, ?_⟩; replace a2 := AS (KeepBut.blk hk (g' := a8) (o := .cells #[.int .i64 0, .int .i64 0, .slice none 0 0] 26 (0, 0)) (KS a2.out) ag.out (by simp)); replace HK := AS (KeepBut.trans (by repeat (first | (with_reducible first | exact HK.out | apply KeepBut.set_ | apply keep_drewN | apply keep_drew | apply keep_alloc | refine keep_far ?_ a6.out _) | exact HK.out)) hk (.inl rfl)); replace HB := AS (hb); replace HI0 := AS (hi); (try clear hb); (try clear hk); (try clear hi)) | ((with_reducible refine gate_callee (f := 59) rfl ?_); refine goesM 11 Try.func59 #[.pointer (some ⟨g, 0, none⟩), .int .i64 4] ?_; (with_reducible refine (spec_l00Src_pick.calls g s0_0 aE aG 4 aB an ao w0 _ ?s1 ?s2 A3.out).mono ?_); (case s1 => repeat (first | (with_reducible first | exact HI0.out | apply IsS78.alloc | apply IsS78.drewN | apply IsS78.drew | apply IsS78.set_1 | apply IsS78.set_2 | refine IsS78.far ?_ a3.out _) | exact HI0.out)); (case s2 => repeat (first | (with_reducible first | exact HB.out | apply below_alloc | apply pw_below_drewN | apply below_drew1 | refine below_set ?_ (IsS78.ge HI0.out) | refine below_set ?_ ad.out) | exact HB.out)); rintro e w7 ⟨rfl, hi, hb, hk⟩; refine ⟨_, rfl, ?_⟩; replace a2 := AS (KeepBut.blk hk (g' := a8) (o := .cells #[.int .i64 0, .int .i64 0, .slice none 0 0] 26 (0, 0)) (KS a2.out) ag.out (by simp)); replace HK := AS (KeepBut.trans (by repeat (first | (with_reducible first | exact HK.out | apply KeepBut.set_ | apply keep_drewN | apply keep_drew | apply keep_alloc | refine keep_far ?_ a6.out _) | exact HK.out)) hk (.inl rfl)); replace HB := AS (hb); replace HI0 := AS (hi); (try clear hb); (try clear hk); (try clear hi)) | ((with_reducible refine gate_callee (f := 60) rfl ?_); refine goesM 13 Try.func60 #[.int .i64 (wrap64 (3 + ar)), .int .i64 (wrap64 (3 + aB))] ?_; (with_reducible refine (spec_l04New.calls (wrap64 (3 + ar)) (wrap64 (3 + aB)) ab ac au _ A4.out).mono ?_); rintro e w8 ⟨bJ, rfl, ho0, hb⟩; refine ⟨_, rfl, ?_⟩; have am := AS (Kd.R_lower ho0 (keep_size (w := w) (g := g) (row := none) (by repeat (first | (with_reducible first | exact HK.out | apply KeepBut.set_ | apply keep_drewN | apply keep_drew | apply keep_alloc | refine keep_far ?_ a6.out _) | exact HK.out)))); have aD := AS (IsS78.below (by repeat (first | (with_reducible first | exact HI0.out | apply IsS78.alloc | apply IsS78.drewN | apply IsS78.drew | apply IsS78.set_1 | apply IsS78.set_2 | refine IsS78.far ?_ a3.out _) | exact HI0.out)) hb); replace HK := AS (KeepBut.trans (by repeat (first | (with_reducible first | exact HK.out | apply KeepBut.set_ | apply keep_drewN | apply keep_drew | apply keep_alloc | refine keep_far ?_ a6.out _) | exact HK.out)) (KeepBut.of_below hb g none) (.inl rfl)); replace HB := AS (below_step (by repeat (first | (with_reducible first | exact HB.out | apply below_alloc | apply pw_below_drewN | apply below_drew1 | refine below_set ?_ (IsS78.ge HI0.out) | refine below_set ?_ ad.out) | exact HB.out)) hb); replace a2 := KB a2 hb; replace HI0 := aD; clear aD; (try clear hb); (try clear hk); (try clear hi); (try clear ho0)) | ((with_reducible refine gate_dst (N := 4) rfl ?_); refine boxM 4 #[.int .i64 0, .int .i64 0, .slice none 0 0] 26 ?_; intro a7 hg w9 hbox hb; have aD := AS (IsS78.below (by repeat (first | (with_reducible first | exact HI0.out | apply IsS78.alloc | apply IsS78.drewN | apply IsS78.drew | apply IsS78.set_1 | apply IsS78.set_2 | refine IsS78.far ?_ a3.out _) | exact HI0.out)) hb); have bG := AS (KeepBut.trans (by repeat (first | (with_reducible first | exact HK.out | apply KeepBut.set_ | apply keep_drewN | apply keep_drew | apply keep_alloc | refine keep_far ?_ a6.out _) | exact HK.out)) (KeepBut.of_below hb g none) (.inl rfl)); replace HB := AS (below_step (by repeat (first | (with_reducible first | exact HB.out | apply below_alloc | apply pw_below_drewN | apply below_drew1 | refine below_set ?_ (IsS78.ge HI0.out) | refine below_set ?_ ad.out) | exact HB.out)) hb); have a1 := AS (hbox); have ai := AS ((by rw [hg]; exact (keep_size (w := w) (g := g) (row := none) (by repeat (first | (with_reducible first | exact HK.out | apply KeepBut.set_ | apply keep_drewN | apply keep_drew | apply keep_alloc | refine keep_far ?_ a6.out _) | exact HK.out))) : w.heap.size ≤ a7)); have aj := AS ((Nat.le_trans HW0.out (by rw [hg]; exact (keep_size (w := w) (g := g) (row := none) (by repeat (first | (with_reducible first | exact HK.out | apply KeepBut.set_ | apply keep_drewN | apply keep_drew | apply keep_alloc | refine keep_far ?_ a6.out _) | exact HK.out))) : w.heap.size ≤ a7) : w0.heap.size ≤ a7)); have a9 := KN a2 hg; have aa := KM a2 hg; have a5 := AS ((by rw [hg]; exact Nat.ne_of_lt (IsS78.lt (show IsS78 w0 _ g s0_0 an ao from by repeat (first | (with_reducible first | exact HI0.out | apply IsS78.alloc | apply IsS78.drewN | apply IsS78.drew | apply IsS78.set_1 | apply IsS78.set_2 | refine IsS78.far ?_ a3.out _) | exact HI0.out))) : g ≠ a7)); have ah := AS ((by rw [hg]; exact Nat.ne_of_gt (IsS78.lt (show IsS78 w0 _ g s0_0 an ao from by repeat (first | (with_reducible first | exact HI0.out | apply IsS78.alloc | apply IsS78.drewN | apply IsS78.drew | apply IsS78.set_1 | apply IsS78.set_2 | refine IsS78.far ?_ a3.out _) | exact HI0.out))) : a7 ≠ g)); replace am := RB am hb; replace a2 := KB a2 hb; replace HI0 := aD; replace HK := bG; clear aD bG; clear hb hbox hg; have bp := aa.out; have bw := a9.out; have bq := ah.out; have bx := a5.out; obtain ⟨av, aw, ax, ay, az, aA⟩ := CZ3 a1; obtain ⟨aM, aU, bh⟩ := Kd.R_slice am.out; subst bh)); go_loopg [5] k (fun kq v5 w' => ∃ (al : Int) (ae : Int) (af : Int) (a4 : List Nat) (u198002 : Value), v5 = .int .i64 al ∧ Aside0 (spec_l04DrawOk.l0 kq al s0_0 ae af ab ac a4 = some (r1, r2, r3, r4, r5)) ∧ Aside0 (kq ≤ k) ∧ Aside0 (Kd.R (Kd.float .f32) 32 w' w.heap.size (fun _ => True) u198002 a4) ∧ Aside0 (w'.heap[a8]? = some (.cells #[.int .i64 0, .int .i64 0, (.slice none 0 0)] 26 (0, 0))) ∧ Aside0 (w'.heap[a7]? = some (.cells #[.int .i64 ab, .int .i64 ac, u198002] 26 (0, 0))) ∧ Aside0 (IsS78 w0 w' g s0_0 ae af) ∧ Aside0 (KeepBut w w' g none) ∧ Aside0 (Below w0.heap.size w0 w'))
 case atStart => exact ⟨(0), (an), (ao), (au), (.slice aM au.length aU), (by first | rfl | (simp; done) | (simp [*]; done)), H', ⟨Nat.le_refl _⟩, ⟨by (with_reducible repeat (first | apply Kd.R_alloc | apply Kd.R_drewN | apply Kd.R_drew)); exact (RF3T am a1 (.int .i64 ab) (.int .i64 ac) (.slice aM au.length aU))⟩, ⟨KF a2⟩, ⟨KP3 a1⟩, ⟨by repeat (first | (with_reducible first | exact HI0.out | apply IsS78.alloc | apply IsS78.drewN | apply IsS78.drew | apply IsS78.set_1 | apply IsS78.set_2 | refine IsS78.far ?_ a3.out _ | refine IsS78.far ?_ a5.out _) | exact HI0.out)⟩, ⟨by repeat (first | (with_reducible first | exact HK.out | apply KeepBut.set_ | apply keep_drewN | apply keep_drew | apply keep_alloc | refine keep_far ?_ a6.out _ | refine keep_far ?_ ai.out _) | exact HK.out)⟩, ⟨by repeat (first | (with_reducible first | exact HB.out | apply below_alloc | apply pw_below_drewN | apply below_drew1 | refine below_set ?_ (IsS78.ge HI0.out) | refine below_set ?_ ad.out | refine below_set ?_ aj.out) | exact HB.out)⟩⟩
 case round =>
  clear H'; (try clear c1); (try clear c2); (try clear p2); (try clear c5); (try clear c6); (try clear p6); (try clear bM); (try clear bN); (try clear av aw ax ay az aA); obtain ⟨al, ae, af, a4, u198002, rfl, HA, bm, a0, a2, a1, HI0, HK, HB⟩ := hrel; cases gk with
  | zero => exact absurd HA.out (by simp [spec_l04DrawOk.l0])
  | succ k1 =>
   have H := HA.out; clear HA; simp only [spec_l04DrawOk.l0] at H; by_cases aJ : al < (wrap64 (ab * ac))
   ·rw [if_pos aJ] at H
    have aR : decide (al < (wrap64 (ab * ac))) = true := decide_eq_true aJ; clear aJ; replace H := OC H; obtain ⟨⟨ap, aH, aI⟩, aK, H⟩ := H; (try dsimp only at H); have bH := Aside0.mk aK; clear aK; by_cases aT : fok .quo .f32 (floatOfInt .f32 (wrap64 (ap - 8))) 1082130432 = true
    ·rw [if_pos aT] at H
     have bn := eq_true aT; have bo : decide (fok .quo .f32 (floatOfInt .f32 (wrap64 (ap - 8))) 1082130432 = true) = true := decide_eq_true aT; clear aT; by_cases aY : a4.length < 35184372088832
     ·rw [if_pos aY] at H
      have LMc17 := Aside0.mk aY; clear aY; obtain ⟨y201, hy201⟩ : ∃ y_ : List Nat, y_ = (a4 ++ [fop .quo .f32 (floatOfInt .f32 (wrap64 (ap - 8))) 1082130432]) := ⟨_, rfl⟩; replace H : (spec_l04DrawOk.l0 k1 (wrap64 (al + 1)) s0_0 aH aI ab ac y201) = some (r1, r2, r3, r4, r5) := (by first | (rw [hy201]; with_reducible exact H) | (have H2_ := (Option.bind_some _ _).symm.trans H; rw [hy201]; with_reducible exact H2_) | (have H2_ := (Option.bind_some _ _).symm.trans H; with_reducible exact H2_) | with_reducible exact H | (rw [hy201]; exact H) | exact H); have Ny201 := Aside0.mk hy201; clear hy201; have H' := Aside0.mk H; clear H; have br := aa.out; have bz := a9.out; have bs := ah.out; have bA := a5.out; obtain ⟨aZ, b0, b1, b8, b9, ba⟩ := CZ3 a1; (try go_wp2); replace a0 := AS (Kd.R_drew a0.out); replace a2 := AS (blk_drew a2.out); replace a1 := AS (blk_drew a1.out); replace HI0 := AS (IsS78.drew HI0.out); replace HK := AS (keep_drew HK.out); replace HB := AS (below_drew1 HB.out); refine start_ (n := 11) (S := fun w' => w'.cell? ⟨a7, 0, none⟩ = some (.int .i64 ab) ∧ w'.cell? ⟨a7, 1, none⟩ = some (.int .i64 ac) ∧ w'.cell? ⟨a7, 2, none⟩ = some (u198002)) (ds := [10]) #[false, false, false, false, false, false, false, false, false, false, false] (by kernel_rfl) rfl rfl ⟨(blk_cell a1.out 0).trans rfl, (blk_cell a1.out 1).trans rfl, (blk_cell a1.out 2).trans rfl⟩ (fun ak => ?_); refine with_tabW spec_l04DrawOk.tab6 spec_l04DrawOk.bits6 (fun aq bI => ?_); generalize wr.drew = bO at a0 a2 a1 HI0 HK HB ak ⊢; refine pureT 0 23 aq.out ?_; refine pureT 2 25 aq.out ?_; refine takeU 1 24 aq.out bI.out ak ?_ (hy := by rintro w' ⟨s0, s1, s2⟩; go_simp; with_reducible rfl); refine one_ (i := 3) (N := some 26) #[true, true, true, true, false, false, false, false, false, false, false] rfl rfl (one_of aq.out (by kernel_rfl)) (by decide) (fun K hK => ?_); refine goes_ Try.func59 (by kernel_rfl) rfl #[.pointer (some ⟨g, 0, none⟩), .int .i64 17] (by rfl) rfl rfl (by (try simp only [List.map_toArray, List.map_cons, List.map_nil]); first | done | rfl | (simp only [List.length_drop, List.length_take]; rfl)) ?_; (with_reducible refine (spec_l00Src_pick.calls g s0_0 ae af 17 ap aH aI w0 _ ?s1 ?s2 bH.out).mono ?_); (case s1 => repeat (first | (with_reducible first | exact HI0.out | apply IsS78.alloc | apply IsS78.drewN | apply IsS78.drew | apply IsS78.set_1 | apply IsS78.set_2 | refine IsS78.far ?_ a3.out _ | refine IsS78.far ?_ a5.out _) | exact HI0.out)); (case s2 => repeat (first | (with_reducible first | exact HB.out | apply below_alloc | apply pw_below_drewN | apply below_drew1 | refine below_set ?_ (IsS78.ge HI0.out) | refine below_set ?_ ad.out | refine below_set ?_ aj.out) | exact HB.out)); rintro e bP ⟨rfl, hi, hb, hk⟩; refine ⟨_, rfl, ?_⟩; replace a0 := AS (Kd.R_mono (Kd.R_keep (IsS78.apart (show IsS78 w0 _ g s0_0 ae af from by repeat (first | (with_reducible first | exact HI0.out | apply IsS78.alloc | apply IsS78.drewN | apply IsS78.drew | apply IsS78.set_1 | apply IsS78.set_2 | refine IsS78.far ?_ a3.out _ | refine IsS78.far ?_ a5.out _) | exact HI0.out)) (RS a0.out) (by decide)) hk (fun _ h => h.2)) (fun _ h => h.1)); replace a2 := AS (KeepBut.blk hk (g' := a8) (o := .cells #[.int .i64 0, .int .i64 0, .slice none 0 0] 26 (0, 0)) (KS a2.out) ag.out (by simp)); replace a1 := AS (KeepBut.blk hk (g' := a7) (o := .cells #[.int .i64 ab, .int .i64 ac, u198002] 26 (0, 0)) (KS a1.out) ah.out (by simp)); replace HK := AS (KeepBut.trans (by repeat (first | (with_reducible first | exact HK.out | apply KeepBut.set_ | apply keep_drewN | apply keep_drew | apply keep_alloc | refine keep_far ?_ a6.out _ | refine keep_far ?_ ai.out _) | exact HK.out)) hk (.inl rfl)); replace HB := AS (hb); replace HI0 := AS (hi); (try clear hb); (try clear hk); (try clear hi); refine hK.out _ _ ⟨(blk_cell a1.out 0).trans rfl, (blk_cell a1.out 1).trans rfl, (blk_cell a1.out 2).trans rfl⟩ (fun ak => ?_); clear hK K; refine norm_ (a' := ?_) ?_ ?_; rotate_left
      ·show Act.put _ (some 26) _ = _
       simp only [Act.put, List.setIfInBounds_toArray, List.set_cons_zero, List.set_cons_succ, i64_w, i32_w]; rfl
      refine pureT 4 27 aq.out ?_; refine pureT 5 28 aq.out ?_; refine pureT 6 29 aq.out ?_; refine one_ (i := 7) (N := some 30) #[true, true, true, true, true, true, true, true, false, false, false] rfl rfl (one_of aq.out (by kernel_rfl)) (by decide) (fun K hK => ?_); refine value_ (w1 := ?_) (v := ?_) (by rfl) rfl ?_ ?_; rotate_left 2
      ·go_simp
       constructor
       ·rfl
       rfl
      refine hK.out _ _ ⟨(blk_cell (blk_alloc a1.out _) 0).trans rfl, (blk_cell (blk_alloc a1.out _) 1).trans rfl, (blk_cell (blk_alloc a1.out _) 2).trans rfl⟩ (fun ak => ?_); clear hK K; refine norm_ (a' := ?_) ?_ ?_; rotate_left
      ·show Act.put _ (some 30) _ = _
       simp only [Act.put, List.setIfInBounds_toArray, List.set_cons_zero, List.set_cons_succ, i64_w, i32_w]; rfl
      refine one_ (i := 8) (N := some 31) #[true, true, true, true, true, true, true, true, true, false, false] rfl rfl (one_of aq.out (by kernel_rfl)) (by decide) (fun K hK => ?_); refine Kd.R_append_step (Kd.float .f32) w.heap.size (by rfl) (.tmp 24) (.tmp 30) 24 32 (.float .f32 0) 4 rfl Try.underlying24 info32 rfl (by decide) (by omega) u198002 a4 (fop .quo .f32 (floatOfInt .f32 (wrap64 (ap - 8))) 1082130432) [.float .f32 (fop .quo .f32 (floatOfInt .f32 (wrap64 (ap - 8))) 1082130432)] (fun _ => True) (fun _ => False) rfl rfl ?aP (fun _ hk => hk.elim) ?aF ?aO (Below.refl _ _) ?aS ?aL ?_; (case aP => exact rfl); (case aF => exact (fun _ _ => trivial)); (case aO => exact (RS a0.out)); (case aS => exact (keep_size (w := w) (g := g) (row := none) (by repeat (first | (with_reducible first | exact HK.out | apply KeepBut.set_ | apply keep_drewN | apply keep_drew | apply keep_alloc | refine keep_far ?_ a6.out _ | refine keep_far ?_ ai.out _) | exact HK.out)))); (case aL => have := LMc17.out; omega); intro bK bL ho hb hg hat; rw [← Ny201.out] at ho; replace a2 := AS (blk_grown (g := a8) (o := .cells #[.int .i64 0, .int .i64 0, .slice none 0 0] 26 (0, 0)) (KS a2.out) hg (Kd.R_ne a0.out a2.out (by decide))); replace a1 := AS (blk_grown (g := a7) (o := .cells #[.int .i64 ab, .int .i64 ac, u198002] 26 (0, 0)) (KS a1.out) hg (Kd.R_ne a0.out a1.out (by decide))); have bF := AS (IsS78.grown (by repeat (first | (with_reducible first | exact HI0.out | apply IsS78.alloc | apply IsS78.drewN | apply IsS78.drew | apply IsS78.set_1 | apply IsS78.set_2 | refine IsS78.far ?_ a3.out _ | refine IsS78.far ?_ a5.out _) | exact HI0.out)) hg (IsS78.own_ne HI0.out a0.out (by decide))); replace HB := AS (below_weaken (by repeat (first | (with_reducible first | exact HB.out | apply below_alloc | apply pw_below_drewN | apply below_drew1 | refine below_set ?_ (IsS78.ge HI0.out) | refine below_set ?_ ad.out | refine below_set ?_ aj.out) | exact HB.out)) HL.out hb); replace HK := AS (KeepBut.trans (by repeat (first | (with_reducible first | exact HK.out | apply KeepBut.set_ | apply keep_drewN | apply keep_drew | apply keep_alloc | refine keep_far ?_ a6.out _ | refine keep_far ?_ ai.out _) | exact HK.out)) (KeepBut.of_grown hg g) (Kd.R_base2 a0.out)); have aC := AS (ho); replace HI0 := bF; clear a0; clear bF; clear ho hb hg hat; obtain ⟨aN, aV, aX⟩ := Kd.R_slice aC.out; (first | subst aX | (injection aX with f1_ f2_ f3_; have f4_ := f1_.symm; have f5_ := f3_.symm; clear f1_ f2_ f3_; subst f4_; subst f5_)); refine hK.out _ _ ⟨(blk_cell a1.out 0).trans rfl, (blk_cell a1.out 1).trans rfl, (blk_cell a1.out 2).trans rfl⟩ (fun ak => ?_); clear hK K; refine norm_ (a' := ?_) ?_ ?_; rotate_left
      ·show Act.put _ (some 31) _ = _
       simp only [Act.put, List.setIfInBounds_toArray, List.set_cons_zero, List.set_cons_succ, i64_w, i32_w]; rfl
      refine pureT 9 32 aq.out ?_; refine last_ (i := 10) (N := none) #[true, true, true, true, true, true, true, true, true, true, true] rfl rfl (one_of aq.out (by kernel_rfl)) (by decide) (fun K hK => ?_); have hs25 : bL.cell? ⟨a7, 2, none⟩ = some (u198002) := (blk_cell a1.out 2).trans rfl; have hfs25 := blk_frozen a1.out 2; have hns25_0 := a9.out; have hms25_0 := aa.out; refine skip_ (w1 := ?_) (by rfl) rfl ?_ ?_; rotate_left
      ·go_simp
       rfl
      refine hK.out _ _ ?_; clear hK K; refine done_ (done_of aq.out (by kernel_rfl)) ?_; (try go_wp2); go_roundg k1
      case measure => have := bm.out; omega
      case rel => exact ⟨(wrap64 (al + 1)), (aH), (aI), (y201), (.slice aN y201.length aV), (by first | rfl | (simp; done) | (simp [*]; done)), H', ⟨by have := bm.out; omega⟩, ⟨by (with_reducible repeat (first | apply Kd.R_alloc | apply Kd.R_drewN | apply Kd.R_drew)); exact (Kd.R_mono (Kd.R_far (p := ⟨a7, 2, none⟩) (Kd.R_types aC.out a1.out (by decide)) (fun _ hk => hk.2) (.slice aN y201.length aV)) (fun _ hk => trivial))⟩, ⟨KF a2⟩, ⟨by (with_reducible repeat (first | refine blk_drewN ?_ _ | refine blk_drew ?_ | refine blk_alloc ?_ _)); refine blk_put (cs := #[.int .i64 ab, .int .i64 ac, u198002]) ?_ 2 _ rfl; (with_reducible repeat (first | refine blk_drewN ?_ _ | refine blk_drew ?_ | refine blk_alloc ?_ _)); exact a1.out⟩, ⟨by repeat (first | (with_reducible first | exact HI0.out | apply IsS78.alloc | apply IsS78.drewN | apply IsS78.drew | apply IsS78.set_1 | apply IsS78.set_2 | refine IsS78.far ?_ a3.out _ | refine IsS78.far ?_ a5.out _) | exact HI0.out)⟩, ⟨by repeat (first | (with_reducible first | exact HK.out | apply KeepBut.set_ | apply keep_drewN | apply keep_drew | apply keep_alloc | refine keep_far ?_ a6.out _ | refine keep_far ?_ ai.out _) | exact HK.out)⟩, ⟨by repeat (first | (with_reducible first | exact HB.out | apply below_alloc | apply pw_below_drewN | apply below_drew1 | refine below_set ?_ (IsS78.ge HI0.out) | refine below_set ?_ ad.out | refine below_set ?_ aj.out) | exact HB.out)⟩⟩
     rw [if_neg aY] at H
     exact absurd H (by simp)
    rw [if_neg aT] at H
    exact absurd H (by simp)
   rw [if_neg aJ] at H
   have aR : decide (al < (wrap64 (ab * ac))) = false := decide_eq_false aJ; clear aJ; simp only [Option.some.injEq, Prod.mk.injEq] at H; obtain ⟨rfl, rfl, rfl, rfl, rfl⟩ := H; have bt := aa.out; have bB := a9.out; have bu := ah.out; have bC := a5.out; obtain ⟨b2, b3, b4, bb, bc, bd⟩ := CZ3 a1; have bv := ag.out; have bD := a3.out; obtain ⟨b5, b6, b7, be, bf, bg⟩ := CZ3 a2; obtain ⟨aQ, aW, bi⟩ := Kd.R_slice a0.out; subst bi; go_wp2; refine bodyPost_ret (results_cell_row rfl _ _ a8 26 #[.int .i64 ab, .int .i64 ac, .slice aQ a4.length aW] (0, 0) _ rfl (KP3 a2) Try.underlying26 rfl (by kernel_rfl)) rfl ?_; exact ⟨_, by first | rfl | (simp [errW_none, errW_some] <;> rfl) | (simp [*, errW_none, errW_some] <;> rfl), by (with_reducible repeat (first | apply Kd.R_alloc | apply Kd.R_drewN | apply Kd.R_drew)); exact (RF3T a0 a2 (.int .i64 ab) (.int .i64 ac) (.slice aQ a4.length aW)), by repeat (first | (with_reducible first | exact HI0.out | apply IsS78.alloc | apply IsS78.drewN | apply IsS78.drew | apply IsS78.set_1 | apply IsS78.set_2 | refine IsS78.far ?_ a3.out _ | refine IsS78.far ?_ a5.out _) | exact HI0.out), by repeat (first | (with_reducible first | exact HB.out | apply below_alloc | apply pw_below_drewN | apply below_drew1 | refine below_set ?_ (IsS78.ge HI0.out) | refine below_set ?_ ad.out | refine below_set ?_ aj.out) | exact HB.out), by repeat (first | (with_reducible first | exact HK.out | apply KeepBut.set_ | apply keep_drewN | apply keep_drew | apply keep_alloc | refine keep_far ?_ a6.out _ | refine keep_far ?_ ai.out _) | exact HK.out)⟩
def spec_R8Basin.f (k : Nat) (l0 : List Int) : Option (Int × Int × List Nat) := (spec_l00From.f l0).bind fun bt205 => ((spec_l04DrawOk.f k bt205.1 bt205.2.1 bt205.2.2).bind fun bt209 => (some (bt209.1, bt209.2.1, bt209.2.2.1)))
set_option maxHeartbeats 8000000 in
set_option maxRecDepth 100000 in
theorem spec_R8Basin.calls (k : Nat) (A0 : Option Addr) (c0 : Nat) (l0 : List Int) (r1 : Int) (r2 : Int) (r3 : List Nat) (w : World) (hr0 : Kd.C (Kd.int .u8) w A0 l0.length l0) (hc0 : l0.length ≤ c0) (h : spec_R8Basin.f k l0 = some (r1, r2, r3)) :
  Calls Try.prog 6 #[.slice A0 l0.length c0] w fun e w' => ∃ v2_ : Value, e = .returned (.agg #[.int .i64 r1, .int .i64 r2, v2_]) ∧ Kd.R (Kd.float .f32) 32 w' w.heap.size (fun _ => True) v2_ r3 ∧ Below w.heap.size w w' := by
 have hu26 := Try.underlying26; have aq := Aside0.mk hr0; have ap := Aside0.mk hc0; clear hr0 hc0; have HB := AS (Below.refl w.heap.size w); have H : ((spec_l00From.f l0).bind fun bt205 => ((spec_l04DrawOk.f k bt205.1 bt205.2.1 bt205.2.2).bind fun bt209 => (some (bt209.1, bt209.2.1, bt209.2.2.1)))) = some (r1, r2, r3) := h; clear h; replace H := OC H; obtain ⟨⟨a9, aa, ab⟩, ak, H⟩ := H; replace H : ((spec_l04DrawOk.f k a9 aa ab).bind fun bt209 => (some (bt209.1, bt209.2.1, bt209.2.2.1))) = some (r1, r2, r3) := H; have A2 := Aside0.mk ak; clear ak; replace H := OC H; obtain ⟨⟨a5, a6, a7, ai, aj⟩, al, H⟩ := H; replace H : (some (a5, a6, a7)) = some (r1, r2, r3) := H; have A3 := Aside0.mk al; clear al; simp only [Option.some.injEq, Prod.mk.injEq] at H; obtain ⟨rfl, rfl, rfl⟩ := H; go_enter Try.func6, Try.ntmps6; go_wp2_with (first | ((with_reducible refine gate_dst (N := 2) rfl ?_); refine boxM 2 #[.int .i64 0, .int .i64 0, .slice none 0 0] 26 ?_; intro a3 hg w4 hbox hb; have a0 := AS (hbox); have a4 := BG HB hg; replace HB := BB HB hb; clear hb hbox hg) | ((with_reducible refine gate_callee (f := 28) rfl ?_); refine goesM 5 Try.func28 #[.slice A0 l0.length c0] ?_; (with_reducible refine (spec_l00From.calls _ _ l0 a9 aa ab w _ ?s1 ?s2 ?s3 A2.out).mono ?_); (case s1 => repeat (first | (with_reducible first | exact HB.out | apply below_alloc | apply pw_below_drewN | apply below_drew1 | refine below_set ?_ a4.out) | exact HB.out)); (case s2 => exact aq.out); (case s3 => exact ap.out); rintro e w5 ⟨g208, rfl, hi, hb, hb2⟩; refine ⟨_, rfl, ?_⟩; have ao := AS (blk_below (g := a3) (o := .cells #[.int .i64 0, .int .i64 0, .slice none 0 0] 26 (0, 0)) (KS a0.out) hb2); replace HB := AS (hb); have HI208 := AS (hi); have a2 := AS (IsS78.ne_blk hi (blk_below (g := a3) (o := .cells #[.int .i64 0, .int .i64 0, .slice none 0 0] 26 (0, 0)) (KS a0.out) hb2) (by decide)); have a1 := AS (Ne.symm (IsS78.ne_blk hi (blk_below (g := a3) (o := .cells #[.int .i64 0, .int .i64 0, .slice none 0 0] 26 (0, 0)) (KS a0.out) hb2) (by decide))); replace a0 := ao; clear ao; (try clear hb); (try clear hb2); (try clear hk); (try clear hi)) | ((with_reducible refine gate_callee (f := 29) rfl ?_); refine goesM 7 Try.func29 #[.pointer (some ⟨g208, 0, none⟩)] ?_; (with_reducible refine (spec_l04DrawOk.calls k g208 a9 aa ab a5 a6 a7 ai aj w _ ?s1 ?s2 A3.out).mono ?_); (case s1 => repeat (first | (with_reducible first | exact HI208.out | apply IsS78.alloc | apply IsS78.drewN | apply IsS78.drew | apply IsS78.set_1 | apply IsS78.set_2 | refine IsS78.far ?_ a2.out _) | exact HI208.out)); (case s2 => repeat (first | (with_reducible first | exact HB.out | apply below_alloc | apply pw_below_drewN | apply below_drew1 | refine below_set ?_ (IsS78.ge HI208.out) | refine below_set ?_ a4.out) | exact HB.out)); rintro e w6 ⟨aw, rfl, ho0, hi, hb, hk⟩; refine ⟨_, rfl, ?_⟩; replace a0 := AS (KeepBut.blk hk (g' := a3) (o := .cells #[.int .i64 0, .int .i64 0, .slice none 0 0] 26 (0, 0)) (KS a0.out) a1.out (by simp)); have a8 := AS (Kd.R_lower ho0 (below_size (by repeat (first | (with_reducible first | exact HB.out | apply below_alloc | apply pw_below_drewN | apply below_drew1 | refine below_set ?_ (IsS78.ge HI208.out) | refine below_set ?_ a4.out) | exact HB.out)))); replace HB := AS (hb); replace HI208 := AS (hi); (try clear hb); (try clear hb2); (try clear hk); (try clear hi); (try clear ho0); have au := a1.out; have av := a2.out; obtain ⟨ac, ad, ae, af, ag, ah⟩ := CZ3 a0; obtain ⟨am, an, ar⟩ := Kd.R_slice a8.out; subst ar)); refine bodyPost_ret (results_cell_row rfl _ _ a3 26 #[.int .i64 a5, .int .i64 a6, .slice am a7.length an] (0, 0) _ rfl (KP3 a0) Try.underlying26 rfl (by kernel_rfl)) rfl ?_; exact ⟨_, by first | rfl | (simp [errW_none, errW_some] <;> rfl) | (simp [*, errW_none, errW_some] <;> rfl), by (with_reducible repeat (first | apply Kd.R_alloc | apply Kd.R_drewN | apply Kd.R_drew)); exact (RF3T a8 a0 (.int .i64 a5) (.int .i64 a6) (.slice am a7.length an)), by repeat (first | (with_reducible first | exact HB.out | apply below_alloc | apply pw_below_drewN | apply below_drew1 | refine below_set ?_ (IsS78.ge HI208.out) | refine below_set ?_ a4.out) | exact HB.out)⟩
end Go.Proofs.Ytelkklnfbfmecaa.B0
end
section
namespace Go.Proofs.Ytelkklnfbfmecaa.B0
open Go.RowKit YtelkklnfbfmecaaW.PrintWords YtelkklnfbfmecaaW.PrintLast YtelkklnfbfmecaaW.PrintMore
attribute [local go_sem] max2_int min2_int max_two min_two max_three min_three max_four min_four
attribute [local go_sem high] binOp_fge binOp_fle
def laws_r8At.f (l0 : List Int) (a1 : Int) (a2 : Int) : Option (Int) := if a2 ≤ 1 then (some 0) else (if a1 ≥ (l0.length : Int) then (some 0) else (if 0 ≤ a1 then (if a1 < (l0.length : Int) then (if a2 = 0 then (none) else (some (Int.tmod (wrap64 (rd l0 a1)) a2))) else (none)) else (none)))
set_option maxHeartbeats 8000000 in
set_option maxRecDepth 100000 in
theorem laws_r8At.calls (A0 : Option Addr) (c0 : Nat) (l0 : List Int) (a1 : Int) (a2 : Int) (r : Int) (w : World) (hr0 : Kd.C (Kd.int .u8) w A0 l0.length l0) (hc0 : l0.length ≤ c0) (h : laws_r8At.f l0 a1 a2 = some r) :
  Calls Try.prog 11 #[.slice A0 l0.length c0, .int .i64 a1, .int .i64 a2] w fun e w' => e = .returned (.int .i64 r) ∧ Below w.heap.size w w' := by
 have a5 := Aside0.mk hr0; have aa := Aside0.mk hc0; clear hr0 hc0; have HB := AS (Below.refl w.heap.size w); have H : (if a2 ≤ 1 then (some 0) else (if a1 ≥ (l0.length : Int) then (some 0) else (if 0 ≤ a1 then (if a1 < (l0.length : Int) then (if a2 = 0 then (none) else (some (Int.tmod (wrap64 (rd l0 a1)) a2))) else (none)) else (none)))) = some r := h; clear h; by_cases c4 : a2 ≤ 1
 ·rw [if_pos c4] at H
  have a3 : decide (a2 ≤ 1) = true := decide_eq_true c4; clear c4; obtain rfl := Option.some.inj H; go_enter Try.func11, Try.ntmps11; go_wp2; go_ret; exact ⟨by first | rfl | (simp [errW_none, errW_some] <;> rfl) | (simp [*, errW_none, errW_some] <;> rfl), BW HB⟩
 rw [if_neg c4] at H
 have a3 : decide (a2 ≤ 1) = false := decide_eq_false c4; clear c4; by_cases c5 : a1 ≥ (l0.length : Int)
 ·rw [if_pos c5] at H
  have a4 : decide ((l0.length : Int) ≤ a1) = true := decide_eq_true c5; clear c5; obtain rfl := Option.some.inj H; go_enter Try.func11, Try.ntmps11; go_wp2; go_ret; exact ⟨by first | rfl | (simp [errW_none, errW_some] <;> rfl) | (simp [*, errW_none, errW_some] <;> rfl), BW HB⟩
 rw [if_neg c5] at H
 have a4 : decide ((l0.length : Int) ≤ a1) = false := decide_eq_false c5; clear c5; by_cases c6 : 0 ≤ a1
 ·rw [if_pos c6] at H
  have a6 : decide (0 ≤ a1) = true := decide_eq_true c6; clear c6; by_cases c7 : a1 < (l0.length : Int)
  ·rw [if_pos c7] at H
   have a7 : decide (a1 < (l0.length : Int)) = true := decide_eq_true c7; clear c7; by_cases c8 : a2 = 0
   ·rw [if_pos c8] at H
    exact absurd H (by simp)
   rw [if_neg c8] at H
   have a8 : (a2 == 0) = false := beq_eq_false_iff_ne.mpr c8; have a9 : (a2 != 0) = true := bne_iff_ne.mpr c8; obtain rfl := Option.some.inj H; have p216 : 0 ≤ (a1 : Int) := of_decide_eq_true (by first | (with_reducible assumption) | assumption); have q216 : a1 < (l0.length : Int) := of_decide_eq_true (by first | (with_reducible assumption) | assumption); obtain ⟨ad216, e216, a0⟩ := Kd.at_int a5.out a1 p216 q216; cases e216; replace p216 := eq_true p216; replace q216 := eq_true q216; go_enter Try.func11, Try.ntmps11; go_wp2; go_ret; exact ⟨by first | rfl | (simp [errW_none, errW_some] <;> rfl) | (simp [*, errW_none, errW_some] <;> rfl), BW HB⟩
  rw [if_neg c7] at H
  exact absurd H (by simp)
 rw [if_neg c6] at H
 exact absurd H (by simp)
def laws_r8Gap.f (a0 : Nat) (a1 : Nat) : Option (Nat) := if fok .sub .f64 a0 a1 = true then (if fok .sub .f64 a1 a0 = true then (if fmok .f64 (fop .sub .f64 a0 a1) (fop .sub .f64 a1 a0) = true then (some (fmx .f64 (fop .sub .f64 a0 a1) (fop .sub .f64 a1 a0))) else (none)) else (none)) else (none)
set_option maxHeartbeats 8000000 in
set_option maxRecDepth 100000 in
theorem laws_r8Gap.calls (a0 : Nat) (a1 : Nat) (r : Nat) (w : World) (h : laws_r8Gap.f a0 a1 = some r) :
  Calls Try.prog 14 #[.float .f64 a0, .float .f64 a1] w fun e w' => e = .returned (.float .f64 r) ∧ Below w.heap.size w w' := by
 have HB := AS (Below.refl w.heap.size w); have H : (if fok .sub .f64 a0 a1 = true then (if fok .sub .f64 a1 a0 = true then (if fmok .f64 (fop .sub .f64 a0 a1) (fop .sub .f64 a1 a0) = true then (some (fmx .f64 (fop .sub .f64 a0 a1) (fop .sub .f64 a1 a0))) else (none)) else (none)) else (none)) = some r := h; clear h; by_cases c3 : fok .sub .f64 a0 a1 = true
 ·rw [if_pos c3] at H
  have a2 := eq_true c3; have a3 : decide (fok .sub .f64 a0 a1 = true) = true := decide_eq_true c3; clear c3; by_cases c4 : fok .sub .f64 a1 a0 = true
  ·rw [if_pos c4] at H
   have a4 := eq_true c4; have a5 : decide (fok .sub .f64 a1 a0 = true) = true := decide_eq_true c4; clear c4; by_cases c5 : fmok .f64 (fop .sub .f64 a0 a1) (fop .sub .f64 a1 a0) = true
   ·rw [if_pos c5] at H
    have a6 := eq_true c5; have a7 : decide (fmok .f64 (fop .sub .f64 a0 a1) (fop .sub .f64 a1 a0) = true) = true := decide_eq_true c5; clear c5; obtain rfl := Option.some.inj H; go_enter Try.func14, Try.ntmps14; go_wp2; go_ret; exact ⟨by first | rfl | (simp [errW_none, errW_some] <;> rfl) | (simp [*, errW_none, errW_some] <;> rfl), BW HB⟩
   rw [if_neg c5] at H
   exact absurd H (by simp)
  rw [if_neg c4] at H
  exact absurd H (by simp)
 rw [if_neg c3] at H
 exact absurd H (by simp)
end Go.Proofs.Ytelkklnfbfmecaa.B0
end
section
namespace Go.Proofs.Ytelkklnfbfmecaa
open Go.RowKit YtelkklnfbfmecaaW.PrintWords YtelkklnfbfmecaaW.PrintLast YtelkklnfbfmecaaW.PrintMore
namespace XC
theorem goesC_ {P : Program} {ops : Array Oper} {Q : Exit → Act → World → Prop} {oi : Oper} {N : Option Tmp} {a : Act} {w : World} {K : Act → World → Prop} {f : FuncId} {fn : Func} {ops_ : Array Operand} {ts : Array TypeId} (hf : P.funcs[f]? = some fn) (hname : (fn.name == "runtime.NumGoroutine") = false) (hb : fn.body.isSome = true) (args all : Array Value) (c : Tmp) (caps : Array Value)
    (hw : Region.wanted oi (yielded ops a.tmps) = true) (hN : oi.dst = N) (hop : oi.op = .call { callee := .value (.tmp c), args := ops_, argTypes := ts }) (hc : a.eval (.tmp c) = .func (.func f) #[] caps) (hargs : ops_.map a.eval = args) (hall : args ++ caps = all)
    (h : Calls P f all w fun e w' => ∃ v, e = .returned v ∧ K (a.put N v) w') : if Region.wanted oi (yielded ops a.tmps) = true then Oper.wp P oi a w K Q else K (a.put N undef) w := by
  refine call_ f all hw hN ?_ h
  have he := enters_ hf hname hb all w
  unfold execOp
  simp [hop, resolve, hc, Deferred.ofValue, invoke, hargs, hall, he]
theorem goesB_ {P : Program} {ops : Array Oper} {Q : Exit → Act → World → Prop} {oi : Oper} {N : Option Tmp} {a : Act} {w : World} {K : Act → World → Prop} {f : FuncId} {fn : Func} {ops_ : Array Operand} {ts : Array TypeId} (hf : P.funcs[f]? = some fn) (hname : (fn.name == "runtime.NumGoroutine") = false) (hb : fn.body.isSome = true) (args all : Array Value) (c : Tmp) (caps : Array Value)
    (hw : Region.wanted oi (yielded ops a.tmps) = true) (hN : oi.dst = N) (hop : oi.op = .call { callee := .value (.tmp c), args := ops_, argTypes := ts }) (hc : a.eval (.tmp c) = .func (.func f) caps #[]) (hargs : ops_.map a.eval = args) (hall : caps ++ args = all)
    (h : Calls P f all w fun e w' => ∃ v, e = .returned v ∧ K (a.put N v) w') : if Region.wanted oi (yielded ops a.tmps) = true then Oper.wp P oi a w K Q else K (a.put N undef) w := by
  refine call_ f all hw hN ?_ h
  have he := enters_ hf hname hb all w
  unfold execOp
  simp [hop, resolve, hc, Deferred.ofValue, invoke, hargs, hall, he]
end XC
end Go.Proofs.Ytelkklnfbfmecaa
end
section
namespace Go.Proofs.Ytelkklnfbfmecaa
open Go.RowKit YtelkklnfbfmecaaW.PrintWords YtelkklnfbfmecaaW.PrintLast YtelkklnfbfmecaaW.PrintMore
namespace XA
open XF XL
def _root_.Go.fik (s : FloatKind) (x : Nat) (k : IntKind) : Bool := (floatToIntVal s x k).isSome
def _root_.Go.fiv (s : FloatKind) (x : Nat) (k : IntKind) : Int := (floatToIntVal s x k).getD 0
@[go_sem] theorem run_fiv {P : Program} (w : World) (src dst : TypeId) (s : FloatKind) (k : IntKind) (x : Nat) (hs : (P.underlying src).isSome = true) (hd : P.underlying dst = some (.int k)) (h : fik s x k = true) : (convert src dst (.float s x)).run P w = .ok (.int k (fiv s x k)) w := by
  refine run_convert_float_int w src dst s k x _ hs hd ?_
  unfold fik at h
  obtain ⟨r, hr⟩ := Option.isSome_iff_exists.1 h
  unfold fiv
  rw [hr]
  rfl
def ab32 (x : Nat) : Nat := (Go.bits .andNot .u32 (x : Int) 2147483648).toNat
def abs32.f (a0 : Nat) : Option Nat := some (ab32 a0)
theorem run_from (P : Program) (w : World) (n : Int) : (Extern.MathFloatBits.float32frombits #[.int .u32 n]).run P w = .ok (.float .f32 n.toNat) w := rfl
set_option maxHeartbeats 4000000 in
set_option maxRecDepth 100000 in
theorem abs32.calls (a0 r : Nat) (w : World) (h : abs32.f a0 = some r) : Calls Try.prog 68 #[.float .f32 a0] w fun e w' => e = .returned (.float .f32 r) ∧ Drawn0 w w' := by
  obtain rfl := Option.some.inj h
  go_enter Try.func68, Try.ntmps68
  go_wp2
  rw [run_callFunc_extern Try.func76 (by kernel_rfl) (by kernel_rfl) (by kernel_rfl) (e := Extern.MathFloatBits.float32bits) (by kernel_rfl)]
  rw [run_bits]
  simp only [Result.andThen]
  rw [Oper.upon_value]
  go_wp2
  rw [run_callFunc_extern Try.func78 (by kernel_rfl) (by kernel_rfl) (by kernel_rfl) (e := Extern.MathFloatBits.float32frombits) (by kernel_rfl)]
  rw [run_from]
  simp only [Result.andThen]
  rw [Oper.upon_value]
  go_wp2
  go_ret
  exact ⟨rfl, Drawn0.refl _⟩
def fl (x : Nat) : Nat := FloatKind.f64.encode ((FloatKind.f64.decode x).integral .down)
theorem run_floor (P : Program) (w : World) (x : Nat) (hx : isn .f64 x = false) : (Extern.MathFloor.toIntegral "math.archFloor" .down #[.float .f64 x]).run P w = .ok (.float .f64 (fl x)) w := by
  have key : ∀ d : Ieee.Datum, d.isNaN = false → (match d with
      | .nan s t =>
        if FloatKind.f64.format.quiet t = t then pure (Value.float .f64 x) else do
        let kept ← choose (.extern "math.Floor,Ceil,Trunc,RoundToEven.signallingNaN kept" 2)
        pure (Value.float .f64 (if kept == 1 then x else FloatKind.f64.encode (.nan s (FloatKind.f64.format.quiet t))))
      | d => (pure (Value.float .f64 (FloatKind.f64.encode (d.integral .down))) : Sem Value)).run P w = .ok (.float .f64 (FloatKind.f64.encode (d.integral .down))) w := by
    intro d hd
    cases d with
    | nan s t => cases hd
    | infinity s => rfl
    | number s m e => rfl
  exact key _ hx
def Floor.f (a0 : Nat) : Option Nat := if isn .f64 a0 = true then none else some (fl a0)
set_option maxHeartbeats 4000000 in
set_option maxRecDepth 100000 in
theorem Floor.calls (a0 r : Nat) (w : World) (h : Floor.f a0 = some r) : Calls Try.prog 69 #[.float .f64 a0] w fun e w' => e = .returned (.float .f64 r) ∧ Drawn0 w w' := by
  unfold Floor.f at h
  split at h
  · cases h
  · rename_i hn
    obtain rfl := Option.some.inj h
    have hn' : isn .f64 a0 = false := by simpa using hn
    go_enter Try.func69, Try.ntmps69
    go_wp2
    rw [run_callFunc_extern Try.func79 (by kernel_rfl) (by kernel_rfl) (by kernel_rfl) (e := Extern.MathFloor.toIntegral "math.archFloor" .down) (by kernel_rfl)]
    rw [run_floor _ _ _ hn']
    simp only [Result.andThen]
    rw [Oper.upon_value]
    go_wp2
    go_ret
    exact ⟨rfl, Drawn0.refl _⟩
end XA
end Go.Proofs.Ytelkklnfbfmecaa
end
