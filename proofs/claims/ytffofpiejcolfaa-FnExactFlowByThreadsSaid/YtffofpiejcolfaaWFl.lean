/- Floats as what a slice's elements and a struct's fields are: a float is told by its bits. -/
import Derived.Test.YtffofpiejcolfaaWMore
import Derived.Laws.Cover2
import Derived.Laws.FloatArith
import Derived.Laws.Cover3
import Derived.Laws.ComplexArith
namespace Go.Proofs.YtffofpiejcolfaaW.PrintWords
open Go.RowKit
namespace Kd
def float (k : FloatKind) : Kd Nat := scalar (Value.float k) (fun _ => rfl)
theorem heap_float (k : FloatKind) : Heap (Kd.float k) := ⟨fun _ h => h⟩
theorem at_float {w : World} {A : Option Addr} {n : Nat} {k : FloatKind} {xs : List Nat} (h : (Kd.float k).C w A n xs) (i : Int) (h0 : 0 ≤ i) (h1 : i < n) : ∃ ad, A = some ad ∧ w.cell? (ad.add i.toNat) = some (.float k (rdOf (0 : Nat) xs i)) :=
  ReadsOf.at_ (reads_of_C (enc := Value.float k) (d := (0 : Nat)) (h1 := fun _ => rfl) h) i h0 h1
theorem foot_float {w : World} {ad : Addr} {n : Nat} {k : FloatKind} {l : List Nat} (h : (Kd.float k).C w (some ad) n l) (i : Int) (h0 : 0 ≤ i) (h1 : i < n) : w.cell? (ad.add i.toNat) = some (.float k (rdOf (0 : Nat) l i)) := by
  obtain ⟨ad', he, hc⟩ := at_float h i h0 h1
  obtain rfl := Option.some.inj he
  exact hc
/-- A complex number, told by its two parts. -/
abbrev _root_.Go.cpxV (k : FloatKind) (p : Nat × Nat) : Value := .complex k p.1 p.2
def complex (k : FloatKind) : Kd (Nat × Nat) := scalar (cpxV k) (fun _ => rfl)
theorem heap_complex (k : FloatKind) : Heap (Kd.complex k) := ⟨fun _ h => h⟩
theorem at_complex {w : World} {A : Option Addr} {n : Nat} {k : FloatKind} {xs : List (Nat × Nat)} (h : (Kd.complex k).C w A n xs) (i : Int) (h0 : 0 ≤ i) (h1 : i < n) : ∃ ad, A = some ad ∧ w.cell? (ad.add i.toNat) = some (.complex k (rdOf ((0, 0) : Nat × Nat) xs i).1 (rdOf ((0, 0) : Nat × Nat) xs i).2) :=
  ReadsOf.at_ (reads_of_C (enc := cpxV k) (d := ((0, 0) : Nat × Nat)) (h1 := fun _ => rfl) h) i h0 h1
theorem foot_complex {w : World} {ad : Addr} {n : Nat} {k : FloatKind} {l : List (Nat × Nat)} (h : (Kd.complex k).C w (some ad) n l) (i : Int) (h0 : 0 ≤ i) (h1 : i < n) : w.cell? (ad.add i.toNat) = some (.complex k (rdOf ((0, 0) : Nat × Nat) l i).1 (rdOf ((0, 0) : Nat × Nat) l i).2) := by
  obtain ⟨ad', he, hc⟩ := at_complex h i h0 h1
  obtain rfl := Option.some.inj he
  exact hc
end Kd
/-- The parts narrowed to single precision; where both have such bits that no question is asked. -/
def _root_.Go.nsm (x : Nat × Nat) : Bool := (floatToFloatBits .f64 x.1 .f32).isSome && (floatToFloatBits .f64 x.2 .f32).isSome
def _root_.Go.cnar (x : Nat × Nat) : Nat × Nat := ((floatToFloatBits .f64 x.1 .f32).getD 0, (floatToFloatBits .f64 x.2 .f32).getD 0)
@[go_sem] theorem run_cnar {P : Program} (w : World) (src dst : TypeId) (a b : Nat) (hs : (P.underlying src).isSome = true) (hd : P.underlying dst = some (.complex .f32)) (h : nsm (a, b) = true) :
    (convert src dst (.complex .f64 a b)).run P w = .ok (.complex .f32 (cnar (a, b)).1 (cnar (a, b)).2) w := by
  unfold nsm at h
  rw [Bool.and_eq_true] at h
  obtain ⟨h1, h2⟩ := h
  obtain ⟨x, hx⟩ := Option.isSome_iff_exists.1 h1
  obtain ⟨y, hy⟩ := Option.isSome_iff_exists.1 h2
  have e : cConvBits .f64 a b .f32 = some (x, y) := by
    unfold cConvBits
    simp only at hx hy
    rw [hx, hy]
    rfl
  have := run_convert_complex (P := P) (w := w) src dst .f64 .f32 a b x y hs hd e
  unfold cnar
  simp only at hx hy ⊢
  rw [hx, hy]
  exact this
/-- Arithmetic and conversions that ask no question (no NaN comes of them): told by their bits. -/
def _root_.Go.fok (op : BinOp) (k : FloatKind) (x y : Nat) : Bool := (floatBits op k x y).isSome
def _root_.Go.fop (op : BinOp) (k : FloatKind) (x y : Nat) : Nat := (floatBits op k x y).getD 0
def _root_.Go.cok (s : FloatKind) (x : Nat) (k : FloatKind) : Bool := (floatToFloatBits s x k).isSome
def _root_.Go.cvt (s : FloatKind) (x : Nat) (k : FloatKind) : Nat := (floatToFloatBits s x k).getD 0
theorem fop_some {op : BinOp} {k : FloatKind} {x y : Nat} (h : fok op k x y = true) : floatBits op k x y = some (fop op k x y) := by
  unfold fok at h
  obtain ⟨r, hr⟩ := Option.isSome_iff_exists.1 h
  unfold fop
  rw [hr]
  rfl
theorem cvt_some {s k : FloatKind} {x : Nat} (h : cok s x k = true) : floatToFloatBits s x k = some (cvt s x k) := by
  unfold cok at h
  obtain ⟨r, hr⟩ := Option.isSome_iff_exists.1 h
  unfold cvt
  rw [hr]
  rfl
@[go_sem] theorem run_fadd {P : Program} (w : World) (t : TypeId) (k : FloatKind) (x y : Nat) (h : fok .add k x y = true) : (binOp .add t (.float k x) (.float k y)).run P w = .ok (.float k (fop .add k x y)) w := run_float_arith w .add t k x y _ (fop_some h)
@[go_sem] theorem run_fsub {P : Program} (w : World) (t : TypeId) (k : FloatKind) (x y : Nat) (h : fok .sub k x y = true) : (binOp .sub t (.float k x) (.float k y)).run P w = .ok (.float k (fop .sub k x y)) w := run_float_arith w .sub t k x y _ (fop_some h)
@[go_sem] theorem run_fmul {P : Program} (w : World) (t : TypeId) (k : FloatKind) (x y : Nat) (h : fok .mul k x y = true) : (binOp .mul t (.float k x) (.float k y)).run P w = .ok (.float k (fop .mul k x y)) w := run_float_arith w .mul t k x y _ (fop_some h)
@[go_sem] theorem run_fquo {P : Program} (w : World) (t : TypeId) (k : FloatKind) (x y : Nat) (h : fok .quo k x y = true) : (binOp .quo t (.float k x) (.float k y)).run P w = .ok (.float k (fop .quo k x y)) w := run_float_arith w .quo t k x y _ (fop_some h)
@[go_sem] theorem run_cvt {P : Program} (w : World) (src dst : TypeId) (s k : FloatKind) (x : Nat) (hs : (P.underlying src).isSome = true) (hd : P.underlying dst = some (.float k)) (h : cok s x k = true) : (convert src dst (.float s x)).run P w = .ok (.float k (cvt s x k)) w :=
  run_convert_float_float w src dst s k x _ hs hd (cvt_some h)
@[go_sem] theorem run_store_complex (P : Program) (w : World) (a : Addr) (m : Mode) (k : FloatKind) (x y : Nat) : (store a (.complex k x y) m).run P w = stored P w a (.complex k x y) m := run_store P w a _ m rfl
@[go_sem] theorem run_store_float (P : Program) (w : World) (a : Addr) (m : Mode) (k : FloatKind) (b : Nat) : (store a (.float k b) m).run P w = stored P w a (.float k b) m := run_store P w a _ m rfl
end Go.Proofs.YtffofpiejcolfaaW.PrintWords
