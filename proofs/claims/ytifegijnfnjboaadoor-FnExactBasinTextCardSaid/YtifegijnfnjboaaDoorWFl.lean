/- Floats as what a slice's elements and a struct's fields are: a float is told by its bits. -/
import Derived.Test.YtifegijnfnjboaaDoorWMore
import Derived.Laws.Cover2
import Derived.Laws.FloatArith
import Derived.Laws.Cover3
import Derived.Laws.ComplexArith
namespace Go.Proofs.YtifegijnfnjboaaDoorW.PrintWords
open Go.RowKit
namespace Kd
def float (k : FloatKind) : Kd Nat := scalar (Value.float k) (fun _ => rfl)
theorem heap_float (k : FloatKind) : Heap (Kd.float k) := ⟨fun _ h => h⟩
theorem at_float {w : World} {A : Option Addr} {n : Nat} {k : FloatKind} {xs : List Nat} (h : (Kd.float k).C w A n xs) (i : Int) (h0 : 0 ≤ i) (h1 : i < n) : ∃ ad, A = some ad ∧ w.cell? (ad.add i.toNat) = some (.float k (rdOf (0 : Nat) xs i)) :=
  ReadsOf.at_ (reads_of_C (enc := Value.float k) (d := (0 : Nat)) (h1 := fun _ => rfl) h) i h0 h1
theorem foot_float {w : World} {ad : Addr} {n : Nat} {k : FloatKind} {l : List Nat} (h : (Kd.float k).C w (some ad) n l) (i : Int) (h0 : 0 ≤ i) (h1 : i < n) : w.cell? (ad.add i.toNat) = some (.float k (rdOf (0 : Nat) l i)) := by
  obtain ⟨ad', he, hc⟩ := at_float h i h0 h1
  obtain rfl := Option.some.inj he
  exact hc
/-- A complex number, told by its two parts. -/
abbrev _root_.Go.cpxV (k : FloatKind) (p : Nat × Nat) : Value := .complex k p.1 p.2
def complex (k : FloatKind) : Kd (Nat × Nat) := scalar (cpxV k) (fun _ => rfl)
theorem heap_complex (k : FloatKind) : Heap (Kd.complex k) := ⟨fun _ h => h⟩
theorem at_complex {w : World} {A : Option Addr} {n : Nat} {k : FloatKind} {xs : List (Nat × Nat)} (h : (Kd.complex k).C w A n xs) (i : Int) (h0 : 0 ≤ i) (h1 : i < n) : ∃ ad, A = some ad ∧ w.cell? (ad.add i.toNat) = some (.complex k (rdOf ((0, 0) : Nat × Nat) xs i).1 (rdOf ((0, 0) : Nat × Nat) xs i).2) :=
  ReadsOf.at_ (reads_of_C (enc := cpxV k) (d := ((0, 0) : Nat × Nat)) (h1 := fun _ => rfl) h) i h0 h1
theorem foot_complex {w : World} {ad : Addr} {n : Nat} {k : FloatKind} {l : List (Nat × Nat)} (h : (Kd.complex k).C w (some ad) n l) (i : Int) (h0 : 0 ≤ i) (h1 : i < n) : w.cell? (ad.add i.toNat) = some (.complex k (rdOf ((0, 0) : Nat × Nat) l i).1 (rdOf ((0, 0) : Nat × Nat) l i).2) := by
  obtain ⟨ad', he, hc⟩ := at_complex h i h0 h1
  obtain rfl := Option.some.inj he
  exact hc
end Kd
/-- The parts narrowed to single precision; where both have such bits that no question is asked. -/
def _root_.Go.nsm (x : Nat × Nat) : Bool := (floatToFloatBits .f64 x.1 .f32).isSome && (floatToFloatBits .f64 x.2 .f32).isSome
def _root_.Go.cnar (x : Nat × Nat) : Nat × Nat := ((floatToFloatBits .f64 x.1 .f32).getD 0, (floatToFloatBits .f64 x.2 .f32).getD 0)
@[go_sem] theorem run_cnar {P : Program} (w : World) (src dst : TypeId) (a b : Nat) (hs : (P.underlying src).isSome = true) (hd : P.underlying dst = some (.complex .f32)) (h : nsm (a, b) = true) :
    (convert src dst (.complex .f64 a b)).run P w = .ok (.complex .f32 (cnar (a, b)).1 (cnar (a, b)).2) w := by
  unfold nsm at h
  rw [Bool.and_eq_true] at h
  obtain ⟨h1, h2⟩ := h
  obtain ⟨x, hx⟩ := Option.isSome_iff_exists.1 h1
  obtain ⟨y, hy⟩ := Option.isSome_iff_exists.1 h2
  have e : cConvBits .f64 a b .f32 = some (x, y) := by
    unfold cConvBits
    simp only at hx hy
    rw [hx, hy]
    rfl
  have := run_convert_complex (P := P) (w := w) src dst .f64 .f32 a b x y hs hd e
  unfold cnar
  simp only at hx hy ⊢
  rw [hx, hy]
  exact this
@[go_sem] theorem run_store_complex (P : Program) (w : World) (a : Addr) (m : Mode) (k : FloatKind) (x y : Nat) : (store a (.complex k x y) m).run P w = stored P w a (.complex k x y) m := run_store P w a _ m rfl
@[go_sem] theorem run_store_float (P : Program) (w : World) (a : Addr) (m : Mode) (k : FloatKind) (b : Nat) : (store a (.float k b) m).run P w = stored P w a (.float k b) m := run_store P w a _ m rfl
end Go.Proofs.YtifegijnfnjboaaDoorW.PrintWords
