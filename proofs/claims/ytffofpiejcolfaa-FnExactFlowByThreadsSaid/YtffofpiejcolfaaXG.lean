/- The flow of threads at a point: pure steps, sizes; the program's (*Thread).flow. -/
import Derived.Test.YtffofpiejcolfaaXK
set_option linter.unusedVariables false
set_option linter.unusedSimpArgs false
namespace Go.Proofs.Ytffofpiejcolfaa
open Go.RowKit Go.Proofs.YtffofpiejcolfaaW.PrintWords Go.Proofs.YtffofpiejcolfaaW.PrintLast Go.Proofs.YtffofpiejcolfaaW.PrintMore
attribute [local go_sem] max2_int min2_int max_two min_two max_three min_three max_four min_four   -- for this text's walks alone
namespace XG
open XF XL XC XY XE XN XK L0
theorem fok_of {op : BinOp} {k : FloatKind} {x y r : Nat} (h : floatBits op k x y = some r) : fok op k x y = true ∧ fop op k x y = r := by
  unfold fok fop
  rw [h]
  exact ⟨rfl, rfl⟩
theorem cok_of {s k : FloatKind} {x r : Nat} (h : floatToFloatBits s x k = some r) : cok s x k = true ∧ cvt s x k = r := by
  unfold cok cvt
  rw [h]
  exact ⟨rfl, rfl⟩
theorem inner_ok {a b c : Nat} {s1 s2 s3 : Bool} (h1 : Is s1 (FloatKind.f32.format.read a)) (h2 : Is s2 (FloatKind.f32.format.read b)) (h3 : Is s3 (FloatKind.f32.format.read c)) : ∃ r, impl_InnerOf.f a b c a b c = some r ∧ Is false (FloatKind.f32.format.read r) := by
  obtain ⟨p1, g1, i1⟩ := mul_sq h1
  obtain ⟨p2, g2, i2⟩ := mul_sq h2
  obtain ⟨p3, g3, i3⟩ := mul_sq h3
  obtain ⟨q1, g4, i4⟩ := add_nn i1 i2
  obtain ⟨q2, g5, i5⟩ := add_nn i4 i3
  refine ⟨q2, ?_, i5⟩
  unfold impl_InnerOf.f
  rw [if_pos (fok_of g1).1, if_pos (fok_of g2).1, (fok_of g1).2, (fok_of g2).2, if_pos (fok_of g4).1, if_pos (fok_of g3).1, (fok_of g3).2, (fok_of g4).2, if_pos (fok_of g5).1, (fok_of g5).2]
theorem root_both {a : Nat} (h : Is false (FloatKind.f32.format.read a)) : ∃ r, impl_RootNumber.f a = some r ∧ spec_l01Sqrt.f a = some r ∧ Is false (FloatKind.f32.format.read r) := by
  obtain ⟨b, h1, h2⟩ := wide h
  obtain ⟨c, h3, h4⟩ := root_ok h2
  obtain ⟨r, h5, h6⟩ := narrow_ok h4
  refine ⟨r, ?_, ?_, h6⟩
  · unfold impl_RootNumber.f XR.Sqrt.f
    rw [if_pos (cok_of h1).1, (cok_of h1).2, h3]
    simp only [Option.bind_some]
    rw [if_pos (cok_of h5).1, (cok_of h5).2]
  · unfold spec_l01Sqrt.f XR.Sqrt.f spec_l01Narrow.f
    rw [if_pos (cok_of h1).1, (cok_of h1).2, h3]
    simp only [Option.bind_some]
    rw [if_pos (cok_of h5).1, (cok_of h5).2]
    rfl
theorem Is_n {s : Bool} {x : Nat} (h : Is s (FloatKind.f32.format.read x)) : isn .f32 x = false := by
  unfold isn
  rcases h with ⟨m, e, h⟩ | h <;> rw [h] <;> rfl
theorem E_n {x b : Nat} (h : E x b) (hx : isn .f32 x = false) : b = x := by
  rcases h with h | h
  · exact h
  · rw [h.1] at hx
    cases hx
/-- No part is a NaN. -/
def isV (v : S46) : Prop := (∃ s, Is s (FloatKind.f32.format.read v.f0)) ∧ (∃ s, Is s (FloatKind.f32.format.read v.f1)) ∧ (∃ s, Is s (FloatKind.f32.format.read v.f2))
theorem EV_is {v c : S46} (h : EV v c) (hv : isV v) : c = v := by
  obtain ⟨⟨_, h0⟩, ⟨_, h1⟩, ⟨_, h2⟩⟩ := hv
  obtain ⟨e0, e1, e2⟩ := h
  have k0 := E_n e0 (Is_n h0)
  have k1 := E_n e1 (Is_n h1)
  have k2 := E_n e2 (Is_n h2)
  cases v
  cases c
  simp only at k0 k1 k2
  rw [k0, k1, k2]
theorem nf {x : Nat} (h : fin x = true) : Num x := num_of_fin h
theorem sub_v {x y : S46} (hx : vfin x = true) (hy : vfin y = true) : isV (opV .sub x y) := by
  unfold vfin at hx hy
  simp only [Bool.and_eq_true] at hx hy
  have key : ∀ {a b : Nat}, fin a = true → fin b = true → ∃ s, Is s (FloatKind.f32.format.read (ar .sub a b)) := by
    intro a b ha hb
    obtain ⟨r, h1, h2⟩ := sub_ok (nf ha) (nf hb)
    unfold ar
    rw [h1]
    exact h2
  exact ⟨key hx.1 hy.1, key hx.2.1 hy.2.1, key hx.2.2 hy.2.2⟩
/-- The size of a vector. -/
def szV (v : S46) : Nat := (impl_SizeOfVector.f v.f0 v.f1 v.f2).getD 0
theorem size_ok {v : S46} (hv : isV v) : impl_SizeOfVector.f v.f0 v.f1 v.f2 = some (szV v) ∧ spec_l01VLong.f v.f0 v.f1 v.f2 = some (szV v) ∧ Is false (FloatKind.f32.format.read (szV v)) := by
  obtain ⟨⟨_, h0⟩, ⟨_, h1⟩, ⟨_, h2⟩⟩ := hv
  obtain ⟨p, g, k4⟩ := inner_ok h0 h1 h2
  obtain ⟨q, g1, g2, k5⟩ := root_both k4
  have e : impl_SizeOfVector.f v.f0 v.f1 v.f2 = some q := by
    unfold impl_SizeOfVector.f
    rw [g]
    simp only [Option.bind_some]
    rw [g1]
    rfl
  have e2 : szV v = q := by
    unfold szV
    rw [e]
    rfl
  rw [e2]
  refine ⟨e, ?_, k5⟩
  unfold spec_l01VLong.f
  rw [show @spec_l01VInner.f = @impl_InnerOf.f from rfl, g]
  simp only [Option.bind_some]
  rw [g2]
  rfl
def dnV (r s : S46) (core : Nat) : Nat := ar .add (ar .mul (ar .mul (szV r) (szV s)) (ar .add (ar .mul (szV r) (szV s)) (inV r s))) (ar .mul core core)
def flowS (r s : S46) (core : Nat) (w : S46) : S46 :=
  if (FloatKind.f32.format.order (dnV r s core) 0 == some .gt) = true then opV .add w (mulV (crossV r s) (ar .quo (ar .add (szV r) (szV s)) (dnV r s core))) else w
def flowI (at_ : S46) (core : Nat) (l : List S46) (i : Nat) (w : S46) : S46 := flowS (opV .sub at_ (pt l i)) (opV .sub at_ (nx l i)) core w
def iterV (f : Nat → S46 → S46) : Nat → Nat → S46 → S46
  | 0, _, acc => acc
  | k + 1, i, acc => iterV f k (i + 1) (f i acc)
def flowV (at_ : S46) (core : Nat) (l : List S46) : S46 := iterV (flowI at_ core l) l.length 0 ⟨0, 0, 0⟩
end XG
end Go.Proofs.Ytffofpiejcolfaa
