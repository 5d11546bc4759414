/- Words, walks and plain laws that a claim of this seat needs, one text after the other (part 6). -/
import Derived.Test.YtijinnbcebhfhaaBT5
set_option linter.unusedVariables false
set_option linter.unusedSimpArgs false
section
namespace Go.Proofs.Ytijinnbcebhfhaa.T1
open Go.Proofs.Ytijinnbcebhfhaa.T0
open Go.RowKit Go.Proofs.YtijinnbcebhfhaaW.PrintWords Go.Proofs.YtijinnbcebhfhaaW.PrintLast Go.Proofs.YtijinnbcebhfhaaW.PrintMore
attribute [local go_sem] max2_int min2_int max_two min_two max_three min_three max_four min_four
set_option linter.unusedVariables false
set_option linter.unusedSimpArgs false
attribute [local go_sem high] binOp_fge binOp_fle
mutual
def laws_FnTurned.j0 : Nat → Int → List Nat → Bool → List (Nat × Nat) → List Nat → Bool → List (Nat × Nat) → List Nat → Bool → Option (Bool)
  | 0, _, _, _, _, _, _, _, _, _ => none
  | k + 1, x5, x13, x147, x157000, x157001, x157002, x187000, x187001, x187002 => if x147 = true then (some false) else (laws_FnTurned.l0 k x5 x13 0 (x13.length : Int) 0 x157000 x157001 x157002 x187000 x187001 x187002)
def laws_FnTurned.l0 : Nat → Int → List Nat → Nat → Int → Int → List (Nat × Nat) → List Nat → Bool → List (Nat × Nat) → List Nat → Bool → Option (Bool)
  | 0, _, _, _, _, _, _, _, _, _, _, _ => none
  | k + 1, x5, x13, x23, x149, x150, x157000, x157001, x157002, x187000, x187001, x187002 => if x150 < x149 then (if 0 ≤ x150 then (if x150 < (x13.length : Int) then (if cok .f32 (rdOf (0 : Nat) x13 x150) .f64 = true then (if fok .add .f64 x23 (cvt .f32 (rdOf (0 : Nat) x13 x150) .f64) = true then (if fok .mul .f64 (cvt .f32 (rdOf (0 : Nat) x13 x150) .f64) (floatOfInt .f64 x5) = true then ((T0.laws_b10Gap.f (fop .mul .f64 (cvt .f32 (rdOf (0 : Nat) x13 x150) .f64) (floatOfInt .f64 x5)) 4607182418800017408).bind fun t193 => (if (FloatKind.f64.format.order t193 4576918229304087675 == some .gt) = true then (some false) else (if x150 < (x187000.length : Int) then (if x150 < (x157000.length : Int) then ((T0.laws_b10Apart.f (rdOf ((0, 0) : Nat × Nat) x187000 x150) (rdOf ((0, 0) : Nat × Nat) x157000 x150)).bind fun t196 => (if (FloatKind.f64.format.order t196 4562254508917369340 == some .gt) = true then (some false) else (laws_FnTurned.l0 k x5 x13 (fop .add .f64 x23 (cvt .f32 (rdOf (0 : Nat) x13 x150) .f64)) x149 (wrap64 (x150 + 1)) x157000 x157001 x157002 x187000 x187001 x187002))) else (none)) else (none)))) else (none)) else (none)) else (none)) else (none)) else (none)) else ((T0.laws_b10Gap.f x23 4607182418800017408).bind fun t190 => (some (FloatKind.f64.format.order t190 4562254508917369340 == some .lt)))
end
def laws_FnTurned.f (k : Nat) (l0 : List Int) (l1 : List Int) : Option (Bool) := (T0.laws_b10Long.f l0 l1).bind fun t145 => (if t145 = true then (some true) else ((T0.laws_b10At.f l0 0 12).bind fun t146 => ((T0.laws_b10At.f l0 1 8).bind fun t147 => (if fok .quo .f32 (floatOfInt .f32 (wrap64 (1 + t147))) 1082130432 = true then ((T0.impl_RingSheet.f k (wrap64 (3 + t146)) (fop .quo .f32 (floatOfInt .f32 (wrap64 (1 + t147))) 1082130432) 1065353216).bind fun bt148 => ((T0.impl_AroundPoint.f k bt148.1 bt148.2.1 bt148.2.2.1 ((0, 0) : Nat × Nat)).bind fun bt157 => (if fok .mul .f32 1073741824 (fop .quo .f32 (floatOfInt .f32 (wrap64 (1 + t147))) 1082130432) = true then (if fok .add .f32 (fop .mul .f32 1073741824 (fop .quo .f32 (floatOfInt .f32 (wrap64 (1 + t147))) 1082130432)) 1065353216 = true then ((T0.impl_AroundPoint.f k bt148.1 bt148.2.1 bt148.2.2.1 ((fop .add .f32 (fop .mul .f32 1073741824 (fop .quo .f32 (floatOfInt .f32 (wrap64 (1 + t147))) 1082130432)) 1065353216, 1040187392) : Nat × Nat)).bind fun bt159 => ((T0.impl_BendsOf.f k bt148.1 bt148.2.1 bt148.2.2.1).bind fun bt161 => ((T0.impl_BackSheet.f k bt148.1 bt148.2.1 bt148.2.2.1).bind fun bt165 => ((T0.impl_AroundPoint.f k bt165.1 bt165.2.1 bt165.2.2.1 ((0, 0) : Nat × Nat)).bind fun bt174 => ((T0.impl_SheetArea.f k bt148.1 bt148.2.1 bt148.2.2.1).bind fun bt176 => ((impl_WaveSheet.f k bt148.1 bt148.2.1 bt148.2.2.1 1065353216 0).bind fun bt178 => (if bt148.2.2.2 = true then (if bt157.2 = true then (if bt159.2 = true then (if bt161.2 = true then (if bt165.2.2.2 = true then (if bt174.2 = true then (if bt176.2 = true then (if bt178.2.2.2 = true then (if cok .f32 bt157.1 .f64 = true then ((T0.laws_b10Gap.f (cvt .f32 bt157.1 .f64) 4607182418800017408).bind fun t187 => (if (FloatKind.f64.format.order t187 4562254508917369340 == some .gt) = true then (laws_FnTurned.j0 k (wrap64 (3 + t146)) bt161.1 true bt148.1 bt148.2.1 bt148.2.2.1 bt178.1 bt178.2.1 bt178.2.2.1) else (if cok .f32 bt159.1 .f64 = true then ((T0.laws_b10Gap.f (cvt .f32 bt159.1 .f64) 0).bind fun t188 => (if (FloatKind.f64.format.order t188 4562254508917369340 == some .gt) = true then (laws_FnTurned.j0 k (wrap64 (3 + t146)) bt161.1 true bt148.1 bt148.2.1 bt148.2.2.1 bt178.1 bt178.2.1 bt178.2.2.1) else (if cok .f32 bt174.1 .f64 = true then ((T0.laws_b10Gap.f (cvt .f32 bt174.1 .f64) 13830554455654793216).bind fun t189 => (if (FloatKind.f64.format.order t189 4562254508917369340 == some .gt) = true then (laws_FnTurned.j0 k (wrap64 (3 + t146)) bt161.1 true bt148.1 bt148.2.1 bt148.2.2.1 bt178.1 bt178.2.1 bt178.2.2.1) else (if (fle .f32 bt176.1 0) = true then (laws_FnTurned.j0 k (wrap64 (3 + t146)) bt161.1 true bt148.1 bt148.2.1 bt148.2.2.1 bt178.1 bt178.2.1 bt178.2.2.1) else (if (bt161.1.length : Int) = (wrap64 (3 + t146)) then (laws_FnTurned.j0 k (wrap64 (3 + t146)) bt161.1 ((bt178.1.length : Int) != (bt148.1.length : Int)) bt148.1 bt148.2.1 bt148.2.2.1 bt178.1 bt178.2.1 bt178.2.2.1) else (laws_FnTurned.j0 k (wrap64 (3 + t146)) bt161.1 true bt148.1 bt148.2.1 bt148.2.2.1 bt178.1 bt178.2.1 bt178.2.2.1))))) else (none)))) else (none)))) else (none)) else (laws_FnTurned.j0 k (wrap64 (3 + t146)) bt161.1 true bt148.1 bt148.2.1 bt148.2.2.1 bt178.1 bt178.2.1 bt178.2.2.1)) else (laws_FnTurned.j0 k (wrap64 (3 + t146)) bt161.1 true bt148.1 bt148.2.1 bt148.2.2.1 bt178.1 bt178.2.1 bt178.2.2.1)) else (laws_FnTurned.j0 k (wrap64 (3 + t146)) bt161.1 true bt148.1 bt148.2.1 bt148.2.2.1 bt178.1 bt178.2.1 bt178.2.2.1)) else (laws_FnTurned.j0 k (wrap64 (3 + t146)) bt161.1 true bt148.1 bt148.2.1 bt148.2.2.1 bt178.1 bt178.2.1 bt178.2.2.1)) else (laws_FnTurned.j0 k (wrap64 (3 + t146)) bt161.1 true bt148.1 bt148.2.1 bt148.2.2.1 bt178.1 bt178.2.1 bt178.2.2.1)) else (laws_FnTurned.j0 k (wrap64 (3 + t146)) bt161.1 true bt148.1 bt148.2.1 bt148.2.2.1 bt178.1 bt178.2.1 bt178.2.2.1)) else (laws_FnTurned.j0 k (wrap64 (3 + t146)) bt161.1 true bt148.1 bt148.2.1 bt148.2.2.1 bt178.1 bt178.2.1 bt178.2.2.1)) else (laws_FnTurned.j0 k (wrap64 (3 + t146)) bt161.1 true bt148.1 bt148.2.1 bt148.2.2.1 bt178.1 bt178.2.1 bt178.2.2.1)))))))) else (none)) else (none)))) else (none)))))
theorem FnTurned_j0_no {a0 : Nat} {a1 : Int} {a2 : List Nat} {a4 : List (Nat × Nat)} {a5 : List Nat} {a6 : Bool} {a7 : List (Nat × Nat)} {a8 : List Nat} {a9 : Bool} : laws_FnTurned.j0 a0 a1 a2 true a4 a5 a6 a7 a8 a9 ≠ some true := by
  cases a0 <;> simp [laws_FnTurned.j0]
def laws_FnTurned.T20 : Bool × List (List Nat × List Nat) := (true, [([], []), ([], []), ([0, 1], [0, 1]), ([2], [2]), ([3], [3]), ([], []), ([5], [5]), ([4, 6], [4, 6]), ([7], [7]), ([8], [8]), ([9, 8], [9]), ([10], [10]), ([11, 10], [10, 11]), ([10], [10]), ([12, 13, 10], [10, 12, 13]), ([14, 10], [10, 14]), ([10], [10]), ([16, 10], [10, 16]), ([10], [10]), ([17, 18, 10], [10, 17, 18]), ([19, 10], [10, 19]), ([15, 20, 10, 10], [10, 15, 20]), ([21, 10], [10, 21]), ([10, 22], [10, 22])])
def laws_FnTurned.B20 : List Nat := [0, 0, 3, 7, 15, 0, 32, 127, 255, 511, 1023, 2047, 4095, 2047, 16383, 32767, 2047, 67583, 2047, 460799, 985087, 2097151, 4194303, 8388607]
theorem laws_FnTurned.tab20 : rtab .any (opsOf Try.f3 20) = laws_FnTurned.T20 := by kernel_rfl
theorem laws_FnTurned.bits20 : waitsOk laws_FnTurned.T20.2 laws_FnTurned.B20 = true := by kernel_rfl
theorem AS {p : Prop} (h : p) : Aside0 p := ⟨h⟩
set_option maxHeartbeats 8000000 in
set_option maxRecDepth 100000 in
theorem laws_FnTurned.calls (k : Nat) (A0 : Option Addr) (c0 : Nat) (l0 : List Int) (A1 : Option Addr) (c1 : Nat) (l1 : List Int) (w : World) (hr0 : Kd.C (Kd.int .u8) w A0 l0.length l0) (hc0 : l0.length ≤ c0) (hr1 : Kd.C (Kd.int .u8) w A1 l1.length l1) (hc1 : l1.length ≤ c1) (h : laws_FnTurned.f k l0 l1 = some true) :
    Calls Try.prog 3 #[.slice A0 l0.length c0, .slice A1 l1.length c1] w fun e w' => e = .returned (.bool true) ∧ Below w.heap.size w w' := by
  have hu29 := Try.underlying29
  have HR0 := AS hr0
  have HC0 := AS hc0
  clear hr0 hc0
  have HR1 := AS hr1
  have HC1 := AS hc1
  clear hr1 hc1
  have HB := AS (Below.refl w.heap.size w)
  have H : ((T0.laws_b10Long.f l0 l1).bind fun t145 => (if t145 = true then (some true) else ((T0.laws_b10At.f l0 0 12).bind fun t146 => ((T0.laws_b10At.f l0 1 8).bind fun t147 => (if fok .quo .f32 (floatOfInt .f32 (wrap64 (1 + t147))) 1082130432 = true then ((T0.impl_RingSheet.f k (wrap64 (3 + t146)) (fop .quo .f32 (floatOfInt .f32 (wrap64 (1 + t147))) 1082130432) 1065353216).bind fun bt148 => ((T0.impl_AroundPoint.f k bt148.1 bt148.2.1 bt148.2.2.1 ((0, 0) : Nat × Nat)).bind fun bt157 => (if fok .mul .f32 1073741824 (fop .quo .f32 (floatOfInt .f32 (wrap64 (1 + t147))) 1082130432) = true then (if fok .add .f32 (fop .mul .f32 1073741824 (fop .quo .f32 (floatOfInt .f32 (wrap64 (1 + t147))) 1082130432)) 1065353216 = true then ((T0.impl_AroundPoint.f k bt148.1 bt148.2.1 bt148.2.2.1 ((fop .add .f32 (fop .mul .f32 1073741824 (fop .quo .f32 (floatOfInt .f32 (wrap64 (1 + t147))) 1082130432)) 1065353216, 1040187392) : Nat × Nat)).bind fun bt159 => ((T0.impl_BendsOf.f k bt148.1 bt148.2.1 bt148.2.2.1).bind fun bt161 => ((T0.impl_BackSheet.f k bt148.1 bt148.2.1 bt148.2.2.1).bind fun bt165 => ((T0.impl_AroundPoint.f k bt165.1 bt165.2.1 bt165.2.2.1 ((0, 0) : Nat × Nat)).bind fun bt174 => ((T0.impl_SheetArea.f k bt148.1 bt148.2.1 bt148.2.2.1).bind fun bt176 => ((impl_WaveSheet.f k bt148.1 bt148.2.1 bt148.2.2.1 1065353216 0).bind fun bt178 => (if bt148.2.2.2 = true then (if bt157.2 = true then (if bt159.2 = true then (if bt161.2 = true then (if bt165.2.2.2 = true then (if bt174.2 = true then (if bt176.2 = true then (if bt178.2.2.2 = true then (if cok .f32 bt157.1 .f64 = true then ((T0.laws_b10Gap.f (cvt .f32 bt157.1 .f64) 4607182418800017408).bind fun t187 => (if (FloatKind.f64.format.order t187 4562254508917369340 == some .gt) = true then (laws_FnTurned.j0 k (wrap64 (3 + t146)) bt161.1 true bt148.1 bt148.2.1 bt148.2.2.1 bt178.1 bt178.2.1 bt178.2.2.1) else (if cok .f32 bt159.1 .f64 = true then ((T0.laws_b10Gap.f (cvt .f32 bt159.1 .f64) 0).bind fun t188 => (if (FloatKind.f64.format.order t188 4562254508917369340 == some .gt) = true then (laws_FnTurned.j0 k (wrap64 (3 + t146)) bt161.1 true bt148.1 bt148.2.1 bt148.2.2.1 bt178.1 bt178.2.1 bt178.2.2.1) else (if cok .f32 bt174.1 .f64 = true then ((T0.laws_b10Gap.f (cvt .f32 bt174.1 .f64) 13830554455654793216).bind fun t189 => (if (FloatKind.f64.format.order t189 4562254508917369340 == some .gt) = true then (laws_FnTurned.j0 k (wrap64 (3 + t146)) bt161.1 true bt148.1 bt148.2.1 bt148.2.2.1 bt178.1 bt178.2.1 bt178.2.2.1) else (if (fle .f32 bt176.1 0) = true then (laws_FnTurned.j0 k (wrap64 (3 + t146)) bt161.1 true bt148.1 bt148.2.1 bt148.2.2.1 bt178.1 bt178.2.1 bt178.2.2.1) else (if (bt161.1.length : Int) = (wrap64 (3 + t146)) then (laws_FnTurned.j0 k (wrap64 (3 + t146)) bt161.1 ((bt178.1.length : Int) != (bt148.1.length : Int)) bt148.1 bt148.2.1 bt148.2.2.1 bt178.1 bt178.2.1 bt178.2.2.1) else (laws_FnTurned.j0 k (wrap64 (3 + t146)) bt161.1 true bt148.1 bt148.2.1 bt148.2.2.1 bt178.1 bt178.2.1 bt178.2.2.1))))) else (none)))) else (none)))) else (none)) else (laws_FnTurned.j0 k (wrap64 (3 + t146)) bt161.1 true bt148.1 bt148.2.1 bt148.2.2.1 bt178.1 bt178.2.1 bt178.2.2.1)) else (laws_FnTurned.j0 k (wrap64 (3 + t146)) bt161.1 true bt148.1 bt148.2.1 bt148.2.2.1 bt178.1 bt178.2.1 bt178.2.2.1)) else (laws_FnTurned.j0 k (wrap64 (3 + t146)) bt161.1 true bt148.1 bt148.2.1 bt148.2.2.1 bt178.1 bt178.2.1 bt178.2.2.1)) else (laws_FnTurned.j0 k (wrap64 (3 + t146)) bt161.1 true bt148.1 bt148.2.1 bt148.2.2.1 bt178.1 bt178.2.1 bt178.2.2.1)) else (laws_FnTurned.j0 k (wrap64 (3 + t146)) bt161.1 true bt148.1 bt148.2.1 bt148.2.2.1 bt178.1 bt178.2.1 bt178.2.2.1)) else (laws_FnTurned.j0 k (wrap64 (3 + t146)) bt161.1 true bt148.1 bt148.2.1 bt148.2.2.1 bt178.1 bt178.2.1 bt178.2.2.1)) else (laws_FnTurned.j0 k (wrap64 (3 + t146)) bt161.1 true bt148.1 bt148.2.1 bt148.2.2.1 bt178.1 bt178.2.1 bt178.2.2.1)) else (laws_FnTurned.j0 k (wrap64 (3 + t146)) bt161.1 true bt148.1 bt148.2.1 bt148.2.2.1 bt178.1 bt178.2.1 bt178.2.2.1)))))))) else (none)) else (none)))) else (none)))))) = some true := h
  clear h
  replace H := Option.bind_eq_some_iff.mp H
  obtain ⟨t145, A30, H⟩ := H
  replace H : (if t145 = true then (some true) else ((T0.laws_b10At.f l0 0 12).bind fun t146 => ((T0.laws_b10At.f l0 1 8).bind fun t147 => (if fok .quo .f32 (floatOfInt .f32 (wrap64 (1 + t147))) 1082130432 = true then ((T0.impl_RingSheet.f k (wrap64 (3 + t146)) (fop .quo .f32 (floatOfInt .f32 (wrap64 (1 + t147))) 1082130432) 1065353216).bind fun bt148 => ((T0.impl_AroundPoint.f k bt148.1 bt148.2.1 bt148.2.2.1 ((0, 0) : Nat × Nat)).bind fun bt157 => (if fok .mul .f32 1073741824 (fop .quo .f32 (floatOfInt .f32 (wrap64 (1 + t147))) 1082130432) = true then (if fok .add .f32 (fop .mul .f32 1073741824 (fop .quo .f32 (floatOfInt .f32 (wrap64 (1 + t147))) 1082130432)) 1065353216 = true then ((T0.impl_AroundPoint.f k bt148.1 bt148.2.1 bt148.2.2.1 ((fop .add .f32 (fop .mul .f32 1073741824 (fop .quo .f32 (floatOfInt .f32 (wrap64 (1 + t147))) 1082130432)) 1065353216, 1040187392) : Nat × Nat)).bind fun bt159 => ((T0.impl_BendsOf.f k bt148.1 bt148.2.1 bt148.2.2.1).bind fun bt161 => ((T0.impl_BackSheet.f k bt148.1 bt148.2.1 bt148.2.2.1).bind fun bt165 => ((T0.impl_AroundPoint.f k bt165.1 bt165.2.1 bt165.2.2.1 ((0, 0) : Nat × Nat)).bind fun bt174 => ((T0.impl_SheetArea.f k bt148.1 bt148.2.1 bt148.2.2.1).bind fun bt176 => ((impl_WaveSheet.f k bt148.1 bt148.2.1 bt148.2.2.1 1065353216 0).bind fun bt178 => (if bt148.2.2.2 = true then (if bt157.2 = true then (if bt159.2 = true then (if bt161.2 = true then (if bt165.2.2.2 = true then (if bt174.2 = true then (if bt176.2 = true then (if bt178.2.2.2 = true then (if cok .f32 bt157.1 .f64 = true then ((T0.laws_b10Gap.f (cvt .f32 bt157.1 .f64) 4607182418800017408).bind fun t187 => (if (FloatKind.f64.format.order t187 4562254508917369340 == some .gt) = true then (laws_FnTurned.j0 k (wrap64 (3 + t146)) bt161.1 true bt148.1 bt148.2.1 bt148.2.2.1 bt178.1 bt178.2.1 bt178.2.2.1) else (if cok .f32 bt159.1 .f64 = true then ((T0.laws_b10Gap.f (cvt .f32 bt159.1 .f64) 0).bind fun t188 => (if (FloatKind.f64.format.order t188 4562254508917369340 == some .gt) = true then (laws_FnTurned.j0 k (wrap64 (3 + t146)) bt161.1 true bt148.1 bt148.2.1 bt148.2.2.1 bt178.1 bt178.2.1 bt178.2.2.1) else (if cok .f32 bt174.1 .f64 = true then ((T0.laws_b10Gap.f (cvt .f32 bt174.1 .f64) 13830554455654793216).bind fun t189 => (if (FloatKind.f64.format.order t189 4562254508917369340 == some .gt) = true then (laws_FnTurned.j0 k (wrap64 (3 + t146)) bt161.1 true bt148.1 bt148.2.1 bt148.2.2.1 bt178.1 bt178.2.1 bt178.2.2.1) else (if (fle .f32 bt176.1 0) = true then (laws_FnTurned.j0 k (wrap64 (3 + t146)) bt161.1 true bt148.1 bt148.2.1 bt148.2.2.1 bt178.1 bt178.2.1 bt178.2.2.1) else (if (bt161.1.length : Int) = (wrap64 (3 + t146)) then (laws_FnTurned.j0 k (wrap64 (3 + t146)) bt161.1 ((bt178.1.length : Int) != (bt148.1.length : Int)) bt148.1 bt148.2.1 bt148.2.2.1 bt178.1 bt178.2.1 bt178.2.2.1) else (laws_FnTurned.j0 k (wrap64 (3 + t146)) bt161.1 true bt148.1 bt148.2.1 bt148.2.2.1 bt178.1 bt178.2.1 bt178.2.2.1))))) else (none)))) else (none)))) else (none)) else (laws_FnTurned.j0 k (wrap64 (3 + t146)) bt161.1 true bt148.1 bt148.2.1 bt148.2.2.1 bt178.1 bt178.2.1 bt178.2.2.1)) else (laws_FnTurned.j0 k (wrap64 (3 + t146)) bt161.1 true bt148.1 bt148.2.1 bt148.2.2.1 bt178.1 bt178.2.1 bt178.2.2.1)) else (laws_FnTurned.j0 k (wrap64 (3 + t146)) bt161.1 true bt148.1 bt148.2.1 bt148.2.2.1 bt178.1 bt178.2.1 bt178.2.2.1)) else (laws_FnTurned.j0 k (wrap64 (3 + t146)) bt161.1 true bt148.1 bt148.2.1 bt148.2.2.1 bt178.1 bt178.2.1 bt178.2.2.1)) else (laws_FnTurned.j0 k (wrap64 (3 + t146)) bt161.1 true bt148.1 bt148.2.1 bt148.2.2.1 bt178.1 bt178.2.1 bt178.2.2.1)) else (laws_FnTurned.j0 k (wrap64 (3 + t146)) bt161.1 true bt148.1 bt148.2.1 bt148.2.2.1 bt178.1 bt178.2.1 bt178.2.2.1)) else (laws_FnTurned.j0 k (wrap64 (3 + t146)) bt161.1 true bt148.1 bt148.2.1 bt148.2.2.1 bt178.1 bt178.2.1 bt178.2.2.1)) else (laws_FnTurned.j0 k (wrap64 (3 + t146)) bt161.1 true bt148.1 bt148.2.1 bt148.2.2.1 bt178.1 bt178.2.1 bt178.2.2.1)))))))) else (none)) else (none)))) else (none))))) = some true := H
  have A3 := AS A30
  clear A30
  by_cases c4 : t145 = true
  · subst c4
    have H1 : (some true) = some true := rfl
    clear H
    have H := H1
    clear H1
    clear H
    go_enter Try.func3, Try.ntmps3
    go_wp2_with (first | ((with_reducible refine gate_callee (f := 5) rfl ?_); refine goesL_ (some 27) rfl rfl Try.func5 (by kernel_rfl) rfl #[.slice A0 l0.length c0, .slice A1 l1.length c1] rfl (by (try simp only [List.map_toArray, List.map_cons, List.map_nil]); first | done | rfl | (simp only [List.length_drop, List.length_take]; rfl)) ?_; (with_reducible refine (T0.laws_b10Long.calls _ _ l0 _ _ l1 true _ ?side1 ?side2 ?side3 ?side4 A3.out).mono ?_); (case side1 => repeat (first | exact HR0.out | (with_reducible refine Kd.C_alloc ?_ _) | (with_reducible refine Kd.C_drewN ?_ _) | (with_reducible refine Kd.C_drew ?_))); (case side2 => exact HC0.out); (case side3 => repeat (first | exact HR1.out | (with_reducible refine Kd.C_alloc ?_ _) | (with_reducible refine Kd.C_drewN ?_ _) | (with_reducible refine Kd.C_drew ?_))); (case side4 => exact HC1.out); rintro e w' ⟨rfl, ⟨nd, rfl⟩⟩; refine ⟨_, rfl, ?_⟩))
    go_ret
    exact ⟨by first | rfl | (simp [errW_none, errW_some] <;> rfl) | (simp [*, errW_none, errW_some] <;> rfl), by repeat (first | (with_reducible first | exact HB.out | apply below_alloc | apply pw_below_drewN | apply below_drew1) | exact HB.out)⟩
  · replace c4 := Bool.eq_false_iff.mpr c4
    subst c4
    have H1 : ((T0.laws_b10At.f l0 0 12).bind fun t146 => ((T0.laws_b10At.f l0 1 8).bind fun t147 => (if fok .quo .f32 (floatOfInt .f32 (wrap64 (1 + t147))) 1082130432 = true then ((T0.impl_RingSheet.f k (wrap64 (3 + t146)) (fop .quo .f32 (floatOfInt .f32 (wrap64 (1 + t147))) 1082130432) 1065353216).bind fun bt148 => ((T0.impl_AroundPoint.f k bt148.1 bt148.2.1 bt148.2.2.1 ((0, 0) : Nat × Nat)).bind fun bt157 => (if fok .mul .f32 1073741824 (fop .quo .f32 (floatOfInt .f32 (wrap64 (1 + t147))) 1082130432) = true then (if fok .add .f32 (fop .mul .f32 1073741824 (fop .quo .f32 (floatOfInt .f32 (wrap64 (1 + t147))) 1082130432)) 1065353216 = true then ((T0.impl_AroundPoint.f k bt148.1 bt148.2.1 bt148.2.2.1 ((fop .add .f32 (fop .mul .f32 1073741824 (fop .quo .f32 (floatOfInt .f32 (wrap64 (1 + t147))) 1082130432)) 1065353216, 1040187392) : Nat × Nat)).bind fun bt159 => ((T0.impl_BendsOf.f k bt148.1 bt148.2.1 bt148.2.2.1).bind fun bt161 => ((T0.impl_BackSheet.f k bt148.1 bt148.2.1 bt148.2.2.1).bind fun bt165 => ((T0.impl_AroundPoint.f k bt165.1 bt165.2.1 bt165.2.2.1 ((0, 0) : Nat × Nat)).bind fun bt174 => ((T0.impl_SheetArea.f k bt148.1 bt148.2.1 bt148.2.2.1).bind fun bt176 => ((impl_WaveSheet.f k bt148.1 bt148.2.1 bt148.2.2.1 1065353216 0).bind fun bt178 => (if bt148.2.2.2 = true then (if bt157.2 = true then (if bt159.2 = true then (if bt161.2 = true then (if bt165.2.2.2 = true then (if bt174.2 = true then (if bt176.2 = true then (if bt178.2.2.2 = true then (if cok .f32 bt157.1 .f64 = true then ((T0.laws_b10Gap.f (cvt .f32 bt157.1 .f64) 4607182418800017408).bind fun t187 => (if (FloatKind.f64.format.order t187 4562254508917369340 == some .gt) = true then (laws_FnTurned.j0 k (wrap64 (3 + t146)) bt161.1 true bt148.1 bt148.2.1 bt148.2.2.1 bt178.1 bt178.2.1 bt178.2.2.1) else (if cok .f32 bt159.1 .f64 = true then ((T0.laws_b10Gap.f (cvt .f32 bt159.1 .f64) 0).bind fun t188 => (if (FloatKind.f64.format.order t188 4562254508917369340 == some .gt) = true then (laws_FnTurned.j0 k (wrap64 (3 + t146)) bt161.1 true bt148.1 bt148.2.1 bt148.2.2.1 bt178.1 bt178.2.1 bt178.2.2.1) else (if cok .f32 bt174.1 .f64 = true then ((T0.laws_b10Gap.f (cvt .f32 bt174.1 .f64) 13830554455654793216).bind fun t189 => (if (FloatKind.f64.format.order t189 4562254508917369340 == some .gt) = true then (laws_FnTurned.j0 k (wrap64 (3 + t146)) bt161.1 true bt148.1 bt148.2.1 bt148.2.2.1 bt178.1 bt178.2.1 bt178.2.2.1) else (if (fle .f32 bt176.1 0) = true then (laws_FnTurned.j0 k (wrap64 (3 + t146)) bt161.1 true bt148.1 bt148.2.1 bt148.2.2.1 bt178.1 bt178.2.1 bt178.2.2.1) else (if (bt161.1.length : Int) = (wrap64 (3 + t146)) then (laws_FnTurned.j0 k (wrap64 (3 + t146)) bt161.1 ((bt178.1.length : Int) != (bt148.1.length : Int)) bt148.1 bt148.2.1 bt148.2.2.1 bt178.1 bt178.2.1 bt178.2.2.1) else (laws_FnTurned.j0 k (wrap64 (3 + t146)) bt161.1 true bt148.1 bt148.2.1 bt148.2.2.1 bt178.1 bt178.2.1 bt178.2.2.1))))) else (none)))) else (none)))) else (none)) else (laws_FnTurned.j0 k (wrap64 (3 + t146)) bt161.1 true bt148.1 bt148.2.1 bt148.2.2.1 bt178.1 bt178.2.1 bt178.2.2.1)) else (laws_FnTurned.j0 k (wrap64 (3 + t146)) bt161.1 true bt148.1 bt148.2.1 bt148.2.2.1 bt178.1 bt178.2.1 bt178.2.2.1)) else (laws_FnTurned.j0 k (wrap64 (3 + t146)) bt161.1 true bt148.1 bt148.2.1 bt148.2.2.1 bt178.1 bt178.2.1 bt178.2.2.1)) else (laws_FnTurned.j0 k (wrap64 (3 + t146)) bt161.1 true bt148.1 bt148.2.1 bt148.2.2.1 bt178.1 bt178.2.1 bt178.2.2.1)) else (laws_FnTurned.j0 k (wrap64 (3 + t146)) bt161.1 true bt148.1 bt148.2.1 bt148.2.2.1 bt178.1 bt178.2.1 bt178.2.2.1)) else (laws_FnTurned.j0 k (wrap64 (3 + t146)) bt161.1 true bt148.1 bt148.2.1 bt148.2.2.1 bt178.1 bt178.2.1 bt178.2.2.1)) else (laws_FnTurned.j0 k (wrap64 (3 + t146)) bt161.1 true bt148.1 bt148.2.1 bt148.2.2.1 bt178.1 bt178.2.1 bt178.2.2.1)) else (laws_FnTurned.j0 k (wrap64 (3 + t146)) bt161.1 true bt148.1 bt148.2.1 bt148.2.2.1 bt178.1 bt178.2.1 bt178.2.2.1)))))))) else (none)) else (none)))) else (none)))) = some true := by rw [if_neg (show ¬ (false = true) by decide)] at H; exact H
    clear H
    have H := H1
    clear H1
    replace H := Option.bind_eq_some_iff.mp H
    obtain ⟨t146, A50, H⟩ := H
    replace H : ((T0.laws_b10At.f l0 1 8).bind fun t147 => (if fok .quo .f32 (floatOfInt .f32 (wrap64 (1 + t147))) 1082130432 = true then ((T0.impl_RingSheet.f k (wrap64 (3 + t146)) (fop .quo .f32 (floatOfInt .f32 (wrap64 (1 + t147))) 1082130432) 1065353216).bind fun bt148 => ((T0.impl_AroundPoint.f k bt148.1 bt148.2.1 bt148.2.2.1 ((0, 0) : Nat × Nat)).bind fun bt157 => (if fok .mul .f32 1073741824 (fop .quo .f32 (floatOfInt .f32 (wrap64 (1 + t147))) 1082130432) = true then (if fok .add .f32 (fop .mul .f32 1073741824 (fop .quo .f32 (floatOfInt .f32 (wrap64 (1 + t147))) 1082130432)) 1065353216 = true then ((T0.impl_AroundPoint.f k bt148.1 bt148.2.1 bt148.2.2.1 ((fop .add .f32 (fop .mul .f32 1073741824 (fop .quo .f32 (floatOfInt .f32 (wrap64 (1 + t147))) 1082130432)) 1065353216, 1040187392) : Nat × Nat)).bind fun bt159 => ((T0.impl_BendsOf.f k bt148.1 bt148.2.1 bt148.2.2.1).bind fun bt161 => ((T0.impl_BackSheet.f k bt148.1 bt148.2.1 bt148.2.2.1).bind fun bt165 => ((T0.impl_AroundPoint.f k bt165.1 bt165.2.1 bt165.2.2.1 ((0, 0) : Nat × Nat)).bind fun bt174 => ((T0.impl_SheetArea.f k bt148.1 bt148.2.1 bt148.2.2.1).bind fun bt176 => ((impl_WaveSheet.f k bt148.1 bt148.2.1 bt148.2.2.1 1065353216 0).bind fun bt178 => (if bt148.2.2.2 = true then (if bt157.2 = true then (if bt159.2 = true then (if bt161.2 = true then (if bt165.2.2.2 = true then (if bt174.2 = true then (if bt176.2 = true then (if bt178.2.2.2 = true then (if cok .f32 bt157.1 .f64 = true then ((T0.laws_b10Gap.f (cvt .f32 bt157.1 .f64) 4607182418800017408).bind fun t187 => (if (FloatKind.f64.format.order t187 4562254508917369340 == some .gt) = true then (laws_FnTurned.j0 k (wrap64 (3 + t146)) bt161.1 true bt148.1 bt148.2.1 bt148.2.2.1 bt178.1 bt178.2.1 bt178.2.2.1) else (if cok .f32 bt159.1 .f64 = true then ((T0.laws_b10Gap.f (cvt .f32 bt159.1 .f64) 0).bind fun t188 => (if (FloatKind.f64.format.order t188 4562254508917369340 == some .gt) = true then (laws_FnTurned.j0 k (wrap64 (3 + t146)) bt161.1 true bt148.1 bt148.2.1 bt148.2.2.1 bt178.1 bt178.2.1 bt178.2.2.1) else (if cok .f32 bt174.1 .f64 = true then ((T0.laws_b10Gap.f (cvt .f32 bt174.1 .f64) 13830554455654793216).bind fun t189 => (if (FloatKind.f64.format.order t189 4562254508917369340 == some .gt) = true then (laws_FnTurned.j0 k (wrap64 (3 + t146)) bt161.1 true bt148.1 bt148.2.1 bt148.2.2.1 bt178.1 bt178.2.1 bt178.2.2.1) else (if (fle .f32 bt176.1 0) = true then (laws_FnTurned.j0 k (wrap64 (3 + t146)) bt161.1 true bt148.1 bt148.2.1 bt148.2.2.1 bt178.1 bt178.2.1 bt178.2.2.1) else (if (bt161.1.length : Int) = (wrap64 (3 + t146)) then (laws_FnTurned.j0 k (wrap64 (3 + t146)) bt161.1 ((bt178.1.length : Int) != (bt148.1.length : Int)) bt148.1 bt148.2.1 bt148.2.2.1 bt178.1 bt178.2.1 bt178.2.2.1) else (laws_FnTurned.j0 k (wrap64 (3 + t146)) bt161.1 true bt148.1 bt148.2.1 bt148.2.2.1 bt178.1 bt178.2.1 bt178.2.2.1))))) else (none)))) else (none)))) else (none)) else (laws_FnTurned.j0 k (wrap64 (3 + t146)) bt161.1 true bt148.1 bt148.2.1 bt148.2.2.1 bt178.1 bt178.2.1 bt178.2.2.1)) else (laws_FnTurned.j0 k (wrap64 (3 + t146)) bt161.1 true bt148.1 bt148.2.1 bt148.2.2.1 bt178.1 bt178.2.1 bt178.2.2.1)) else (laws_FnTurned.j0 k (wrap64 (3 + t146)) bt161.1 true bt148.1 bt148.2.1 bt148.2.2.1 bt178.1 bt178.2.1 bt178.2.2.1)) else (laws_FnTurned.j0 k (wrap64 (3 + t146)) bt161.1 true bt148.1 bt148.2.1 bt148.2.2.1 bt178.1 bt178.2.1 bt178.2.2.1)) else (laws_FnTurned.j0 k (wrap64 (3 + t146)) bt161.1 true bt148.1 bt148.2.1 bt148.2.2.1 bt178.1 bt178.2.1 bt178.2.2.1)) else (laws_FnTurned.j0 k (wrap64 (3 + t146)) bt161.1 true bt148.1 bt148.2.1 bt148.2.2.1 bt178.1 bt178.2.1 bt178.2.2.1)) else (laws_FnTurned.j0 k (wrap64 (3 + t146)) bt161.1 true bt148.1 bt148.2.1 bt148.2.2.1 bt178.1 bt178.2.1 bt178.2.2.1)) else (laws_FnTurned.j0 k (wrap64 (3 + t146)) bt161.1 true bt148.1 bt148.2.1 bt148.2.2.1 bt178.1 bt178.2.1 bt178.2.2.1)))))))) else (none)) else (none)))) else (none))) = some true := H
    have A5 := AS A50
    clear A50
    replace H := Option.bind_eq_some_iff.mp H
    obtain ⟨t147, A60, H⟩ := H
    replace H : (if fok .quo .f32 (floatOfInt .f32 (wrap64 (1 + t147))) 1082130432 = true then ((T0.impl_RingSheet.f k (wrap64 (3 + t146)) (fop .quo .f32 (floatOfInt .f32 (wrap64 (1 + t147))) 1082130432) 1065353216).bind fun bt148 => ((T0.impl_AroundPoint.f k bt148.1 bt148.2.1 bt148.2.2.1 ((0, 0) : Nat × Nat)).bind fun bt157 => (if fok .mul .f32 1073741824 (fop .quo .f32 (floatOfInt .f32 (wrap64 (1 + t147))) 1082130432) = true then (if fok .add .f32 (fop .mul .f32 1073741824 (fop .quo .f32 (floatOfInt .f32 (wrap64 (1 + t147))) 1082130432)) 1065353216 = true then ((T0.impl_AroundPoint.f k bt148.1 bt148.2.1 bt148.2.2.1 ((fop .add .f32 (fop .mul .f32 1073741824 (fop .quo .f32 (floatOfInt .f32 (wrap64 (1 + t147))) 1082130432)) 1065353216, 1040187392) : Nat × Nat)).bind fun bt159 => ((T0.impl_BendsOf.f k bt148.1 bt148.2.1 bt148.2.2.1).bind fun bt161 => ((T0.impl_BackSheet.f k bt148.1 bt148.2.1 bt148.2.2.1).bind fun bt165 => ((T0.impl_AroundPoint.f k bt165.1 bt165.2.1 bt165.2.2.1 ((0, 0) : Nat × Nat)).bind fun bt174 => ((T0.impl_SheetArea.f k bt148.1 bt148.2.1 bt148.2.2.1).bind fun bt176 => ((impl_WaveSheet.f k bt148.1 bt148.2.1 bt148.2.2.1 1065353216 0).bind fun bt178 => (if bt148.2.2.2 = true then (if bt157.2 = true then (if bt159.2 = true then (if bt161.2 = true then (if bt165.2.2.2 = true then (if bt174.2 = true then (if bt176.2 = true then (if bt178.2.2.2 = true then (if cok .f32 bt157.1 .f64 = true then ((T0.laws_b10Gap.f (cvt .f32 bt157.1 .f64) 4607182418800017408).bind fun t187 => (if (FloatKind.f64.format.order t187 4562254508917369340 == some .gt) = true then (laws_FnTurned.j0 k (wrap64 (3 + t146)) bt161.1 true bt148.1 bt148.2.1 bt148.2.2.1 bt178.1 bt178.2.1 bt178.2.2.1) else (if cok .f32 bt159.1 .f64 = true then ((T0.laws_b10Gap.f (cvt .f32 bt159.1 .f64) 0).bind fun t188 => (if (FloatKind.f64.format.order t188 4562254508917369340 == some .gt) = true then (laws_FnTurned.j0 k (wrap64 (3 + t146)) bt161.1 true bt148.1 bt148.2.1 bt148.2.2.1 bt178.1 bt178.2.1 bt178.2.2.1) else (if cok .f32 bt174.1 .f64 = true then ((T0.laws_b10Gap.f (cvt .f32 bt174.1 .f64) 13830554455654793216).bind fun t189 => (if (FloatKind.f64.format.order t189 4562254508917369340 == some .gt) = true then (laws_FnTurned.j0 k (wrap64 (3 + t146)) bt161.1 true bt148.1 bt148.2.1 bt148.2.2.1 bt178.1 bt178.2.1 bt178.2.2.1) else (if (fle .f32 bt176.1 0) = true then (laws_FnTurned.j0 k (wrap64 (3 + t146)) bt161.1 true bt148.1 bt148.2.1 bt148.2.2.1 bt178.1 bt178.2.1 bt178.2.2.1) else (if (bt161.1.length : Int) = (wrap64 (3 + t146)) then (laws_FnTurned.j0 k (wrap64 (3 + t146)) bt161.1 ((bt178.1.length : Int) != (bt148.1.length : Int)) bt148.1 bt148.2.1 bt148.2.2.1 bt178.1 bt178.2.1 bt178.2.2.1) else (laws_FnTurned.j0 k (wrap64 (3 + t146)) bt161.1 true bt148.1 bt148.2.1 bt148.2.2.1 bt178.1 bt178.2.1 bt178.2.2.1))))) else (none)))) else (none)))) else (none)) else (laws_FnTurned.j0 k (wrap64 (3 + t146)) bt161.1 true bt148.1 bt148.2.1 bt148.2.2.1 bt178.1 bt178.2.1 bt178.2.2.1)) else (laws_FnTurned.j0 k (wrap64 (3 + t146)) bt161.1 true bt148.1 bt148.2.1 bt148.2.2.1 bt178.1 bt178.2.1 bt178.2.2.1)) else (laws_FnTurned.j0 k (wrap64 (3 + t146)) bt161.1 true bt148.1 bt148.2.1 bt148.2.2.1 bt178.1 bt178.2.1 bt178.2.2.1)) else (laws_FnTurned.j0 k (wrap64 (3 + t146)) bt161.1 true bt148.1 bt148.2.1 bt148.2.2.1 bt178.1 bt178.2.1 bt178.2.2.1)) else (laws_FnTurned.j0 k (wrap64 (3 + t146)) bt161.1 true bt148.1 bt148.2.1 bt148.2.2.1 bt178.1 bt178.2.1 bt178.2.2.1)) else (laws_FnTurned.j0 k (wrap64 (3 + t146)) bt161.1 true bt148.1 bt148.2.1 bt148.2.2.1 bt178.1 bt178.2.1 bt178.2.2.1)) else (laws_FnTurned.j0 k (wrap64 (3 + t146)) bt161.1 true bt148.1 bt148.2.1 bt148.2.2.1 bt178.1 bt178.2.1 bt178.2.2.1)) else (laws_FnTurned.j0 k (wrap64 (3 + t146)) bt161.1 true bt148.1 bt148.2.1 bt148.2.2.1 bt178.1 bt178.2.1 bt178.2.2.1)))))))) else (none)) else (none)))) else (none)) = some true := H
    have A6 := AS A60
    clear A60
    by_cases c7 : fok .quo .f32 (floatOfInt .f32 (wrap64 (1 + t147))) 1082130432 = true
    · rw [if_pos c7] at H
      have c7b0 := eq_true c7
      have c7b1 : decide (fok .quo .f32 (floatOfInt .f32 (wrap64 (1 + t147))) 1082130432 = true) = true := decide_eq_true c7
      replace H := Option.bind_eq_some_iff.mp H
      obtain ⟨⟨t148, t151, t154, t155⟩, A80, H⟩ := H
      replace H : ((T0.impl_AroundPoint.f k t148 t151 t154 ((0, 0) : Nat × Nat)).bind fun bt157 => (if fok .mul .f32 1073741824 (fop .quo .f32 (floatOfInt .f32 (wrap64 (1 + t147))) 1082130432) = true then (if fok .add .f32 (fop .mul .f32 1073741824 (fop .quo .f32 (floatOfInt .f32 (wrap64 (1 + t147))) 1082130432)) 1065353216 = true then ((T0.impl_AroundPoint.f k t148 t151 t154 ((fop .add .f32 (fop .mul .f32 1073741824 (fop .quo .f32 (floatOfInt .f32 (wrap64 (1 + t147))) 1082130432)) 1065353216, 1040187392) : Nat × Nat)).bind fun bt159 => ((T0.impl_BendsOf.f k t148 t151 t154).bind fun bt161 => ((T0.impl_BackSheet.f k t148 t151 t154).bind fun bt165 => ((T0.impl_AroundPoint.f k bt165.1 bt165.2.1 bt165.2.2.1 ((0, 0) : Nat × Nat)).bind fun bt174 => ((T0.impl_SheetArea.f k t148 t151 t154).bind fun bt176 => ((impl_WaveSheet.f k t148 t151 t154 1065353216 0).bind fun bt178 => (if t155 = true then (if bt157.2 = true then (if bt159.2 = true then (if bt161.2 = true then (if bt165.2.2.2 = true then (if bt174.2 = true then (if bt176.2 = true then (if bt178.2.2.2 = true then (if cok .f32 bt157.1 .f64 = true then ((T0.laws_b10Gap.f (cvt .f32 bt157.1 .f64) 4607182418800017408).bind fun t187 => (if (FloatKind.f64.format.order t187 4562254508917369340 == some .gt) = true then (laws_FnTurned.j0 k (wrap64 (3 + t146)) bt161.1 true t148 t151 t154 bt178.1 bt178.2.1 bt178.2.2.1) else (if cok .f32 bt159.1 .f64 = true then ((T0.laws_b10Gap.f (cvt .f32 bt159.1 .f64) 0).bind fun t188 => (if (FloatKind.f64.format.order t188 4562254508917369340 == some .gt) = true then (laws_FnTurned.j0 k (wrap64 (3 + t146)) bt161.1 true t148 t151 t154 bt178.1 bt178.2.1 bt178.2.2.1) else (if cok .f32 bt174.1 .f64 = true then ((T0.laws_b10Gap.f (cvt .f32 bt174.1 .f64) 13830554455654793216).bind fun t189 => (if (FloatKind.f64.format.order t189 4562254508917369340 == some .gt) = true then (laws_FnTurned.j0 k (wrap64 (3 + t146)) bt161.1 true t148 t151 t154 bt178.1 bt178.2.1 bt178.2.2.1) else (if (fle .f32 bt176.1 0) = true then (laws_FnTurned.j0 k (wrap64 (3 + t146)) bt161.1 true t148 t151 t154 bt178.1 bt178.2.1 bt178.2.2.1) else (if (bt161.1.length : Int) = (wrap64 (3 + t146)) then (laws_FnTurned.j0 k (wrap64 (3 + t146)) bt161.1 ((bt178.1.length : Int) != (t148.length : Int)) t148 t151 t154 bt178.1 bt178.2.1 bt178.2.2.1) else (laws_FnTurned.j0 k (wrap64 (3 + t146)) bt161.1 true t148 t151 t154 bt178.1 bt178.2.1 bt178.2.2.1))))) else (none)))) else (none)))) else (none)) else (laws_FnTurned.j0 k (wrap64 (3 + t146)) bt161.1 true t148 t151 t154 bt178.1 bt178.2.1 bt178.2.2.1)) else (laws_FnTurned.j0 k (wrap64 (3 + t146)) bt161.1 true t148 t151 t154 bt178.1 bt178.2.1 bt178.2.2.1)) else (laws_FnTurned.j0 k (wrap64 (3 + t146)) bt161.1 true t148 t151 t154 bt178.1 bt178.2.1 bt178.2.2.1)) else (laws_FnTurned.j0 k (wrap64 (3 + t146)) bt161.1 true t148 t151 t154 bt178.1 bt178.2.1 bt178.2.2.1)) else (laws_FnTurned.j0 k (wrap64 (3 + t146)) bt161.1 true t148 t151 t154 bt178.1 bt178.2.1 bt178.2.2.1)) else (laws_FnTurned.j0 k (wrap64 (3 + t146)) bt161.1 true t148 t151 t154 bt178.1 bt178.2.1 bt178.2.2.1)) else (laws_FnTurned.j0 k (wrap64 (3 + t146)) bt161.1 true t148 t151 t154 bt178.1 bt178.2.1 bt178.2.2.1)) else (laws_FnTurned.j0 k (wrap64 (3 + t146)) bt161.1 true t148 t151 t154 bt178.1 bt178.2.1 bt178.2.2.1)))))))) else (none)) else (none))) = some true := H
      have A8 := AS A80
      clear A80
      replace H := Option.bind_eq_some_iff.mp H
      obtain ⟨⟨t157, t158⟩, A90, H⟩ := H
      replace H : (if fok .mul .f32 1073741824 (fop .quo .f32 (floatOfInt .f32 (wrap64 (1 + t147))) 1082130432) = true then (if fok .add .f32 (fop .mul .f32 1073741824 (fop .quo .f32 (floatOfInt .f32 (wrap64 (1 + t147))) 1082130432)) 1065353216 = true then ((T0.impl_AroundPoint.f k t148 t151 t154 ((fop .add .f32 (fop .mul .f32 1073741824 (fop .quo .f32 (floatOfInt .f32 (wrap64 (1 + t147))) 1082130432)) 1065353216, 1040187392) : Nat × Nat)).bind fun bt159 => ((T0.impl_BendsOf.f k t148 t151 t154).bind fun bt161 => ((T0.impl_BackSheet.f k t148 t151 t154).bind fun bt165 => ((T0.impl_AroundPoint.f k bt165.1 bt165.2.1 bt165.2.2.1 ((0, 0) : Nat × Nat)).bind fun bt174 => ((T0.impl_SheetArea.f k t148 t151 t154).bind fun bt176 => ((impl_WaveSheet.f k t148 t151 t154 1065353216 0).bind fun bt178 => (if t155 = true then (if t158 = true then (if bt159.2 = true then (if bt161.2 = true then (if bt165.2.2.2 = true then (if bt174.2 = true then (if bt176.2 = true then (if bt178.2.2.2 = true then (if cok .f32 t157 .f64 = true then ((T0.laws_b10Gap.f (cvt .f32 t157 .f64) 4607182418800017408).bind fun t187 => (if (FloatKind.f64.format.order t187 4562254508917369340 == some .gt) = true then (laws_FnTurned.j0 k (wrap64 (3 + t146)) bt161.1 true t148 t151 t154 bt178.1 bt178.2.1 bt178.2.2.1) else (if cok .f32 bt159.1 .f64 = true then ((T0.laws_b10Gap.f (cvt .f32 bt159.1 .f64) 0).bind fun t188 => (if (FloatKind.f64.format.order t188 4562254508917369340 == some .gt) = true then (laws_FnTurned.j0 k (wrap64 (3 + t146)) bt161.1 true t148 t151 t154 bt178.1 bt178.2.1 bt178.2.2.1) else (if cok .f32 bt174.1 .f64 = true then ((T0.laws_b10Gap.f (cvt .f32 bt174.1 .f64) 13830554455654793216).bind fun t189 => (if (FloatKind.f64.format.order t189 4562254508917369340 == some .gt) = true then (laws_FnTurned.j0 k (wrap64 (3 + t146)) bt161.1 true t148 t151 t154 bt178.1 bt178.2.1 bt178.2.2.1) else (if (fle .f32 bt176.1 0) = true then (laws_FnTurned.j0 k (wrap64 (3 + t146)) bt161.1 true t148 t151 t154 bt178.1 bt178.2.1 bt178.2.2.1) else (if (bt161.1.length : Int) = (wrap64 (3 + t146)) then (laws_FnTurned.j0 k (wrap64 (3 + t146)) bt161.1 ((bt178.1.length : Int) != (t148.length : Int)) t148 t151 t154 bt178.1 bt178.2.1 bt178.2.2.1) else (laws_FnTurned.j0 k (wrap64 (3 + t146)) bt161.1 true t148 t151 t154 bt178.1 bt178.2.1 bt178.2.2.1))))) else (none)))) else (none)))) else (none)) else (laws_FnTurned.j0 k (wrap64 (3 + t146)) bt161.1 true t148 t151 t154 bt178.1 bt178.2.1 bt178.2.2.1)) else (laws_FnTurned.j0 k (wrap64 (3 + t146)) bt161.1 true t148 t151 t154 bt178.1 bt178.2.1 bt178.2.2.1)) else (laws_FnTurned.j0 k (wrap64 (3 + t146)) bt161.1 true t148 t151 t154 bt178.1 bt178.2.1 bt178.2.2.1)) else (laws_FnTurned.j0 k (wrap64 (3 + t146)) bt161.1 true t148 t151 t154 bt178.1 bt178.2.1 bt178.2.2.1)) else (laws_FnTurned.j0 k (wrap64 (3 + t146)) bt161.1 true t148 t151 t154 bt178.1 bt178.2.1 bt178.2.2.1)) else (laws_FnTurned.j0 k (wrap64 (3 + t146)) bt161.1 true t148 t151 t154 bt178.1 bt178.2.1 bt178.2.2.1)) else (laws_FnTurned.j0 k (wrap64 (3 + t146)) bt161.1 true t148 t151 t154 bt178.1 bt178.2.1 bt178.2.2.1)) else (laws_FnTurned.j0 k (wrap64 (3 + t146)) bt161.1 true t148 t151 t154 bt178.1 bt178.2.1 bt178.2.2.1)))))))) else (none)) else (none)) = some true := H
      have A9 := AS A90
      clear A90
      by_cases c10 : fok .mul .f32 1073741824 (fop .quo .f32 (floatOfInt .f32 (wrap64 (1 + t147))) 1082130432) = true
      · rw [if_pos c10] at H
        have c10b0 := eq_true c10
        have c10b1 : decide (fok .mul .f32 1073741824 (fop .quo .f32 (floatOfInt .f32 (wrap64 (1 + t147))) 1082130432) = true) = true := decide_eq_true c10
        by_cases c11 : fok .add .f32 (fop .mul .f32 1073741824 (fop .quo .f32 (floatOfInt .f32 (wrap64 (1 + t147))) 1082130432)) 1065353216 = true
        · rw [if_pos c11] at H
          have c11b0 := eq_true c11
          have c11b1 : decide (fok .add .f32 (fop .mul .f32 1073741824 (fop .quo .f32 (floatOfInt .f32 (wrap64 (1 + t147))) 1082130432)) 1065353216 = true) = true := decide_eq_true c11
          replace H := Option.bind_eq_some_iff.mp H
          obtain ⟨⟨t159, t160⟩, A120, H⟩ := H
          replace H : ((T0.impl_BendsOf.f k t148 t151 t154).bind fun bt161 => ((T0.impl_BackSheet.f k t148 t151 t154).bind fun bt165 => ((T0.impl_AroundPoint.f k bt165.1 bt165.2.1 bt165.2.2.1 ((0, 0) : Nat × Nat)).bind fun bt174 => ((T0.impl_SheetArea.f k t148 t151 t154).bind fun bt176 => ((impl_WaveSheet.f k t148 t151 t154 1065353216 0).bind fun bt178 => (if t155 = true then (if t158 = true then (if t160 = true then (if bt161.2 = true then (if bt165.2.2.2 = true then (if bt174.2 = true then (if bt176.2 = true then (if bt178.2.2.2 = true then (if cok .f32 t157 .f64 = true then ((T0.laws_b10Gap.f (cvt .f32 t157 .f64) 4607182418800017408).bind fun t187 => (if (FloatKind.f64.format.order t187 4562254508917369340 == some .gt) = true then (laws_FnTurned.j0 k (wrap64 (3 + t146)) bt161.1 true t148 t151 t154 bt178.1 bt178.2.1 bt178.2.2.1) else (if cok .f32 t159 .f64 = true then ((T0.laws_b10Gap.f (cvt .f32 t159 .f64) 0).bind fun t188 => (if (FloatKind.f64.format.order t188 4562254508917369340 == some .gt) = true then (laws_FnTurned.j0 k (wrap64 (3 + t146)) bt161.1 true t148 t151 t154 bt178.1 bt178.2.1 bt178.2.2.1) else (if cok .f32 bt174.1 .f64 = true then ((T0.laws_b10Gap.f (cvt .f32 bt174.1 .f64) 13830554455654793216).bind fun t189 => (if (FloatKind.f64.format.order t189 4562254508917369340 == some .gt) = true then (laws_FnTurned.j0 k (wrap64 (3 + t146)) bt161.1 true t148 t151 t154 bt178.1 bt178.2.1 bt178.2.2.1) else (if (fle .f32 bt176.1 0) = true then (laws_FnTurned.j0 k (wrap64 (3 + t146)) bt161.1 true t148 t151 t154 bt178.1 bt178.2.1 bt178.2.2.1) else (if (bt161.1.length : Int) = (wrap64 (3 + t146)) then (laws_FnTurned.j0 k (wrap64 (3 + t146)) bt161.1 ((bt178.1.length : Int) != (t148.length : Int)) t148 t151 t154 bt178.1 bt178.2.1 bt178.2.2.1) else (laws_FnTurned.j0 k (wrap64 (3 + t146)) bt161.1 true t148 t151 t154 bt178.1 bt178.2.1 bt178.2.2.1))))) else (none)))) else (none)))) else (none)) else (laws_FnTurned.j0 k (wrap64 (3 + t146)) bt161.1 true t148 t151 t154 bt178.1 bt178.2.1 bt178.2.2.1)) else (laws_FnTurned.j0 k (wrap64 (3 + t146)) bt161.1 true t148 t151 t154 bt178.1 bt178.2.1 bt178.2.2.1)) else (laws_FnTurned.j0 k (wrap64 (3 + t146)) bt161.1 true t148 t151 t154 bt178.1 bt178.2.1 bt178.2.2.1)) else (laws_FnTurned.j0 k (wrap64 (3 + t146)) bt161.1 true t148 t151 t154 bt178.1 bt178.2.1 bt178.2.2.1)) else (laws_FnTurned.j0 k (wrap64 (3 + t146)) bt161.1 true t148 t151 t154 bt178.1 bt178.2.1 bt178.2.2.1)) else (laws_FnTurned.j0 k (wrap64 (3 + t146)) bt161.1 true t148 t151 t154 bt178.1 bt178.2.1 bt178.2.2.1)) else (laws_FnTurned.j0 k (wrap64 (3 + t146)) bt161.1 true t148 t151 t154 bt178.1 bt178.2.1 bt178.2.2.1)) else (laws_FnTurned.j0 k (wrap64 (3 + t146)) bt161.1 true t148 t151 t154 bt178.1 bt178.2.1 bt178.2.2.1))))))) = some true := H
          have A12 := AS A120
          clear A120
          replace H := Option.bind_eq_some_iff.mp H
          obtain ⟨⟨t161, t164⟩, A130, H⟩ := H
          replace H : ((T0.impl_BackSheet.f k t148 t151 t154).bind fun bt165 => ((T0.impl_AroundPoint.f k bt165.1 bt165.2.1 bt165.2.2.1 ((0, 0) : Nat × Nat)).bind fun bt174 => ((T0.impl_SheetArea.f k t148 t151 t154).bind fun bt176 => ((impl_WaveSheet.f k t148 t151 t154 1065353216 0).bind fun bt178 => (if t155 = true then (if t158 = true then (if t160 = true then (if t164 = true then (if bt165.2.2.2 = true then (if bt174.2 = true then (if bt176.2 = true then (if bt178.2.2.2 = true then (if cok .f32 t157 .f64 = true then ((T0.laws_b10Gap.f (cvt .f32 t157 .f64) 4607182418800017408).bind fun t187 => (if (FloatKind.f64.format.order t187 4562254508917369340 == some .gt) = true then (laws_FnTurned.j0 k (wrap64 (3 + t146)) t161 true t148 t151 t154 bt178.1 bt178.2.1 bt178.2.2.1) else (if cok .f32 t159 .f64 = true then ((T0.laws_b10Gap.f (cvt .f32 t159 .f64) 0).bind fun t188 => (if (FloatKind.f64.format.order t188 4562254508917369340 == some .gt) = true then (laws_FnTurned.j0 k (wrap64 (3 + t146)) t161 true t148 t151 t154 bt178.1 bt178.2.1 bt178.2.2.1) else (if cok .f32 bt174.1 .f64 = true then ((T0.laws_b10Gap.f (cvt .f32 bt174.1 .f64) 13830554455654793216).bind fun t189 => (if (FloatKind.f64.format.order t189 4562254508917369340 == some .gt) = true then (laws_FnTurned.j0 k (wrap64 (3 + t146)) t161 true t148 t151 t154 bt178.1 bt178.2.1 bt178.2.2.1) else (if (fle .f32 bt176.1 0) = true then (laws_FnTurned.j0 k (wrap64 (3 + t146)) t161 true t148 t151 t154 bt178.1 bt178.2.1 bt178.2.2.1) else (if (t161.length : Int) = (wrap64 (3 + t146)) then (laws_FnTurned.j0 k (wrap64 (3 + t146)) t161 ((bt178.1.length : Int) != (t148.length : Int)) t148 t151 t154 bt178.1 bt178.2.1 bt178.2.2.1) else (laws_FnTurned.j0 k (wrap64 (3 + t146)) t161 true t148 t151 t154 bt178.1 bt178.2.1 bt178.2.2.1))))) else (none)))) else (none)))) else (none)) else (laws_FnTurned.j0 k (wrap64 (3 + t146)) t161 true t148 t151 t154 bt178.1 bt178.2.1 bt178.2.2.1)) else (laws_FnTurned.j0 k (wrap64 (3 + t146)) t161 true t148 t151 t154 bt178.1 bt178.2.1 bt178.2.2.1)) else (laws_FnTurned.j0 k (wrap64 (3 + t146)) t161 true t148 t151 t154 bt178.1 bt178.2.1 bt178.2.2.1)) else (laws_FnTurned.j0 k (wrap64 (3 + t146)) t161 true t148 t151 t154 bt178.1 bt178.2.1 bt178.2.2.1)) else (laws_FnTurned.j0 k (wrap64 (3 + t146)) t161 true t148 t151 t154 bt178.1 bt178.2.1 bt178.2.2.1)) else (laws_FnTurned.j0 k (wrap64 (3 + t146)) t161 true t148 t151 t154 bt178.1 bt178.2.1 bt178.2.2.1)) else (laws_FnTurned.j0 k (wrap64 (3 + t146)) t161 true t148 t151 t154 bt178.1 bt178.2.1 bt178.2.2.1)) else (laws_FnTurned.j0 k (wrap64 (3 + t146)) t161 true t148 t151 t154 bt178.1 bt178.2.1 bt178.2.2.1)))))) = some true := H
          have A13 := AS A130
          clear A130
          replace H := Option.bind_eq_some_iff.mp H
          obtain ⟨⟨t165, t168, t171, t172⟩, A140, H⟩ := H
          replace H : ((T0.impl_AroundPoint.f k t165 t168 t171 ((0, 0) : Nat × Nat)).bind fun bt174 => ((T0.impl_SheetArea.f k t148 t151 t154).bind fun bt176 => ((impl_WaveSheet.f k t148 t151 t154 1065353216 0).bind fun bt178 => (if t155 = true then (if t158 = true then (if t160 = true then (if t164 = true then (if t172 = true then (if bt174.2 = true then (if bt176.2 = true then (if bt178.2.2.2 = true then (if cok .f32 t157 .f64 = true then ((T0.laws_b10Gap.f (cvt .f32 t157 .f64) 4607182418800017408).bind fun t187 => (if (FloatKind.f64.format.order t187 4562254508917369340 == some .gt) = true then (laws_FnTurned.j0 k (wrap64 (3 + t146)) t161 true t148 t151 t154 bt178.1 bt178.2.1 bt178.2.2.1) else (if cok .f32 t159 .f64 = true then ((T0.laws_b10Gap.f (cvt .f32 t159 .f64) 0).bind fun t188 => (if (FloatKind.f64.format.order t188 4562254508917369340 == some .gt) = true then (laws_FnTurned.j0 k (wrap64 (3 + t146)) t161 true t148 t151 t154 bt178.1 bt178.2.1 bt178.2.2.1) else (if cok .f32 bt174.1 .f64 = true then ((T0.laws_b10Gap.f (cvt .f32 bt174.1 .f64) 13830554455654793216).bind fun t189 => (if (FloatKind.f64.format.order t189 4562254508917369340 == some .gt) = true then (laws_FnTurned.j0 k (wrap64 (3 + t146)) t161 true t148 t151 t154 bt178.1 bt178.2.1 bt178.2.2.1) else (if (fle .f32 bt176.1 0) = true then (laws_FnTurned.j0 k (wrap64 (3 + t146)) t161 true t148 t151 t154 bt178.1 bt178.2.1 bt178.2.2.1) else (if (t161.length : Int) = (wrap64 (3 + t146)) then (laws_FnTurned.j0 k (wrap64 (3 + t146)) t161 ((bt178.1.length : Int) != (t148.length : Int)) t148 t151 t154 bt178.1 bt178.2.1 bt178.2.2.1) else (laws_FnTurned.j0 k (wrap64 (3 + t146)) t161 true t148 t151 t154 bt178.1 bt178.2.1 bt178.2.2.1))))) else (none)))) else (none)))) else (none)) else (laws_FnTurned.j0 k (wrap64 (3 + t146)) t161 true t148 t151 t154 bt178.1 bt178.2.1 bt178.2.2.1)) else (laws_FnTurned.j0 k (wrap64 (3 + t146)) t161 true t148 t151 t154 bt178.1 bt178.2.1 bt178.2.2.1)) else (laws_FnTurned.j0 k (wrap64 (3 + t146)) t161 true t148 t151 t154 bt178.1 bt178.2.1 bt178.2.2.1)) else (laws_FnTurned.j0 k (wrap64 (3 + t146)) t161 true t148 t151 t154 bt178.1 bt178.2.1 bt178.2.2.1)) else (laws_FnTurned.j0 k (wrap64 (3 + t146)) t161 true t148 t151 t154 bt178.1 bt178.2.1 bt178.2.2.1)) else (laws_FnTurned.j0 k (wrap64 (3 + t146)) t161 true t148 t151 t154 bt178.1 bt178.2.1 bt178.2.2.1)) else (laws_FnTurned.j0 k (wrap64 (3 + t146)) t161 true t148 t151 t154 bt178.1 bt178.2.1 bt178.2.2.1)) else (laws_FnTurned.j0 k (wrap64 (3 + t146)) t161 true t148 t151 t154 bt178.1 bt178.2.1 bt178.2.2.1))))) = some true := H
          have A14 := AS A140
          clear A140
          replace H := Option.bind_eq_some_iff.mp H
          obtain ⟨⟨t174, t175⟩, A150, H⟩ := H
          replace H : ((T0.impl_SheetArea.f k t148 t151 t154).bind fun bt176 => ((impl_WaveSheet.f k t148 t151 t154 1065353216 0).bind fun bt178 => (if t155 = true then (if t158 = true then (if t160 = true then (if t164 = true then (if t172 = true then (if t175 = true then (if bt176.2 = true then (if bt178.2.2.2 = true then (if cok .f32 t157 .f64 = true then ((T0.laws_b10Gap.f (cvt .f32 t157 .f64) 4607182418800017408).bind fun t187 => (if (FloatKind.f64.format.order t187 4562254508917369340 == some .gt) = true then (laws_FnTurned.j0 k (wrap64 (3 + t146)) t161 true t148 t151 t154 bt178.1 bt178.2.1 bt178.2.2.1) else (if cok .f32 t159 .f64 = true then ((T0.laws_b10Gap.f (cvt .f32 t159 .f64) 0).bind fun t188 => (if (FloatKind.f64.format.order t188 4562254508917369340 == some .gt) = true then (laws_FnTurned.j0 k (wrap64 (3 + t146)) t161 true t148 t151 t154 bt178.1 bt178.2.1 bt178.2.2.1) else (if cok .f32 t174 .f64 = true then ((T0.laws_b10Gap.f (cvt .f32 t174 .f64) 13830554455654793216).bind fun t189 => (if (FloatKind.f64.format.order t189 4562254508917369340 == some .gt) = true then (laws_FnTurned.j0 k (wrap64 (3 + t146)) t161 true t148 t151 t154 bt178.1 bt178.2.1 bt178.2.2.1) else (if (fle .f32 bt176.1 0) = true then (laws_FnTurned.j0 k (wrap64 (3 + t146)) t161 true t148 t151 t154 bt178.1 bt178.2.1 bt178.2.2.1) else (if (t161.length : Int) = (wrap64 (3 + t146)) then (laws_FnTurned.j0 k (wrap64 (3 + t146)) t161 ((bt178.1.length : Int) != (t148.length : Int)) t148 t151 t154 bt178.1 bt178.2.1 bt178.2.2.1) else (laws_FnTurned.j0 k (wrap64 (3 + t146)) t161 true t148 t151 t154 bt178.1 bt178.2.1 bt178.2.2.1))))) else (none)))) else (none)))) else (none)) else (laws_FnTurned.j0 k (wrap64 (3 + t146)) t161 true t148 t151 t154 bt178.1 bt178.2.1 bt178.2.2.1)) else (laws_FnTurned.j0 k (wrap64 (3 + t146)) t161 true t148 t151 t154 bt178.1 bt178.2.1 bt178.2.2.1)) else (laws_FnTurned.j0 k (wrap64 (3 + t146)) t161 true t148 t151 t154 bt178.1 bt178.2.1 bt178.2.2.1)) else (laws_FnTurned.j0 k (wrap64 (3 + t146)) t161 true t148 t151 t154 bt178.1 bt178.2.1 bt178.2.2.1)) else (laws_FnTurned.j0 k (wrap64 (3 + t146)) t161 true t148 t151 t154 bt178.1 bt178.2.1 bt178.2.2.1)) else (laws_FnTurned.j0 k (wrap64 (3 + t146)) t161 true t148 t151 t154 bt178.1 bt178.2.1 bt178.2.2.1)) else (laws_FnTurned.j0 k (wrap64 (3 + t146)) t161 true t148 t151 t154 bt178.1 bt178.2.1 bt178.2.2.1)) else (laws_FnTurned.j0 k (wrap64 (3 + t146)) t161 true t148 t151 t154 bt178.1 bt178.2.1 bt178.2.2.1)))) = some true := H
          have A15 := AS A150
          clear A150
          replace H := Option.bind_eq_some_iff.mp H
          obtain ⟨⟨t176, t177⟩, A160, H⟩ := H
          replace H : ((impl_WaveSheet.f k t148 t151 t154 1065353216 0).bind fun bt178 => (if t155 = true then (if t158 = true then (if t160 = true then (if t164 = true then (if t172 = true then (if t175 = true then (if t177 = true then (if bt178.2.2.2 = true then (if cok .f32 t157 .f64 = true then ((T0.laws_b10Gap.f (cvt .f32 t157 .f64) 4607182418800017408).bind fun t187 => (if (FloatKind.f64.format.order t187 4562254508917369340 == some .gt) = true then (laws_FnTurned.j0 k (wrap64 (3 + t146)) t161 true t148 t151 t154 bt178.1 bt178.2.1 bt178.2.2.1) else (if cok .f32 t159 .f64 = true then ((T0.laws_b10Gap.f (cvt .f32 t159 .f64) 0).bind fun t188 => (if (FloatKind.f64.format.order t188 4562254508917369340 == some .gt) = true then (laws_FnTurned.j0 k (wrap64 (3 + t146)) t161 true t148 t151 t154 bt178.1 bt178.2.1 bt178.2.2.1) else (if cok .f32 t174 .f64 = true then ((T0.laws_b10Gap.f (cvt .f32 t174 .f64) 13830554455654793216).bind fun t189 => (if (FloatKind.f64.format.order t189 4562254508917369340 == some .gt) = true then (laws_FnTurned.j0 k (wrap64 (3 + t146)) t161 true t148 t151 t154 bt178.1 bt178.2.1 bt178.2.2.1) else (if (fle .f32 t176 0) = true then (laws_FnTurned.j0 k (wrap64 (3 + t146)) t161 true t148 t151 t154 bt178.1 bt178.2.1 bt178.2.2.1) else (if (t161.length : Int) = (wrap64 (3 + t146)) then (laws_FnTurned.j0 k (wrap64 (3 + t146)) t161 ((bt178.1.length : Int) != (t148.length : Int)) t148 t151 t154 bt178.1 bt178.2.1 bt178.2.2.1) else (laws_FnTurned.j0 k (wrap64 (3 + t146)) t161 true t148 t151 t154 bt178.1 bt178.2.1 bt178.2.2.1))))) else (none)))) else (none)))) else (none)) else (laws_FnTurned.j0 k (wrap64 (3 + t146)) t161 true t148 t151 t154 bt178.1 bt178.2.1 bt178.2.2.1)) else (laws_FnTurned.j0 k (wrap64 (3 + t146)) t161 true t148 t151 t154 bt178.1 bt178.2.1 bt178.2.2.1)) else (laws_FnTurned.j0 k (wrap64 (3 + t146)) t161 true t148 t151 t154 bt178.1 bt178.2.1 bt178.2.2.1)) else (laws_FnTurned.j0 k (wrap64 (3 + t146)) t161 true t148 t151 t154 bt178.1 bt178.2.1 bt178.2.2.1)) else (laws_FnTurned.j0 k (wrap64 (3 + t146)) t161 true t148 t151 t154 bt178.1 bt178.2.1 bt178.2.2.1)) else (laws_FnTurned.j0 k (wrap64 (3 + t146)) t161 true t148 t151 t154 bt178.1 bt178.2.1 bt178.2.2.1)) else (laws_FnTurned.j0 k (wrap64 (3 + t146)) t161 true t148 t151 t154 bt178.1 bt178.2.1 bt178.2.2.1)) else (laws_FnTurned.j0 k (wrap64 (3 + t146)) t161 true t148 t151 t154 bt178.1 bt178.2.1 bt178.2.2.1))) = some true := H
          have A16 := AS A160
          clear A160
          replace H := Option.bind_eq_some_iff.mp H
          obtain ⟨⟨t178, t181, t184, t185⟩, A170, H⟩ := H
          replace H : (if t155 = true then (if t158 = true then (if t160 = true then (if t164 = true then (if t172 = true then (if t175 = true then (if t177 = true then (if t185 = true then (if cok .f32 t157 .f64 = true then ((T0.laws_b10Gap.f (cvt .f32 t157 .f64) 4607182418800017408).bind fun t187 => (if (FloatKind.f64.format.order t187 4562254508917369340 == some .gt) = true then (laws_FnTurned.j0 k (wrap64 (3 + t146)) t161 true t148 t151 t154 t178 t181 t184) else (if cok .f32 t159 .f64 = true then ((T0.laws_b10Gap.f (cvt .f32 t159 .f64) 0).bind fun t188 => (if (FloatKind.f64.format.order t188 4562254508917369340 == some .gt) = true then (laws_FnTurned.j0 k (wrap64 (3 + t146)) t161 true t148 t151 t154 t178 t181 t184) else (if cok .f32 t174 .f64 = true then ((T0.laws_b10Gap.f (cvt .f32 t174 .f64) 13830554455654793216).bind fun t189 => (if (FloatKind.f64.format.order t189 4562254508917369340 == some .gt) = true then (laws_FnTurned.j0 k (wrap64 (3 + t146)) t161 true t148 t151 t154 t178 t181 t184) else (if (fle .f32 t176 0) = true then (laws_FnTurned.j0 k (wrap64 (3 + t146)) t161 true t148 t151 t154 t178 t181 t184) else (if (t161.length : Int) = (wrap64 (3 + t146)) then (laws_FnTurned.j0 k (wrap64 (3 + t146)) t161 ((t178.length : Int) != (t148.length : Int)) t148 t151 t154 t178 t181 t184) else (laws_FnTurned.j0 k (wrap64 (3 + t146)) t161 true t148 t151 t154 t178 t181 t184))))) else (none)))) else (none)))) else (none)) else (laws_FnTurned.j0 k (wrap64 (3 + t146)) t161 true t148 t151 t154 t178 t181 t184)) else (laws_FnTurned.j0 k (wrap64 (3 + t146)) t161 true t148 t151 t154 t178 t181 t184)) else (laws_FnTurned.j0 k (wrap64 (3 + t146)) t161 true t148 t151 t154 t178 t181 t184)) else (laws_FnTurned.j0 k (wrap64 (3 + t146)) t161 true t148 t151 t154 t178 t181 t184)) else (laws_FnTurned.j0 k (wrap64 (3 + t146)) t161 true t148 t151 t154 t178 t181 t184)) else (laws_FnTurned.j0 k (wrap64 (3 + t146)) t161 true t148 t151 t154 t178 t181 t184)) else (laws_FnTurned.j0 k (wrap64 (3 + t146)) t161 true t148 t151 t154 t178 t181 t184)) else (laws_FnTurned.j0 k (wrap64 (3 + t146)) t161 true t148 t151 t154 t178 t181 t184)) = some true := H
          have A17 := AS A170
          clear A170
          have HC18 := AS H
          clear H
          go_enter Try.func3, Try.ntmps3
          go_upto_region 13 with (first | ((with_reducible refine gate_callee (f := 5) rfl ?_); refine goesL_ (some 27) rfl rfl Try.func5 (by kernel_rfl) rfl #[.slice A0 l0.length c0, .slice A1 l1.length c1] rfl (by (try simp only [List.map_toArray, List.map_cons, List.map_nil]); first | done | rfl | (simp only [List.length_drop, List.length_take]; rfl)) ?_; (with_reducible refine (T0.laws_b10Long.calls _ _ l0 _ _ l1 false _ ?side1 ?side2 ?side3 ?side4 A3.out).mono ?_); (case side1 => repeat (first | exact HR0.out | (with_reducible refine Kd.C_alloc ?_ _) | (with_reducible refine Kd.C_drewN ?_ _) | (with_reducible refine Kd.C_drew ?_))); (case side2 => exact HC0.out); (case side3 => repeat (first | exact HR1.out | (with_reducible refine Kd.C_alloc ?_ _) | (with_reducible refine Kd.C_drewN ?_ _) | (with_reducible refine Kd.C_drew ?_))); (case side4 => exact HC1.out); rintro e w' ⟨rfl, ⟨nd, rfl⟩⟩; refine ⟨_, rfl, ?_⟩) | ((with_reducible refine gate_callee (f := 6) rfl ?_); refine goesL_ (some 29) rfl rfl Try.func6 (by kernel_rfl) rfl #[.slice A0 l0.length c0, .int .i64 0, .int .i64 12] rfl (by (try simp only [List.map_toArray, List.map_cons, List.map_nil]); first | done | rfl | (simp only [List.length_drop, List.length_take]; rfl)) ?_; (with_reducible refine (T0.laws_b10At.calls _ _ l0 0 12 t146 _ ?side1 ?side2 A5.out).mono ?_); (case side1 => repeat (first | exact HR0.out | (with_reducible refine Kd.C_alloc ?_ _) | (with_reducible refine Kd.C_drewN ?_ _) | (with_reducible refine Kd.C_drew ?_))); (case side2 => exact HC0.out); rintro e w' ⟨rfl, ⟨nd, rfl⟩⟩; refine ⟨_, rfl, ?_⟩) | ((with_reducible refine gate_callee (f := 6) rfl ?_); refine goesL_ (some 32) rfl rfl Try.func6 (by kernel_rfl) rfl #[.slice A0 l0.length c0, .int .i64 1, .int .i64 8] rfl (by (try simp only [List.map_toArray, List.map_cons, List.map_nil]); first | done | rfl | (simp only [List.length_drop, List.length_take]; rfl)) ?_; (with_reducible refine (T0.laws_b10At.calls _ _ l0 1 8 t147 _ ?side1 ?side2 A6.out).mono ?_); (case side1 => repeat (first | exact HR0.out | (with_reducible refine Kd.C_alloc ?_ _) | (with_reducible refine Kd.C_drewN ?_ _) | (with_reducible refine Kd.C_drew ?_))); (case side2 => exact HC0.out); rintro e w' ⟨rfl, ⟨nd, rfl⟩⟩; refine ⟨_, rfl, ?_⟩) | ((with_reducible refine gate_callee (f := 7) rfl ?_); refine goesL_ (some 39) rfl rfl Try.func7 (by kernel_rfl) rfl #[.int .i64 (wrap64 (3 + t146)), .float .f32 (fop .quo .f32 (floatOfInt .f32 (wrap64 (1 + t147))) 1082130432), .float .f32 1065353216] rfl (by (try simp only [List.map_toArray, List.map_cons, List.map_nil]); first | done | rfl | (simp only [List.length_drop, List.length_take]; rfl)) ?_; (with_reducible refine (T0.impl_RingSheet.calls k (wrap64 (3 + t146)) (fop .quo .f32 (floatOfInt .f32 (wrap64 (1 + t147))) 1082130432) 1065353216 t148 t151 t154 t155 _ A8.out).mono ?_); rintro e w19 ⟨v149, v152, rfl, ho0, ho1, hb⟩; refine ⟨_, rfl, ?_⟩; have n0_ := AS (Kd.R_lower ho0 (below_size (by repeat (first | (with_reducible first | exact HB.out | apply below_alloc | apply pw_below_drewN | apply below_drew1) | exact HB.out)))); have n1_ := AS (Kd.R_lower ho1 (below_size (by repeat (first | (with_reducible first | exact HB.out | apply below_alloc | apply pw_below_drewN | apply below_drew1) | exact HB.out)))); have n2_ := AS (below_step (by repeat (first | (with_reducible first | exact HB.out | apply below_alloc | apply pw_below_drewN | apply below_drew1) | exact HB.out)) hb); clear HB; have HO150 := n0_; have HO153 := n1_; have HB := n2_; clear n0_ n1_ n2_; (try clear hb); (try clear hb2); (try clear hk); (try clear hi); (try clear ho0); (try clear ho1)) | ((with_reducible refine gate_dst (N := 7) rfl ?_); (try (refine gate_guard (by rfl) ?_; dsimp only)); refine box_event ?hg (N := 7) ?hd (cs := #[.slice none 0 0, .slice none 0 0, .bool false]) (t := 29) ?hr ?_; (case hd => rfl); (case hg => rfl); (case hr => first | (go_simp; done) | (go_simp; rfl)); intro gb156 hg w20 hbox hb; have n0_ := AS (Kd.R_below (by (with_reducible repeat (first | apply Kd.R_alloc | apply Kd.R_drewN | apply Kd.R_drew)); exact HO150.out) hb); have n1_ := AS (Kd.R_below (by (with_reducible repeat (first | apply Kd.R_alloc | apply Kd.R_drewN | apply Kd.R_drew)); exact HO153.out) hb); have n2_ := AS (below_step (by repeat (first | (with_reducible first | exact HB.out | apply below_alloc | apply pw_below_drewN | apply below_drew1) | exact HB.out)) hb); have n3_ := AS (hbox); have n4_ := AS ((by rw [hg]; exact (below_size (by repeat (first | (with_reducible first | exact HB.out | apply below_alloc | apply pw_below_drewN | apply below_drew1) | exact HB.out))) : w.heap.size ≤ gb156)); have n5_ := AS ((by rw [hg]; exact (below_size (by repeat (first | (with_reducible first | exact HB.out | apply below_alloc | apply pw_below_drewN | apply below_drew1) | exact HB.out))) : w.heap.size ≤ gb156)); clear HO150; clear HO153; clear HB; have HO150 := n0_; have HO153 := n1_; have HB := n2_; have BK156 := n3_; have GW156 := n4_; have GE156 := n5_; clear n0_ n1_ n2_ n3_ n4_ n5_; clear hb hbox hg; obtain ⟨Ao21, co21, eo21⟩ := Kd.R_slice HO150.out; subst eo21; have hcz22_0 : w20.cell? ⟨gb156, 0, none⟩ = some (.slice none 0 0) := (blk_cell BK156.out 0).trans rfl; have hcz22_1 : w20.cell? ⟨gb156, 1, none⟩ = some (.slice none 0 0) := (blk_cell BK156.out 1).trans rfl; have hcz22_2 : w20.cell? ⟨gb156, 2, none⟩ = some (.bool false) := (blk_cell BK156.out 2).trans rfl; have hfz22_0 := blk_frozen BK156.out 0; have hfz22_1 := blk_frozen BK156.out 1; have hfz22_2 := blk_frozen BK156.out 2; obtain ⟨Ao23, co23, eo23⟩ := Kd.R_slice HO153.out; subst eo23) | ((with_reducible refine gate_callee (f := 8) rfl ?_); refine goesL_ (some 44) rfl rfl Try.func8 (by kernel_rfl) rfl #[.agg #[.slice Ao21 t148.length co21, .slice Ao23 t151.length co23, .bool t154], .complex .f32 ((0, 0) : Nat × Nat).1 ((0, 0) : Nat × Nat).2] rfl (by (try simp only [List.map_toArray, List.map_cons, List.map_nil]); first | done | rfl | (simp only [List.length_drop, List.length_take]; rfl)) ?_; (with_reducible refine (T0.impl_AroundPoint.calls k _ _ t148 _ _ t151 t154 ((0, 0) : Nat × Nat) t157 t158 _ ?side1 ?side2 ?side3 ?side4 A9.out).mono ?_); (case side1 => refine (Kd.R_reads' (e := 34) (base := w.heap.size) (ok := fun k_ => True) (n := t148.length) (c := co21) ?_).2.2; exact (by (with_reducible repeat (first | apply Kd.R_alloc | apply Kd.R_drewN | apply Kd.R_drew)); exact (Kd.R_mono (Kd.R_far (p := ⟨gb156, 2, none⟩) (Kd.R_far (p := ⟨gb156, 1, none⟩) (Kd.R_far (p := ⟨gb156, 0, none⟩) (Kd.R_types HO150.out BK156.out (by decide)) (fun _ hk => hk.2) (.slice Ao21 t148.length co21)) (fun _ hk => hk.2) (.slice Ao23 t151.length co23)) (fun _ hk => hk.2) (.bool t154)) (fun _ h_ => h_.1)))); (case side2 => exact (Kd.R_reads' HO150.out).2.1); (case side3 => refine (Kd.R_reads' (e := 25) (base := w.heap.size) (ok := fun k_ => True) (n := t151.length) (c := co23) ?_).2.2; exact (by (with_reducible repeat (first | apply Kd.R_alloc | apply Kd.R_drewN | apply Kd.R_drew)); exact (Kd.R_mono (Kd.R_far (p := ⟨gb156, 2, none⟩) (Kd.R_far (p := ⟨gb156, 1, none⟩) (Kd.R_far (p := ⟨gb156, 0, none⟩) (Kd.R_types HO153.out BK156.out (by decide)) (fun _ hk => hk.2) (.slice Ao21 t148.length co21)) (fun _ hk => hk.2) (.slice Ao23 t151.length co23)) (fun _ hk => hk.2) (.bool t154)) (fun _ h_ => h_.1)))); (case side4 => exact (Kd.R_reads' HO153.out).2.1); rintro e w24 ⟨rfl, hb⟩; refine ⟨_, rfl, ?_⟩; have n0_ := AS (Kd.R_below (by (with_reducible repeat (first | apply Kd.R_alloc | apply Kd.R_drewN | apply Kd.R_drew)); exact (Kd.R_mono (Kd.R_far (p := ⟨gb156, 2, none⟩) (Kd.R_far (p := ⟨gb156, 1, none⟩) (Kd.R_far (p := ⟨gb156, 0, none⟩) (Kd.R_types HO150.out BK156.out (by decide)) (fun _ hk => hk.2) (.slice Ao21 t148.length co21)) (fun _ hk => hk.2) (.slice Ao23 t151.length co23)) (fun _ hk => hk.2) (.bool t154)) (fun _ h_ => h_.1))) hb); have n1_ := AS (Kd.R_below (by (with_reducible repeat (first | apply Kd.R_alloc | apply Kd.R_drewN | apply Kd.R_drew)); exact (Kd.R_mono (Kd.R_far (p := ⟨gb156, 2, none⟩) (Kd.R_far (p := ⟨gb156, 1, none⟩) (Kd.R_far (p := ⟨gb156, 0, none⟩) (Kd.R_types HO153.out BK156.out (by decide)) (fun _ hk => hk.2) (.slice Ao21 t148.length co21)) (fun _ hk => hk.2) (.slice Ao23 t151.length co23)) (fun _ hk => hk.2) (.bool t154)) (fun _ h_ => h_.1))) hb); have n2_ := AS (blk_below (g := gb156) (o := .cells #[.slice Ao21 t148.length co21, .slice Ao23 t151.length co23, .bool t154] 29 (0, 0)) (by (with_reducible repeat (first | apply blk_drewN | apply blk_drew | apply blk_alloc)); refine blk_put (cs := #[.slice Ao21 t148.length co21, .slice Ao23 t151.length co23, .bool false]) ?_ 2 _ rfl; (with_reducible repeat (first | apply blk_drewN | apply blk_drew | apply blk_alloc)); refine blk_put (cs := #[.slice Ao21 t148.length co21, .slice none 0 0, .bool false]) ?_ 1 _ rfl; (with_reducible repeat (first | apply blk_drewN | apply blk_drew | apply blk_alloc)); refine blk_put (cs := #[.slice none 0 0, .slice none 0 0, .bool false]) ?_ 0 _ rfl; (with_reducible repeat (first | apply blk_drewN | apply blk_drew | apply blk_alloc)); exact BK156.out) hb); have n3_ := AS (below_step (by repeat (first | (with_reducible first | exact HB.out | apply below_alloc | apply pw_below_drewN | apply below_drew1 | refine below_set ?_ GE156.out) | exact HB.out)) hb); clear HO150; clear HO153; clear BK156; clear HB; have HO150 := n0_; have HO153 := n1_; have BK156 := n2_; have HB := n3_; clear n0_ n1_ n2_ n3_; (try clear hb); (try clear hb2); (try clear hk); (try clear hi); have hcz25_0 : w24.cell? ⟨gb156, 0, none⟩ = some (.slice Ao21 t148.length co21) := (blk_cell BK156.out 0).trans rfl; have hcz25_1 : w24.cell? ⟨gb156, 1, none⟩ = some (.slice Ao23 t151.length co23) := (blk_cell BK156.out 1).trans rfl; have hcz25_2 : w24.cell? ⟨gb156, 2, none⟩ = some (.bool t154) := (blk_cell BK156.out 2).trans rfl; have hfz25_0 := blk_frozen BK156.out 0; have hfz25_1 := blk_frozen BK156.out 1; have hfz25_2 := blk_frozen BK156.out 2) | ((with_reducible refine gate_callee (f := 8) rfl ?_); refine goesL_ (some 53) rfl rfl Try.func8 (by kernel_rfl) rfl #[.agg #[.slice Ao21 t148.length co21, .slice Ao23 t151.length co23, .bool t154], .complex .f32 ((fop .add .f32 (fop .mul .f32 1073741824 (fop .quo .f32 (floatOfInt .f32 (wrap64 (1 + t147))) 1082130432)) 1065353216, 1040187392) : Nat × Nat).1 ((fop .add .f32 (fop .mul .f32 1073741824 (fop .quo .f32 (floatOfInt .f32 (wrap64 (1 + t147))) 1082130432)) 1065353216, 1040187392) : Nat × Nat).2] rfl (by (try simp only [List.map_toArray, List.map_cons, List.map_nil]); first | done | rfl | (simp only [List.length_drop, List.length_take]; rfl)) ?_; (with_reducible refine (T0.impl_AroundPoint.calls k _ _ t148 _ _ t151 t154 ((fop .add .f32 (fop .mul .f32 1073741824 (fop .quo .f32 (floatOfInt .f32 (wrap64 (1 + t147))) 1082130432)) 1065353216, 1040187392) : Nat × Nat) t159 t160 _ ?side1 ?side2 ?side3 ?side4 A12.out).mono ?_); (case side1 => repeat (first | exact (Kd.R_reads' HO150.out).2.2 | (with_reducible refine Kd.C_alloc ?_ _) | (with_reducible refine Kd.C_drewN ?_ _) | (with_reducible refine Kd.C_drew ?_))); (case side2 => exact (Kd.R_reads' HO150.out).2.1); (case side3 => repeat (first | exact (Kd.R_reads' HO153.out).2.2 | (with_reducible refine Kd.C_alloc ?_ _) | (with_reducible refine Kd.C_drewN ?_ _) | (with_reducible refine Kd.C_drew ?_))); (case side4 => exact (Kd.R_reads' HO153.out).2.1); rintro e w26 ⟨rfl, hb⟩; refine ⟨_, rfl, ?_⟩; have n0_ := AS (Kd.R_below (by (with_reducible repeat (first | apply Kd.R_alloc | apply Kd.R_drewN | apply Kd.R_drew)); exact HO150.out) hb); have n1_ := AS (Kd.R_below (by (with_reducible repeat (first | apply Kd.R_alloc | apply Kd.R_drewN | apply Kd.R_drew)); exact HO153.out) hb); have n2_ := AS (blk_below (g := gb156) (o := .cells #[.slice Ao21 t148.length co21, .slice Ao23 t151.length co23, .bool t154] 29 (0, 0)) (by (with_reducible repeat (first | apply blk_drewN | apply blk_drew | apply blk_alloc)); exact BK156.out) hb); have n3_ := AS (below_step (by repeat (first | (with_reducible first | exact HB.out | apply below_alloc | apply pw_below_drewN | apply below_drew1 | refine below_set ?_ GE156.out) | exact HB.out)) hb); clear HO150; clear HO153; clear BK156; clear HB; have HO150 := n0_; have HO153 := n1_; have BK156 := n2_; have HB := n3_; clear n0_ n1_ n2_ n3_; (try clear hb); (try clear hb2); (try clear hk); (try clear hi); have hcz27_0 : w26.cell? ⟨gb156, 0, none⟩ = some (.slice Ao21 t148.length co21) := (blk_cell BK156.out 0).trans rfl; have hcz27_1 : w26.cell? ⟨gb156, 1, none⟩ = some (.slice Ao23 t151.length co23) := (blk_cell BK156.out 1).trans rfl; have hcz27_2 : w26.cell? ⟨gb156, 2, none⟩ = some (.bool t154) := (blk_cell BK156.out 2).trans rfl; have hfz27_0 := blk_frozen BK156.out 0; have hfz27_1 := blk_frozen BK156.out 1; have hfz27_2 := blk_frozen BK156.out 2) | ((with_reducible refine gate_callee (f := 9) rfl ?_); refine goesL_ (some 58) rfl rfl Try.func9 (by kernel_rfl) rfl #[.agg #[.slice Ao21 t148.length co21, .slice Ao23 t151.length co23, .bool t154]] rfl (by (try simp only [List.map_toArray, List.map_cons, List.map_nil]); first | done | rfl | (simp only [List.length_drop, List.length_take]; rfl)) ?_; (with_reducible refine (T0.impl_BendsOf.calls k _ _ t148 _ _ t151 t154 t161 t164 _ ?side1 ?side2 ?side3 ?side4 A13.out).mono ?_); (case side1 => repeat (first | exact (Kd.R_reads' HO150.out).2.2 | (with_reducible refine Kd.C_alloc ?_ _) | (with_reducible refine Kd.C_drewN ?_ _) | (with_reducible refine Kd.C_drew ?_))); (case side2 => exact (Kd.R_reads' HO150.out).2.1); (case side3 => repeat (first | exact (Kd.R_reads' HO153.out).2.2 | (with_reducible refine Kd.C_alloc ?_ _) | (with_reducible refine Kd.C_drewN ?_ _) | (with_reducible refine Kd.C_drew ?_))); (case side4 => exact (Kd.R_reads' HO153.out).2.1); rintro e w28 ⟨v162, rfl, ho0, hb⟩; refine ⟨_, rfl, ?_⟩; have n0_ := AS (Kd.R_below (by (with_reducible repeat (first | apply Kd.R_alloc | apply Kd.R_drewN | apply Kd.R_drew)); exact HO150.out) hb); have n1_ := AS (Kd.R_elder' (by (with_reducible repeat (first | apply Kd.R_alloc | apply Kd.R_drewN | apply Kd.R_drew)); exact HO153.out) (Kd.R_base ho0) hb); have n2_ := AS (Kd.R_lower (Kd.R_new' ho0 (Kd.R_lt (by (with_reducible repeat (first | apply Kd.R_alloc | apply Kd.R_drewN | apply Kd.R_drew)); exact HO153.out))) (below_size (by repeat (first | (with_reducible first | exact HB.out | apply below_alloc | apply pw_below_drewN | apply below_drew1 | refine below_set ?_ GE156.out) | exact HB.out)))); have n3_ := AS (blk_below (g := gb156) (o := .cells #[.slice Ao21 t148.length co21, .slice Ao23 t151.length co23, .bool t154] 29 (0, 0)) (by (with_reducible repeat (first | apply blk_drewN | apply blk_drew | apply blk_alloc)); exact BK156.out) hb); have n4_ := AS (below_step (by repeat (first | (with_reducible first | exact HB.out | apply below_alloc | apply pw_below_drewN | apply below_drew1 | refine below_set ?_ GE156.out) | exact HB.out)) hb); clear HO150; clear HO153; clear BK156; clear HB; have HO150 := n0_; have HO153 := n1_; have HO163 := n2_; have BK156 := n3_; have HB := n4_; clear n0_ n1_ n2_ n3_ n4_; (try clear hb); (try clear hb2); (try clear hk); (try clear hi); (try clear ho0); have hcz29_0 : w28.cell? ⟨gb156, 0, none⟩ = some (.slice Ao21 t148.length co21) := (blk_cell BK156.out 0).trans rfl; have hcz29_1 : w28.cell? ⟨gb156, 1, none⟩ = some (.slice Ao23 t151.length co23) := (blk_cell BK156.out 1).trans rfl; have hcz29_2 : w28.cell? ⟨gb156, 2, none⟩ = some (.bool t154) := (blk_cell BK156.out 2).trans rfl; have hfz29_0 := blk_frozen BK156.out 0; have hfz29_1 := blk_frozen BK156.out 1; have hfz29_2 := blk_frozen BK156.out 2) | ((with_reducible refine gate_callee (f := 10) rfl ?_); refine goesL_ (some 63) rfl rfl Try.func10 (by kernel_rfl) rfl #[.agg #[.slice Ao21 t148.length co21, .slice Ao23 t151.length co23, .bool t154]] rfl (by (try simp only [List.map_toArray, List.map_cons, List.map_nil]); first | done | rfl | (simp only [List.length_drop, List.length_take]; rfl)) ?_; (with_reducible refine (T0.impl_BackSheet.calls k _ _ t148 _ _ t151 t154 t165 t168 t171 t172 _ ?side1 ?side2 ?side3 ?side4 A14.out).mono ?_); (case side1 => repeat (first | exact (Kd.R_reads' HO150.out).2.2 | (with_reducible refine Kd.C_alloc ?_ _) | (with_reducible refine Kd.C_drewN ?_ _) | (with_reducible refine Kd.C_drew ?_))); (case side2 => exact (Kd.R_reads' HO150.out).2.1); (case side3 => repeat (first | exact (Kd.R_reads' HO153.out).2.2 | (with_reducible refine Kd.C_alloc ?_ _) | (with_reducible refine Kd.C_drewN ?_ _) | (with_reducible refine Kd.C_drew ?_))); (case side4 => exact (Kd.R_reads' HO153.out).2.1); rintro e w30 ⟨v166, v169, rfl, ho0, ho1, hb⟩; refine ⟨_, rfl, ?_⟩; have n0_ := AS (Kd.R_elder' (by (with_reducible repeat (first | apply Kd.R_alloc | apply Kd.R_drewN | apply Kd.R_drew)); exact HO150.out) (Kd.R_base ho0) hb); have n1_ := AS (Kd.R_elder' (by (with_reducible repeat (first | apply Kd.R_alloc | apply Kd.R_drewN | apply Kd.R_drew)); exact HO153.out) (Kd.R_base ho1) hb); have n2_ := AS (Kd.R_elder' (by (with_reducible repeat (first | apply Kd.R_alloc | apply Kd.R_drewN | apply Kd.R_drew)); exact HO163.out) (Kd.R_base ho1) hb); have n3_ := AS (Kd.R_lower (Kd.R_new' ho0 (Kd.R_lt (by (with_reducible repeat (first | apply Kd.R_alloc | apply Kd.R_drewN | apply Kd.R_drew)); exact HO150.out))) (below_size (by repeat (first | (with_reducible first | exact HB.out | apply below_alloc | apply pw_below_drewN | apply below_drew1 | refine below_set ?_ GE156.out) | exact HB.out)))); have n4_ := AS (Kd.R_lower (Kd.R_new' (Kd.R_new' ho1 (Kd.R_lt (by (with_reducible repeat (first | apply Kd.R_alloc | apply Kd.R_drewN | apply Kd.R_drew)); exact HO153.out))) (Kd.R_lt (by (with_reducible repeat (first | apply Kd.R_alloc | apply Kd.R_drewN | apply Kd.R_drew)); exact HO163.out))) (below_size (by repeat (first | (with_reducible first | exact HB.out | apply below_alloc | apply pw_below_drewN | apply below_drew1 | refine below_set ?_ GE156.out) | exact HB.out)))); have n5_ := AS (blk_below (g := gb156) (o := .cells #[.slice Ao21 t148.length co21, .slice Ao23 t151.length co23, .bool t154] 29 (0, 0)) (by (with_reducible repeat (first | apply blk_drewN | apply blk_drew | apply blk_alloc)); exact BK156.out) hb); have n6_ := AS (below_step (by repeat (first | (with_reducible first | exact HB.out | apply below_alloc | apply pw_below_drewN | apply below_drew1 | refine below_set ?_ GE156.out) | exact HB.out)) hb); clear HO150; clear HO153; clear HO163; clear BK156; clear HB; have HO150 := n0_; have HO153 := n1_; have HO163 := n2_; have HO167 := n3_; have HO170 := n4_; have BK156 := n5_; have HB := n6_; clear n0_ n1_ n2_ n3_ n4_ n5_ n6_; (try clear hb); (try clear hb2); (try clear hk); (try clear hi); (try clear ho0); (try clear ho1)) | ((with_reducible refine gate_dst (N := 15) rfl ?_); (try (refine gate_guard (by rfl) ?_; dsimp only)); refine box_event ?hg (N := 15) ?hd (cs := #[.slice none 0 0, .slice none 0 0, .bool false]) (t := 29) ?hr ?_; (case hd => rfl); (case hg => rfl); (case hr => first | (go_simp; done) | (go_simp; rfl)); intro gb173 hg w31 hbox hb; have n0_ := AS (Kd.R_below (by (with_reducible repeat (first | apply Kd.R_alloc | apply Kd.R_drewN | apply Kd.R_drew)); exact HO150.out) hb); have n1_ := AS (Kd.R_below (by (with_reducible repeat (first | apply Kd.R_alloc | apply Kd.R_drewN | apply Kd.R_drew)); exact HO153.out) hb); have n2_ := AS (Kd.R_below (by (with_reducible repeat (first | apply Kd.R_alloc | apply Kd.R_drewN | apply Kd.R_drew)); exact HO163.out) hb); have n3_ := AS (Kd.R_below (by (with_reducible repeat (first | apply Kd.R_alloc | apply Kd.R_drewN | apply Kd.R_drew)); exact HO167.out) hb); have n4_ := AS (Kd.R_below (by (with_reducible repeat (first | apply Kd.R_alloc | apply Kd.R_drewN | apply Kd.R_drew)); exact HO170.out) hb); have n5_ := AS (blk_below (g := gb156) (o := .cells #[.slice Ao21 t148.length co21, .slice Ao23 t151.length co23, .bool t154] 29 (0, 0)) (by (with_reducible repeat (first | apply blk_drewN | apply blk_drew | apply blk_alloc)); exact BK156.out) hb); have n6_ := AS (below_step (by repeat (first | (with_reducible first | exact HB.out | apply below_alloc | apply pw_below_drewN | apply below_drew1 | refine below_set ?_ GE156.out) | exact HB.out)) hb); have n7_ := AS (hbox); have n8_ := AS ((by rw [hg]; exact (below_size (by repeat (first | (with_reducible first | exact HB.out | apply below_alloc | apply pw_below_drewN | apply below_drew1 | refine below_set ?_ GE156.out) | exact HB.out))) : w.heap.size ≤ gb173)); have n9_ := AS ((by rw [hg]; exact (below_size (by repeat (first | (with_reducible first | exact HB.out | apply below_alloc | apply pw_below_drewN | apply below_drew1 | refine below_set ?_ GE156.out) | exact HB.out))) : w.heap.size ≤ gb173)); have n10_ := AS ((by rw [hg]; exact Nat.ne_of_lt (blk_lt (g := gb156) (o := .cells #[.slice Ao21 t148.length co21, .slice Ao23 t151.length co23, .bool t154] 29 (0, 0)) (by (with_reducible repeat (first | apply blk_drewN | apply blk_drew | apply blk_alloc)); exact BK156.out)) : gb156 ≠ gb173)); have n11_ := AS ((by rw [hg]; exact Nat.ne_of_gt (blk_lt (g := gb156) (o := .cells #[.slice Ao21 t148.length co21, .slice Ao23 t151.length co23, .bool t154] 29 (0, 0)) (by (with_reducible repeat (first | apply blk_drewN | apply blk_drew | apply blk_alloc)); exact BK156.out)) : gb173 ≠ gb156)); clear HO150; clear HO153; clear HO163; clear HO167; clear HO170; clear BK156; clear HB; have HO150 := n0_; have HO153 := n1_; have HO163 := n2_; have HO167 := n3_; have HO170 := n4_; have BK156 := n5_; have HB := n6_; have BK173 := n7_; have GW173 := n8_; have GE173 := n9_; have NB156_173 := n10_; have NB173_156 := n11_; clear n0_ n1_ n2_ n3_ n4_ n5_ n6_ n7_ n8_ n9_ n10_ n11_; clear hb hbox hg; obtain ⟨Ao32, co32, eo32⟩ := Kd.R_slice HO167.out; subst eo32; have hnb33 := NB173_156.out; have hnc33 := NB156_173.out; have hcz34_0 : w31.cell? ⟨gb173, 0, none⟩ = some (.slice none 0 0) := (blk_cell BK173.out 0).trans rfl; have hcz34_1 : w31.cell? ⟨gb173, 1, none⟩ = some (.slice none 0 0) := (blk_cell BK173.out 1).trans rfl; have hcz34_2 : w31.cell? ⟨gb173, 2, none⟩ = some (.bool false) := (blk_cell BK173.out 2).trans rfl; have hfz34_0 := blk_frozen BK173.out 0; have hfz34_1 := blk_frozen BK173.out 1; have hfz34_2 := blk_frozen BK173.out 2; obtain ⟨Ao35, co35, eo35⟩ := Kd.R_slice HO170.out; subst eo35) | ((with_reducible refine gate_callee (f := 8) rfl ?_); refine goesL_ (some 68) rfl rfl Try.func8 (by kernel_rfl) rfl #[.agg #[.slice Ao32 t165.length co32, .slice Ao35 t168.length co35, .bool t171], .complex .f32 ((0, 0) : Nat × Nat).1 ((0, 0) : Nat × Nat).2] rfl (by (try simp only [List.map_toArray, List.map_cons, List.map_nil]); first | done | rfl | (simp only [List.length_drop, List.length_take]; rfl)) ?_; (with_reducible refine (T0.impl_AroundPoint.calls k _ _ t165 _ _ t168 t171 ((0, 0) : Nat × Nat) t174 t175 _ ?side1 ?side2 ?side3 ?side4 A15.out).mono ?_); (case side1 => refine (Kd.R_reads' (e := 34) (base := w.heap.size) (ok := fun k_ => (True ∧ some k_ ≠ (.slice Ao21 t148.length co21 : Value).ownBlock)) (n := t165.length) (c := co32) ?_).2.2; exact (by (with_reducible repeat (first | apply Kd.R_alloc | apply Kd.R_drewN | apply Kd.R_drew)); exact (Kd.R_mono (Kd.R_far (p := ⟨gb173, 2, none⟩) (Kd.R_far (p := ⟨gb173, 1, none⟩) (Kd.R_far (p := ⟨gb173, 0, none⟩) (Kd.R_types HO167.out BK173.out (by decide)) (fun _ hk => hk.2) (.slice Ao32 t165.length co32)) (fun _ hk => hk.2) (.slice Ao35 t168.length co35)) (fun _ hk => hk.2) (.bool t171)) (fun _ h_ => h_.1)))); (case side2 => exact (Kd.R_reads' HO167.out).2.1); (case side3 => refine (Kd.R_reads' (e := 25) (base := w.heap.size) (ok := fun k_ => ((True ∧ some k_ ≠ (.slice Ao23 t151.length co23 : Value).ownBlock) ∧ some k_ ≠ (v162 : Value).ownBlock)) (n := t168.length) (c := co35) ?_).2.2; exact (by (with_reducible repeat (first | apply Kd.R_alloc | apply Kd.R_drewN | apply Kd.R_drew)); exact (Kd.R_mono (Kd.R_far (p := ⟨gb173, 2, none⟩) (Kd.R_far (p := ⟨gb173, 1, none⟩) (Kd.R_far (p := ⟨gb173, 0, none⟩) (Kd.R_types HO170.out BK173.out (by decide)) (fun _ hk => hk.2) (.slice Ao32 t165.length co32)) (fun _ hk => hk.2) (.slice Ao35 t168.length co35)) (fun _ hk => hk.2) (.bool t171)) (fun _ h_ => h_.1)))); (case side4 => exact (Kd.R_reads' HO170.out).2.1); rintro e w36 ⟨rfl, hb⟩; refine ⟨_, rfl, ?_⟩; have n0_ := AS (Kd.R_below (by (with_reducible repeat (first | apply Kd.R_alloc | apply Kd.R_drewN | apply Kd.R_drew)); exact (Kd.R_mono (Kd.R_far (p := ⟨gb173, 2, none⟩) (Kd.R_far (p := ⟨gb173, 1, none⟩) (Kd.R_far (p := ⟨gb173, 0, none⟩) (Kd.R_types HO150.out BK173.out (by decide)) (fun _ hk => hk.2) (.slice Ao32 t165.length co32)) (fun _ hk => hk.2) (.slice Ao35 t168.length co35)) (fun _ hk => hk.2) (.bool t171)) (fun _ h_ => h_.1))) hb); have n1_ := AS (Kd.R_below (by (with_reducible repeat (first | apply Kd.R_alloc | apply Kd.R_drewN | apply Kd.R_drew)); exact (Kd.R_mono (Kd.R_far (p := ⟨gb173, 2, none⟩) (Kd.R_far (p := ⟨gb173, 1, none⟩) (Kd.R_far (p := ⟨gb173, 0, none⟩) (Kd.R_types HO153.out BK173.out (by decide)) (fun _ hk => hk.2) (.slice Ao32 t165.length co32)) (fun _ hk => hk.2) (.slice Ao35 t168.length co35)) (fun _ hk => hk.2) (.bool t171)) (fun _ h_ => h_.1))) hb); have n2_ := AS (Kd.R_below (by (with_reducible repeat (first | apply Kd.R_alloc | apply Kd.R_drewN | apply Kd.R_drew)); exact (Kd.R_mono (Kd.R_far (p := ⟨gb173, 2, none⟩) (Kd.R_far (p := ⟨gb173, 1, none⟩) (Kd.R_far (p := ⟨gb173, 0, none⟩) (Kd.R_types HO163.out BK173.out (by decide)) (fun _ hk => hk.2) (.slice Ao32 t165.length co32)) (fun _ hk => hk.2) (.slice Ao35 t168.length co35)) (fun _ hk => hk.2) (.bool t171)) (fun _ h_ => h_.1))) hb); have n3_ := AS (Kd.R_below (by (with_reducible repeat (first | apply Kd.R_alloc | apply Kd.R_drewN | apply Kd.R_drew)); exact (Kd.R_mono (Kd.R_far (p := ⟨gb173, 2, none⟩) (Kd.R_far (p := ⟨gb173, 1, none⟩) (Kd.R_far (p := ⟨gb173, 0, none⟩) (Kd.R_types HO167.out BK173.out (by decide)) (fun _ hk => hk.2) (.slice Ao32 t165.length co32)) (fun _ hk => hk.2) (.slice Ao35 t168.length co35)) (fun _ hk => hk.2) (.bool t171)) (fun _ h_ => h_.1))) hb); have n4_ := AS (Kd.R_below (by (with_reducible repeat (first | apply Kd.R_alloc | apply Kd.R_drewN | apply Kd.R_drew)); exact (Kd.R_mono (Kd.R_far (p := ⟨gb173, 2, none⟩) (Kd.R_far (p := ⟨gb173, 1, none⟩) (Kd.R_far (p := ⟨gb173, 0, none⟩) (Kd.R_types HO170.out BK173.out (by decide)) (fun _ hk => hk.2) (.slice Ao32 t165.length co32)) (fun _ hk => hk.2) (.slice Ao35 t168.length co35)) (fun _ hk => hk.2) (.bool t171)) (fun _ h_ => h_.1))) hb); have n5_ := AS (blk_below (g := gb156) (o := .cells #[.slice Ao21 t148.length co21, .slice Ao23 t151.length co23, .bool t154] 29 (0, 0)) (by (with_reducible repeat (first | apply blk_drewN | apply blk_drew | apply blk_alloc)); refine blk_far ?_ NB156_173.out _; (with_reducible repeat (first | apply blk_drewN | apply blk_drew | apply blk_alloc)); refine blk_far ?_ NB156_173.out _; (with_reducible repeat (first | apply blk_drewN | apply blk_drew | apply blk_alloc)); refine blk_far ?_ NB156_173.out _; (with_reducible repeat (first | apply blk_drewN | apply blk_drew | apply blk_alloc)); exact BK156.out) hb); have n6_ := AS (blk_below (g := gb173) (o := .cells #[.slice Ao32 t165.length co32, .slice Ao35 t168.length co35, .bool t171] 29 (0, 0)) (by (with_reducible repeat (first | apply blk_drewN | apply blk_drew | apply blk_alloc)); refine blk_put (cs := #[.slice Ao32 t165.length co32, .slice Ao35 t168.length co35, .bool false]) ?_ 2 _ rfl; (with_reducible repeat (first | apply blk_drewN | apply blk_drew | apply blk_alloc)); refine blk_put (cs := #[.slice Ao32 t165.length co32, .slice none 0 0, .bool false]) ?_ 1 _ rfl; (with_reducible repeat (first | apply blk_drewN | apply blk_drew | apply blk_alloc)); refine blk_put (cs := #[.slice none 0 0, .slice none 0 0, .bool false]) ?_ 0 _ rfl; (with_reducible repeat (first | apply blk_drewN | apply blk_drew | apply blk_alloc)); exact BK173.out) hb); have n7_ := AS (below_step (by repeat (first | (with_reducible first | exact HB.out | apply below_alloc | apply pw_below_drewN | apply below_drew1 | refine below_set ?_ GE156.out | refine below_set ?_ GE173.out) | exact HB.out)) hb); clear HO150; clear HO153; clear HO163; clear HO167; clear HO170; clear BK156; clear BK173; clear HB; have HO150 := n0_; have HO153 := n1_; have HO163 := n2_; have HO167 := n3_; have HO170 := n4_; have BK156 := n5_; have BK173 := n6_; have HB := n7_; clear n0_ n1_ n2_ n3_ n4_ n5_ n6_ n7_; (try clear hb); (try clear hb2); (try clear hk); (try clear hi); have hcz37_0 : w36.cell? ⟨gb156, 0, none⟩ = some (.slice Ao21 t148.length co21) := (blk_cell BK156.out 0).trans rfl; have hcz37_1 : w36.cell? ⟨gb156, 1, none⟩ = some (.slice Ao23 t151.length co23) := (blk_cell BK156.out 1).trans rfl; have hcz37_2 : w36.cell? ⟨gb156, 2, none⟩ = some (.bool t154) := (blk_cell BK156.out 2).trans rfl; have hfz37_0 := blk_frozen BK156.out 0; have hfz37_1 := blk_frozen BK156.out 1; have hfz37_2 := blk_frozen BK156.out 2) | ((with_reducible refine gate_callee (f := 11) rfl ?_); refine goesL_ (some 73) rfl rfl Try.func11 (by kernel_rfl) rfl #[.agg #[.slice Ao21 t148.length co21, .slice Ao23 t151.length co23, .bool t154]] rfl (by (try simp only [List.map_toArray, List.map_cons, List.map_nil]); first | done | rfl | (simp only [List.length_drop, List.length_take]; rfl)) ?_; (with_reducible refine (T0.impl_SheetArea.calls k _ _ t148 _ _ t151 t154 t176 t177 _ ?side1 ?side2 ?side3 ?side4 A16.out).mono ?_); (case side1 => repeat (first | exact (Kd.R_reads' HO150.out).2.2 | (with_reducible refine Kd.C_alloc ?_ _) | (with_reducible refine Kd.C_drewN ?_ _) | (with_reducible refine Kd.C_drew ?_))); (case side2 => exact (Kd.R_reads' HO150.out).2.1); (case side3 => repeat (first | exact (Kd.R_reads' HO153.out).2.2 | (with_reducible refine Kd.C_alloc ?_ _) | (with_reducible refine Kd.C_drewN ?_ _) | (with_reducible refine Kd.C_drew ?_))); (case side4 => exact (Kd.R_reads' HO153.out).2.1); rintro e w38 ⟨rfl, hb⟩; refine ⟨_, rfl, ?_⟩; have n0_ := AS (Kd.R_below (by (with_reducible repeat (first | apply Kd.R_alloc | apply Kd.R_drewN | apply Kd.R_drew)); exact HO150.out) hb); have n1_ := AS (Kd.R_below (by (with_reducible repeat (first | apply Kd.R_alloc | apply Kd.R_drewN | apply Kd.R_drew)); exact HO153.out) hb); have n2_ := AS (Kd.R_below (by (with_reducible repeat (first | apply Kd.R_alloc | apply Kd.R_drewN | apply Kd.R_drew)); exact HO163.out) hb); have n3_ := AS (Kd.R_below (by (with_reducible repeat (first | apply Kd.R_alloc | apply Kd.R_drewN | apply Kd.R_drew)); exact HO167.out) hb); have n4_ := AS (Kd.R_below (by (with_reducible repeat (first | apply Kd.R_alloc | apply Kd.R_drewN | apply Kd.R_drew)); exact HO170.out) hb); have n5_ := AS (blk_below (g := gb156) (o := .cells #[.slice Ao21 t148.length co21, .slice Ao23 t151.length co23, .bool t154] 29 (0, 0)) (by (with_reducible repeat (first | apply blk_drewN | apply blk_drew | apply blk_alloc)); exact BK156.out) hb); have n6_ := AS (blk_below (g := gb173) (o := .cells #[.slice Ao32 t165.length co32, .slice Ao35 t168.length co35, .bool t171] 29 (0, 0)) (by (with_reducible repeat (first | apply blk_drewN | apply blk_drew | apply blk_alloc)); exact BK173.out) hb); have n7_ := AS (below_step (by repeat (first | (with_reducible first | exact HB.out | apply below_alloc | apply pw_below_drewN | apply below_drew1 | refine below_set ?_ GE156.out | refine below_set ?_ GE173.out) | exact HB.out)) hb); clear HO150; clear HO153; clear HO163; clear HO167; clear HO170; clear BK156; clear BK173; clear HB; have HO150 := n0_; have HO153 := n1_; have HO163 := n2_; have HO167 := n3_; have HO170 := n4_; have BK156 := n5_; have BK173 := n6_; have HB := n7_; clear n0_ n1_ n2_ n3_ n4_ n5_ n6_ n7_; (try clear hb); (try clear hb2); (try clear hk); (try clear hi); have hcz39_0 : w38.cell? ⟨gb156, 0, none⟩ = some (.slice Ao21 t148.length co21) := (blk_cell BK156.out 0).trans rfl; have hcz39_1 : w38.cell? ⟨gb156, 1, none⟩ = some (.slice Ao23 t151.length co23) := (blk_cell BK156.out 1).trans rfl; have hcz39_2 : w38.cell? ⟨gb156, 2, none⟩ = some (.bool t154) := (blk_cell BK156.out 2).trans rfl; have hfz39_0 := blk_frozen BK156.out 0; have hfz39_1 := blk_frozen BK156.out 1; have hfz39_2 := blk_frozen BK156.out 2) | ((with_reducible refine gate_callee (f := 12) rfl ?_); refine goesL_ (some 78) rfl rfl Try.func12 (by kernel_rfl) rfl #[.agg #[.slice Ao21 t148.length co21, .slice Ao23 t151.length co23, .bool t154], .float .f32 1065353216, .float .f32 0] rfl (by (try simp only [List.map_toArray, List.map_cons, List.map_nil]); first | done | rfl | (simp only [List.length_drop, List.length_take]; rfl)) ?_; (with_reducible refine (impl_WaveSheet.calls k _ _ t148 _ _ t151 t154 1065353216 0 t178 t181 t184 t185 _ ?side1 ?side2 ?side3 ?side4 A17.out).mono ?_); (case side1 => repeat (first | exact (Kd.R_reads' HO150.out).2.2 | (with_reducible refine Kd.C_alloc ?_ _) | (with_reducible refine Kd.C_drewN ?_ _) | (with_reducible refine Kd.C_drew ?_))); (case side2 => exact (Kd.R_reads' HO150.out).2.1); (case side3 => repeat (first | exact (Kd.R_reads' HO153.out).2.2 | (with_reducible refine Kd.C_alloc ?_ _) | (with_reducible refine Kd.C_drewN ?_ _) | (with_reducible refine Kd.C_drew ?_))); (case side4 => exact (Kd.R_reads' HO153.out).2.1); rintro e w40 ⟨v179, v182, rfl, ho0, ho1, hb⟩; refine ⟨_, rfl, ?_⟩; have n0_ := AS (Kd.R_elder' (by (with_reducible repeat (first | apply Kd.R_alloc | apply Kd.R_drewN | apply Kd.R_drew)); exact HO150.out) (Kd.R_base ho0) hb); have n1_ := AS (Kd.R_elder' (by (with_reducible repeat (first | apply Kd.R_alloc | apply Kd.R_drewN | apply Kd.R_drew)); exact HO153.out) (Kd.R_base ho1) hb); have n2_ := AS (Kd.R_elder' (by (with_reducible repeat (first | apply Kd.R_alloc | apply Kd.R_drewN | apply Kd.R_drew)); exact HO163.out) (Kd.R_base ho1) hb); have n3_ := AS (Kd.R_elder' (by (with_reducible repeat (first | apply Kd.R_alloc | apply Kd.R_drewN | apply Kd.R_drew)); exact HO167.out) (Kd.R_base ho0) hb); have n4_ := AS (Kd.R_elder' (by (with_reducible repeat (first | apply Kd.R_alloc | apply Kd.R_drewN | apply Kd.R_drew)); exact HO170.out) (Kd.R_base ho1) hb); have n5_ := AS (Kd.R_lower (Kd.R_new' (Kd.R_new' ho0 (Kd.R_lt (by (with_reducible repeat (first | apply Kd.R_alloc | apply Kd.R_drewN | apply Kd.R_drew)); exact HO150.out))) (Kd.R_lt (by (with_reducible repeat (first | apply Kd.R_alloc | apply Kd.R_drewN | apply Kd.R_drew)); exact HO167.out))) (below_size (by repeat (first | (with_reducible first | exact HB.out | apply below_alloc | apply pw_below_drewN | apply below_drew1 | refine below_set ?_ GE156.out | refine below_set ?_ GE173.out) | exact HB.out)))); have n6_ := AS (Kd.R_lower (Kd.R_new' (Kd.R_new' (Kd.R_new' ho1 (Kd.R_lt (by (with_reducible repeat (first | apply Kd.R_alloc | apply Kd.R_drewN | apply Kd.R_drew)); exact HO153.out))) (Kd.R_lt (by (with_reducible repeat (first | apply Kd.R_alloc | apply Kd.R_drewN | apply Kd.R_drew)); exact HO163.out))) (Kd.R_lt (by (with_reducible repeat (first | apply Kd.R_alloc | apply Kd.R_drewN | apply Kd.R_drew)); exact HO170.out))) (below_size (by repeat (first | (with_reducible first | exact HB.out | apply below_alloc | apply pw_below_drewN | apply below_drew1 | refine below_set ?_ GE156.out | refine below_set ?_ GE173.out) | exact HB.out)))); have n7_ := AS (blk_below (g := gb156) (o := .cells #[.slice Ao21 t148.length co21, .slice Ao23 t151.length co23, .bool t154] 29 (0, 0)) (by (with_reducible repeat (first | apply blk_drewN | apply blk_drew | apply blk_alloc)); exact BK156.out) hb); have n8_ := AS (blk_below (g := gb173) (o := .cells #[.slice Ao32 t165.length co32, .slice Ao35 t168.length co35, .bool t171] 29 (0, 0)) (by (with_reducible repeat (first | apply blk_drewN | apply blk_drew | apply blk_alloc)); exact BK173.out) hb); have n9_ := AS (below_step (by repeat (first | (with_reducible first | exact HB.out | apply below_alloc | apply pw_below_drewN | apply below_drew1 | refine below_set ?_ GE156.out | refine below_set ?_ GE173.out) | exact HB.out)) hb); clear HO150; clear HO153; clear HO163; clear HO167; clear HO170; clear BK156; clear BK173; clear HB; have HO150 := n0_; have HO153 := n1_; have HO163 := n2_; have HO167 := n3_; have HO170 := n4_; have HO180 := n5_; have HO183 := n6_; have BK156 := n7_; have BK173 := n8_; have HB := n9_; clear n0_ n1_ n2_ n3_ n4_ n5_ n6_ n7_ n8_ n9_; (try clear hb); (try clear hb2); (try clear hk); (try clear hi); (try clear ho0); (try clear ho1)) | ((with_reducible refine gate_dst (N := 21) rfl ?_); (try (refine gate_guard (by rfl) ?_; dsimp only)); refine box_event ?hg (N := 21) ?hd (cs := #[.slice none 0 0, .slice none 0 0, .bool false]) (t := 29) ?hr ?_; (case hd => rfl); (case hg => rfl); (case hr => first | (go_simp; done) | (go_simp; rfl)); intro gb186 hg w41 hbox hb; have n0_ := AS (Kd.R_below (by (with_reducible repeat (first | apply Kd.R_alloc | apply Kd.R_drewN | apply Kd.R_drew)); exact HO150.out) hb); have n1_ := AS (Kd.R_below (by (with_reducible repeat (first | apply Kd.R_alloc | apply Kd.R_drewN | apply Kd.R_drew)); exact HO153.out) hb); have n2_ := AS (Kd.R_below (by (with_reducible repeat (first | apply Kd.R_alloc | apply Kd.R_drewN | apply Kd.R_drew)); exact HO163.out) hb); have n3_ := AS (Kd.R_below (by (with_reducible repeat (first | apply Kd.R_alloc | apply Kd.R_drewN | apply Kd.R_drew)); exact HO167.out) hb); have n4_ := AS (Kd.R_below (by (with_reducible repeat (first | apply Kd.R_alloc | apply Kd.R_drewN | apply Kd.R_drew)); exact HO170.out) hb); have n5_ := AS (Kd.R_below (by (with_reducible repeat (first | apply Kd.R_alloc | apply Kd.R_drewN | apply Kd.R_drew)); exact HO180.out) hb); have n6_ := AS (Kd.R_below (by (with_reducible repeat (first | apply Kd.R_alloc | apply Kd.R_drewN | apply Kd.R_drew)); exact HO183.out) hb); have n7_ := AS (blk_below (g := gb156) (o := .cells #[.slice Ao21 t148.length co21, .slice Ao23 t151.length co23, .bool t154] 29 (0, 0)) (by (with_reducible repeat (first | apply blk_drewN | apply blk_drew | apply blk_alloc)); exact BK156.out) hb); have n8_ := AS (blk_below (g := gb173) (o := .cells #[.slice Ao32 t165.length co32, .slice Ao35 t168.length co35, .bool t171] 29 (0, 0)) (by (with_reducible repeat (first | apply blk_drewN | apply blk_drew | apply blk_alloc)); exact BK173.out) hb); have n9_ := AS (below_step (by repeat (first | (with_reducible first | exact HB.out | apply below_alloc | apply pw_below_drewN | apply below_drew1 | refine below_set ?_ GE156.out | refine below_set ?_ GE173.out) | exact HB.out)) hb); have n10_ := AS (hbox); have n11_ := AS ((by rw [hg]; exact (below_size (by repeat (first | (with_reducible first | exact HB.out | apply below_alloc | apply pw_below_drewN | apply below_drew1 | refine below_set ?_ GE156.out | refine below_set ?_ GE173.out) | exact HB.out))) : w.heap.size ≤ gb186)); have n12_ := AS ((by rw [hg]; exact (below_size (by repeat (first | (with_reducible first | exact HB.out | apply below_alloc | apply pw_below_drewN | apply below_drew1 | refine below_set ?_ GE156.out | refine below_set ?_ GE173.out) | exact HB.out))) : w.heap.size ≤ gb186)); have n13_ := AS ((by rw [hg]; exact Nat.ne_of_lt (blk_lt (g := gb156) (o := .cells #[.slice Ao21 t148.length co21, .slice Ao23 t151.length co23, .bool t154] 29 (0, 0)) (by (with_reducible repeat (first | apply blk_drewN | apply blk_drew | apply blk_alloc)); exact BK156.out)) : gb156 ≠ gb186)); have n14_ := AS ((by rw [hg]; exact Nat.ne_of_gt (blk_lt (g := gb156) (o := .cells #[.slice Ao21 t148.length co21, .slice Ao23 t151.length co23, .bool t154] 29 (0, 0)) (by (with_reducible repeat (first | apply blk_drewN | apply blk_drew | apply blk_alloc)); exact BK156.out)) : gb186 ≠ gb156)); have n15_ := AS ((by rw [hg]; exact Nat.ne_of_lt (blk_lt (g := gb173) (o := .cells #[.slice Ao32 t165.length co32, .slice Ao35 t168.length co35, .bool t171] 29 (0, 0)) (by (with_reducible repeat (first | apply blk_drewN | apply blk_drew | apply blk_alloc)); exact BK173.out)) : gb173 ≠ gb186)); have n16_ := AS ((by rw [hg]; exact Nat.ne_of_gt (blk_lt (g := gb173) (o := .cells #[.slice Ao32 t165.length co32, .slice Ao35 t168.length co35, .bool t171] 29 (0, 0)) (by (with_reducible repeat (first | apply blk_drewN | apply blk_drew | apply blk_alloc)); exact BK173.out)) : gb186 ≠ gb173)); clear HO150; clear HO153; clear HO163; clear HO167; clear HO170; clear HO180; clear HO183; clear BK156; clear BK173; clear HB; have HO150 := n0_; have HO153 := n1_; have HO163 := n2_; have HO167 := n3_; have HO170 := n4_; have HO180 := n5_; have HO183 := n6_; have BK156 := n7_; have BK173 := n8_; have HB := n9_; have BK186 := n10_; have GW186 := n11_; have GE186 := n12_; have NB156_186 := n13_; have NB186_156 := n14_; have NB173_186 := n15_; have NB186_173 := n16_; clear n0_ n1_ n2_ n3_ n4_ n5_ n6_ n7_ n8_ n9_ n10_ n11_ n12_ n13_ n14_ n15_ n16_; clear hb hbox hg; obtain ⟨Ao42, co42, eo42⟩ := Kd.R_slice HO180.out; subst eo42; have hnb43 := NB186_156.out; have hnc43 := NB156_186.out; have hnb44 := NB186_173.out; have hnc44 := NB173_186.out; have hcz45_0 : w41.cell? ⟨gb186, 0, none⟩ = some (.slice none 0 0) := (blk_cell BK186.out 0).trans rfl; have hcz45_1 : w41.cell? ⟨gb186, 1, none⟩ = some (.slice none 0 0) := (blk_cell BK186.out 1).trans rfl; have hcz45_2 : w41.cell? ⟨gb186, 2, none⟩ = some (.bool false) := (blk_cell BK186.out 2).trans rfl; have hfz45_0 := blk_frozen BK186.out 0; have hfz45_1 := blk_frozen BK186.out 1; have hfz45_2 := blk_frozen BK186.out 2; obtain ⟨Ao46, co46, eo46⟩ := Kd.R_slice HO183.out; subst eo46))
          (try simp only [Act.put, List.setIfInBounds_toArray, List.set_cons_zero, List.set_cons_succ])
          go_cut [147] (fun v147 wc => ∃ (kq : Nat) (x147_17 : Bool), v147 = .bool x147_17 ∧ Aside0 (laws_FnTurned.j0 kq (wrap64 (3 + t146)) t161 x147_17 t148 t151 t154 t178 t181 t184 = some true) ∧ Aside0 (kq ≤ k) ∧ Aside0 (Kd.R (Kd.float .f32) 25 wc w.heap.size (fun k_ => some k_ ≠ ((.slice Ao23 t151.length co23) : Value).ownBlock ∧ some k_ ≠ ((.slice Ao35 t168.length co35) : Value).ownBlock ∧ some k_ ≠ ((.slice Ao46 t181.length co46) : Value).ownBlock) v162 t161) ∧ Aside0 (Kd.R (Kd.complex .f32) 34 wc w.heap.size (fun k_ => some k_ ≠ ((.slice Ao32 t165.length co32) : Value).ownBlock ∧ some k_ ≠ ((.slice Ao42 t178.length co42) : Value).ownBlock) (.slice Ao21 t148.length co21) t148) ∧ Aside0 (Kd.R (Kd.float .f32) 25 wc w.heap.size (fun k_ => some k_ ≠ (v162 : Value).ownBlock ∧ some k_ ≠ ((.slice Ao35 t168.length co35) : Value).ownBlock ∧ some k_ ≠ ((.slice Ao46 t181.length co46) : Value).ownBlock) (.slice Ao23 t151.length co23) t151) ∧ Aside0 (Kd.R (Kd.complex .f32) 34 wc w.heap.size (fun k_ => some k_ ≠ ((.slice Ao21 t148.length co21) : Value).ownBlock ∧ some k_ ≠ ((.slice Ao42 t178.length co42) : Value).ownBlock) (.slice Ao32 t165.length co32) t165) ∧ Aside0 (Kd.R (Kd.float .f32) 25 wc w.heap.size (fun k_ => some k_ ≠ (v162 : Value).ownBlock ∧ some k_ ≠ ((.slice Ao23 t151.length co23) : Value).ownBlock ∧ some k_ ≠ ((.slice Ao46 t181.length co46) : Value).ownBlock) (.slice Ao35 t168.length co35) t168) ∧ Aside0 (Kd.R (Kd.complex .f32) 34 wc w.heap.size (fun k_ => some k_ ≠ ((.slice Ao21 t148.length co21) : Value).ownBlock ∧ some k_ ≠ ((.slice Ao32 t165.length co32) : Value).ownBlock) (.slice Ao42 t178.length co42) t178) ∧ Aside0 (Kd.R (Kd.float .f32) 25 wc w.heap.size (fun k_ => some k_ ≠ (v162 : Value).ownBlock ∧ some k_ ≠ ((.slice Ao23 t151.length co23) : Value).ownBlock ∧ some k_ ≠ ((.slice Ao35 t168.length co35) : Value).ownBlock) (.slice Ao46 t181.length co46) t181) ∧ Aside0 (wc.heap[gb156]? = some (.cells #[(.slice Ao21 t148.length co21), (.slice Ao23 t151.length co23), .bool t154] 29 (0, 0))) ∧ Aside0 (wc.heap[gb173]? = some (.cells #[(.slice Ao32 t165.length co32), (.slice Ao35 t168.length co35), .bool t171] 29 (0, 0))) ∧ Aside0 (wc.heap[gb186]? = some (.cells #[(.slice Ao42 t178.length co42), (.slice Ao46 t181.length co46), .bool t184] 29 (0, 0))) ∧ Aside0 (Below w.heap.size w wc))
          case first =>
            have H := HC18.out
            clear HC18
            by_cases c47 : t155 = true
            · subst c47
              have H1 : (if t158 = true then (if t160 = true then (if t164 = true then (if t172 = true then (if t175 = true then (if t177 = true then (if t185 = true then (if cok .f32 t157 .f64 = true then ((T0.laws_b10Gap.f (cvt .f32 t157 .f64) 4607182418800017408).bind fun t187 => (if (FloatKind.f64.format.order t187 4562254508917369340 == some .gt) = true then (laws_FnTurned.j0 k (wrap64 (3 + t146)) t161 true t148 t151 t154 t178 t181 t184) else (if cok .f32 t159 .f64 = true then ((T0.laws_b10Gap.f (cvt .f32 t159 .f64) 0).bind fun t188 => (if (FloatKind.f64.format.order t188 4562254508917369340 == some .gt) = true then (laws_FnTurned.j0 k (wrap64 (3 + t146)) t161 true t148 t151 t154 t178 t181 t184) else (if cok .f32 t174 .f64 = true then ((T0.laws_b10Gap.f (cvt .f32 t174 .f64) 13830554455654793216).bind fun t189 => (if (FloatKind.f64.format.order t189 4562254508917369340 == some .gt) = true then (laws_FnTurned.j0 k (wrap64 (3 + t146)) t161 true t148 t151 t154 t178 t181 t184) else (if (fle .f32 t176 0) = true then (laws_FnTurned.j0 k (wrap64 (3 + t146)) t161 true t148 t151 t154 t178 t181 t184) else (if (t161.length : Int) = (wrap64 (3 + t146)) then (laws_FnTurned.j0 k (wrap64 (3 + t146)) t161 ((t178.length : Int) != (t148.length : Int)) t148 t151 t154 t178 t181 t184) else (laws_FnTurned.j0 k (wrap64 (3 + t146)) t161 true t148 t151 t154 t178 t181 t184))))) else (none)))) else (none)))) else (none)) else (laws_FnTurned.j0 k (wrap64 (3 + t146)) t161 true t148 t151 t154 t178 t181 t184)) else (laws_FnTurned.j0 k (wrap64 (3 + t146)) t161 true t148 t151 t154 t178 t181 t184)) else (laws_FnTurned.j0 k (wrap64 (3 + t146)) t161 true t148 t151 t154 t178 t181 t184)) else (laws_FnTurned.j0 k (wrap64 (3 + t146)) t161 true t148 t151 t154 t178 t181 t184)) else (laws_FnTurned.j0 k (wrap64 (3 + t146)) t161 true t148 t151 t154 t178 t181 t184)) else (laws_FnTurned.j0 k (wrap64 (3 + t146)) t161 true t148 t151 t154 t178 t181 t184)) else (laws_FnTurned.j0 k (wrap64 (3 + t146)) t161 true t148 t151 t154 t178 t181 t184)) = some true := by rw [if_pos rfl] at H; exact H
              clear H
              have H := H1
              clear H1
              by_cases c48 : t158 = true
              · subst c48
                have H1 : (if t160 = true then (if t164 = true then (if t172 = true then (if t175 = true then (if t177 = true then (if t185 = true then (if cok .f32 t157 .f64 = true then ((T0.laws_b10Gap.f (cvt .f32 t157 .f64) 4607182418800017408).bind fun t187 => (if (FloatKind.f64.format.order t187 4562254508917369340 == some .gt) = true then (laws_FnTurned.j0 k (wrap64 (3 + t146)) t161 true t148 t151 t154 t178 t181 t184) else (if cok .f32 t159 .f64 = true then ((T0.laws_b10Gap.f (cvt .f32 t159 .f64) 0).bind fun t188 => (if (FloatKind.f64.format.order t188 4562254508917369340 == some .gt) = true then (laws_FnTurned.j0 k (wrap64 (3 + t146)) t161 true t148 t151 t154 t178 t181 t184) else (if cok .f32 t174 .f64 = true then ((T0.laws_b10Gap.f (cvt .f32 t174 .f64) 13830554455654793216).bind fun t189 => (if (FloatKind.f64.format.order t189 4562254508917369340 == some .gt) = true then (laws_FnTurned.j0 k (wrap64 (3 + t146)) t161 true t148 t151 t154 t178 t181 t184) else (if (fle .f32 t176 0) = true then (laws_FnTurned.j0 k (wrap64 (3 + t146)) t161 true t148 t151 t154 t178 t181 t184) else (if (t161.length : Int) = (wrap64 (3 + t146)) then (laws_FnTurned.j0 k (wrap64 (3 + t146)) t161 ((t178.length : Int) != (t148.length : Int)) t148 t151 t154 t178 t181 t184) else (laws_FnTurned.j0 k (wrap64 (3 + t146)) t161 true t148 t151 t154 t178 t181 t184))))) else (none)))) else (none)))) else (none)) else (laws_FnTurned.j0 k (wrap64 (3 + t146)) t161 true t148 t151 t154 t178 t181 t184)) else (laws_FnTurned.j0 k (wrap64 (3 + t146)) t161 true t148 t151 t154 t178 t181 t184)) else (laws_FnTurned.j0 k (wrap64 (3 + t146)) t161 true t148 t151 t154 t178 t181 t184)) else (laws_FnTurned.j0 k (wrap64 (3 + t146)) t161 true t148 t151 t154 t178 t181 t184)) else (laws_FnTurned.j0 k (wrap64 (3 + t146)) t161 true t148 t151 t154 t178 t181 t184)) else (laws_FnTurned.j0 k (wrap64 (3 + t146)) t161 true t148 t151 t154 t178 t181 t184)) = some true := by rw [if_pos rfl] at H; exact H
                clear H
                have H := H1
                clear H1
                by_cases c49 : t160 = true
                · subst c49
                  have H1 : (if t164 = true then (if t172 = true then (if t175 = true then (if t177 = true then (if t185 = true then (if cok .f32 t157 .f64 = true then ((T0.laws_b10Gap.f (cvt .f32 t157 .f64) 4607182418800017408).bind fun t187 => (if (FloatKind.f64.format.order t187 4562254508917369340 == some .gt) = true then (laws_FnTurned.j0 k (wrap64 (3 + t146)) t161 true t148 t151 t154 t178 t181 t184) else (if cok .f32 t159 .f64 = true then ((T0.laws_b10Gap.f (cvt .f32 t159 .f64) 0).bind fun t188 => (if (FloatKind.f64.format.order t188 4562254508917369340 == some .gt) = true then (laws_FnTurned.j0 k (wrap64 (3 + t146)) t161 true t148 t151 t154 t178 t181 t184) else (if cok .f32 t174 .f64 = true then ((T0.laws_b10Gap.f (cvt .f32 t174 .f64) 13830554455654793216).bind fun t189 => (if (FloatKind.f64.format.order t189 4562254508917369340 == some .gt) = true then (laws_FnTurned.j0 k (wrap64 (3 + t146)) t161 true t148 t151 t154 t178 t181 t184) else (if (fle .f32 t176 0) = true then (laws_FnTurned.j0 k (wrap64 (3 + t146)) t161 true t148 t151 t154 t178 t181 t184) else (if (t161.length : Int) = (wrap64 (3 + t146)) then (laws_FnTurned.j0 k (wrap64 (3 + t146)) t161 ((t178.length : Int) != (t148.length : Int)) t148 t151 t154 t178 t181 t184) else (laws_FnTurned.j0 k (wrap64 (3 + t146)) t161 true t148 t151 t154 t178 t181 t184))))) else (none)))) else (none)))) else (none)) else (laws_FnTurned.j0 k (wrap64 (3 + t146)) t161 true t148 t151 t154 t178 t181 t184)) else (laws_FnTurned.j0 k (wrap64 (3 + t146)) t161 true t148 t151 t154 t178 t181 t184)) else (laws_FnTurned.j0 k (wrap64 (3 + t146)) t161 true t148 t151 t154 t178 t181 t184)) else (laws_FnTurned.j0 k (wrap64 (3 + t146)) t161 true t148 t151 t154 t178 t181 t184)) else (laws_FnTurned.j0 k (wrap64 (3 + t146)) t161 true t148 t151 t154 t178 t181 t184)) = some true := by rw [if_pos rfl] at H; exact H
                  clear H
                  have H := H1
                  clear H1
                  by_cases c50 : t164 = true
                  · subst c50
                    have H1 : (if t172 = true then (if t175 = true then (if t177 = true then (if t185 = true then (if cok .f32 t157 .f64 = true then ((T0.laws_b10Gap.f (cvt .f32 t157 .f64) 4607182418800017408).bind fun t187 => (if (FloatKind.f64.format.order t187 4562254508917369340 == some .gt) = true then (laws_FnTurned.j0 k (wrap64 (3 + t146)) t161 true t148 t151 t154 t178 t181 t184) else (if cok .f32 t159 .f64 = true then ((T0.laws_b10Gap.f (cvt .f32 t159 .f64) 0).bind fun t188 => (if (FloatKind.f64.format.order t188 4562254508917369340 == some .gt) = true then (laws_FnTurned.j0 k (wrap64 (3 + t146)) t161 true t148 t151 t154 t178 t181 t184) else (if cok .f32 t174 .f64 = true then ((T0.laws_b10Gap.f (cvt .f32 t174 .f64) 13830554455654793216).bind fun t189 => (if (FloatKind.f64.format.order t189 4562254508917369340 == some .gt) = true then (laws_FnTurned.j0 k (wrap64 (3 + t146)) t161 true t148 t151 t154 t178 t181 t184) else (if (fle .f32 t176 0) = true then (laws_FnTurned.j0 k (wrap64 (3 + t146)) t161 true t148 t151 t154 t178 t181 t184) else (if (t161.length : Int) = (wrap64 (3 + t146)) then (laws_FnTurned.j0 k (wrap64 (3 + t146)) t161 ((t178.length : Int) != (t148.length : Int)) t148 t151 t154 t178 t181 t184) else (laws_FnTurned.j0 k (wrap64 (3 + t146)) t161 true t148 t151 t154 t178 t181 t184))))) else (none)))) else (none)))) else (none)) else (laws_FnTurned.j0 k (wrap64 (3 + t146)) t161 true t148 t151 t154 t178 t181 t184)) else (laws_FnTurned.j0 k (wrap64 (3 + t146)) t161 true t148 t151 t154 t178 t181 t184)) else (laws_FnTurned.j0 k (wrap64 (3 + t146)) t161 true t148 t151 t154 t178 t181 t184)) else (laws_FnTurned.j0 k (wrap64 (3 + t146)) t161 true t148 t151 t154 t178 t181 t184)) = some true := by rw [if_pos rfl] at H; exact H
                    clear H
                    have H := H1
                    clear H1
                    by_cases c51 : t172 = true
                    · subst c51
                      have H1 : (if t175 = true then (if t177 = true then (if t185 = true then (if cok .f32 t157 .f64 = true then ((T0.laws_b10Gap.f (cvt .f32 t157 .f64) 4607182418800017408).bind fun t187 => (if (FloatKind.f64.format.order t187 4562254508917369340 == some .gt) = true then (laws_FnTurned.j0 k (wrap64 (3 + t146)) t161 true t148 t151 t154 t178 t181 t184) else (if cok .f32 t159 .f64 = true then ((T0.laws_b10Gap.f (cvt .f32 t159 .f64) 0).bind fun t188 => (if (FloatKind.f64.format.order t188 4562254508917369340 == some .gt) = true then (laws_FnTurned.j0 k (wrap64 (3 + t146)) t161 true t148 t151 t154 t178 t181 t184) else (if cok .f32 t174 .f64 = true then ((T0.laws_b10Gap.f (cvt .f32 t174 .f64) 13830554455654793216).bind fun t189 => (if (FloatKind.f64.format.order t189 4562254508917369340 == some .gt) = true then (laws_FnTurned.j0 k (wrap64 (3 + t146)) t161 true t148 t151 t154 t178 t181 t184) else (if (fle .f32 t176 0) = true then (laws_FnTurned.j0 k (wrap64 (3 + t146)) t161 true t148 t151 t154 t178 t181 t184) else (if (t161.length : Int) = (wrap64 (3 + t146)) then (laws_FnTurned.j0 k (wrap64 (3 + t146)) t161 ((t178.length : Int) != (t148.length : Int)) t148 t151 t154 t178 t181 t184) else (laws_FnTurned.j0 k (wrap64 (3 + t146)) t161 true t148 t151 t154 t178 t181 t184))))) else (none)))) else (none)))) else (none)) else (laws_FnTurned.j0 k (wrap64 (3 + t146)) t161 true t148 t151 t154 t178 t181 t184)) else (laws_FnTurned.j0 k (wrap64 (3 + t146)) t161 true t148 t151 t154 t178 t181 t184)) else (laws_FnTurned.j0 k (wrap64 (3 + t146)) t161 true t148 t151 t154 t178 t181 t184)) = some true := by rw [if_pos rfl] at H; exact H
                      clear H
                      have H := H1
                      clear H1
                      by_cases c52 : t175 = true
                      · subst c52
                        have H1 : (if t177 = true then (if t185 = true then (if cok .f32 t157 .f64 = true then ((T0.laws_b10Gap.f (cvt .f32 t157 .f64) 4607182418800017408).bind fun t187 => (if (FloatKind.f64.format.order t187 4562254508917369340 == some .gt) = true then (laws_FnTurned.j0 k (wrap64 (3 + t146)) t161 true t148 t151 t154 t178 t181 t184) else (if cok .f32 t159 .f64 = true then ((T0.laws_b10Gap.f (cvt .f32 t159 .f64) 0).bind fun t188 => (if (FloatKind.f64.format.order t188 4562254508917369340 == some .gt) = true then (laws_FnTurned.j0 k (wrap64 (3 + t146)) t161 true t148 t151 t154 t178 t181 t184) else (if cok .f32 t174 .f64 = true then ((T0.laws_b10Gap.f (cvt .f32 t174 .f64) 13830554455654793216).bind fun t189 => (if (FloatKind.f64.format.order t189 4562254508917369340 == some .gt) = true then (laws_FnTurned.j0 k (wrap64 (3 + t146)) t161 true t148 t151 t154 t178 t181 t184) else (if (fle .f32 t176 0) = true then (laws_FnTurned.j0 k (wrap64 (3 + t146)) t161 true t148 t151 t154 t178 t181 t184) else (if (t161.length : Int) = (wrap64 (3 + t146)) then (laws_FnTurned.j0 k (wrap64 (3 + t146)) t161 ((t178.length : Int) != (t148.length : Int)) t148 t151 t154 t178 t181 t184) else (laws_FnTurned.j0 k (wrap64 (3 + t146)) t161 true t148 t151 t154 t178 t181 t184))))) else (none)))) else (none)))) else (none)) else (laws_FnTurned.j0 k (wrap64 (3 + t146)) t161 true t148 t151 t154 t178 t181 t184)) else (laws_FnTurned.j0 k (wrap64 (3 + t146)) t161 true t148 t151 t154 t178 t181 t184)) = some true := by rw [if_pos rfl] at H; exact H
                        clear H
                        have H := H1
                        clear H1
                        by_cases c53 : t177 = true
                        · subst c53
                          have H1 : (if t185 = true then (if cok .f32 t157 .f64 = true then ((T0.laws_b10Gap.f (cvt .f32 t157 .f64) 4607182418800017408).bind fun t187 => (if (FloatKind.f64.format.order t187 4562254508917369340 == some .gt) = true then (laws_FnTurned.j0 k (wrap64 (3 + t146)) t161 true t148 t151 t154 t178 t181 t184) else (if cok .f32 t159 .f64 = true then ((T0.laws_b10Gap.f (cvt .f32 t159 .f64) 0).bind fun t188 => (if (FloatKind.f64.format.order t188 4562254508917369340 == some .gt) = true then (laws_FnTurned.j0 k (wrap64 (3 + t146)) t161 true t148 t151 t154 t178 t181 t184) else (if cok .f32 t174 .f64 = true then ((T0.laws_b10Gap.f (cvt .f32 t174 .f64) 13830554455654793216).bind fun t189 => (if (FloatKind.f64.format.order t189 4562254508917369340 == some .gt) = true then (laws_FnTurned.j0 k (wrap64 (3 + t146)) t161 true t148 t151 t154 t178 t181 t184) else (if (fle .f32 t176 0) = true then (laws_FnTurned.j0 k (wrap64 (3 + t146)) t161 true t148 t151 t154 t178 t181 t184) else (if (t161.length : Int) = (wrap64 (3 + t146)) then (laws_FnTurned.j0 k (wrap64 (3 + t146)) t161 ((t178.length : Int) != (t148.length : Int)) t148 t151 t154 t178 t181 t184) else (laws_FnTurned.j0 k (wrap64 (3 + t146)) t161 true t148 t151 t154 t178 t181 t184))))) else (none)))) else (none)))) else (none)) else (laws_FnTurned.j0 k (wrap64 (3 + t146)) t161 true t148 t151 t154 t178 t181 t184)) = some true := by rw [if_pos rfl] at H; exact H
                          clear H
                          have H := H1
                          clear H1
                          by_cases c54 : t185 = true
                          · subst c54
                            have H1 : (if cok .f32 t157 .f64 = true then ((T0.laws_b10Gap.f (cvt .f32 t157 .f64) 4607182418800017408).bind fun t187 => (if (FloatKind.f64.format.order t187 4562254508917369340 == some .gt) = true then (laws_FnTurned.j0 k (wrap64 (3 + t146)) t161 true t148 t151 t154 t178 t181 t184) else (if cok .f32 t159 .f64 = true then ((T0.laws_b10Gap.f (cvt .f32 t159 .f64) 0).bind fun t188 => (if (FloatKind.f64.format.order t188 4562254508917369340 == some .gt) = true then (laws_FnTurned.j0 k (wrap64 (3 + t146)) t161 true t148 t151 t154 t178 t181 t184) else (if cok .f32 t174 .f64 = true then ((T0.laws_b10Gap.f (cvt .f32 t174 .f64) 13830554455654793216).bind fun t189 => (if (FloatKind.f64.format.order t189 4562254508917369340 == some .gt) = true then (laws_FnTurned.j0 k (wrap64 (3 + t146)) t161 true t148 t151 t154 t178 t181 t184) else (if (fle .f32 t176 0) = true then (laws_FnTurned.j0 k (wrap64 (3 + t146)) t161 true t148 t151 t154 t178 t181 t184) else (if (t161.length : Int) = (wrap64 (3 + t146)) then (laws_FnTurned.j0 k (wrap64 (3 + t146)) t161 ((t178.length : Int) != (t148.length : Int)) t148 t151 t154 t178 t181 t184) else (laws_FnTurned.j0 k (wrap64 (3 + t146)) t161 true t148 t151 t154 t178 t181 t184))))) else (none)))) else (none)))) else (none)) = some true := by rw [if_pos rfl] at H; exact H
                            clear H
                            have H := H1
                            clear H1
                            by_cases c55 : cok .f32 t157 .f64 = true
                            · rw [if_pos c55] at H
                              have c55b0 := eq_true c55
                              have c55b1 : decide (cok .f32 t157 .f64 = true) = true := decide_eq_true c55
                              clear c55
                              replace H := Option.bind_eq_some_iff.mp H
                              obtain ⟨t187, A560, H⟩ := H
                              replace H : (if (FloatKind.f64.format.order t187 4562254508917369340 == some .gt) = true then (laws_FnTurned.j0 k (wrap64 (3 + t146)) t161 true t148 t151 t154 t178 t181 t184) else (if cok .f32 t159 .f64 = true then ((T0.laws_b10Gap.f (cvt .f32 t159 .f64) 0).bind fun t188 => (if (FloatKind.f64.format.order t188 4562254508917369340 == some .gt) = true then (laws_FnTurned.j0 k (wrap64 (3 + t146)) t161 true t148 t151 t154 t178 t181 t184) else (if cok .f32 t174 .f64 = true then ((T0.laws_b10Gap.f (cvt .f32 t174 .f64) 13830554455654793216).bind fun t189 => (if (FloatKind.f64.format.order t189 4562254508917369340 == some .gt) = true then (laws_FnTurned.j0 k (wrap64 (3 + t146)) t161 true t148 t151 t154 t178 t181 t184) else (if (fle .f32 t176 0) = true then (laws_FnTurned.j0 k (wrap64 (3 + t146)) t161 true t148 t151 t154 t178 t181 t184) else (if (t161.length : Int) = (wrap64 (3 + t146)) then (laws_FnTurned.j0 k (wrap64 (3 + t146)) t161 ((t178.length : Int) != (t148.length : Int)) t148 t151 t154 t178 t181 t184) else (laws_FnTurned.j0 k (wrap64 (3 + t146)) t161 true t148 t151 t154 t178 t181 t184))))) else (none)))) else (none))) = some true := H
                              have A56 := AS A560
                              clear A560
                              by_cases c57 : (FloatKind.f64.format.order t187 4562254508917369340 == some .gt) = true
                              · rw [if_pos c57] at H
                                have c57b0 : (FloatKind.f64.format.order t187 4562254508917369340 == some .gt) = true := c57
                                (try (have c57b1 : decide (FloatKind.f64.format.order t187 4562254508917369340 = some .gt) = true := by simpa using c57))
                                (try (have c57b2 : (FloatKind.f64.format.order t187 4562254508917369340 == some .gt) = true := by simpa using c57))
                                clear c57
                                (first | (refine Go.wp_cond_true (congrArg Value.bool c57b0) ?_) | (refine Go.wp_cond_false (congrArg Value.bool c57b0) ?_) | rw [c57b0] | (simp only [i64_w, i32_w]; rw [c57b0]) | skip)
                                exact (FnTurned_j0_no H).elim
                              · rw [if_neg c57] at H
                                have c57b0 : (FloatKind.f64.format.order t187 4562254508917369340 == some .gt) = false := by simpa using c57
                                (try (have c57b1 : decide (FloatKind.f64.format.order t187 4562254508917369340 = some .gt) = false := by simpa using c57))
                                (try (have c57b2 : (FloatKind.f64.format.order t187 4562254508917369340 == some .gt) = false := by simpa using c57))
                                (try (have c57b3 : ¬ (FloatKind.f64.format.order t187 4562254508917369340 = some .gt) := by simpa using c57))
                                clear c57
                                (first | (refine Go.wp_cond_true (congrArg Value.bool c57b0) ?_) | (refine Go.wp_cond_false (congrArg Value.bool c57b0) ?_) | rw [c57b0] | (simp only [i64_w, i32_w]; rw [c57b0]) | skip)
                                by_cases c58 : cok .f32 t159 .f64 = true
                                · rw [if_pos c58] at H
                                  have c58b0 := eq_true c58
                                  have c58b1 : decide (cok .f32 t159 .f64 = true) = true := decide_eq_true c58
                                  clear c58
                                  replace H := Option.bind_eq_some_iff.mp H
                                  obtain ⟨t188, A590, H⟩ := H
                                  replace H : (if (FloatKind.f64.format.order t188 4562254508917369340 == some .gt) = true then (laws_FnTurned.j0 k (wrap64 (3 + t146)) t161 true t148 t151 t154 t178 t181 t184) else (if cok .f32 t174 .f64 = true then ((T0.laws_b10Gap.f (cvt .f32 t174 .f64) 13830554455654793216).bind fun t189 => (if (FloatKind.f64.format.order t189 4562254508917369340 == some .gt) = true then (laws_FnTurned.j0 k (wrap64 (3 + t146)) t161 true t148 t151 t154 t178 t181 t184) else (if (fle .f32 t176 0) = true then (laws_FnTurned.j0 k (wrap64 (3 + t146)) t161 true t148 t151 t154 t178 t181 t184) else (if (t161.length : Int) = (wrap64 (3 + t146)) then (laws_FnTurned.j0 k (wrap64 (3 + t146)) t161 ((t178.length : Int) != (t148.length : Int)) t148 t151 t154 t178 t181 t184) else (laws_FnTurned.j0 k (wrap64 (3 + t146)) t161 true t148 t151 t154 t178 t181 t184))))) else (none))) = some true := H
                                  have A59 := AS A590
                                  clear A590
                                  by_cases c60 : (FloatKind.f64.format.order t188 4562254508917369340 == some .gt) = true
                                  · rw [if_pos c60] at H
                                    have c60b0 : (FloatKind.f64.format.order t188 4562254508917369340 == some .gt) = true := c60
                                    (try (have c60b1 : decide (FloatKind.f64.format.order t188 4562254508917369340 = some .gt) = true := by simpa using c60))
                                    (try (have c60b2 : (FloatKind.f64.format.order t188 4562254508917369340 == some .gt) = true := by simpa using c60))
                                    clear c60
                                    exact (FnTurned_j0_no H).elim
                                  · rw [if_neg c60] at H
                                    have c60b0 : (FloatKind.f64.format.order t188 4562254508917369340 == some .gt) = false := by simpa using c60
                                    (try (have c60b1 : decide (FloatKind.f64.format.order t188 4562254508917369340 = some .gt) = false := by simpa using c60))
                                    (try (have c60b2 : (FloatKind.f64.format.order t188 4562254508917369340 == some .gt) = false := by simpa using c60))
                                    (try (have c60b3 : ¬ (FloatKind.f64.format.order t188 4562254508917369340 = some .gt) := by simpa using c60))
                                    clear c60
                                    by_cases c61 : cok .f32 t174 .f64 = true
                                    · rw [if_pos c61] at H
                                      have c61b0 := eq_true c61
                                      have c61b1 : decide (cok .f32 t174 .f64 = true) = true := decide_eq_true c61
                                      clear c61
                                      replace H := Option.bind_eq_some_iff.mp H
                                      obtain ⟨t189, A620, H⟩ := H
                                      replace H : (if (FloatKind.f64.format.order t189 4562254508917369340 == some .gt) = true then (laws_FnTurned.j0 k (wrap64 (3 + t146)) t161 true t148 t151 t154 t178 t181 t184) else (if (fle .f32 t176 0) = true then (laws_FnTurned.j0 k (wrap64 (3 + t146)) t161 true t148 t151 t154 t178 t181 t184) else (if (t161.length : Int) = (wrap64 (3 + t146)) then (laws_FnTurned.j0 k (wrap64 (3 + t146)) t161 ((t178.length : Int) != (t148.length : Int)) t148 t151 t154 t178 t181 t184) else (laws_FnTurned.j0 k (wrap64 (3 + t146)) t161 true t148 t151 t154 t178 t181 t184)))) = some true := H
                                      have A62 := AS A620
                                      clear A620
                                      by_cases c63 : (FloatKind.f64.format.order t189 4562254508917369340 == some .gt) = true
                                      · rw [if_pos c63] at H
                                        have c63b0 : (FloatKind.f64.format.order t189 4562254508917369340 == some .gt) = true := c63
                                        (try (have c63b1 : decide (FloatKind.f64.format.order t189 4562254508917369340 = some .gt) = true := by simpa using c63))
                                        (try (have c63b2 : (FloatKind.f64.format.order t189 4562254508917369340 == some .gt) = true := by simpa using c63))
                                        clear c63
                                        exact (FnTurned_j0_no H).elim
                                      · rw [if_neg c63] at H
                                        have c63b0 : (FloatKind.f64.format.order t189 4562254508917369340 == some .gt) = false := by simpa using c63
                                        (try (have c63b1 : decide (FloatKind.f64.format.order t189 4562254508917369340 = some .gt) = false := by simpa using c63))
                                        (try (have c63b2 : (FloatKind.f64.format.order t189 4562254508917369340 == some .gt) = false := by simpa using c63))
                                        (try (have c63b3 : ¬ (FloatKind.f64.format.order t189 4562254508917369340 = some .gt) := by simpa using c63))
                                        clear c63
                                        by_cases c64 : (fle .f32 t176 0) = true
                                        · rw [if_pos c64] at H
                                          have c64b0 : (fle .f32 t176 0) = true := c64
                                          clear c64
                                          have H' := AS H
                                          clear H
                                          go_wp2_with (first | (go_at_call 13; (with_reducible refine (T0.laws_b10Gap.calls (cvt .f32 t157 .f64) 4607182418800017408 t187 _ A56.out).mono ?_); rintro e w' ⟨rfl, ⟨nd, rfl⟩⟩) | (go_at_call 13; (with_reducible refine (T0.laws_b10Gap.calls (cvt .f32 t159 .f64) 0 t188 _ A59.out).mono ?_); rintro e w' ⟨rfl, ⟨nd, rfl⟩⟩) | (go_at_call 13; (with_reducible refine (T0.laws_b10Gap.calls (cvt .f32 t174 .f64) 13830554455654793216 t189 _ A62.out).mono ?_); rintro e w' ⟨rfl, ⟨nd, rfl⟩⟩))
                                          go_meet
                                          case rel => exact ⟨_, (true), (by first | rfl | (simp; done) | (simp [*]; done)), H', ⟨by first | omega | exact Nat.le_refl _⟩, ⟨by (with_reducible repeat (first | apply Kd.R_alloc | apply Kd.R_drewN | apply Kd.R_drew)); exact Kd.R_mono (Kd.R_far (p := ⟨gb186, 2, none⟩) (Kd.R_far (p := ⟨gb186, 1, none⟩) (Kd.R_far (p := ⟨gb186, 0, none⟩) (Kd.R_types HO163.out BK186.out (by decide)) (fun _ hk => hk.2) (.slice Ao42 t178.length co42)) (fun _ hk => hk.2) (.slice Ao46 t181.length co46)) (fun _ hk => hk.2) (.bool t184)) (fun _ hk => ⟨hk.1.1.1.2, ⟨hk.1.1.2, hk.1.2⟩⟩)⟩, ⟨by (with_reducible repeat (first | apply Kd.R_alloc | apply Kd.R_drewN | apply Kd.R_drew)); exact Kd.R_mono (Kd.R_far (p := ⟨gb186, 2, none⟩) (Kd.R_far (p := ⟨gb186, 1, none⟩) (Kd.R_far (p := ⟨gb186, 0, none⟩) (Kd.R_types HO150.out BK186.out (by decide)) (fun _ hk => hk.2) (.slice Ao42 t178.length co42)) (fun _ hk => hk.2) (.slice Ao46 t181.length co46)) (fun _ hk => hk.2) (.bool t184)) (fun _ hk => ⟨hk.1.1.2, hk.1.2⟩)⟩, ⟨by (with_reducible repeat (first | apply Kd.R_alloc | apply Kd.R_drewN | apply Kd.R_drew)); exact Kd.R_mono (Kd.R_far (p := ⟨gb186, 2, none⟩) (Kd.R_far (p := ⟨gb186, 1, none⟩) (Kd.R_far (p := ⟨gb186, 0, none⟩) (Kd.R_types HO153.out BK186.out (by decide)) (fun _ hk => hk.2) (.slice Ao42 t178.length co42)) (fun _ hk => hk.2) (.slice Ao46 t181.length co46)) (fun _ hk => hk.2) (.bool t184)) (fun _ hk => ⟨hk.1.1.1.2, ⟨hk.1.1.2, hk.1.2⟩⟩)⟩, ⟨by (with_reducible repeat (first | apply Kd.R_alloc | apply Kd.R_drewN | apply Kd.R_drew)); exact Kd.R_mono (Kd.R_far (p := ⟨gb186, 2, none⟩) (Kd.R_far (p := ⟨gb186, 1, none⟩) (Kd.R_far (p := ⟨gb186, 0, none⟩) (Kd.R_types HO167.out BK186.out (by decide)) (fun _ hk => hk.2) (.slice Ao42 t178.length co42)) (fun _ hk => hk.2) (.slice Ao46 t181.length co46)) (fun _ hk => hk.2) (.bool t184)) (fun _ hk => ⟨hk.1.1.2, hk.1.2⟩)⟩, ⟨by (with_reducible repeat (first | apply Kd.R_alloc | apply Kd.R_drewN | apply Kd.R_drew)); exact Kd.R_mono (Kd.R_far (p := ⟨gb186, 2, none⟩) (Kd.R_far (p := ⟨gb186, 1, none⟩) (Kd.R_far (p := ⟨gb186, 0, none⟩) (Kd.R_types HO170.out BK186.out (by decide)) (fun _ hk => hk.2) (.slice Ao42 t178.length co42)) (fun _ hk => hk.2) (.slice Ao46 t181.length co46)) (fun _ hk => hk.2) (.bool t184)) (fun _ hk => ⟨hk.1.1.2, ⟨hk.1.1.1.2, hk.1.2⟩⟩)⟩, ⟨by (with_reducible repeat (first | apply Kd.R_alloc | apply Kd.R_drewN | apply Kd.R_drew)); exact Kd.R_mono (Kd.R_far (p := ⟨gb186, 2, none⟩) (Kd.R_far (p := ⟨gb186, 1, none⟩) (Kd.R_far (p := ⟨gb186, 0, none⟩) (Kd.R_types HO180.out BK186.out (by decide)) (fun _ hk => hk.2) (.slice Ao42 t178.length co42)) (fun _ hk => hk.2) (.slice Ao46 t181.length co46)) (fun _ hk => hk.2) (.bool t184)) (fun _ hk => ⟨hk.1.1.2, hk.1.2⟩)⟩, ⟨by (with_reducible repeat (first | apply Kd.R_alloc | apply Kd.R_drewN | apply Kd.R_drew)); exact Kd.R_mono (Kd.R_far (p := ⟨gb186, 2, none⟩) (Kd.R_far (p := ⟨gb186, 1, none⟩) (Kd.R_far (p := ⟨gb186, 0, none⟩) (Kd.R_types HO183.out BK186.out (by decide)) (fun _ hk => hk.2) (.slice Ao42 t178.length co42)) (fun _ hk => hk.2) (.slice Ao46 t181.length co46)) (fun _ hk => hk.2) (.bool t184)) (fun _ hk => ⟨hk.1.1.2, ⟨hk.1.1.1.2, hk.1.2⟩⟩)⟩, ⟨by (with_reducible repeat (first | apply blk_drewN | apply blk_drew | apply blk_alloc)); refine blk_far ?_ NB156_186.out _; (with_reducible repeat (first | apply blk_drewN | apply blk_drew | apply blk_alloc)); refine blk_far ?_ NB156_186.out _; (with_reducible repeat (first | apply blk_drewN | apply blk_drew | apply blk_alloc)); refine blk_far ?_ NB156_186.out _; (with_reducible repeat (first | apply blk_drewN | apply blk_drew | apply blk_alloc)); exact BK156.out⟩, ⟨by (with_reducible repeat (first | apply blk_drewN | apply blk_drew | apply blk_alloc)); refine blk_far ?_ NB173_186.out _; (with_reducible repeat (first | apply blk_drewN | apply blk_drew | apply blk_alloc)); refine blk_far ?_ NB173_186.out _; (with_reducible repeat (first | apply blk_drewN | apply blk_drew | apply blk_alloc)); refine blk_far ?_ NB173_186.out _; (with_reducible repeat (first | apply blk_drewN | apply blk_drew | apply blk_alloc)); exact BK173.out⟩, ⟨by (with_reducible repeat (first | apply blk_drewN | apply blk_drew | apply blk_alloc)); refine blk_put (cs := #[.slice Ao42 t178.length co42, .slice Ao46 t181.length co46, .bool false]) ?_ 2 _ rfl; (with_reducible repeat (first | apply blk_drewN | apply blk_drew | apply blk_alloc)); refine blk_put (cs := #[.slice Ao42 t178.length co42, .slice none 0 0, .bool false]) ?_ 1 _ rfl; (with_reducible repeat (first | apply blk_drewN | apply blk_drew | apply blk_alloc)); refine blk_put (cs := #[.slice none 0 0, .slice none 0 0, .bool false]) ?_ 0 _ rfl; (with_reducible repeat (first | apply blk_drewN | apply blk_drew | apply blk_alloc)); exact BK186.out⟩, ⟨by repeat (first | (with_reducible first | exact HB.out | apply below_alloc | apply pw_below_drewN | apply below_drew1 | refine below_set ?_ GE156.out | refine below_set ?_ GE173.out | refine below_set ?_ GE186.out) | exact HB.out)⟩⟩
                                        · rw [if_neg c64] at H
                                          have c64b0 : (fle .f32 t176 0) = false := by simpa using c64
                                          clear c64
                                          by_cases c65 : (t161.length : Int) = (wrap64 (3 + t146))
                                          · rw [if_pos c65] at H
                                            have c65b0 : ((t161.length : Int) == (wrap64 (3 + t146))) = true := beq_iff_eq.mpr c65
                                            have c65b1 : ((t161.length : Int) != (wrap64 (3 + t146))) = false := bne_eq_false_iff_eq.mpr c65
                                            clear c65
                                            have H' := AS H
                                            clear H
                                            go_wp2_with (first | (go_at_call 13; (with_reducible refine (T0.laws_b10Gap.calls (cvt .f32 t157 .f64) 4607182418800017408 t187 _ A56.out).mono ?_); rintro e w' ⟨rfl, ⟨nd, rfl⟩⟩) | (go_at_call 13; (with_reducible refine (T0.laws_b10Gap.calls (cvt .f32 t159 .f64) 0 t188 _ A59.out).mono ?_); rintro e w' ⟨rfl, ⟨nd, rfl⟩⟩) | (go_at_call 13; (with_reducible refine (T0.laws_b10Gap.calls (cvt .f32 t174 .f64) 13830554455654793216 t189 _ A62.out).mono ?_); rintro e w' ⟨rfl, ⟨nd, rfl⟩⟩; obtain ⟨Ao66, co66, eo66⟩ := Kd.R_slice HO163.out; subst eo66; have hnb67 := NB186_156.out; have hnc67 := NB156_186.out; have hnb68 := NB186_173.out; have hnc68 := NB173_186.out; have hcz69_0 : w41.cell? ⟨gb186, 0, none⟩ = some (.slice none 0 0) := (blk_cell BK186.out 0).trans rfl; have hcz69_1 : w41.cell? ⟨gb186, 1, none⟩ = some (.slice none 0 0) := (blk_cell BK186.out 1).trans rfl; have hcz69_2 : w41.cell? ⟨gb186, 2, none⟩ = some (.bool false) := (blk_cell BK186.out 2).trans rfl; have hfz69_0 := blk_frozen BK186.out 0; have hfz69_1 := blk_frozen BK186.out 1; have hfz69_2 := blk_frozen BK186.out 2; have hnb70 := NB156_173.out; have hnc70 := NB173_156.out; have hcz71_0 : w41.cell? ⟨gb156, 0, none⟩ = some (.slice Ao21 t148.length co21) := (blk_cell BK156.out 0).trans rfl; have hcz71_1 : w41.cell? ⟨gb156, 1, none⟩ = some (.slice Ao23 t151.length co23) := (blk_cell BK156.out 1).trans rfl; have hcz71_2 : w41.cell? ⟨gb156, 2, none⟩ = some (.bool t154) := (blk_cell BK156.out 2).trans rfl; have hfz71_0 := blk_frozen BK156.out 0; have hfz71_1 := blk_frozen BK156.out 1; have hfz71_2 := blk_frozen BK156.out 2))
                                            go_meet
                                            case rel => exact ⟨_, (((t178.length : Int) != (t148.length : Int))), (by first | rfl | (simp; done) | (simp [*]; done)), H', ⟨by first | omega | exact Nat.le_refl _⟩, ⟨by (with_reducible repeat (first | apply Kd.R_alloc | apply Kd.R_drewN | apply Kd.R_drew)); exact Kd.R_mono (Kd.R_far (p := ⟨gb186, 2, none⟩) (Kd.R_far (p := ⟨gb186, 1, none⟩) (Kd.R_far (p := ⟨gb186, 0, none⟩) (Kd.R_types HO163.out BK186.out (by decide)) (fun _ hk => hk.2) (.slice Ao42 t178.length co42)) (fun _ hk => hk.2) (.slice Ao46 t181.length co46)) (fun _ hk => hk.2) (.bool t184)) (fun _ hk => ⟨hk.1.1.1.2, ⟨hk.1.1.2, hk.1.2⟩⟩)⟩, ⟨by (with_reducible repeat (first | apply Kd.R_alloc | apply Kd.R_drewN | apply Kd.R_drew)); exact Kd.R_mono (Kd.R_far (p := ⟨gb186, 2, none⟩) (Kd.R_far (p := ⟨gb186, 1, none⟩) (Kd.R_far (p := ⟨gb186, 0, none⟩) (Kd.R_types HO150.out BK186.out (by decide)) (fun _ hk => hk.2) (.slice Ao42 t178.length co42)) (fun _ hk => hk.2) (.slice Ao46 t181.length co46)) (fun _ hk => hk.2) (.bool t184)) (fun _ hk => ⟨hk.1.1.2, hk.1.2⟩)⟩, ⟨by (with_reducible repeat (first | apply Kd.R_alloc | apply Kd.R_drewN | apply Kd.R_drew)); exact Kd.R_mono (Kd.R_far (p := ⟨gb186, 2, none⟩) (Kd.R_far (p := ⟨gb186, 1, none⟩) (Kd.R_far (p := ⟨gb186, 0, none⟩) (Kd.R_types HO153.out BK186.out (by decide)) (fun _ hk => hk.2) (.slice Ao42 t178.length co42)) (fun _ hk => hk.2) (.slice Ao46 t181.length co46)) (fun _ hk => hk.2) (.bool t184)) (fun _ hk => ⟨hk.1.1.1.2, ⟨hk.1.1.2, hk.1.2⟩⟩)⟩, ⟨by (with_reducible repeat (first | apply Kd.R_alloc | apply Kd.R_drewN | apply Kd.R_drew)); exact Kd.R_mono (Kd.R_far (p := ⟨gb186, 2, none⟩) (Kd.R_far (p := ⟨gb186, 1, none⟩) (Kd.R_far (p := ⟨gb186, 0, none⟩) (Kd.R_types HO167.out BK186.out (by decide)) (fun _ hk => hk.2) (.slice Ao42 t178.length co42)) (fun _ hk => hk.2) (.slice Ao46 t181.length co46)) (fun _ hk => hk.2) (.bool t184)) (fun _ hk => ⟨hk.1.1.2, hk.1.2⟩)⟩, ⟨by (with_reducible repeat (first | apply Kd.R_alloc | apply Kd.R_drewN | apply Kd.R_drew)); exact Kd.R_mono (Kd.R_far (p := ⟨gb186, 2, none⟩) (Kd.R_far (p := ⟨gb186, 1, none⟩) (Kd.R_far (p := ⟨gb186, 0, none⟩) (Kd.R_types HO170.out BK186.out (by decide)) (fun _ hk => hk.2) (.slice Ao42 t178.length co42)) (fun _ hk => hk.2) (.slice Ao46 t181.length co46)) (fun _ hk => hk.2) (.bool t184)) (fun _ hk => ⟨hk.1.1.2, ⟨hk.1.1.1.2, hk.1.2⟩⟩)⟩, ⟨by (with_reducible repeat (first | apply Kd.R_alloc | apply Kd.R_drewN | apply Kd.R_drew)); exact Kd.R_mono (Kd.R_far (p := ⟨gb186, 2, none⟩) (Kd.R_far (p := ⟨gb186, 1, none⟩) (Kd.R_far (p := ⟨gb186, 0, none⟩) (Kd.R_types HO180.out BK186.out (by decide)) (fun _ hk => hk.2) (.slice Ao42 t178.length co42)) (fun _ hk => hk.2) (.slice Ao46 t181.length co46)) (fun _ hk => hk.2) (.bool t184)) (fun _ hk => ⟨hk.1.1.2, hk.1.2⟩)⟩, ⟨by (with_reducible repeat (first | apply Kd.R_alloc | apply Kd.R_drewN | apply Kd.R_drew)); exact Kd.R_mono (Kd.R_far (p := ⟨gb186, 2, none⟩) (Kd.R_far (p := ⟨gb186, 1, none⟩) (Kd.R_far (p := ⟨gb186, 0, none⟩) (Kd.R_types HO183.out BK186.out (by decide)) (fun _ hk => hk.2) (.slice Ao42 t178.length co42)) (fun _ hk => hk.2) (.slice Ao46 t181.length co46)) (fun _ hk => hk.2) (.bool t184)) (fun _ hk => ⟨hk.1.1.2, ⟨hk.1.1.1.2, hk.1.2⟩⟩)⟩, ⟨by (with_reducible repeat (first | apply blk_drewN | apply blk_drew | apply blk_alloc)); refine blk_far ?_ NB156_186.out _; (with_reducible repeat (first | apply blk_drewN | apply blk_drew | apply blk_alloc)); refine blk_far ?_ NB156_186.out _; (with_reducible repeat (first | apply blk_drewN | apply blk_drew | apply blk_alloc)); refine blk_far ?_ NB156_186.out _; (with_reducible repeat (first | apply blk_drewN | apply blk_drew | apply blk_alloc)); exact BK156.out⟩, ⟨by (with_reducible repeat (first | apply blk_drewN | apply blk_drew | apply blk_alloc)); refine blk_far ?_ NB173_186.out _; (with_reducible repeat (first | apply blk_drewN | apply blk_drew | apply blk_alloc)); refine blk_far ?_ NB173_186.out _; (with_reducible repeat (first | apply blk_drewN | apply blk_drew | apply blk_alloc)); refine blk_far ?_ NB173_186.out _; (with_reducible repeat (first | apply blk_drewN | apply blk_drew | apply blk_alloc)); exact BK173.out⟩, ⟨by (with_reducible repeat (first | apply blk_drewN | apply blk_drew | apply blk_alloc)); refine blk_put (cs := #[.slice Ao42 t178.length co42, .slice Ao46 t181.length co46, .bool false]) ?_ 2 _ rfl; (with_reducible repeat (first | apply blk_drewN | apply blk_drew | apply blk_alloc)); refine blk_put (cs := #[.slice Ao42 t178.length co42, .slice none 0 0, .bool false]) ?_ 1 _ rfl; (with_reducible repeat (first | apply blk_drewN | apply blk_drew | apply blk_alloc)); refine blk_put (cs := #[.slice none 0 0, .slice none 0 0, .bool false]) ?_ 0 _ rfl; (with_reducible repeat (first | apply blk_drewN | apply blk_drew | apply blk_alloc)); exact BK186.out⟩, ⟨by repeat (first | (with_reducible first | exact HB.out | apply below_alloc | apply pw_below_drewN | apply below_drew1 | refine below_set ?_ GE156.out | refine below_set ?_ GE173.out | refine below_set ?_ GE186.out) | exact HB.out)⟩⟩
                                          · rw [if_neg c65] at H
                                            have c65b0 : ((t161.length : Int) == (wrap64 (3 + t146))) = false := beq_eq_false_iff_ne.mpr c65
                                            have c65b1 : ((t161.length : Int) != (wrap64 (3 + t146))) = true := bne_iff_ne.mpr c65
                                            have H' := AS H
                                            clear H
                                            go_wp2_with (first | (go_at_call 13; (with_reducible refine (T0.laws_b10Gap.calls (cvt .f32 t157 .f64) 4607182418800017408 t187 _ A56.out).mono ?_); rintro e w' ⟨rfl, ⟨nd, rfl⟩⟩) | (go_at_call 13; (with_reducible refine (T0.laws_b10Gap.calls (cvt .f32 t159 .f64) 0 t188 _ A59.out).mono ?_); rintro e w' ⟨rfl, ⟨nd, rfl⟩⟩) | (go_at_call 13; (with_reducible refine (T0.laws_b10Gap.calls (cvt .f32 t174 .f64) 13830554455654793216 t189 _ A62.out).mono ?_); rintro e w' ⟨rfl, ⟨nd, rfl⟩⟩; obtain ⟨Ao72, co72, eo72⟩ := Kd.R_slice HO163.out; subst eo72))
                                            go_meet
                                            case rel => exact ⟨_, (true), (by first | rfl | (simp; done) | (simp [*]; done)), H', ⟨by first | omega | exact Nat.le_refl _⟩, ⟨by (with_reducible repeat (first | apply Kd.R_alloc | apply Kd.R_drewN | apply Kd.R_drew)); exact Kd.R_mono (Kd.R_far (p := ⟨gb186, 2, none⟩) (Kd.R_far (p := ⟨gb186, 1, none⟩) (Kd.R_far (p := ⟨gb186, 0, none⟩) (Kd.R_types HO163.out BK186.out (by decide)) (fun _ hk => hk.2) (.slice Ao42 t178.length co42)) (fun _ hk => hk.2) (.slice Ao46 t181.length co46)) (fun _ hk => hk.2) (.bool t184)) (fun _ hk => ⟨hk.1.1.1.2, ⟨hk.1.1.2, hk.1.2⟩⟩)⟩, ⟨by (with_reducible repeat (first | apply Kd.R_alloc | apply Kd.R_drewN | apply Kd.R_drew)); exact Kd.R_mono (Kd.R_far (p := ⟨gb186, 2, none⟩) (Kd.R_far (p := ⟨gb186, 1, none⟩) (Kd.R_far (p := ⟨gb186, 0, none⟩) (Kd.R_types HO150.out BK186.out (by decide)) (fun _ hk => hk.2) (.slice Ao42 t178.length co42)) (fun _ hk => hk.2) (.slice Ao46 t181.length co46)) (fun _ hk => hk.2) (.bool t184)) (fun _ hk => ⟨hk.1.1.2, hk.1.2⟩)⟩, ⟨by (with_reducible repeat (first | apply Kd.R_alloc | apply Kd.R_drewN | apply Kd.R_drew)); exact Kd.R_mono (Kd.R_far (p := ⟨gb186, 2, none⟩) (Kd.R_far (p := ⟨gb186, 1, none⟩) (Kd.R_far (p := ⟨gb186, 0, none⟩) (Kd.R_types HO153.out BK186.out (by decide)) (fun _ hk => hk.2) (.slice Ao42 t178.length co42)) (fun _ hk => hk.2) (.slice Ao46 t181.length co46)) (fun _ hk => hk.2) (.bool t184)) (fun _ hk => ⟨hk.1.1.1.2, ⟨hk.1.1.2, hk.1.2⟩⟩)⟩, ⟨by (with_reducible repeat (first | apply Kd.R_alloc | apply Kd.R_drewN | apply Kd.R_drew)); exact Kd.R_mono (Kd.R_far (p := ⟨gb186, 2, none⟩) (Kd.R_far (p := ⟨gb186, 1, none⟩) (Kd.R_far (p := ⟨gb186, 0, none⟩) (Kd.R_types HO167.out BK186.out (by decide)) (fun _ hk => hk.2) (.slice Ao42 t178.length co42)) (fun _ hk => hk.2) (.slice Ao46 t181.length co46)) (fun _ hk => hk.2) (.bool t184)) (fun _ hk => ⟨hk.1.1.2, hk.1.2⟩)⟩, ⟨by (with_reducible repeat (first | apply Kd.R_alloc | apply Kd.R_drewN | apply Kd.R_drew)); exact Kd.R_mono (Kd.R_far (p := ⟨gb186, 2, none⟩) (Kd.R_far (p := ⟨gb186, 1, none⟩) (Kd.R_far (p := ⟨gb186, 0, none⟩) (Kd.R_types HO170.out BK186.out (by decide)) (fun _ hk => hk.2) (.slice Ao42 t178.length co42)) (fun _ hk => hk.2) (.slice Ao46 t181.length co46)) (fun _ hk => hk.2) (.bool t184)) (fun _ hk => ⟨hk.1.1.2, ⟨hk.1.1.1.2, hk.1.2⟩⟩)⟩, ⟨by (with_reducible repeat (first | apply Kd.R_alloc | apply Kd.R_drewN | apply Kd.R_drew)); exact Kd.R_mono (Kd.R_far (p := ⟨gb186, 2, none⟩) (Kd.R_far (p := ⟨gb186, 1, none⟩) (Kd.R_far (p := ⟨gb186, 0, none⟩) (Kd.R_types HO180.out BK186.out (by decide)) (fun _ hk => hk.2) (.slice Ao42 t178.length co42)) (fun _ hk => hk.2) (.slice Ao46 t181.length co46)) (fun _ hk => hk.2) (.bool t184)) (fun _ hk => ⟨hk.1.1.2, hk.1.2⟩)⟩, ⟨by (with_reducible repeat (first | apply Kd.R_alloc | apply Kd.R_drewN | apply Kd.R_drew)); exact Kd.R_mono (Kd.R_far (p := ⟨gb186, 2, none⟩) (Kd.R_far (p := ⟨gb186, 1, none⟩) (Kd.R_far (p := ⟨gb186, 0, none⟩) (Kd.R_types HO183.out BK186.out (by decide)) (fun _ hk => hk.2) (.slice Ao42 t178.length co42)) (fun _ hk => hk.2) (.slice Ao46 t181.length co46)) (fun _ hk => hk.2) (.bool t184)) (fun _ hk => ⟨hk.1.1.2, ⟨hk.1.1.1.2, hk.1.2⟩⟩)⟩, ⟨by (with_reducible repeat (first | apply blk_drewN | apply blk_drew | apply blk_alloc)); refine blk_far ?_ NB156_186.out _; (with_reducible repeat (first | apply blk_drewN | apply blk_drew | apply blk_alloc)); refine blk_far ?_ NB156_186.out _; (with_reducible repeat (first | apply blk_drewN | apply blk_drew | apply blk_alloc)); refine blk_far ?_ NB156_186.out _; (with_reducible repeat (first | apply blk_drewN | apply blk_drew | apply blk_alloc)); exact BK156.out⟩, ⟨by (with_reducible repeat (first | apply blk_drewN | apply blk_drew | apply blk_alloc)); refine blk_far ?_ NB173_186.out _; (with_reducible repeat (first | apply blk_drewN | apply blk_drew | apply blk_alloc)); refine blk_far ?_ NB173_186.out _; (with_reducible repeat (first | apply blk_drewN | apply blk_drew | apply blk_alloc)); refine blk_far ?_ NB173_186.out _; (with_reducible repeat (first | apply blk_drewN | apply blk_drew | apply blk_alloc)); exact BK173.out⟩, ⟨by (with_reducible repeat (first | apply blk_drewN | apply blk_drew | apply blk_alloc)); refine blk_put (cs := #[.slice Ao42 t178.length co42, .slice Ao46 t181.length co46, .bool false]) ?_ 2 _ rfl; (with_reducible repeat (first | apply blk_drewN | apply blk_drew | apply blk_alloc)); refine blk_put (cs := #[.slice Ao42 t178.length co42, .slice none 0 0, .bool false]) ?_ 1 _ rfl; (with_reducible repeat (first | apply blk_drewN | apply blk_drew | apply blk_alloc)); refine blk_put (cs := #[.slice none 0 0, .slice none 0 0, .bool false]) ?_ 0 _ rfl; (with_reducible repeat (first | apply blk_drewN | apply blk_drew | apply blk_alloc)); exact BK186.out⟩, ⟨by repeat (first | (with_reducible first | exact HB.out | apply below_alloc | apply pw_below_drewN | apply below_drew1 | refine below_set ?_ GE156.out | refine below_set ?_ GE173.out | refine below_set ?_ GE186.out) | exact HB.out)⟩⟩
                                    · rw [if_neg c61] at H
                                      exact absurd H (by simp)
                                · rw [if_neg c58] at H
                                  exact absurd H (by simp)
                            · rw [if_neg c55] at H
                              exact absurd H (by simp)
                          · replace c54 := Bool.eq_false_iff.mpr c54
                            subst c54
                            have H1 : (laws_FnTurned.j0 k (wrap64 (3 + t146)) t161 true t148 t151 t154 t178 t181 t184) = some true := by rw [if_neg (show ¬ (false = true) by decide)] at H; exact H
                            clear H
                            have H := H1
                            clear H1
                            exact (FnTurned_j0_no H).elim
                        · replace c53 := Bool.eq_false_iff.mpr c53
                          subst c53
                          have H1 : (laws_FnTurned.j0 k (wrap64 (3 + t146)) t161 true t148 t151 t154 t178 t181 t184) = some true := by rw [if_neg (show ¬ (false = true) by decide)] at H; exact H
                          clear H
                          have H := H1
                          clear H1
                          exact (FnTurned_j0_no H).elim
                      · replace c52 := Bool.eq_false_iff.mpr c52
                        subst c52
                        have H1 : (laws_FnTurned.j0 k (wrap64 (3 + t146)) t161 true t148 t151 t154 t178 t181 t184) = some true := by rw [if_neg (show ¬ (false = true) by decide)] at H; exact H
                        clear H
                        have H := H1
                        clear H1
                        exact (FnTurned_j0_no H).elim
                    · replace c51 := Bool.eq_false_iff.mpr c51
                      subst c51
                      have H1 : (laws_FnTurned.j0 k (wrap64 (3 + t146)) t161 true t148 t151 t154 t178 t181 t184) = some true := by rw [if_neg (show ¬ (false = true) by decide)] at H; exact H
                      clear H
                      have H := H1
                      clear H1
                      exact (FnTurned_j0_no H).elim
                  · replace c50 := Bool.eq_false_iff.mpr c50
                    subst c50
                    have H1 : (laws_FnTurned.j0 k (wrap64 (3 + t146)) t161 true t148 t151 t154 t178 t181 t184) = some true := by rw [if_neg (show ¬ (false = true) by decide)] at H; exact H
                    clear H
                    have H := H1
                    clear H1
                    exact (FnTurned_j0_no H).elim
                · replace c49 := Bool.eq_false_iff.mpr c49
                  subst c49
                  have H1 : (laws_FnTurned.j0 k (wrap64 (3 + t146)) t161 true t148 t151 t154 t178 t181 t184) = some true := by rw [if_neg (show ¬ (false = true) by decide)] at H; exact H
                  clear H
                  have H := H1
                  clear H1
                  exact (FnTurned_j0_no H).elim
              · replace c48 := Bool.eq_false_iff.mpr c48
                subst c48
                have H1 : (laws_FnTurned.j0 k (wrap64 (3 + t146)) t161 true t148 t151 t154 t178 t181 t184) = some true := by rw [if_neg (show ¬ (false = true) by decide)] at H; exact H
                clear H
                have H := H1
                clear H1
                exact (FnTurned_j0_no H).elim
            · replace c47 := Bool.eq_false_iff.mpr c47
              subst c47
              have H1 : (laws_FnTurned.j0 k (wrap64 (3 + t146)) t161 true t148 t151 t154 t178 t181 t184) = some true := by rw [if_neg (show ¬ (false = true) by decide)] at H; exact H
              clear H
              have H := H1
              clear H1
              exact (FnTurned_j0_no H).elim
          case rest =>
            clear HC18
            try clear c1
            try clear p2
            try clear c3
            try clear c4
            try clear c5
            try clear c6
            try clear p6
            try clear c7
            try clear c7b0
            try clear c7b1
            try clear c8
            try clear c9
            try clear c10
            try clear c10b0
            try clear c10b1
            try clear c11
            try clear c11b0
            try clear c11b1
            try clear c12
            try clear c33
            try clear c43
            try clear c44
            try clear c47
            try clear c48
            try clear c49
            try clear c50
            try clear c51
            try clear c52
            try clear c53
            try clear c54
            try clear c55
            try clear c55b0
            try clear c55b1
            try clear c57
            try clear c57b0
            try clear c57b1
            try clear c57b2
            try clear c58
            try clear c58b0
            try clear c58b1
            try clear c60
            try clear c60b0
            try clear c60b1
            try clear c60b2
            try clear c61
            try clear c61b0
            try clear c61b1
            try clear c63
            try clear c63b0
            try clear c63b1
            try clear c63b2
            try clear c64
            try clear c64b0
            try clear p64
            try clear c65
            try clear c65b0
            try clear c65b1
            try clear c67
            try clear c68
            try clear c70
            try clear hcz22_0
            try clear hcz22_1
            try clear hcz22_2
            try clear hcz25_0
            try clear hcz25_1
            try clear hcz25_2
            try clear hcz27_0
            try clear hcz27_1
            try clear hcz27_2
            try clear hcz29_0
            try clear hcz29_1
            try clear hcz29_2
            try clear hcz34_0
            try clear hcz34_1
            try clear hcz34_2
            try clear hcz37_0
            try clear hcz37_1
            try clear hcz37_2
            try clear hcz39_0
            try clear hcz39_1
            try clear hcz39_2
            try clear hcz45_0
            try clear hcz45_1
            try clear hcz45_2
            try clear hcz69_0
            try clear hcz69_1
            try clear hcz69_2
            try clear hcz71_0
            try clear hcz71_1
            try clear hcz71_2
            try clear hfz22_0
            try clear hfz22_1
            try clear hfz22_2
            try clear hfz25_0
            try clear hfz25_1
            try clear hfz25_2
            try clear hfz27_0
            try clear hfz27_1
            try clear hfz27_2
            try clear hfz29_0
            try clear hfz29_1
            try clear hfz29_2
            try clear hfz34_0
            try clear hfz34_1
            try clear hfz34_2
            try clear hfz37_0
            try clear hfz37_1
            try clear hfz37_2
            try clear hfz39_0
            try clear hfz39_1
            try clear hfz39_2
            try clear hfz45_0
            try clear hfz45_1
            try clear hfz45_2
            try clear hfz69_0
            try clear hfz69_1
            try clear hfz69_2
            try clear hfz71_0
            try clear hfz71_1
            try clear hfz71_2
            obtain ⟨kq, x147_17, rfl, HA, HJ17, HO_13, HO_157000, HO_157001, HO_174000, HO_174001, HO_187000, HO_187001, BK156, BK173, BK186, HB⟩ := hcut
            cases kq with
            | zero => exact absurd HA.out (by simp [laws_FnTurned.j0])
            | succ kj17 =>
              have H := HA.out
              clear HA
              simp only [laws_FnTurned.j0] at H
              by_cases c73 : x147_17 = true
              · subst c73
                have H1 : (some false) = some true := by rw [if_pos rfl] at H; exact H
                clear H
                have H := H1
                clear H1
                exact absurd (Option.some.inj H) (by decide)
              · replace c73 := Bool.eq_false_iff.mpr c73
                subst c73
                have H1 : (laws_FnTurned.l0 kj17 (wrap64 (3 + t146)) t161 0 (t161.length : Int) 0 t148 t151 t154 t178 t181 t184) = some true := by rw [if_neg (show ¬ (false = true) by decide)] at H; exact H
                clear H
                have H := H1
                clear H1
                have H' := AS H
                clear H
                obtain ⟨Ao74, co74, eo74⟩ := Kd.R_slice HO_13.out
                subst eo74
                go_wp2
                go_loopg [23, 150] kj17 (fun kq v23 v150 w' => ∃ (x23_2 : Nat) (x150_2 : Int), v23 = .float .f64 x23_2 ∧ v150 = .int .i64 x150_2 ∧ Aside0 (laws_FnTurned.l0 kq (wrap64 (3 + t146)) t161 x23_2 (t161.length : Int) x150_2 t148 t151 t154 t178 t181 t184 = some true) ∧ Aside0 (kq ≤ kj17) ∧ Aside0 (Kd.R (Kd.float .f32) 25 w' w.heap.size (fun k_ => some k_ ≠ ((.slice Ao23 t151.length co23) : Value).ownBlock ∧ some k_ ≠ ((.slice Ao35 t168.length co35) : Value).ownBlock ∧ some k_ ≠ ((.slice Ao46 t181.length co46) : Value).ownBlock) (.slice Ao74 t161.length co74) t161) ∧ Aside0 (Kd.R (Kd.complex .f32) 34 w' w.heap.size (fun k_ => some k_ ≠ ((.slice Ao32 t165.length co32) : Value).ownBlock ∧ some k_ ≠ ((.slice Ao42 t178.length co42) : Value).ownBlock) (.slice Ao21 t148.length co21) t148) ∧ Aside0 (Kd.R (Kd.float .f32) 25 w' w.heap.size (fun k_ => some k_ ≠ ((.slice Ao74 t161.length co74) : Value).ownBlock ∧ some k_ ≠ ((.slice Ao35 t168.length co35) : Value).ownBlock ∧ some k_ ≠ ((.slice Ao46 t181.length co46) : Value).ownBlock) (.slice Ao23 t151.length co23) t151) ∧ Aside0 (Kd.R (Kd.complex .f32) 34 w' w.heap.size (fun k_ => some k_ ≠ ((.slice Ao21 t148.length co21) : Value).ownBlock ∧ some k_ ≠ ((.slice Ao42 t178.length co42) : Value).ownBlock) (.slice Ao32 t165.length co32) t165) ∧ Aside0 (Kd.R (Kd.float .f32) 25 w' w.heap.size (fun k_ => some k_ ≠ ((.slice Ao74 t161.length co74) : Value).ownBlock ∧ some k_ ≠ ((.slice Ao23 t151.length co23) : Value).ownBlock ∧ some k_ ≠ ((.slice Ao46 t181.length co46) : Value).ownBlock) (.slice Ao35 t168.length co35) t168) ∧ Aside0 (Kd.R (Kd.complex .f32) 34 w' w.heap.size (fun k_ => some k_ ≠ ((.slice Ao21 t148.length co21) : Value).ownBlock ∧ some k_ ≠ ((.slice Ao32 t165.length co32) : Value).ownBlock) (.slice Ao42 t178.length co42) t178) ∧ Aside0 (Kd.R (Kd.float .f32) 25 w' w.heap.size (fun k_ => some k_ ≠ ((.slice Ao74 t161.length co74) : Value).ownBlock ∧ some k_ ≠ ((.slice Ao23 t151.length co23) : Value).ownBlock ∧ some k_ ≠ ((.slice Ao35 t168.length co35) : Value).ownBlock) (.slice Ao46 t181.length co46) t181) ∧ Aside0 (w'.heap[gb156]? = some (.cells #[(.slice Ao21 t148.length co21), (.slice Ao23 t151.length co23), .bool t154] 29 (0, 0))) ∧ Aside0 (w'.heap[gb173]? = some (.cells #[(.slice Ao32 t165.length co32), (.slice Ao35 t168.length co35), .bool t171] 29 (0, 0))) ∧ Aside0 (w'.heap[gb186]? = some (.cells #[(.slice Ao42 t178.length co42), (.slice Ao46 t181.length co46), .bool t184] 29 (0, 0))) ∧ Aside0 (Below w.heap.size w w'))
                case atStart => exact ⟨(0), (0), (by first | rfl | (simp; done) | (simp [*]; done)), (by first | rfl | (simp; done) | (simp [*]; done)), H', ⟨Nat.le_refl _⟩, ⟨by (with_reducible repeat (first | apply Kd.R_alloc | apply Kd.R_drewN | apply Kd.R_drew)); exact HO_13.out⟩, ⟨by (with_reducible repeat (first | apply Kd.R_alloc | apply Kd.R_drewN | apply Kd.R_drew)); exact HO_157000.out⟩, ⟨by (with_reducible repeat (first | apply Kd.R_alloc | apply Kd.R_drewN | apply Kd.R_drew)); exact HO_157001.out⟩, ⟨by (with_reducible repeat (first | apply Kd.R_alloc | apply Kd.R_drewN | apply Kd.R_drew)); exact HO_174000.out⟩, ⟨by (with_reducible repeat (first | apply Kd.R_alloc | apply Kd.R_drewN | apply Kd.R_drew)); exact HO_174001.out⟩, ⟨by (with_reducible repeat (first | apply Kd.R_alloc | apply Kd.R_drewN | apply Kd.R_drew)); exact HO_187000.out⟩, ⟨by (with_reducible repeat (first | apply Kd.R_alloc | apply Kd.R_drewN | apply Kd.R_drew)); exact HO_187001.out⟩, ⟨by (with_reducible repeat (first | apply blk_drewN | apply blk_drew | apply blk_alloc)); exact BK156.out⟩, ⟨by (with_reducible repeat (first | apply blk_drewN | apply blk_drew | apply blk_alloc)); exact BK173.out⟩, ⟨by (with_reducible repeat (first | apply blk_drewN | apply blk_drew | apply blk_alloc)); exact BK186.out⟩, ⟨by repeat (first | (with_reducible first | exact HB.out | apply below_alloc | apply pw_below_drewN | apply below_drew1 | refine below_set ?_ GE156.out | refine below_set ?_ GE173.out | refine below_set ?_ GE186.out) | exact HB.out)⟩⟩
                case round =>
                  clear H'
                  try clear c1
                  try clear p2
                  try clear c3
                  try clear c4
                  try clear c5
                  try clear c6
                  try clear p6
                  try clear c7
                  try clear c7b0
                  try clear c7b1
                  try clear c8
                  try clear c9
                  try clear c10
                  try clear c10b0
                  try clear c10b1
                  try clear c11
                  try clear c11b0
                  try clear c11b1
                  try clear c12
                  try clear c33
                  try clear c43
                  try clear c44
                  try clear c47
                  try clear c48
                  try clear c49
                  try clear c50
                  try clear c51
                  try clear c52
                  try clear c53
                  try clear c54
                  try clear c55
                  try clear c55b0
                  try clear c55b1
                  try clear c57
                  try clear c57b0
                  try clear c57b1
                  try clear c57b2
                  try clear c58
                  try clear c58b0
                  try clear c58b1
                  try clear c60
                  try clear c60b0
                  try clear c60b1
                  try clear c60b2
                  try clear c61
                  try clear c61b0
                  try clear c61b1
                  try clear c63
                  try clear c63b0
                  try clear c63b1
                  try clear c63b2
                  try clear c64
                  try clear c64b0
                  try clear p64
                  try clear c65
                  try clear c65b0
                  try clear c65b1
                  try clear c67
                  try clear c68
                  try clear c70
                  try clear c73
                  try clear hcz22_0
                  try clear hcz22_1
                  try clear hcz22_2
                  try clear hcz25_0
                  try clear hcz25_1
                  try clear hcz25_2
                  try clear hcz27_0
                  try clear hcz27_1
                  try clear hcz27_2
                  try clear hcz29_0
                  try clear hcz29_1
                  try clear hcz29_2
                  try clear hcz34_0
                  try clear hcz34_1
                  try clear hcz34_2
                  try clear hcz37_0
                  try clear hcz37_1
                  try clear hcz37_2
                  try clear hcz39_0
                  try clear hcz39_1
                  try clear hcz39_2
                  try clear hcz45_0
                  try clear hcz45_1
                  try clear hcz45_2
                  try clear hcz69_0
                  try clear hcz69_1
                  try clear hcz69_2
                  try clear hcz71_0
                  try clear hcz71_1
                  try clear hcz71_2
                  try clear hfz22_0
                  try clear hfz22_1
                  try clear hfz22_2
                  try clear hfz25_0
                  try clear hfz25_1
                  try clear hfz25_2
                  try clear hfz27_0
                  try clear hfz27_1
                  try clear hfz27_2
                  try clear hfz29_0
                  try clear hfz29_1
                  try clear hfz29_2
                  try clear hfz34_0
                  try clear hfz34_1
                  try clear hfz34_2
                  try clear hfz37_0
                  try clear hfz37_1
                  try clear hfz37_2
                  try clear hfz39_0
                  try clear hfz39_1
                  try clear hfz39_2
                  try clear hfz45_0
                  try clear hfz45_1
                  try clear hfz45_2
                  try clear hfz69_0
                  try clear hfz69_1
                  try clear hfz69_2
                  try clear hfz71_0
                  try clear hfz71_1
                  try clear hfz71_2
                  try clear p2
                  try clear p6
                  try clear p64
                  obtain ⟨x23_2, x150_2, rfl, rfl, HA, HK2, HO_13, HO_157000, HO_157001, HO_174000, HO_174001, HO_187000, HO_187001, BK156, BK173, BK186, HB⟩ := hrel
                  cases gk with
                  | zero => exact absurd HA.out (by simp [laws_FnTurned.l0])
                  | succ k2 =>
                    have H := HA.out
                    clear HA
                    simp only [laws_FnTurned.l0] at H
                    by_cases c75 : x150_2 < (t161.length : Int)
                    · rw [if_pos c75] at H
                      have c75b0 : decide (x150_2 < (t161.length : Int)) = true := decide_eq_true c75
                      clear c75
                      by_cases c76 : 0 ≤ x150_2
                      · rw [if_pos c76] at H
                        have c76b0 : decide (0 ≤ x150_2) = true := decide_eq_true c76
                        clear c76
                        by_cases c77 : x150_2 < (t161.length : Int)
                        · rw [if_pos c77] at H
                          have c77b0 : decide (x150_2 < (t161.length : Int)) = true := decide_eq_true c77
                          clear c77
                          by_cases c78 : cok .f32 (rdOf (0 : Nat) t161 x150_2) .f64 = true
                          · rw [if_pos c78] at H
                            have c78b0 := eq_true c78
                            have c78b1 : decide (cok .f32 (rdOf (0 : Nat) t161 x150_2) .f64 = true) = true := decide_eq_true c78
                            clear c78
                            by_cases c79 : fok .add .f64 x23_2 (cvt .f32 (rdOf (0 : Nat) t161 x150_2) .f64) = true
                            · rw [if_pos c79] at H
                              have c79b0 := eq_true c79
                              have c79b1 : decide (fok .add .f64 x23_2 (cvt .f32 (rdOf (0 : Nat) t161 x150_2) .f64) = true) = true := decide_eq_true c79
                              clear c79
                              have c80b0 := eq_true (of_decide_eq_true (by first | (with_reducible assumption) | assumption) : cok .f32 (rdOf (0 : Nat) t161 x150_2) .f64 = true)
                              by_cases c81 : fok .mul .f64 (cvt .f32 (rdOf (0 : Nat) t161 x150_2) .f64) (floatOfInt .f64 (wrap64 (3 + t146))) = true
                              · rw [if_pos c81] at H
                                have c81b0 := eq_true c81
                                have c81b1 : decide (fok .mul .f64 (cvt .f32 (rdOf (0 : Nat) t161 x150_2) .f64) (floatOfInt .f64 (wrap64 (3 + t146))) = true) = true := decide_eq_true c81
                                replace H := Option.bind_eq_some_iff.mp H
                                obtain ⟨t193, A820, H⟩ := H
                                replace H : (if (FloatKind.f64.format.order t193 4576918229304087675 == some .gt) = true then (some false) else (if x150_2 < (t178.length : Int) then (if x150_2 < (t148.length : Int) then ((T0.laws_b10Apart.f (rdOf ((0, 0) : Nat × Nat) t178 x150_2) (rdOf ((0, 0) : Nat × Nat) t148 x150_2)).bind fun t196 => (if (FloatKind.f64.format.order t196 4562254508917369340 == some .gt) = true then (some false) else (laws_FnTurned.l0 k2 (wrap64 (3 + t146)) t161 (fop .add .f64 x23_2 (cvt .f32 (rdOf (0 : Nat) t161 x150_2) .f64)) (t161.length : Int) (wrap64 (x150_2 + 1)) t148 t151 t154 t178 t181 t184))) else (none)) else (none))) = some true := H
                                have A82 := AS A820
                                clear A820
                                by_cases c83 : (FloatKind.f64.format.order t193 4576918229304087675 == some .gt) = true
                                · rw [if_pos c83] at H
                                  have c83b0 : (FloatKind.f64.format.order t193 4576918229304087675 == some .gt) = true := c83
                                  (try (have c83b1 : decide (FloatKind.f64.format.order t193 4576918229304087675 = some .gt) = true := by simpa using c83))
                                  (try (have c83b2 : (FloatKind.f64.format.order t193 4576918229304087675 == some .gt) = true := by simpa using c83))
                                  clear c83
                                  exact absurd (Option.some.inj H) (by decide)
                                · rw [if_neg c83] at H
                                  have c83b0 : (FloatKind.f64.format.order t193 4576918229304087675 == some .gt) = false := by simpa using c83
                                  (try (have c83b1 : decide (FloatKind.f64.format.order t193 4576918229304087675 = some .gt) = false := by simpa using c83))
                                  (try (have c83b2 : (FloatKind.f64.format.order t193 4576918229304087675 == some .gt) = false := by simpa using c83))
                                  (try (have c83b3 : ¬ (FloatKind.f64.format.order t193 4576918229304087675 = some .gt) := by simpa using c83))
                                  clear c83
                                  by_cases c85 : x150_2 < (t178.length : Int)
                                  · rw [if_pos c85] at H
                                    have c85b0 : decide (x150_2 < (t178.length : Int)) = true := decide_eq_true c85
                                    clear c85
                                    by_cases c86 : x150_2 < (t148.length : Int)
                                    · rw [if_pos c86] at H
                                      have c86b0 : decide (x150_2 < (t148.length : Int)) = true := decide_eq_true c86
                                      clear c86
                                      replace H := Option.bind_eq_some_iff.mp H
                                      obtain ⟨t196, A870, H⟩ := H
                                      replace H : (if (FloatKind.f64.format.order t196 4562254508917369340 == some .gt) = true then (some false) else (laws_FnTurned.l0 k2 (wrap64 (3 + t146)) t161 (fop .add .f64 x23_2 (cvt .f32 (rdOf (0 : Nat) t161 x150_2) .f64)) (t161.length : Int) (wrap64 (x150_2 + 1)) t148 t151 t154 t178 t181 t184)) = some true := H
                                      have A87 := AS A870
                                      clear A870
                                      by_cases c88 : (FloatKind.f64.format.order t196 4562254508917369340 == some .gt) = true
                                      · rw [if_pos c88] at H
                                        have c88b0 : (FloatKind.f64.format.order t196 4562254508917369340 == some .gt) = true := c88
                                        (try (have c88b1 : decide (FloatKind.f64.format.order t196 4562254508917369340 = some .gt) = true := by simpa using c88))
                                        (try (have c88b2 : (FloatKind.f64.format.order t196 4562254508917369340 == some .gt) = true := by simpa using c88))
                                        clear c88
                                        exact absurd (Option.some.inj H) (by decide)
                                      · rw [if_neg c88] at H
                                        have c88b0 : (FloatKind.f64.format.order t196 4562254508917369340 == some .gt) = false := by simpa using c88
                                        (try (have c88b1 : decide (FloatKind.f64.format.order t196 4562254508917369340 = some .gt) = false := by simpa using c88))
                                        (try (have c88b2 : (FloatKind.f64.format.order t196 4562254508917369340 == some .gt) = false := by simpa using c88))
                                        (try (have c88b3 : ¬ (FloatKind.f64.format.order t196 4562254508917369340 = some .gt) := by simpa using c88))
                                        clear c88
                                        have H' := AS H
                                        clear H
                                        have p191 : 0 ≤ (x150_2 : Int) := of_decide_eq_true (by first | (with_reducible assumption) | assumption)
                                        have q191 : x150_2 < (t161.length : Int) := of_decide_eq_true (by first | (with_reducible assumption) | assumption)
                                        obtain ⟨ad191, e191, hx191_0⟩ := Kd.at_float (Kd.R_reads' HO_13.out).2.2 x150_2 p191 q191
                                        cases e191
                                        replace p191 := eq_true p191
                                        replace q191 := eq_true q191
                                        try go_wp2
                                        have n0_ := AS (Kd.R_drew HO_13.out)
                                        have n1_ := AS (Kd.R_drew HO_157000.out)
                                        have n2_ := AS (Kd.R_drew HO_157001.out)
                                        have n3_ := AS (Kd.R_drew HO_174000.out)
                                        have n4_ := AS (Kd.R_drew HO_174001.out)
                                        have n5_ := AS (Kd.R_drew HO_187000.out)
                                        have n6_ := AS (Kd.R_drew HO_187001.out)
                                        have n7_ := AS (blk_drew BK156.out)
                                        have n8_ := AS (blk_drew BK173.out)
                                        have n9_ := AS (blk_drew BK186.out)
                                        have n10_ := AS (below_drew1 HB.out)
                                        clear HO_13
                                        clear HO_157000
                                        clear HO_157001
                                        clear HO_174000
                                        clear HO_174001
                                        clear HO_187000
                                        clear HO_187001
                                        clear BK156
                                        clear BK173
                                        clear BK186
                                        clear HB
                                        have HO_13 := n0_
                                        have HO_157000 := n1_
                                        have HO_157001 := n2_
                                        have HO_174000 := n3_
                                        have HO_174001 := n4_
                                        have HO_187000 := n5_
                                        have HO_187001 := n6_
                                        have BK156 := n7_
                                        have BK173 := n8_
                                        have BK186 := n9_
                                        have HB := n10_
                                        clear n0_ n1_ n2_ n3_ n4_ n5_ n6_ n7_ n8_ n9_ n10_
                                        have p192 : 0 ≤ (x150_2 : Int) := of_decide_eq_true (by first | (with_reducible assumption) | assumption)
                                        have q192 : x150_2 < (t161.length : Int) := of_decide_eq_true (by first | (with_reducible assumption) | assumption)
                                        obtain ⟨ad192, e192, hx192_0⟩ := Kd.at_float (Kd.R_reads' HO_13.out).2.2 x150_2 p192 q192
                                        obtain rfl : ad191 = ad192 := (by injection e192)
                                        replace p192 := eq_true p192
                                        replace q192 := eq_true q192
                                        have p194 : 0 ≤ (x150_2 : Int) := of_decide_eq_true (by first | (with_reducible assumption) | assumption)
                                        have q194 : x150_2 < (t178.length : Int) := of_decide_eq_true (by first | (with_reducible assumption) | assumption)
                                        obtain ⟨ad194, e194, hx194_0⟩ := Kd.at_complex (Kd.R_reads' HO_187000.out).2.2 x150_2 p194 q194
                                        cases e194
                                        replace p194 := eq_true p194
                                        replace q194 := eq_true q194
                                        have p195 : 0 ≤ (x150_2 : Int) := of_decide_eq_true (by first | (with_reducible assumption) | assumption)
                                        have q195 : x150_2 < (t148.length : Int) := of_decide_eq_true (by first | (with_reducible assumption) | assumption)
                                        obtain ⟨ad195, e195, hx195_0⟩ := Kd.at_complex (Kd.R_reads' HO_157000.out).2.2 x150_2 p195 q195
                                        cases e195
                                        replace p195 := eq_true p195
                                        replace q195 := eq_true q195
                                        refine start_ (n := 24) (S := fun w' => w'.cell? ⟨gb186, 0, none⟩ = some (.slice (some ad194) t178.length co42) ∧ w'.cell? ⟨gb186, 1, none⟩ = some (.slice Ao46 t181.length co46) ∧ w'.cell? ⟨gb186, 2, none⟩ = some (.bool t184) ∧ w'.cell? ⟨gb156, 0, none⟩ = some (.slice (some ad195) t148.length co21) ∧ w'.cell? ⟨gb156, 1, none⟩ = some (.slice Ao23 t151.length co23) ∧ w'.cell? ⟨gb156, 2, none⟩ = some (.bool t154) ∧ w'.cell? (ad191.add (x150_2).toNat) = some (.float .f32 (rdOf (0 : Nat) t161 x150_2)) ∧ w'.cell? (ad194.add (x150_2).toNat) = some (.complex .f32 (rdOf ((0, 0) : Nat × Nat) t178 x150_2).1 (rdOf ((0, 0) : Nat × Nat) t178 x150_2).2) ∧ w'.cell? (ad195.add (x150_2).toNat) = some (.complex .f32 (rdOf ((0, 0) : Nat × Nat) t148 x150_2).1 (rdOf ((0, 0) : Nat × Nat) t148 x150_2).2)) (ds := []) #[false, false, false, false, false, false, false, false, false, false, false, false, false, false, false, false, false, false, false, false, false, false, false, false] (by kernel_rfl) rfl rfl ⟨(blk_cell BK186.out 0).trans rfl, (blk_cell BK186.out 1).trans rfl, (blk_cell BK186.out 2).trans rfl, (blk_cell BK156.out 0).trans rfl, (blk_cell BK156.out 1).trans rfl, (blk_cell BK156.out 2).trans rfl, hx192_0, hx194_0, hx195_0⟩ (fun hHeld => ?_); refine with_tabW laws_FnTurned.tab20 laws_FnTurned.bits20 (fun HT_ HW_ => ?_)
                                        generalize wr.drew = w91 at HO_13 HO_157000 HO_157001 HO_174000 HO_174001 HO_187000 HO_187001 BK156 BK173 BK186 HB hx192_0 hx194_0 hx195_0 hHeld ⊢
                                        refine pure_ (i := 0) (N := some 160) (v := ?_) (a' := ?_) #[true, false, false, false, false, false, false, false, false, false, false, false, false, false, false, false, false, false, false, false, false, false, false, false] rfl rfl (any_of HT_.out (by kernel_rfl)) (fun _ _ _ h => h) (Or.inl ⟨by rfl, ?_⟩) ?_ ?_
                                        rotate_left
                                        · intro w'
                                          go_simp
                                          with_reducible rfl
                                        rotate_left
                                        · simp only [Act.put, List.setIfInBounds_toArray, List.set_cons_zero, List.set_cons_succ, i64_w, i32_w]
                                          rfl
                                        refine pure_ (i := 1) (N := some 161) (v := ?_) (a' := ?_) #[true, true, false, false, false, false, false, false, false, false, false, false, false, false, false, false, false, false, false, false, false, false, false, false] rfl rfl (any_of HT_.out (by kernel_rfl)) (fun _ _ _ h => h) (Or.inl ⟨by rfl, ?_⟩) ?_ ?_
                                        rotate_left
                                        · intro w'
                                          go_simp
                                          with_reducible rfl
                                        rotate_left
                                        · simp only [Act.put, List.setIfInBounds_toArray, List.set_cons_zero, List.set_cons_succ, i64_w, i32_w]
                                          rfl
                                        refine pure_ (i := 2) (N := some 162) (v := ?_) (a' := ?_) #[true, true, true, false, false, false, false, false, false, false, false, false, false, false, false, false, false, false, false, false, false, false, false, false] rfl rfl (any_of HT_.out (by kernel_rfl)) (fun _ _ _ h => h) (Or.inl ⟨by rfl, ?_⟩) ?_ ?_
                                        rotate_left
                                        · intro w'
                                          go_simp
                                          with_reducible rfl
                                        rotate_left
                                        · simp only [Act.put, List.setIfInBounds_toArray, List.set_cons_zero, List.set_cons_succ, i64_w, i32_w]
                                          rfl
                                        refine pure_ (i := 5) (N := some 165) (v := ?_) (a' := ?_) #[true, true, true, false, false, true, false, false, false, false, false, false, false, false, false, false, false, false, false, false, false, false, false, false] rfl rfl (any_of HT_.out (by kernel_rfl)) (fun _ _ _ h => h) (Or.inl ⟨by rfl, ?_⟩) ?_ ?_
                                        rotate_left
                                        · intro w'
                                          go_simp
                                          with_reducible rfl
                                        rotate_left
                                        · simp only [Act.put, List.setIfInBounds_toArray, List.set_cons_zero, List.set_cons_succ, i64_w, i32_w]
                                          rfl
                                        refine pure_ (i := 6) (N := some 166) (v := ?_) (a' := ?_) #[true, true, true, false, false, true, true, false, false, false, false, false, false, false, false, false, false, false, false, false, false, false, false, false] rfl rfl (any_of HT_.out (by kernel_rfl)) (fun _ _ _ h => h) (Or.inl ⟨by rfl, ?_⟩) ?_ ?_
                                        rotate_left
                                        · intro w'
                                          go_simp
                                          with_reducible rfl
                                        rotate_left
                                        · simp only [Act.put, List.setIfInBounds_toArray, List.set_cons_zero, List.set_cons_succ, i64_w, i32_w]
                                          rfl
                                        refine take_ (i := 3) (N := some 163) (v := ?_) (a' := ?_) #[true, true, true, true, false, true, true, false, false, false, false, false, false, false, false, false, false, false, false, false, false, false, false, false] rfl rfl (take_ofW HT_.out HW_.out (by kernel_rfl)) (fun _ _ _ h => h) (Or.inl ⟨by rfl, ?_⟩) hHeld ?_ ?_
                                        rotate_left
                                        · rintro w' ⟨s0, s1, s2, s3, s4, s5, s6, s7, s8⟩
                                          go_simp
                                          with_reducible rfl
                                        rotate_left
                                        · simp only [Act.put, List.setIfInBounds_toArray, List.set_cons_zero, List.set_cons_succ, i64_w, i32_w]
                                          rfl
                                        refine pure_ (i := 4) (N := some 164) (v := ?_) (a' := ?_) #[true, true, true, true, true, true, true, false, false, false, false, false, false, false, false, false, false, false, false, false, false, false, false, false] rfl rfl (any_of HT_.out (by kernel_rfl)) (fun _ _ _ h => h) (Or.inl ⟨by rfl, ?_⟩) ?_ ?_
                                        rotate_left
                                        · intro w'
                                          go_simp
                                          with_reducible rfl
                                        rotate_left
                                        · simp only [Act.put, List.setIfInBounds_toArray, List.set_cons_zero, List.set_cons_succ, i64_w, i32_w]
                                          rfl
                                        refine pure_ (i := 7) (N := some 167) (v := ?_) (a' := ?_) #[true, true, true, true, true, true, true, true, false, false, false, false, false, false, false, false, false, false, false, false, false, false, false, false] rfl rfl (any_of HT_.out (by kernel_rfl)) (fun _ _ _ h => h) (Or.inl ⟨by rfl, ?_⟩) ?_ ?_
                                        rotate_left
                                        · intro w'
                                          go_simp
                                          with_reducible rfl
                                        rotate_left
                                        · simp only [Act.put, List.setIfInBounds_toArray, List.set_cons_zero, List.set_cons_succ, i64_w, i32_w]
                                          rfl
                                        refine one_ (i := 8) (N := some 168) #[true, true, true, true, true, true, true, true, true, false, false, false, false, false, false, false, false, false, false, false, false, false, false, false] rfl rfl (one_of HT_.out (by kernel_rfl)) (by decide) (fun K hK => ?_)
                                        refine goes_ Try.func13 (by kernel_rfl) rfl #[.float .f64 (fop .mul .f64 (cvt .f32 (rdOf (0 : Nat) t161 x150_2) .f64) (floatOfInt .f64 (wrap64 (3 + t146)))), .float .f64 4607182418800017408] (by rfl) rfl rfl (by (try simp only [List.map_toArray, List.map_cons, List.map_nil]); first | done | rfl | (simp only [List.length_drop, List.length_take]; rfl)) ?_
                                        with_reducible refine (T0.laws_b10Gap.calls (fop .mul .f64 (cvt .f32 (rdOf (0 : Nat) t161 x150_2) .f64) (floatOfInt .f64 (wrap64 (3 + t146)))) 4607182418800017408 t193 _ A82.out).mono ?_
                                        rintro e w' ⟨rfl, ⟨nd, rfl⟩⟩
                                        refine ⟨_, rfl, ?_⟩
                                        refine hK.out _ _ ⟨(blk_cell BK186.out 0).trans rfl, (blk_cell BK186.out 1).trans rfl, (blk_cell BK186.out 2).trans rfl, (blk_cell BK156.out 0).trans rfl, (blk_cell BK156.out 1).trans rfl, (blk_cell BK156.out 2).trans rfl, hHeld.2.2.2.2.2.2.1, hHeld.2.2.2.2.2.2.2.1, hHeld.2.2.2.2.2.2.2.2⟩ (fun hHeld => ?_)
                                        clear hK K
                                        refine norm_ (a' := ?_) ?_ ?_
                                        rotate_left
                                        · show Act.put _ (some 168) _ = _
                                          simp only [Act.put, List.setIfInBounds_toArray, List.set_cons_zero, List.set_cons_succ, i64_w, i32_w]
                                          rfl
                                        refine pure_ (i := 9) (N := some 169) (v := ?_) (a' := ?_) #[true, true, true, true, true, true, true, true, true, true, false, false, false, false, false, false, false, false, false, false, false, false, false, false] rfl rfl (any_of HT_.out (by kernel_rfl)) (fun _ _ _ h => h) (Or.inl ⟨by rfl, ?_⟩) ?_ ?_
                                        rotate_left
                                        · intro w'
                                          go_simp
                                          with_reducible rfl
                                        rotate_left
                                        · simp only [Act.put, List.setIfInBounds_toArray, List.set_cons_zero, List.set_cons_succ, i64_w, i32_w]
                                          rfl
                                        refine pure_ (i := 10) (N := some 170) (v := ?_) (a' := ?_) #[true, true, true, true, true, true, true, true, true, true, true, false, false, false, false, false, false, false, false, false, false, false, false, false] rfl rfl (any_of HT_.out (by kernel_rfl)) (fun _ _ _ h => h) (Or.inl ⟨by rfl, ?_⟩) ?_ ?_
                                        rotate_left
                                        · intro w'
                                          go_simp
                                          with_reducible rfl
                                        rotate_left
                                        · simp only [Act.put, List.setIfInBounds_toArray, List.set_cons_zero, List.set_cons_succ, i64_w, i32_w]
                                          rfl
                                        refine pure_ (i := 11) (N := some 171) (v := ?_) (a' := ?_) #[true, true, true, true, true, true, true, true, true, true, true, true, false, false, false, false, false, false, false, false, false, false, false, false] rfl rfl (any_of HT_.out (by kernel_rfl)) (fun _ _ _ h => h) (Or.inl ⟨by rfl, ?_⟩) ?_ ?_
                                        rotate_left
                                        · intro w'
                                          go_simp
                                          with_reducible rfl
                                        rotate_left
                                        · simp only [Act.put, List.setIfInBounds_toArray, List.set_cons_zero, List.set_cons_succ, i64_w, i32_w]
                                          rfl
                                        refine pure_ (i := 13) (N := some 173) (v := ?_) (a' := ?_) #[true, true, true, true, true, true, true, true, true, true, true, true, false, true, false, false, false, false, false, false, false, false, false, false] rfl rfl (any_of HT_.out (by kernel_rfl)) (fun _ _ _ h => h) (Or.inl ⟨by rfl, ?_⟩) ?_ ?_
                                        rotate_left
                                        · intro w'
                                          go_simp
                                          with_reducible rfl
                                        rotate_left
                                        · simp only [Act.put, List.setIfInBounds_toArray, List.set_cons_zero, List.set_cons_succ, i64_w, i32_w]
                                          rfl
                                        refine pure_ (i := 16) (N := some 176) (v := ?_) (a' := ?_) #[true, true, true, true, true, true, true, true, true, true, true, true, false, true, false, false, true, false, false, false, false, false, false, false] rfl rfl (any_of HT_.out (by kernel_rfl)) (fun _ _ _ h => h) (Or.inl ⟨by rfl, ?_⟩) ?_ ?_
                                        rotate_left
                                        · intro w'
                                          go_simp
                                          with_reducible rfl
                                        rotate_left
                                        · simp only [Act.put, List.setIfInBounds_toArray, List.set_cons_zero, List.set_cons_succ, i64_w, i32_w]
                                          rfl
                                        refine pure_ (i := 18) (N := some 178) (v := ?_) (a' := ?_) #[true, true, true, true, true, true, true, true, true, true, true, true, false, true, false, false, true, false, true, false, false, false, false, false] rfl rfl (any_of HT_.out (by kernel_rfl)) (fun _ _ _ h => h) (Or.inl ⟨by rfl, ?_⟩) ?_ ?_
                                        rotate_left
                                        · intro w'
                                          go_simp
                                          with_reducible rfl
                                        rotate_left
                                        · simp only [Act.put, List.setIfInBounds_toArray, List.set_cons_zero, List.set_cons_succ, i64_w, i32_w]
                                          rfl
                                        refine take_ (i := 12) (N := some 172) (v := ?_) (a' := ?_) #[true, true, true, true, true, true, true, true, true, true, true, true, true, true, false, false, true, false, true, false, false, false, false, false] rfl rfl (take_ofW HT_.out HW_.out (by kernel_rfl)) (fun _ _ _ h => h) (Or.inl ⟨by rfl, ?_⟩) hHeld ?_ ?_
                                        rotate_left
                                        · rintro w' ⟨s0, s1, s2, s3, s4, s5, s6, s7, s8⟩
                                          go_simp
                                          with_reducible rfl
                                        rotate_left
                                        · simp only [Act.put, List.setIfInBounds_toArray, List.set_cons_zero, List.set_cons_succ, i64_w, i32_w]
                                          rfl
                                        refine pure_ (i := 14) (N := some 174) (v := ?_) (a' := ?_) #[true, true, true, true, true, true, true, true, true, true, true, true, true, true, true, false, true, false, true, false, false, false, false, false] rfl rfl (any_of HT_.out (by kernel_rfl)) (fun _ _ _ h => h) (Or.inl ⟨by rfl, ?_⟩) ?_ ?_
                                        rotate_left
                                        · intro w'
                                          go_simp
                                          with_reducible rfl
                                        rotate_left
                                        · simp only [Act.put, List.setIfInBounds_toArray, List.set_cons_zero, List.set_cons_succ, i64_w, i32_w]
                                          rfl
                                        refine take_ (i := 15) (N := some 175) (v := ?_) (a' := ?_) #[true, true, true, true, true, true, true, true, true, true, true, true, true, true, true, true, true, false, true, false, false, false, false, false] rfl rfl (take_ofW HT_.out HW_.out (by kernel_rfl)) (fun _ _ _ h => h) (Or.inl ⟨by rfl, ?_⟩) hHeld ?_ ?_
                                        rotate_left
                                        · rintro w' ⟨s0, s1, s2, s3, s4, s5, s6, s7, s8⟩
                                          go_simp
                                          with_reducible rfl
                                        rotate_left
                                        · simp only [Act.put, List.setIfInBounds_toArray, List.set_cons_zero, List.set_cons_succ, i64_w, i32_w]
                                          rfl
                                        refine take_ (i := 17) (N := some 177) (v := ?_) (a' := ?_) #[true, true, true, true, true, true, true, true, true, true, true, true, true, true, true, true, true, true, true, false, false, false, false, false] rfl rfl (take_ofW HT_.out HW_.out (by kernel_rfl)) (fun _ _ _ h => h) (Or.inl ⟨by rfl, ?_⟩) hHeld ?_ ?_
                                        rotate_left
                                        · rintro w' ⟨s0, s1, s2, s3, s4, s5, s6, s7, s8⟩
                                          go_simp
                                          with_reducible rfl
                                        rotate_left
                                        · simp only [Act.put, List.setIfInBounds_toArray, List.set_cons_zero, List.set_cons_succ, i64_w, i32_w]
                                          rfl
                                        refine pure_ (i := 19) (N := some 179) (v := ?_) (a' := ?_) #[true, true, true, true, true, true, true, true, true, true, true, true, true, true, true, true, true, true, true, true, false, false, false, false] rfl rfl (any_of HT_.out (by kernel_rfl)) (fun _ _ _ h => h) (Or.inl ⟨by rfl, ?_⟩) ?_ ?_
                                        rotate_left
                                        · intro w'
                                          go_simp
                                          with_reducible rfl
                                        rotate_left
                                        · simp only [Act.put, List.setIfInBounds_toArray, List.set_cons_zero, List.set_cons_succ, i64_w, i32_w]
                                          rfl
                                        refine take_ (i := 20) (N := some 180) (v := ?_) (a' := ?_) #[true, true, true, true, true, true, true, true, true, true, true, true, true, true, true, true, true, true, true, true, true, false, false, false] rfl rfl (take_ofW HT_.out HW_.out (by kernel_rfl)) (fun _ _ _ h => h) (Or.inl ⟨by rfl, ?_⟩) hHeld ?_ ?_
                                        rotate_left
                                        · rintro w' ⟨s0, s1, s2, s3, s4, s5, s6, s7, s8⟩
                                          go_simp
                                          with_reducible rfl
                                        rotate_left
                                        · simp only [Act.put, List.setIfInBounds_toArray, List.set_cons_zero, List.set_cons_succ, i64_w, i32_w]
                                          rfl
                                        refine one_ (i := 21) (N := some 181) #[true, true, true, true, true, true, true, true, true, true, true, true, true, true, true, true, true, true, true, true, true, true, false, false] rfl rfl (one_of HT_.out (by kernel_rfl)) (by decide) (fun K hK => ?_)
                                        refine goes_ Try.func14 (by kernel_rfl) rfl #[.complex .f32 (rdOf ((0, 0) : Nat × Nat) t178 x150_2).1 (rdOf ((0, 0) : Nat × Nat) t178 x150_2).2, .complex .f32 (rdOf ((0, 0) : Nat × Nat) t148 x150_2).1 (rdOf ((0, 0) : Nat × Nat) t148 x150_2).2] (by rfl) rfl rfl (by (try simp only [List.map_toArray, List.map_cons, List.map_nil]); first | done | rfl | (simp only [List.length_drop, List.length_take]; rfl)) ?_
                                        with_reducible refine (T0.laws_b10Apart.calls (rdOf ((0, 0) : Nat × Nat) t178 x150_2) (rdOf ((0, 0) : Nat × Nat) t148 x150_2) t196 _ A87.out).mono ?_
                                        rintro e w92 ⟨rfl, hb⟩
                                        have HS6_ := (hb.cell (World.block_lt_of_cell? _ _ (hHeld.2.2.2.2.2.2.1))).trans (hHeld.2.2.2.2.2.2.1)
                                        have HS7_ := (hb.cell (World.block_lt_of_cell? _ _ (hHeld.2.2.2.2.2.2.2.1))).trans (hHeld.2.2.2.2.2.2.2.1)
                                        have HS8_ := (hb.cell (World.block_lt_of_cell? _ _ (hHeld.2.2.2.2.2.2.2.2))).trans (hHeld.2.2.2.2.2.2.2.2)
                                        refine ⟨_, rfl, ?_⟩
                                        have n0_ := AS (Kd.R_below (by (with_reducible repeat (first | apply Kd.R_alloc | apply Kd.R_drewN | apply Kd.R_drew)); exact HO_13.out) hb)
                                        have n1_ := AS (Kd.R_below (by (with_reducible repeat (first | apply Kd.R_alloc | apply Kd.R_drewN | apply Kd.R_drew)); exact HO_157000.out) hb)
                                        have n2_ := AS (Kd.R_below (by (with_reducible repeat (first | apply Kd.R_alloc | apply Kd.R_drewN | apply Kd.R_drew)); exact HO_157001.out) hb)
                                        have n3_ := AS (Kd.R_below (by (with_reducible repeat (first | apply Kd.R_alloc | apply Kd.R_drewN | apply Kd.R_drew)); exact HO_174000.out) hb)
                                        have n4_ := AS (Kd.R_below (by (with_reducible repeat (first | apply Kd.R_alloc | apply Kd.R_drewN | apply Kd.R_drew)); exact HO_174001.out) hb)
                                        have n5_ := AS (Kd.R_below (by (with_reducible repeat (first | apply Kd.R_alloc | apply Kd.R_drewN | apply Kd.R_drew)); exact HO_187000.out) hb)
                                        have n6_ := AS (Kd.R_below (by (with_reducible repeat (first | apply Kd.R_alloc | apply Kd.R_drewN | apply Kd.R_drew)); exact HO_187001.out) hb)
                                        have n7_ := AS (blk_below (g := gb156) (o := .cells #[.slice (some ad195) t148.length co21, .slice Ao23 t151.length co23, .bool t154] 29 (0, 0)) (by (with_reducible repeat (first | apply blk_drewN | apply blk_drew | apply blk_alloc)); exact BK156.out) hb)
                                        have n8_ := AS (blk_below (g := gb173) (o := .cells #[.slice Ao32 t165.length co32, .slice Ao35 t168.length co35, .bool t171] 29 (0, 0)) (by (with_reducible repeat (first | apply blk_drewN | apply blk_drew | apply blk_alloc)); exact BK173.out) hb)
                                        have n9_ := AS (blk_below (g := gb186) (o := .cells #[.slice (some ad194) t178.length co42, .slice Ao46 t181.length co46, .bool t184] 29 (0, 0)) (by (with_reducible repeat (first | apply blk_drewN | apply blk_drew | apply blk_alloc)); exact BK186.out) hb)
                                        have n10_ := AS (below_step (by repeat (first | (with_reducible first | exact HB.out | apply below_alloc | apply pw_below_drewN | apply below_drew1 | refine below_set ?_ GE156.out | refine below_set ?_ GE173.out | refine below_set ?_ GE186.out) | exact HB.out)) hb)
                                        clear HO_13
                                        clear HO_157000
                                        clear HO_157001
                                        clear HO_174000
                                        clear HO_174001
                                        clear HO_187000
                                        clear HO_187001
                                        clear BK156
                                        clear BK173
                                        clear BK186
                                        clear HB
                                        have HO_13 := n0_
                                        have HO_157000 := n1_
                                        have HO_157001 := n2_
                                        have HO_174000 := n3_
                                        have HO_174001 := n4_
                                        have HO_187000 := n5_
                                        have HO_187001 := n6_
                                        have BK156 := n7_
                                        have BK173 := n8_
                                        have BK186 := n9_
                                        have HB := n10_
                                        clear n0_ n1_ n2_ n3_ n4_ n5_ n6_ n7_ n8_ n9_ n10_
                                        (try clear hb)
                                        (try clear hb2)
                                        (try clear hk)
                                        (try clear hi)
                                        refine hK.out _ _ ⟨(blk_cell BK186.out 0).trans rfl, (blk_cell BK186.out 1).trans rfl, (blk_cell BK186.out 2).trans rfl, (blk_cell BK156.out 0).trans rfl, (blk_cell BK156.out 1).trans rfl, (blk_cell BK156.out 2).trans rfl, HS6_, HS7_, HS8_⟩ (fun hHeld => ?_)
                                        clear hK K
                                        refine norm_ (a' := ?_) ?_ ?_
                                        rotate_left
                                        · show Act.put _ (some 181) _ = _
                                          simp only [Act.put, List.setIfInBounds_toArray, List.set_cons_zero, List.set_cons_succ, i64_w, i32_w]
                                          rfl
                                        refine pure_ (i := 22) (N := some 182) (v := ?_) (a' := ?_) #[true, true, true, true, true, true, true, true, true, true, true, true, true, true, true, true, true, true, true, true, true, true, true, false] rfl rfl (any_of HT_.out (by kernel_rfl)) (fun _ _ _ h => h) (Or.inl ⟨by rfl, ?_⟩) ?_ ?_
                                        rotate_left
                                        · intro w'
                                          go_simp
                                          with_reducible rfl
                                        rotate_left
                                        · simp only [Act.put, List.setIfInBounds_toArray, List.set_cons_zero, List.set_cons_succ, i64_w, i32_w]
                                          rfl
                                        refine pure_ (i := 23) (N := some 183) (v := ?_) (a' := ?_) #[true, true, true, true, true, true, true, true, true, true, true, true, true, true, true, true, true, true, true, true, true, true, true, true] rfl rfl (any_of HT_.out (by kernel_rfl)) (fun _ _ _ h => h) (Or.inl ⟨by rfl, ?_⟩) ?_ ?_
                                        rotate_left
                                        · intro w'
                                          go_simp
                                          with_reducible rfl
                                        rotate_left
                                        · simp only [Act.put, List.setIfInBounds_toArray, List.set_cons_zero, List.set_cons_succ, i64_w, i32_w]
                                          rfl
                                        refine done_ (done_of HT_.out (by kernel_rfl)) ?_
                                        try go_wp2
                                        go_roundg k2
                                        case measure => have := HJ17.out; have := HK2.out; omega
                                        case rel => exact ⟨(fop .add .f64 x23_2 (cvt .f32 (rdOf (0 : Nat) t161 x150_2) .f64)), (wrap64 (x150_2 + 1)), (by first | rfl | (simp; done) | (simp [*]; done)), (by first | rfl | (simp; done) | (simp [*]; done)), H', ⟨by have := HJ17.out; have := HK2.out; omega⟩, ⟨by (with_reducible repeat (first | apply Kd.R_alloc | apply Kd.R_drewN | apply Kd.R_drew)); exact HO_13.out⟩, ⟨by (with_reducible repeat (first | apply Kd.R_alloc | apply Kd.R_drewN | apply Kd.R_drew)); exact HO_157000.out⟩, ⟨by (with_reducible repeat (first | apply Kd.R_alloc | apply Kd.R_drewN | apply Kd.R_drew)); exact HO_157001.out⟩, ⟨by (with_reducible repeat (first | apply Kd.R_alloc | apply Kd.R_drewN | apply Kd.R_drew)); exact HO_174000.out⟩, ⟨by (with_reducible repeat (first | apply Kd.R_alloc | apply Kd.R_drewN | apply Kd.R_drew)); exact HO_174001.out⟩, ⟨by (with_reducible repeat (first | apply Kd.R_alloc | apply Kd.R_drewN | apply Kd.R_drew)); exact HO_187000.out⟩, ⟨by (with_reducible repeat (first | apply Kd.R_alloc | apply Kd.R_drewN | apply Kd.R_drew)); exact HO_187001.out⟩, ⟨by (with_reducible repeat (first | apply blk_drewN | apply blk_drew | apply blk_alloc)); exact BK156.out⟩, ⟨by (with_reducible repeat (first | apply blk_drewN | apply blk_drew | apply blk_alloc)); exact BK173.out⟩, ⟨by (with_reducible repeat (first | apply blk_drewN | apply blk_drew | apply blk_alloc)); exact BK186.out⟩, ⟨by repeat (first | (with_reducible first | exact HB.out | apply below_alloc | apply pw_below_drewN | apply below_drew1 | refine below_set ?_ GE156.out | refine below_set ?_ GE173.out | refine below_set ?_ GE186.out) | exact HB.out)⟩⟩
                                    · rw [if_neg c86] at H
                                      exact absurd H (by simp)
                                  · rw [if_neg c85] at H
                                    exact absurd H (by simp)
                              · rw [if_neg c81] at H
                                exact absurd H (by simp)
                            · rw [if_neg c79] at H
                              exact absurd H (by simp)
                          · rw [if_neg c78] at H
                            exact absurd H (by simp)
                        · rw [if_neg c77] at H
                          exact absurd H (by simp)
                      · rw [if_neg c76] at H
                        exact absurd H (by simp)
                    · rw [if_neg c75] at H
                      have c75b0 : decide (x150_2 < (t161.length : Int)) = false := decide_eq_false c75
                      clear c75
                      replace H := Option.bind_eq_some_iff.mp H
                      obtain ⟨t190, A930, H⟩ := H
                      replace H : (some (FloatKind.f64.format.order t190 4562254508917369340 == some .lt)) = some true := H
                      have A93 := AS A930
                      clear A930
                      have HT_ := AS (Option.some.inj H)
                      clear H
                      go_wp2_with (first | ((with_reducible refine gate_callee (f := 13) rfl ?_); refine goesL_ (some 186) rfl rfl Try.func13 (by kernel_rfl) rfl #[.float .f64 x23_2, .float .f64 4607182418800017408] rfl (by (try simp only [List.map_toArray, List.map_cons, List.map_nil]); first | done | rfl | (simp only [List.length_drop, List.length_take]; rfl)) ?_; (with_reducible refine (T0.laws_b10Gap.calls x23_2 4607182418800017408 t190 _ A93.out).mono ?_); rintro e w' ⟨rfl, ⟨nd, rfl⟩⟩; refine ⟨_, rfl, ?_⟩))
                      go_ret
                      exact ⟨by first | (refine Eq.trans ?_ (congrArg (fun b => Ending.returned (Value.bool b)) HT_.out); rfl) | (rw [HT_.out]) | (have h_ := HT_.out; simp at h_; simp [h_]; done) | (have h_ := HT_.out; simp at h_; subst h_; rfl) | (simp [HT_.out]; done) | rfl | (simp [errW_none, errW_some] <;> rfl) | (simp [*, errW_none, errW_some] <;> rfl), by repeat (first | (with_reducible first | exact HB.out | apply below_alloc | apply pw_below_drewN | apply below_drew1 | refine below_set ?_ GE156.out | refine below_set ?_ GE173.out | refine below_set ?_ GE186.out) | exact HB.out)⟩
        · rw [if_neg c11] at H
          exact absurd H (by simp)
      · rw [if_neg c10] at H
        exact absurd H (by simp)
    · rw [if_neg c7] at H
      exact absurd H (by simp)
end Go.Proofs.Ytijinnbcebhfhaa.T1
end
section
set_option linter.unusedVariables false
set_option linter.unusedSimpArgs false
namespace Go.Proofs.Ytijinnbcebhfhaa.T1
open Go.RowKit Go.Proofs.YtijinnbcebhfhaaW.PrintWords Go.Proofs.YtijinnbcebhfhaaW.PrintLast Go.Proofs.YtijinnbcebhfhaaW.PrintMore
open Go.Proofs.Ytijinnbcebhfhaa.T0
def rest (k : Nat) (t146 t147 : Int) : Option Bool := (if fok .quo .f32 (floatOfInt .f32 (wrap64 (1 + t147))) 1082130432 = true then ((T0.impl_RingSheet.f k (wrap64 (3 + t146)) (fop .quo .f32 (floatOfInt .f32 (wrap64 (1 + t147))) 1082130432) 1065353216).bind fun bt148 => ((T0.impl_AroundPoint.f k bt148.1 bt148.2.1 bt148.2.2.1 ((0, 0) : Nat × Nat)).bind fun bt157 => (if fok .mul .f32 1073741824 (fop .quo .f32 (floatOfInt .f32 (wrap64 (1 + t147))) 1082130432) = true then (if fok .add .f32 (fop .mul .f32 1073741824 (fop .quo .f32 (floatOfInt .f32 (wrap64 (1 + t147))) 1082130432)) 1065353216 = true then ((T0.impl_AroundPoint.f k bt148.1 bt148.2.1 bt148.2.2.1 ((fop .add .f32 (fop .mul .f32 1073741824 (fop .quo .f32 (floatOfInt .f32 (wrap64 (1 + t147))) 1082130432)) 1065353216, 1040187392) : Nat × Nat)).bind fun bt159 => ((T0.impl_BendsOf.f k bt148.1 bt148.2.1 bt148.2.2.1).bind fun bt161 => ((T0.impl_BackSheet.f k bt148.1 bt148.2.1 bt148.2.2.1).bind fun bt165 => ((T0.impl_AroundPoint.f k bt165.1 bt165.2.1 bt165.2.2.1 ((0, 0) : Nat × Nat)).bind fun bt174 => ((T0.impl_SheetArea.f k bt148.1 bt148.2.1 bt148.2.2.1).bind fun bt176 => ((impl_WaveSheet.f k bt148.1 bt148.2.1 bt148.2.2.1 1065353216 0).bind fun bt178 => (if bt148.2.2.2 = true then (if bt157.2 = true then (if bt159.2 = true then (if bt161.2 = true then (if bt165.2.2.2 = true then (if bt174.2 = true then (if bt176.2 = true then (if bt178.2.2.2 = true then (if cok .f32 bt157.1 .f64 = true then ((T0.laws_b10Gap.f (cvt .f32 bt157.1 .f64) 4607182418800017408).bind fun t187 => (if (FloatKind.f64.format.order t187 4562254508917369340 == some .gt) = true then (laws_FnTurned.j0 k (wrap64 (3 + t146)) bt161.1 true bt148.1 bt148.2.1 bt148.2.2.1 bt178.1 bt178.2.1 bt178.2.2.1) else (if cok .f32 bt159.1 .f64 = true then ((T0.laws_b10Gap.f (cvt .f32 bt159.1 .f64) 0).bind fun t188 => (if (FloatKind.f64.format.order t188 4562254508917369340 == some .gt) = true then (laws_FnTurned.j0 k (wrap64 (3 + t146)) bt161.1 true bt148.1 bt148.2.1 bt148.2.2.1 bt178.1 bt178.2.1 bt178.2.2.1) else (if cok .f32 bt174.1 .f64 = true then ((T0.laws_b10Gap.f (cvt .f32 bt174.1 .f64) 13830554455654793216).bind fun t189 => (if (FloatKind.f64.format.order t189 4562254508917369340 == some .gt) = true then (laws_FnTurned.j0 k (wrap64 (3 + t146)) bt161.1 true bt148.1 bt148.2.1 bt148.2.2.1 bt178.1 bt178.2.1 bt178.2.2.1) else (if (fle .f32 bt176.1 0) = true then (laws_FnTurned.j0 k (wrap64 (3 + t146)) bt161.1 true bt148.1 bt148.2.1 bt148.2.2.1 bt178.1 bt178.2.1 bt178.2.2.1) else (if (bt161.1.length : Int) = (wrap64 (3 + t146)) then (laws_FnTurned.j0 k (wrap64 (3 + t146)) bt161.1 ((bt178.1.length : Int) != (bt148.1.length : Int)) bt148.1 bt148.2.1 bt148.2.2.1 bt178.1 bt178.2.1 bt178.2.2.1) else (laws_FnTurned.j0 k (wrap64 (3 + t146)) bt161.1 true bt148.1 bt148.2.1 bt148.2.2.1 bt178.1 bt178.2.1 bt178.2.2.1))))) else (none)))) else (none)))) else (none)) else (laws_FnTurned.j0 k (wrap64 (3 + t146)) bt161.1 true bt148.1 bt148.2.1 bt148.2.2.1 bt178.1 bt178.2.1 bt178.2.2.1)) else (laws_FnTurned.j0 k (wrap64 (3 + t146)) bt161.1 true bt148.1 bt148.2.1 bt148.2.2.1 bt178.1 bt178.2.1 bt178.2.2.1)) else (laws_FnTurned.j0 k (wrap64 (3 + t146)) bt161.1 true bt148.1 bt148.2.1 bt148.2.2.1 bt178.1 bt178.2.1 bt178.2.2.1)) else (laws_FnTurned.j0 k (wrap64 (3 + t146)) bt161.1 true bt148.1 bt148.2.1 bt148.2.2.1 bt178.1 bt178.2.1 bt178.2.2.1)) else (laws_FnTurned.j0 k (wrap64 (3 + t146)) bt161.1 true bt148.1 bt148.2.1 bt148.2.2.1 bt178.1 bt178.2.1 bt178.2.2.1)) else (laws_FnTurned.j0 k (wrap64 (3 + t146)) bt161.1 true bt148.1 bt148.2.1 bt148.2.2.1 bt178.1 bt178.2.1 bt178.2.2.1)) else (laws_FnTurned.j0 k (wrap64 (3 + t146)) bt161.1 true bt148.1 bt148.2.1 bt148.2.2.1 bt178.1 bt178.2.1 bt178.2.2.1)) else (laws_FnTurned.j0 k (wrap64 (3 + t146)) bt161.1 true bt148.1 bt148.2.1 bt148.2.2.1 bt178.1 bt178.2.1 bt178.2.2.1)))))))) else (none)) else (none)))) else (none))
theorem of_ok {x : Option Bool} (h : (x == some true) = true) : x = some true := eq_of_beq h
theorem rd_byte (l : List Int) (h : ∀ x ∈ l, (Lit.int .u8 x).wf = true) (i : Nat) (hi : i < l.length) : 0 ≤ rd l (i : Int) ∧ rd l (i : Int) ≤ 255 := by
  have hx := h _ (List.getElem_mem hi)
  simp only [Lit.wf, IntKind.min, IntKind.max, IntKind.signed, IntKind.bits, Bool.and_eq_true, decide_eq_true_eq] at hx
  have e : rd l (i : Int) = l[i] := by
    unfold rd
    simp [hi]
  rw [e]
  simpa using hx
theorem at_ok (l : List Int) (h : ∀ x ∈ l, (Lit.int .u8 x).wf = true) (i : Nat) (n : Int) (h1 : 1 < n) (h2 : n ≤ 100) (hi : i ≤ 3) : ∃ t, 0 ≤ t ∧ t < n ∧ laws_b10At.f l (i : Int) n = some t := by
  unfold laws_b10At.f
  rw [if_neg (by omega)]
  by_cases hl : (i : Int) < (l.length : Int)
  · rw [if_pos hl, if_pos (by omega), if_neg (by omega)]
    obtain ⟨g0, g1⟩ := rd_byte l h i (by omega)
    refine ⟨_, ?_, ?_, rfl⟩
    · rw [show wrap64 (rd l (i : Int)) = rd l (i : Int) by unfold wrap64; omega]
      exact Int.tmod_nonneg _ g0
    · exact Int.tmod_lt_of_pos _ (by omega)
  · rw [if_neg hl, if_neg (by omega)]
    refine ⟨_, ?_, ?_, rfl⟩
    · rw [show wrap64 (wrap64 ((i : Int) * 37) + 11) = (i : Int) * 37 + 11 by unfold wrap64; omega]
      exact Int.tmod_nonneg _ (by omega)
    · exact Int.tmod_lt_of_pos _ (by omega)
end Go.Proofs.Ytijinnbcebhfhaa.T1
end
