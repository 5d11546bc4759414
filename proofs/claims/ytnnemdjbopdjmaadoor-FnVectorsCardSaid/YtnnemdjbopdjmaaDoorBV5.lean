/- Words, walks and plain laws that a claim of this seat needs, one text after the other (part 5). -/
import Derived.Test.YtnnemdjbopdjmaaDoorBV4
set_option linter.unusedVariables false
set_option linter.unusedSimpArgs false
section
namespace Go.Proofs.YtnnemdjbopdjmaaDoor.VA
open Go.RowKit Go.Proofs.YtnnemdjbopdjmaaDoorW.PrintWords Go.Proofs.YtnnemdjbopdjmaaDoorW.PrintLast Go.Proofs.YtnnemdjbopdjmaaDoorW.PrintMore
attribute [local go_sem] max2_int min2_int max_two min_two max_three min_three max_four min_four
set_option linter.unusedVariables false
set_option linter.unusedSimpArgs false
mutual
def laws_FnVectors.j0 : Nat → List Int → Bool → Nat → Nat → Nat → Nat → Nat → Nat → Option (Bool)
  | 0, _, _, _, _, _, _, _, _ => none
  | k + 1, x0, x82, x318000, x318001, x318002, x322000, x322001, x322002 => if x82 = true then (some false) else ((impl_BetweenVectors.f x318000 x318001 x318002 x322000 x322001 x322002 0).bind fun bt358 => ((laws_b10VEqual.f bt358.1 bt358.2.1 bt358.2.2 x318000 x318001 x318002).bind fun t361 => (if t361 = true then ((impl_BetweenVectors.f x318000 x318001 x318002 x322000 x322001 x322002 1065353216).bind fun bt362 => ((laws_b10VEqual.f bt362.1 bt362.2.1 bt362.2.2 x322000 x322001 x322002).bind fun t365 => (laws_FnVectors.j1 k x0 (!t365)))) else (laws_FnVectors.j1 k x0 true))))
def laws_FnVectors.j1 : Nat → List Int → Bool → Option (Bool)
  | 0, _, _ => none
  | k + 1, x0, x96 => if x96 = true then (some false) else ((spec_B10AnyVector.f x0).bind fun bt366 => ((impl_VectorText.f k bt366.1 bt366.2.1 bt366.2.2).bind fun t370 => ((impl_ReadVector.f k t370).bind fun bt371 => (if bt371.2.2.2 = true then ((impl_SameVector.f k bt371.1 bt371.2.1 bt371.2.2.1 bt366.1 bt366.2.1 bt366.2.2).bind fun t376 => (if t376 = true then (some ((t370.size : Int) == 26)) else (some false))) else (some false)))))
end
def laws_FnVectors.f (k : Nat) (l0 : List Int) (l1 : List Int) : Option (Bool) := (laws_b10Long.f l0 l1).bind fun t313 => (if t313 = true then (some true) else ((spec_B10Vector.f l0 50).bind fun bt314 => ((spec_B10Vector.f l1 50).bind fun bt318 => ((impl_CrossOf.f bt314.1 bt314.2.1 bt314.2.2 bt318.1 bt318.2.1 bt318.2.2).bind fun bt322 => ((impl_CrossOf.f bt318.1 bt318.2.1 bt318.2.2 bt314.1 bt314.2.1 bt314.2.2).bind fun bt326 => ((impl_LessVectors.f bt314.1 bt314.2.1 bt314.2.2 bt318.1 bt318.2.1 bt318.2.2).bind fun bt330 => ((impl_AddVectors.f bt318.1 bt318.2.1 bt318.2.2 bt330.1 bt330.2.1 bt330.2.2).bind fun bt333 => ((impl_ScaleVector.f bt314.1 bt314.2.1 bt314.2.2 1073741824).bind fun bt337 => ((laws_b10VEqual.f bt333.1 bt333.2.1 bt333.2.2 bt314.1 bt314.2.1 bt314.2.2).bind fun t341 => (if t341 = true then ((impl_InnerOf.f bt322.1 bt322.2.1 bt322.2.2 bt314.1 bt314.2.1 bt314.2.2).bind fun t342 => (if (FloatKind.f32.format.order t342 0 != some .eq) = true then (laws_FnVectors.j0 k l0 true bt314.1 bt314.2.1 bt314.2.2 bt318.1 bt318.2.1 bt318.2.2) else ((impl_InnerOf.f bt322.1 bt322.2.1 bt322.2.2 bt318.1 bt318.2.1 bt318.2.2).bind fun t343 => (if (FloatKind.f32.format.order t343 0 != some .eq) = true then (laws_FnVectors.j0 k l0 true bt314.1 bt314.2.1 bt314.2.2 bt318.1 bt318.2.1 bt318.2.2) else ((impl_ScaleVector.f bt326.1 bt326.2.1 bt326.2.2 3212836864).bind fun bt344 => ((laws_b10VEqual.f bt322.1 bt322.2.1 bt322.2.2 bt344.1 bt344.2.1 bt344.2.2).bind fun t347 => (if t347 = true then ((impl_AddVectors.f bt314.1 bt314.2.1 bt314.2.2 bt314.1 bt314.2.1 bt314.2.2).bind fun bt348 => ((laws_b10VEqual.f bt337.1 bt337.2.1 bt337.2.2 bt348.1 bt348.2.1 bt348.2.2).bind fun t351 => (if t351 = true then ((impl_InnerOf.f bt314.1 bt314.2.1 bt314.2.2 bt314.1 bt314.2.1 bt314.2.2).bind fun t352 => ((laws_b10Square.f bt314.1 bt314.2.1 bt314.2.2).bind fun t353 => (if (FloatKind.f32.format.order t352 t353 != some .eq) = true then (laws_FnVectors.j0 k l0 true bt314.1 bt314.2.1 bt314.2.2 bt318.1 bt318.2.1 bt318.2.2) else ((impl_SizeOfVector.f bt314.1 bt314.2.1 bt314.2.2).bind fun t354 => ((laws_b10Square.f bt314.1 bt314.2.1 bt314.2.2).bind fun t355 => ((spec_RootNumber.f t355).bind fun t356 => ((spec_SameNumber.f t354 t356).bind fun t357 => (laws_FnVectors.j0 k l0 (!t357) bt314.1 bt314.2.1 bt314.2.2 bt318.1 bt318.2.1 bt318.2.2)))))))) else (laws_FnVectors.j0 k l0 true bt314.1 bt314.2.1 bt314.2.2 bt318.1 bt318.2.1 bt318.2.2)))) else (laws_FnVectors.j0 k l0 true bt314.1 bt314.2.1 bt314.2.2 bt318.1 bt318.2.1 bt318.2.2)))))))) else (laws_FnVectors.j0 k l0 true bt314.1 bt314.2.1 bt314.2.2 bt318.1 bt318.2.1 bt318.2.2)))))))))))
theorem FnVectors_j0_no {a0 : Nat} {a1 : List Int} {a3 : Nat} {a4 : Nat} {a5 : Nat} {a6 : Nat} {a7 : Nat} {a8 : Nat} : laws_FnVectors.j0 a0 a1 true a3 a4 a5 a6 a7 a8 ≠ some true := by
  cases a0 <;> simp [laws_FnVectors.j0]
theorem FnVectors_j1_no {a0 : Nat} {a1 : List Int} : laws_FnVectors.j1 a0 a1 true ≠ some true := by
  cases a0 <;> simp [laws_FnVectors.j1]
def laws_FnVectors.T9 : Bool × List (List Nat × List Nat) := (true, [([], []), ([], []), ([0, 1], [0, 1]), ([2], [2]), ([3, 2], [3]), ([4], [4]), ([4], [4]), ([5, 6, 4, 4], [4, 5, 6]), ([7, 4], [4, 7]), ([4, 8], [4, 8]), ([9, 7], [9]), ([10], [10]), ([10], [10]), ([11, 12, 10, 10], [10, 11, 12]), ([13, 10], [10, 13]), ([10, 14], [10, 14]), ([15, 13], [15]), ([16], [16]), ([16], [16]), ([18, 16, 16], [16, 18]), ([17, 19, 19, 16], [16, 17, 19]), ([20, 16], [16, 20]), ([16, 21], [16, 21]), ([22, 20], [22]), ([23], [23]), ([23], [23]), ([23], [23]), ([25, 26, 23, 23], [23, 25, 26]), ([24, 27, 27, 23], [23, 24, 27]), ([28, 23], [23, 28]), ([23, 29], [23, 29]), ([30, 28], [30]), ([31], [31]), ([31], [31]), ([32, 33, 31, 31], [31, 32, 33]), ([31], [31]), ([35, 34, 31], [31, 35]), ([34, 36, 31], [31, 34, 36]), ([31, 37], [31, 37]), ([38, 36], [38]), ([39], [39]), ([40, 39, 39], [39, 40]), ([39], [39]), ([42, 41, 39], [39, 42]), ([43, 43, 39], [39, 43]), ([41, 44, 44, 39], [39, 41, 44]), ([45, 39], [39, 45]), ([39, 46], [39, 46])])
def laws_FnVectors.B9 : List Nat := [0, 0, 3, 7, 15, 31, 31, 127, 255, 511, 1023, 2047, 2047, 8191, 16383, 32767, 65535, 131071, 131071, 393215, 1048575, 2097151, 4194303, 8388607, 16777215, 16777215, 16777215, 117440511, 268435455, 536870911, 1073741823, 2147483647, 4294967295, 4294967295, 17179869183, 4294967295, 68719476735, 137438953471, 274877906943, 549755813887, 1099511627775, 2199023255551, 1099511627775, 8796093022207, 17592186044415, 35184372088831, 70368744177663, 140737488355327]
theorem laws_FnVectors.tab9 : rtab .any (opsOf Tryd.f3 9) = laws_FnVectors.T9 := by kernel_rfl
theorem laws_FnVectors.bits9 : waitsOk laws_FnVectors.T9.2 laws_FnVectors.B9 = true := by kernel_rfl
def laws_FnVectors.T11 : Bool × List (List Nat × List Nat) := (true, [([], []), ([], []), ([0, 1], [0, 1]), ([], []), ([2, 3, 2], [2, 3]), ([4], [4]), ([5, 4], [5]), ([6], [6]), ([6], [6]), ([7, 8, 6, 6], [6, 7, 8]), ([6], [6]), ([9, 10, 9, 6], [6, 9, 10]), ([11, 6], [6, 11]), ([6, 12], [6, 12])])
def laws_FnVectors.B11 : List Nat := [0, 0, 3, 0, 15, 31, 63, 127, 127, 511, 127, 2047, 4095, 8191]
theorem laws_FnVectors.tab11 : rtab .any (opsOf Tryd.f3 11) = laws_FnVectors.T11 := by kernel_rfl
theorem laws_FnVectors.bits11 : waitsOk laws_FnVectors.T11.2 laws_FnVectors.B11 = true := by kernel_rfl
theorem AS {p : Prop} (h : p) : Aside0 p := ⟨h⟩
set_option maxHeartbeats 8000000 in
set_option maxRecDepth 100000 in
theorem laws_FnVectors.calls (k : Nat) (A0 : Option Addr) (c0 : Nat) (l0 : List Int) (A1 : Option Addr) (c1 : Nat) (l1 : List Int) (w : World) (hr0 : Kd.C (Kd.int .u8) w A0 l0.length l0) (hc0 : l0.length ≤ c0) (hr1 : Kd.C (Kd.int .u8) w A1 l1.length l1) (hc1 : l1.length ≤ c1) (h : laws_FnVectors.f k l0 l1 = some true) (gl : GL w := by first | exact (‹Aside0 (GL _)›).out | exact GL.of_below (‹Aside0 (GL _)›).out (by repeat (first | (with_reducible first | exact (‹Aside0 (Below _ _ _)›).out | apply below_alloc | apply pw_below_drewN | apply below_drew1 | refine below_set ?_ (Aside0.out (by assumption)) | exact Below.refl _ _) | exact (‹Aside0 (Below _ _ _)›).out))) :
    Calls Tryd.prog 3 #[.slice A0 l0.length c0, .slice A1 l1.length c1] w fun e w' => e = .returned (.bool true) ∧ Below w.heap.size w w' := by
  have HG_ := AS gl
  clear gl
  have hu26 := Tryd.underlying26
  have HR0 := AS hr0
  have HC0 := AS hc0
  clear hr0 hc0
  have HR1 := AS hr1
  have HC1 := AS hc1
  clear hr1 hc1
  have HB := AS (Below.refl w.heap.size w)
  have H : ((laws_b10Long.f l0 l1).bind fun t313 => (if t313 = true then (some true) else ((spec_B10Vector.f l0 50).bind fun bt314 => ((spec_B10Vector.f l1 50).bind fun bt318 => ((impl_CrossOf.f bt314.1 bt314.2.1 bt314.2.2 bt318.1 bt318.2.1 bt318.2.2).bind fun bt322 => ((impl_CrossOf.f bt318.1 bt318.2.1 bt318.2.2 bt314.1 bt314.2.1 bt314.2.2).bind fun bt326 => ((impl_LessVectors.f bt314.1 bt314.2.1 bt314.2.2 bt318.1 bt318.2.1 bt318.2.2).bind fun bt330 => ((impl_AddVectors.f bt318.1 bt318.2.1 bt318.2.2 bt330.1 bt330.2.1 bt330.2.2).bind fun bt333 => ((impl_ScaleVector.f bt314.1 bt314.2.1 bt314.2.2 1073741824).bind fun bt337 => ((laws_b10VEqual.f bt333.1 bt333.2.1 bt333.2.2 bt314.1 bt314.2.1 bt314.2.2).bind fun t341 => (if t341 = true then ((impl_InnerOf.f bt322.1 bt322.2.1 bt322.2.2 bt314.1 bt314.2.1 bt314.2.2).bind fun t342 => (if (FloatKind.f32.format.order t342 0 != some .eq) = true then (laws_FnVectors.j0 k l0 true bt314.1 bt314.2.1 bt314.2.2 bt318.1 bt318.2.1 bt318.2.2) else ((impl_InnerOf.f bt322.1 bt322.2.1 bt322.2.2 bt318.1 bt318.2.1 bt318.2.2).bind fun t343 => (if (FloatKind.f32.format.order t343 0 != some .eq) = true then (laws_FnVectors.j0 k l0 true bt314.1 bt314.2.1 bt314.2.2 bt318.1 bt318.2.1 bt318.2.2) else ((impl_ScaleVector.f bt326.1 bt326.2.1 bt326.2.2 3212836864).bind fun bt344 => ((laws_b10VEqual.f bt322.1 bt322.2.1 bt322.2.2 bt344.1 bt344.2.1 bt344.2.2).bind fun t347 => (if t347 = true then ((impl_AddVectors.f bt314.1 bt314.2.1 bt314.2.2 bt314.1 bt314.2.1 bt314.2.2).bind fun bt348 => ((laws_b10VEqual.f bt337.1 bt337.2.1 bt337.2.2 bt348.1 bt348.2.1 bt348.2.2).bind fun t351 => (if t351 = true then ((impl_InnerOf.f bt314.1 bt314.2.1 bt314.2.2 bt314.1 bt314.2.1 bt314.2.2).bind fun t352 => ((laws_b10Square.f bt314.1 bt314.2.1 bt314.2.2).bind fun t353 => (if (FloatKind.f32.format.order t352 t353 != some .eq) = true then (laws_FnVectors.j0 k l0 true bt314.1 bt314.2.1 bt314.2.2 bt318.1 bt318.2.1 bt318.2.2) else ((impl_SizeOfVector.f bt314.1 bt314.2.1 bt314.2.2).bind fun t354 => ((laws_b10Square.f bt314.1 bt314.2.1 bt314.2.2).bind fun t355 => ((spec_RootNumber.f t355).bind fun t356 => ((spec_SameNumber.f t354 t356).bind fun t357 => (laws_FnVectors.j0 k l0 (!t357) bt314.1 bt314.2.1 bt314.2.2 bt318.1 bt318.2.1 bt318.2.2)))))))) else (laws_FnVectors.j0 k l0 true bt314.1 bt314.2.1 bt314.2.2 bt318.1 bt318.2.1 bt318.2.2)))) else (laws_FnVectors.j0 k l0 true bt314.1 bt314.2.1 bt314.2.2 bt318.1 bt318.2.1 bt318.2.2)))))))) else (laws_FnVectors.j0 k l0 true bt314.1 bt314.2.1 bt314.2.2 bt318.1 bt318.2.1 bt318.2.2)))))))))))) = some true := h
  clear h
  replace H := Option.bind_eq_some_iff.mp H
  obtain ⟨t313, A30, H⟩ := H
  replace H : (if t313 = true then (some true) else ((spec_B10Vector.f l0 50).bind fun bt314 => ((spec_B10Vector.f l1 50).bind fun bt318 => ((impl_CrossOf.f bt314.1 bt314.2.1 bt314.2.2 bt318.1 bt318.2.1 bt318.2.2).bind fun bt322 => ((impl_CrossOf.f bt318.1 bt318.2.1 bt318.2.2 bt314.1 bt314.2.1 bt314.2.2).bind fun bt326 => ((impl_LessVectors.f bt314.1 bt314.2.1 bt314.2.2 bt318.1 bt318.2.1 bt318.2.2).bind fun bt330 => ((impl_AddVectors.f bt318.1 bt318.2.1 bt318.2.2 bt330.1 bt330.2.1 bt330.2.2).bind fun bt333 => ((impl_ScaleVector.f bt314.1 bt314.2.1 bt314.2.2 1073741824).bind fun bt337 => ((laws_b10VEqual.f bt333.1 bt333.2.1 bt333.2.2 bt314.1 bt314.2.1 bt314.2.2).bind fun t341 => (if t341 = true then ((impl_InnerOf.f bt322.1 bt322.2.1 bt322.2.2 bt314.1 bt314.2.1 bt314.2.2).bind fun t342 => (if (FloatKind.f32.format.order t342 0 != some .eq) = true then (laws_FnVectors.j0 k l0 true bt314.1 bt314.2.1 bt314.2.2 bt318.1 bt318.2.1 bt318.2.2) else ((impl_InnerOf.f bt322.1 bt322.2.1 bt322.2.2 bt318.1 bt318.2.1 bt318.2.2).bind fun t343 => (if (FloatKind.f32.format.order t343 0 != some .eq) = true then (laws_FnVectors.j0 k l0 true bt314.1 bt314.2.1 bt314.2.2 bt318.1 bt318.2.1 bt318.2.2) else ((impl_ScaleVector.f bt326.1 bt326.2.1 bt326.2.2 3212836864).bind fun bt344 => ((laws_b10VEqual.f bt322.1 bt322.2.1 bt322.2.2 bt344.1 bt344.2.1 bt344.2.2).bind fun t347 => (if t347 = true then ((impl_AddVectors.f bt314.1 bt314.2.1 bt314.2.2 bt314.1 bt314.2.1 bt314.2.2).bind fun bt348 => ((laws_b10VEqual.f bt337.1 bt337.2.1 bt337.2.2 bt348.1 bt348.2.1 bt348.2.2).bind fun t351 => (if t351 = true then ((impl_InnerOf.f bt314.1 bt314.2.1 bt314.2.2 bt314.1 bt314.2.1 bt314.2.2).bind fun t352 => ((laws_b10Square.f bt314.1 bt314.2.1 bt314.2.2).bind fun t353 => (if (FloatKind.f32.format.order t352 t353 != some .eq) = true then (laws_FnVectors.j0 k l0 true bt314.1 bt314.2.1 bt314.2.2 bt318.1 bt318.2.1 bt318.2.2) else ((impl_SizeOfVector.f bt314.1 bt314.2.1 bt314.2.2).bind fun t354 => ((laws_b10Square.f bt314.1 bt314.2.1 bt314.2.2).bind fun t355 => ((spec_RootNumber.f t355).bind fun t356 => ((spec_SameNumber.f t354 t356).bind fun t357 => (laws_FnVectors.j0 k l0 (!t357) bt314.1 bt314.2.1 bt314.2.2 bt318.1 bt318.2.1 bt318.2.2)))))))) else (laws_FnVectors.j0 k l0 true bt314.1 bt314.2.1 bt314.2.2 bt318.1 bt318.2.1 bt318.2.2)))) else (laws_FnVectors.j0 k l0 true bt314.1 bt314.2.1 bt314.2.2 bt318.1 bt318.2.1 bt318.2.2)))))))) else (laws_FnVectors.j0 k l0 true bt314.1 bt314.2.1 bt314.2.2 bt318.1 bt318.2.1 bt318.2.2))))))))))) = some true := H
  have A3 := AS A30
  clear A30
  by_cases c4 : t313 = true
  · subst c4
    have H1 : (some true) = some true := rfl
    clear H
    have H := H1
    clear H1
    clear H
    go_enter Tryd.func3, Tryd.ntmps3
    go_wp2_with (first | ((with_reducible refine gate_callee (f := 6) rfl ?_); refine goesL_ (some 17) rfl rfl Tryd.func6 (by kernel_rfl) rfl #[.slice A0 l0.length c0, .slice A1 l1.length c1] rfl (by (try simp only [List.map_toArray, List.map_cons, List.map_nil]); first | done | rfl | (simp only [List.length_drop, List.length_take]; rfl)) ?_; (with_reducible refine (laws_b10Long.calls _ _ l0 _ _ l1 true _ ?side1 ?side2 ?side3 ?side4 A3.out).mono ?_); (case side1 => repeat (first | exact HR0.out | (with_reducible refine Kd.C_alloc ?_ _) | (with_reducible refine Kd.C_drewN ?_ _) | (with_reducible refine Kd.C_drew ?_))); (case side2 => exact HC0.out); (case side3 => repeat (first | exact HR1.out | (with_reducible refine Kd.C_alloc ?_ _) | (with_reducible refine Kd.C_drewN ?_ _) | (with_reducible refine Kd.C_drew ?_))); (case side4 => exact HC1.out); rintro e w' ⟨rfl, ⟨nd, rfl⟩⟩; refine ⟨_, rfl, ?_⟩))
    go_ret
    exact ⟨by first | rfl | (simp [errW_none, errW_some] <;> rfl) | (simp [*, errW_none, errW_some] <;> rfl), by repeat (first | (with_reducible first | exact HB.out | apply below_alloc | apply pw_below_drewN | apply below_drew1) | exact HB.out)⟩
  · replace c4 := Bool.eq_false_iff.mpr c4
    subst c4
    have H1 : ((spec_B10Vector.f l0 50).bind fun bt314 => ((spec_B10Vector.f l1 50).bind fun bt318 => ((impl_CrossOf.f bt314.1 bt314.2.1 bt314.2.2 bt318.1 bt318.2.1 bt318.2.2).bind fun bt322 => ((impl_CrossOf.f bt318.1 bt318.2.1 bt318.2.2 bt314.1 bt314.2.1 bt314.2.2).bind fun bt326 => ((impl_LessVectors.f bt314.1 bt314.2.1 bt314.2.2 bt318.1 bt318.2.1 bt318.2.2).bind fun bt330 => ((impl_AddVectors.f bt318.1 bt318.2.1 bt318.2.2 bt330.1 bt330.2.1 bt330.2.2).bind fun bt333 => ((impl_ScaleVector.f bt314.1 bt314.2.1 bt314.2.2 1073741824).bind fun bt337 => ((laws_b10VEqual.f bt333.1 bt333.2.1 bt333.2.2 bt314.1 bt314.2.1 bt314.2.2).bind fun t341 => (if t341 = true then ((impl_InnerOf.f bt322.1 bt322.2.1 bt322.2.2 bt314.1 bt314.2.1 bt314.2.2).bind fun t342 => (if (FloatKind.f32.format.order t342 0 != some .eq) = true then (laws_FnVectors.j0 k l0 true bt314.1 bt314.2.1 bt314.2.2 bt318.1 bt318.2.1 bt318.2.2) else ((impl_InnerOf.f bt322.1 bt322.2.1 bt322.2.2 bt318.1 bt318.2.1 bt318.2.2).bind fun t343 => (if (FloatKind.f32.format.order t343 0 != some .eq) = true then (laws_FnVectors.j0 k l0 true bt314.1 bt314.2.1 bt314.2.2 bt318.1 bt318.2.1 bt318.2.2) else ((impl_ScaleVector.f bt326.1 bt326.2.1 bt326.2.2 3212836864).bind fun bt344 => ((laws_b10VEqual.f bt322.1 bt322.2.1 bt322.2.2 bt344.1 bt344.2.1 bt344.2.2).bind fun t347 => (if t347 = true then ((impl_AddVectors.f bt314.1 bt314.2.1 bt314.2.2 bt314.1 bt314.2.1 bt314.2.2).bind fun bt348 => ((laws_b10VEqual.f bt337.1 bt337.2.1 bt337.2.2 bt348.1 bt348.2.1 bt348.2.2).bind fun t351 => (if t351 = true then ((impl_InnerOf.f bt314.1 bt314.2.1 bt314.2.2 bt314.1 bt314.2.1 bt314.2.2).bind fun t352 => ((laws_b10Square.f bt314.1 bt314.2.1 bt314.2.2).bind fun t353 => (if (FloatKind.f32.format.order t352 t353 != some .eq) = true then (laws_FnVectors.j0 k l0 true bt314.1 bt314.2.1 bt314.2.2 bt318.1 bt318.2.1 bt318.2.2) else ((impl_SizeOfVector.f bt314.1 bt314.2.1 bt314.2.2).bind fun t354 => ((laws_b10Square.f bt314.1 bt314.2.1 bt314.2.2).bind fun t355 => ((spec_RootNumber.f t355).bind fun t356 => ((spec_SameNumber.f t354 t356).bind fun t357 => (laws_FnVectors.j0 k l0 (!t357) bt314.1 bt314.2.1 bt314.2.2 bt318.1 bt318.2.1 bt318.2.2)))))))) else (laws_FnVectors.j0 k l0 true bt314.1 bt314.2.1 bt314.2.2 bt318.1 bt318.2.1 bt318.2.2)))) else (laws_FnVectors.j0 k l0 true bt314.1 bt314.2.1 bt314.2.2 bt318.1 bt318.2.1 bt318.2.2)))))))) else (laws_FnVectors.j0 k l0 true bt314.1 bt314.2.1 bt314.2.2 bt318.1 bt318.2.1 bt318.2.2)))))))))) = some true := by rw [if_neg (show ¬ (false = true) by decide)] at H; exact H
    clear H
    have H := H1
    clear H1
    replace H := Option.bind_eq_some_iff.mp H
    obtain ⟨⟨t314, t315, t316⟩, A50, H⟩ := H
    replace H : ((spec_B10Vector.f l1 50).bind fun bt318 => ((impl_CrossOf.f t314 t315 t316 bt318.1 bt318.2.1 bt318.2.2).bind fun bt322 => ((impl_CrossOf.f bt318.1 bt318.2.1 bt318.2.2 t314 t315 t316).bind fun bt326 => ((impl_LessVectors.f t314 t315 t316 bt318.1 bt318.2.1 bt318.2.2).bind fun bt330 => ((impl_AddVectors.f bt318.1 bt318.2.1 bt318.2.2 bt330.1 bt330.2.1 bt330.2.2).bind fun bt333 => ((impl_ScaleVector.f t314 t315 t316 1073741824).bind fun bt337 => ((laws_b10VEqual.f bt333.1 bt333.2.1 bt333.2.2 t314 t315 t316).bind fun t341 => (if t341 = true then ((impl_InnerOf.f bt322.1 bt322.2.1 bt322.2.2 t314 t315 t316).bind fun t342 => (if (FloatKind.f32.format.order t342 0 != some .eq) = true then (laws_FnVectors.j0 k l0 true t314 t315 t316 bt318.1 bt318.2.1 bt318.2.2) else ((impl_InnerOf.f bt322.1 bt322.2.1 bt322.2.2 bt318.1 bt318.2.1 bt318.2.2).bind fun t343 => (if (FloatKind.f32.format.order t343 0 != some .eq) = true then (laws_FnVectors.j0 k l0 true t314 t315 t316 bt318.1 bt318.2.1 bt318.2.2) else ((impl_ScaleVector.f bt326.1 bt326.2.1 bt326.2.2 3212836864).bind fun bt344 => ((laws_b10VEqual.f bt322.1 bt322.2.1 bt322.2.2 bt344.1 bt344.2.1 bt344.2.2).bind fun t347 => (if t347 = true then ((impl_AddVectors.f t314 t315 t316 t314 t315 t316).bind fun bt348 => ((laws_b10VEqual.f bt337.1 bt337.2.1 bt337.2.2 bt348.1 bt348.2.1 bt348.2.2).bind fun t351 => (if t351 = true then ((impl_InnerOf.f t314 t315 t316 t314 t315 t316).bind fun t352 => ((laws_b10Square.f t314 t315 t316).bind fun t353 => (if (FloatKind.f32.format.order t352 t353 != some .eq) = true then (laws_FnVectors.j0 k l0 true t314 t315 t316 bt318.1 bt318.2.1 bt318.2.2) else ((impl_SizeOfVector.f t314 t315 t316).bind fun t354 => ((laws_b10Square.f t314 t315 t316).bind fun t355 => ((spec_RootNumber.f t355).bind fun t356 => ((spec_SameNumber.f t354 t356).bind fun t357 => (laws_FnVectors.j0 k l0 (!t357) t314 t315 t316 bt318.1 bt318.2.1 bt318.2.2)))))))) else (laws_FnVectors.j0 k l0 true t314 t315 t316 bt318.1 bt318.2.1 bt318.2.2)))) else (laws_FnVectors.j0 k l0 true t314 t315 t316 bt318.1 bt318.2.1 bt318.2.2)))))))) else (laws_FnVectors.j0 k l0 true t314 t315 t316 bt318.1 bt318.2.1 bt318.2.2))))))))) = some true := H
    have A5 := AS A50
    clear A50
    replace H := Option.bind_eq_some_iff.mp H
    obtain ⟨⟨t318, t319, t320⟩, A60, H⟩ := H
    replace H : ((impl_CrossOf.f t314 t315 t316 t318 t319 t320).bind fun bt322 => ((impl_CrossOf.f t318 t319 t320 t314 t315 t316).bind fun bt326 => ((impl_LessVectors.f t314 t315 t316 t318 t319 t320).bind fun bt330 => ((impl_AddVectors.f t318 t319 t320 bt330.1 bt330.2.1 bt330.2.2).bind fun bt333 => ((impl_ScaleVector.f t314 t315 t316 1073741824).bind fun bt337 => ((laws_b10VEqual.f bt333.1 bt333.2.1 bt333.2.2 t314 t315 t316).bind fun t341 => (if t341 = true then ((impl_InnerOf.f bt322.1 bt322.2.1 bt322.2.2 t314 t315 t316).bind fun t342 => (if (FloatKind.f32.format.order t342 0 != some .eq) = true then (laws_FnVectors.j0 k l0 true t314 t315 t316 t318 t319 t320) else ((impl_InnerOf.f bt322.1 bt322.2.1 bt322.2.2 t318 t319 t320).bind fun t343 => (if (FloatKind.f32.format.order t343 0 != some .eq) = true then (laws_FnVectors.j0 k l0 true t314 t315 t316 t318 t319 t320) else ((impl_ScaleVector.f bt326.1 bt326.2.1 bt326.2.2 3212836864).bind fun bt344 => ((laws_b10VEqual.f bt322.1 bt322.2.1 bt322.2.2 bt344.1 bt344.2.1 bt344.2.2).bind fun t347 => (if t347 = true then ((impl_AddVectors.f t314 t315 t316 t314 t315 t316).bind fun bt348 => ((laws_b10VEqual.f bt337.1 bt337.2.1 bt337.2.2 bt348.1 bt348.2.1 bt348.2.2).bind fun t351 => (if t351 = true then ((impl_InnerOf.f t314 t315 t316 t314 t315 t316).bind fun t352 => ((laws_b10Square.f t314 t315 t316).bind fun t353 => (if (FloatKind.f32.format.order t352 t353 != some .eq) = true then (laws_FnVectors.j0 k l0 true t314 t315 t316 t318 t319 t320) else ((impl_SizeOfVector.f t314 t315 t316).bind fun t354 => ((laws_b10Square.f t314 t315 t316).bind fun t355 => ((spec_RootNumber.f t355).bind fun t356 => ((spec_SameNumber.f t354 t356).bind fun t357 => (laws_FnVectors.j0 k l0 (!t357) t314 t315 t316 t318 t319 t320)))))))) else (laws_FnVectors.j0 k l0 true t314 t315 t316 t318 t319 t320)))) else (laws_FnVectors.j0 k l0 true t314 t315 t316 t318 t319 t320)))))))) else (laws_FnVectors.j0 k l0 true t314 t315 t316 t318 t319 t320)))))))) = some true := H
    have A6 := AS A60
    clear A60
    replace H := Option.bind_eq_some_iff.mp H
    obtain ⟨⟨t322, t323, t324⟩, A70, H⟩ := H
    replace H : ((impl_CrossOf.f t318 t319 t320 t314 t315 t316).bind fun bt326 => ((impl_LessVectors.f t314 t315 t316 t318 t319 t320).bind fun bt330 => ((impl_AddVectors.f t318 t319 t320 bt330.1 bt330.2.1 bt330.2.2).bind fun bt333 => ((impl_ScaleVector.f t314 t315 t316 1073741824).bind fun bt337 => ((laws_b10VEqual.f bt333.1 bt333.2.1 bt333.2.2 t314 t315 t316).bind fun t341 => (if t341 = true then ((impl_InnerOf.f t322 t323 t324 t314 t315 t316).bind fun t342 => (if (FloatKind.f32.format.order t342 0 != some .eq) = true then (laws_FnVectors.j0 k l0 true t314 t315 t316 t318 t319 t320) else ((impl_InnerOf.f t322 t323 t324 t318 t319 t320).bind fun t343 => (if (FloatKind.f32.format.order t343 0 != some .eq) = true then (laws_FnVectors.j0 k l0 true t314 t315 t316 t318 t319 t320) else ((impl_ScaleVector.f bt326.1 bt326.2.1 bt326.2.2 3212836864).bind fun bt344 => ((laws_b10VEqual.f t322 t323 t324 bt344.1 bt344.2.1 bt344.2.2).bind fun t347 => (if t347 = true then ((impl_AddVectors.f t314 t315 t316 t314 t315 t316).bind fun bt348 => ((laws_b10VEqual.f bt337.1 bt337.2.1 bt337.2.2 bt348.1 bt348.2.1 bt348.2.2).bind fun t351 => (if t351 = true then ((impl_InnerOf.f t314 t315 t316 t314 t315 t316).bind fun t352 => ((laws_b10Square.f t314 t315 t316).bind fun t353 => (if (FloatKind.f32.format.order t352 t353 != some .eq) = true then (laws_FnVectors.j0 k l0 true t314 t315 t316 t318 t319 t320) else ((impl_SizeOfVector.f t314 t315 t316).bind fun t354 => ((laws_b10Square.f t314 t315 t316).bind fun t355 => ((spec_RootNumber.f t355).bind fun t356 => ((spec_SameNumber.f t354 t356).bind fun t357 => (laws_FnVectors.j0 k l0 (!t357) t314 t315 t316 t318 t319 t320)))))))) else (laws_FnVectors.j0 k l0 true t314 t315 t316 t318 t319 t320)))) else (laws_FnVectors.j0 k l0 true t314 t315 t316 t318 t319 t320)))))))) else (laws_FnVectors.j0 k l0 true t314 t315 t316 t318 t319 t320))))))) = some true := H
    have A7 := AS A70
    clear A70
    replace H := Option.bind_eq_some_iff.mp H
    obtain ⟨⟨t326, t327, t328⟩, A80, H⟩ := H
    replace H : ((impl_LessVectors.f t314 t315 t316 t318 t319 t320).bind fun bt330 => ((impl_AddVectors.f t318 t319 t320 bt330.1 bt330.2.1 bt330.2.2).bind fun bt333 => ((impl_ScaleVector.f t314 t315 t316 1073741824).bind fun bt337 => ((laws_b10VEqual.f bt333.1 bt333.2.1 bt333.2.2 t314 t315 t316).bind fun t341 => (if t341 = true then ((impl_InnerOf.f t322 t323 t324 t314 t315 t316).bind fun t342 => (if (FloatKind.f32.format.order t342 0 != some .eq) = true then (laws_FnVectors.j0 k l0 true t314 t315 t316 t318 t319 t320) else ((impl_InnerOf.f t322 t323 t324 t318 t319 t320).bind fun t343 => (if (FloatKind.f32.format.order t343 0 != some .eq) = true then (laws_FnVectors.j0 k l0 true t314 t315 t316 t318 t319 t320) else ((impl_ScaleVector.f t326 t327 t328 3212836864).bind fun bt344 => ((laws_b10VEqual.f t322 t323 t324 bt344.1 bt344.2.1 bt344.2.2).bind fun t347 => (if t347 = true then ((impl_AddVectors.f t314 t315 t316 t314 t315 t316).bind fun bt348 => ((laws_b10VEqual.f bt337.1 bt337.2.1 bt337.2.2 bt348.1 bt348.2.1 bt348.2.2).bind fun t351 => (if t351 = true then ((impl_InnerOf.f t314 t315 t316 t314 t315 t316).bind fun t352 => ((laws_b10Square.f t314 t315 t316).bind fun t353 => (if (FloatKind.f32.format.order t352 t353 != some .eq) = true then (laws_FnVectors.j0 k l0 true t314 t315 t316 t318 t319 t320) else ((impl_SizeOfVector.f t314 t315 t316).bind fun t354 => ((laws_b10Square.f t314 t315 t316).bind fun t355 => ((spec_RootNumber.f t355).bind fun t356 => ((spec_SameNumber.f t354 t356).bind fun t357 => (laws_FnVectors.j0 k l0 (!t357) t314 t315 t316 t318 t319 t320)))))))) else (laws_FnVectors.j0 k l0 true t314 t315 t316 t318 t319 t320)))) else (laws_FnVectors.j0 k l0 true t314 t315 t316 t318 t319 t320)))))))) else (laws_FnVectors.j0 k l0 true t314 t315 t316 t318 t319 t320)))))) = some true := H
    have A8 := AS A80
    clear A80
    replace H := Option.bind_eq_some_iff.mp H
    obtain ⟨⟨t330, t331, t332⟩, A90, H⟩ := H
    replace H : ((impl_AddVectors.f t318 t319 t320 t330 t331 t332).bind fun bt333 => ((impl_ScaleVector.f t314 t315 t316 1073741824).bind fun bt337 => ((laws_b10VEqual.f bt333.1 bt333.2.1 bt333.2.2 t314 t315 t316).bind fun t341 => (if t341 = true then ((impl_InnerOf.f t322 t323 t324 t314 t315 t316).bind fun t342 => (if (FloatKind.f32.format.order t342 0 != some .eq) = true then (laws_FnVectors.j0 k l0 true t314 t315 t316 t318 t319 t320) else ((impl_InnerOf.f t322 t323 t324 t318 t319 t320).bind fun t343 => (if (FloatKind.f32.format.order t343 0 != some .eq) = true then (laws_FnVectors.j0 k l0 true t314 t315 t316 t318 t319 t320) else ((impl_ScaleVector.f t326 t327 t328 3212836864).bind fun bt344 => ((laws_b10VEqual.f t322 t323 t324 bt344.1 bt344.2.1 bt344.2.2).bind fun t347 => (if t347 = true then ((impl_AddVectors.f t314 t315 t316 t314 t315 t316).bind fun bt348 => ((laws_b10VEqual.f bt337.1 bt337.2.1 bt337.2.2 bt348.1 bt348.2.1 bt348.2.2).bind fun t351 => (if t351 = true then ((impl_InnerOf.f t314 t315 t316 t314 t315 t316).bind fun t352 => ((laws_b10Square.f t314 t315 t316).bind fun t353 => (if (FloatKind.f32.format.order t352 t353 != some .eq) = true then (laws_FnVectors.j0 k l0 true t314 t315 t316 t318 t319 t320) else ((impl_SizeOfVector.f t314 t315 t316).bind fun t354 => ((laws_b10Square.f t314 t315 t316).bind fun t355 => ((spec_RootNumber.f t355).bind fun t356 => ((spec_SameNumber.f t354 t356).bind fun t357 => (laws_FnVectors.j0 k l0 (!t357) t314 t315 t316 t318 t319 t320)))))))) else (laws_FnVectors.j0 k l0 true t314 t315 t316 t318 t319 t320)))) else (laws_FnVectors.j0 k l0 true t314 t315 t316 t318 t319 t320)))))))) else (laws_FnVectors.j0 k l0 true t314 t315 t316 t318 t319 t320))))) = some true := H
    have A9 := AS A90
    clear A90
    replace H := Option.bind_eq_some_iff.mp H
    obtain ⟨⟨t333, t334, t335⟩, A100, H⟩ := H
    replace H : ((impl_ScaleVector.f t314 t315 t316 1073741824).bind fun bt337 => ((laws_b10VEqual.f t333 t334 t335 t314 t315 t316).bind fun t341 => (if t341 = true then ((impl_InnerOf.f t322 t323 t324 t314 t315 t316).bind fun t342 => (if (FloatKind.f32.format.order t342 0 != some .eq) = true then (laws_FnVectors.j0 k l0 true t314 t315 t316 t318 t319 t320) else ((impl_InnerOf.f t322 t323 t324 t318 t319 t320).bind fun t343 => (if (FloatKind.f32.format.order t343 0 != some .eq) = true then (laws_FnVectors.j0 k l0 true t314 t315 t316 t318 t319 t320) else ((impl_ScaleVector.f t326 t327 t328 3212836864).bind fun bt344 => ((laws_b10VEqual.f t322 t323 t324 bt344.1 bt344.2.1 bt344.2.2).bind fun t347 => (if t347 = true then ((impl_AddVectors.f t314 t315 t316 t314 t315 t316).bind fun bt348 => ((laws_b10VEqual.f bt337.1 bt337.2.1 bt337.2.2 bt348.1 bt348.2.1 bt348.2.2).bind fun t351 => (if t351 = true then ((impl_InnerOf.f t314 t315 t316 t314 t315 t316).bind fun t352 => ((laws_b10Square.f t314 t315 t316).bind fun t353 => (if (FloatKind.f32.format.order t352 t353 != some .eq) = true then (laws_FnVectors.j0 k l0 true t314 t315 t316 t318 t319 t320) else ((impl_SizeOfVector.f t314 t315 t316).bind fun t354 => ((laws_b10Square.f t314 t315 t316).bind fun t355 => ((spec_RootNumber.f t355).bind fun t356 => ((spec_SameNumber.f t354 t356).bind fun t357 => (laws_FnVectors.j0 k l0 (!t357) t314 t315 t316 t318 t319 t320)))))))) else (laws_FnVectors.j0 k l0 true t314 t315 t316 t318 t319 t320)))) else (laws_FnVectors.j0 k l0 true t314 t315 t316 t318 t319 t320)))))))) else (laws_FnVectors.j0 k l0 true t314 t315 t316 t318 t319 t320)))) = some true := H
    have A10 := AS A100
    clear A100
    replace H := Option.bind_eq_some_iff.mp H
    obtain ⟨⟨t337, t338, t339⟩, A110, H⟩ := H
    replace H : ((laws_b10VEqual.f t333 t334 t335 t314 t315 t316).bind fun t341 => (if t341 = true then ((impl_InnerOf.f t322 t323 t324 t314 t315 t316).bind fun t342 => (if (FloatKind.f32.format.order t342 0 != some .eq) = true then (laws_FnVectors.j0 k l0 true t314 t315 t316 t318 t319 t320) else ((impl_InnerOf.f t322 t323 t324 t318 t319 t320).bind fun t343 => (if (FloatKind.f32.format.order t343 0 != some .eq) = true then (laws_FnVectors.j0 k l0 true t314 t315 t316 t318 t319 t320) else ((impl_ScaleVector.f t326 t327 t328 3212836864).bind fun bt344 => ((laws_b10VEqual.f t322 t323 t324 bt344.1 bt344.2.1 bt344.2.2).bind fun t347 => (if t347 = true then ((impl_AddVectors.f t314 t315 t316 t314 t315 t316).bind fun bt348 => ((laws_b10VEqual.f t337 t338 t339 bt348.1 bt348.2.1 bt348.2.2).bind fun t351 => (if t351 = true then ((impl_InnerOf.f t314 t315 t316 t314 t315 t316).bind fun t352 => ((laws_b10Square.f t314 t315 t316).bind fun t353 => (if (FloatKind.f32.format.order t352 t353 != some .eq) = true then (laws_FnVectors.j0 k l0 true t314 t315 t316 t318 t319 t320) else ((impl_SizeOfVector.f t314 t315 t316).bind fun t354 => ((laws_b10Square.f t314 t315 t316).bind fun t355 => ((spec_RootNumber.f t355).bind fun t356 => ((spec_SameNumber.f t354 t356).bind fun t357 => (laws_FnVectors.j0 k l0 (!t357) t314 t315 t316 t318 t319 t320)))))))) else (laws_FnVectors.j0 k l0 true t314 t315 t316 t318 t319 t320)))) else (laws_FnVectors.j0 k l0 true t314 t315 t316 t318 t319 t320)))))))) else (laws_FnVectors.j0 k l0 true t314 t315 t316 t318 t319 t320))) = some true := H
    have A11 := AS A110
    clear A110
    have HC12 := AS H
    clear H
    go_enter Tryd.func3, Tryd.ntmps3
    try go_wp2_with (first | ((with_reducible refine gate_callee (f := 6) rfl ?_); refine goesL_ (some 17) rfl rfl Tryd.func6 (by kernel_rfl) rfl #[.slice A0 l0.length c0, .slice A1 l1.length c1] rfl (by (try simp only [List.map_toArray, List.map_cons, List.map_nil]); first | done | rfl | (simp only [List.length_drop, List.length_take]; rfl)) ?_; (with_reducible refine (laws_b10Long.calls _ _ l0 _ _ l1 false _ ?side1 ?side2 ?side3 ?side4 A3.out).mono ?_); (case side1 => repeat (first | exact HR0.out | (with_reducible refine Kd.C_alloc ?_ _) | (with_reducible refine Kd.C_drewN ?_ _) | (with_reducible refine Kd.C_drew ?_))); (case side2 => exact HC0.out); (case side3 => repeat (first | exact HR1.out | (with_reducible refine Kd.C_alloc ?_ _) | (with_reducible refine Kd.C_drewN ?_ _) | (with_reducible refine Kd.C_drew ?_))); (case side4 => exact HC1.out); rintro e w' ⟨rfl, ⟨nd, rfl⟩⟩; refine ⟨_, rfl, ?_⟩) | ((with_reducible refine gate_callee (f := 7) rfl ?_); refine goesL_ (some 19) rfl rfl Tryd.func7 (by kernel_rfl) rfl #[.slice A0 l0.length c0, .int .i64 50] rfl (by (try simp only [List.map_toArray, List.map_cons, List.map_nil]); first | done | rfl | (simp only [List.length_drop, List.length_take]; rfl)) ?_; (with_reducible refine (spec_B10Vector.calls _ _ l0 50 t314 t315 t316 _ ?side1 ?side2 A5.out).mono ?_); (case side1 => repeat (first | exact HR0.out | (with_reducible refine Kd.C_alloc ?_ _) | (with_reducible refine Kd.C_drewN ?_ _) | (with_reducible refine Kd.C_drew ?_))); (case side2 => exact HC0.out); rintro e w13 ⟨rfl, hb⟩; refine ⟨_, rfl, ?_⟩; have n0_ := AS (below_step (by repeat (first | (with_reducible first | exact HB.out | apply below_alloc | apply pw_below_drewN | apply below_drew1) | exact HB.out)) hb); clear HB; have HB := n0_; clear n0_; (try clear hb); (try clear hb2); (try clear hk); (try clear hi)) | ((with_reducible refine gate_dst (N := 5) rfl ?_); (try (refine gate_guard (by rfl) ?_; dsimp only)); refine box_event ?hg (N := 5) ?hd (cs := #[.float .f32 0, .float .f32 0, .float .f32 0]) (t := 26) ?hr ?_; (case hd => rfl); (case hg => rfl); (case hr => first | (go_simp; done) | (go_simp; rfl)); intro gb317 hg w14 hbox hb; have n0_ := AS (below_step (by repeat (first | (with_reducible first | exact HB.out | apply below_alloc | apply pw_below_drewN | apply below_drew1) | exact HB.out)) hb); have n1_ := AS (hbox); have n2_ := AS ((by rw [hg]; exact (below_size (by repeat (first | (with_reducible first | exact HB.out | apply below_alloc | apply pw_below_drewN | apply below_drew1) | exact HB.out))) : w.heap.size ≤ gb317)); have n3_ := AS ((by rw [hg]; exact (below_size (by repeat (first | (with_reducible first | exact HB.out | apply below_alloc | apply pw_below_drewN | apply below_drew1) | exact HB.out))) : w.heap.size ≤ gb317)); clear HB; have HB := n0_; have BK317 := n1_; have GW317 := n2_; have GE317 := n3_; clear n0_ n1_ n2_ n3_; clear hb hbox hg; have hcz15_0 : w14.cell? ⟨gb317, 0, none⟩ = some (.float .f32 0) := (blk_cell BK317.out 0).trans rfl; have hcz15_1 : w14.cell? ⟨gb317, 1, none⟩ = some (.float .f32 0) := (blk_cell BK317.out 1).trans rfl; have hcz15_2 : w14.cell? ⟨gb317, 2, none⟩ = some (.float .f32 0) := (blk_cell BK317.out 2).trans rfl; have hfz15_0 := blk_frozen BK317.out 0; have hfz15_1 := blk_frozen BK317.out 1; have hfz15_2 := blk_frozen BK317.out 2) | ((with_reducible refine gate_callee (f := 7) rfl ?_); refine goesL_ (some 21) rfl rfl Tryd.func7 (by kernel_rfl) rfl #[.slice A1 l1.length c1, .int .i64 50] rfl (by (try simp only [List.map_toArray, List.map_cons, List.map_nil]); first | done | rfl | (simp only [List.length_drop, List.length_take]; rfl)) ?_; (with_reducible refine (spec_B10Vector.calls _ _ l1 50 t318 t319 t320 _ ?side1 ?side2 A6.out).mono ?_); (case side1 => exact Kd.C_below HR1.out (by repeat (first | (with_reducible first | exact HB.out | apply below_alloc | apply pw_below_drewN | apply below_drew1 | refine below_set ?_ GE317.out) | exact HB.out))); (case side2 => exact HC1.out); rintro e w16 ⟨rfl, hb⟩; refine ⟨_, rfl, ?_⟩; have n0_ := AS (blk_below (g := gb317) (o := .cells #[.float .f32 t314, .float .f32 t315, .float .f32 t316] 26 (0, 0)) (by (with_reducible repeat (first | apply blk_drewN | apply blk_drew | apply blk_alloc)); refine blk_put (cs := #[.float .f32 t314, .float .f32 t315, .float .f32 0]) ?_ 2 _ rfl; (with_reducible repeat (first | apply blk_drewN | apply blk_drew | apply blk_alloc)); refine blk_put (cs := #[.float .f32 t314, .float .f32 0, .float .f32 0]) ?_ 1 _ rfl; (with_reducible repeat (first | apply blk_drewN | apply blk_drew | apply blk_alloc)); refine blk_put (cs := #[.float .f32 0, .float .f32 0, .float .f32 0]) ?_ 0 _ rfl; (with_reducible repeat (first | apply blk_drewN | apply blk_drew | apply blk_alloc)); exact BK317.out) hb); have n1_ := AS (below_step (by repeat (first | (with_reducible first | exact HB.out | apply below_alloc | apply pw_below_drewN | apply below_drew1 | refine below_set ?_ GE317.out) | exact HB.out)) hb); clear BK317; clear HB; have BK317 := n0_; have HB := n1_; clear n0_ n1_; (try clear hb); (try clear hb2); (try clear hk); (try clear hi)) | ((with_reducible refine gate_dst (N := 6) rfl ?_); (try (refine gate_guard (by rfl) ?_; dsimp only)); refine box_event ?hg (N := 6) ?hd (cs := #[.float .f32 0, .float .f32 0, .float .f32 0]) (t := 26) ?hr ?_; (case hd => rfl); (case hg => rfl); (case hr => first | (go_simp; done) | (go_simp; rfl)); intro gb321 hg w17 hbox hb; have n0_ := AS (blk_below (g := gb317) (o := .cells #[.float .f32 t314, .float .f32 t315, .float .f32 t316] 26 (0, 0)) (by (with_reducible repeat (first | apply blk_drewN | apply blk_drew | apply blk_alloc)); exact BK317.out) hb); have n1_ := AS (below_step (by repeat (first | (with_reducible first | exact HB.out | apply below_alloc | apply pw_below_drewN | apply below_drew1 | refine below_set ?_ GE317.out) | exact HB.out)) hb); have n2_ := AS (hbox); have n3_ := AS ((by rw [hg]; exact (below_size (by repeat (first | (with_reducible first | exact HB.out | apply below_alloc | apply pw_below_drewN | apply below_drew1 | refine below_set ?_ GE317.out) | exact HB.out))) : w.heap.size ≤ gb321)); have n4_ := AS ((by rw [hg]; exact (below_size (by repeat (first | (with_reducible first | exact HB.out | apply below_alloc | apply pw_below_drewN | apply below_drew1 | refine below_set ?_ GE317.out) | exact HB.out))) : w.heap.size ≤ gb321)); have n5_ := AS ((by rw [hg]; exact Nat.ne_of_lt (blk_lt (g := gb317) (o := .cells #[.float .f32 t314, .float .f32 t315, .float .f32 t316] 26 (0, 0)) (by (with_reducible repeat (first | apply blk_drewN | apply blk_drew | apply blk_alloc)); exact BK317.out)) : gb317 ≠ gb321)); have n6_ := AS ((by rw [hg]; exact Nat.ne_of_gt (blk_lt (g := gb317) (o := .cells #[.float .f32 t314, .float .f32 t315, .float .f32 t316] 26 (0, 0)) (by (with_reducible repeat (first | apply blk_drewN | apply blk_drew | apply blk_alloc)); exact BK317.out)) : gb321 ≠ gb317)); clear BK317; clear HB; have BK317 := n0_; have HB := n1_; have BK321 := n2_; have GW321 := n3_; have GE321 := n4_; have NB317_321 := n5_; have NB321_317 := n6_; clear n0_ n1_ n2_ n3_ n4_ n5_ n6_; clear hb hbox hg; have hnb18 := NB321_317.out; have hnc18 := NB317_321.out; have hcz19_0 : w17.cell? ⟨gb321, 0, none⟩ = some (.float .f32 0) := (blk_cell BK321.out 0).trans rfl; have hcz19_1 : w17.cell? ⟨gb321, 1, none⟩ = some (.float .f32 0) := (blk_cell BK321.out 1).trans rfl; have hcz19_2 : w17.cell? ⟨gb321, 2, none⟩ = some (.float .f32 0) := (blk_cell BK321.out 2).trans rfl; have hfz19_0 := blk_frozen BK321.out 0; have hfz19_1 := blk_frozen BK321.out 1; have hfz19_2 := blk_frozen BK321.out 2; have hcz20_0 : w17.cell? ⟨gb317, 0, none⟩ = some (.float .f32 t314) := (blk_cell BK317.out 0).trans rfl; have hcz20_1 : w17.cell? ⟨gb317, 1, none⟩ = some (.float .f32 t315) := (blk_cell BK317.out 1).trans rfl; have hcz20_2 : w17.cell? ⟨gb317, 2, none⟩ = some (.float .f32 t316) := (blk_cell BK317.out 2).trans rfl; have hfz20_0 := blk_frozen BK317.out 0; have hfz20_1 := blk_frozen BK317.out 1; have hfz20_2 := blk_frozen BK317.out 2) | ((with_reducible refine gate_callee (f := 8) rfl ?_); refine goesL_ (some 24) rfl rfl Tryd.func8 (by kernel_rfl) rfl #[.agg #[.float .f32 t314, .float .f32 t315, .float .f32 t316], .agg #[.float .f32 t318, .float .f32 t319, .float .f32 t320]] rfl (by (try simp only [List.map_toArray, List.map_cons, List.map_nil]); first | done | rfl | (simp only [List.length_drop, List.length_take]; rfl)) ?_; (with_reducible refine (impl_CrossOf.calls t314 t315 t316 t318 t319 t320 t322 t323 t324 _ A7.out).mono ?_); rintro e w21 ⟨rfl, hb⟩; refine ⟨_, rfl, ?_⟩; have n0_ := AS (blk_below (g := gb317) (o := .cells #[.float .f32 t314, .float .f32 t315, .float .f32 t316] 26 (0, 0)) (by (with_reducible repeat (first | apply blk_drewN | apply blk_drew | apply blk_alloc)); refine blk_far ?_ NB317_321.out _; (with_reducible repeat (first | apply blk_drewN | apply blk_drew | apply blk_alloc)); refine blk_far ?_ NB317_321.out _; (with_reducible repeat (first | apply blk_drewN | apply blk_drew | apply blk_alloc)); refine blk_far ?_ NB317_321.out _; (with_reducible repeat (first | apply blk_drewN | apply blk_drew | apply blk_alloc)); exact BK317.out) hb); have n1_ := AS (blk_below (g := gb321) (o := .cells #[.float .f32 t318, .float .f32 t319, .float .f32 t320] 26 (0, 0)) (by (with_reducible repeat (first | apply blk_drewN | apply blk_drew | apply blk_alloc)); refine blk_put (cs := #[.float .f32 t318, .float .f32 t319, .float .f32 0]) ?_ 2 _ rfl; (with_reducible repeat (first | apply blk_drewN | apply blk_drew | apply blk_alloc)); refine blk_put (cs := #[.float .f32 t318, .float .f32 0, .float .f32 0]) ?_ 1 _ rfl; (with_reducible repeat (first | apply blk_drewN | apply blk_drew | apply blk_alloc)); refine blk_put (cs := #[.float .f32 0, .float .f32 0, .float .f32 0]) ?_ 0 _ rfl; (with_reducible repeat (first | apply blk_drewN | apply blk_drew | apply blk_alloc)); exact BK321.out) hb); have n2_ := AS (below_step (by repeat (first | (with_reducible first | exact HB.out | apply below_alloc | apply pw_below_drewN | apply below_drew1 | refine below_set ?_ GE317.out | refine below_set ?_ GE321.out) | exact HB.out)) hb); clear BK317; clear BK321; clear HB; have BK317 := n0_; have BK321 := n1_; have HB := n2_; clear n0_ n1_ n2_; (try clear hb); (try clear hb2); (try clear hk); (try clear hi)) | ((with_reducible refine gate_dst (N := 7) rfl ?_); (try (refine gate_guard (by rfl) ?_; dsimp only)); refine box_event ?hg (N := 7) ?hd (cs := #[.float .f32 0, .float .f32 0, .float .f32 0]) (t := 26) ?hr ?_; (case hd => rfl); (case hg => rfl); (case hr => first | (go_simp; done) | (go_simp; rfl)); intro gb325 hg w22 hbox hb; have n0_ := AS (blk_below (g := gb317) (o := .cells #[.float .f32 t314, .float .f32 t315, .float .f32 t316] 26 (0, 0)) (by (with_reducible repeat (first | apply blk_drewN | apply blk_drew | apply blk_alloc)); exact BK317.out) hb); have n1_ := AS (blk_below (g := gb321) (o := .cells #[.float .f32 t318, .float .f32 t319, .float .f32 t320] 26 (0, 0)) (by (with_reducible repeat (first | apply blk_drewN | apply blk_drew | apply blk_alloc)); exact BK321.out) hb); have n2_ := AS (below_step (by repeat (first | (with_reducible first | exact HB.out | apply below_alloc | apply pw_below_drewN | apply below_drew1 | refine below_set ?_ GE317.out | refine below_set ?_ GE321.out) | exact HB.out)) hb); have n3_ := AS (hbox); have n4_ := AS ((by rw [hg]; exact (below_size (by repeat (first | (with_reducible first | exact HB.out | apply below_alloc | apply pw_below_drewN | apply below_drew1 | refine below_set ?_ GE317.out | refine below_set ?_ GE321.out) | exact HB.out))) : w.heap.size ≤ gb325)); have n5_ := AS ((by rw [hg]; exact (below_size (by repeat (first | (with_reducible first | exact HB.out | apply below_alloc | apply pw_below_drewN | apply below_drew1 | refine below_set ?_ GE317.out | refine below_set ?_ GE321.out) | exact HB.out))) : w.heap.size ≤ gb325)); have n6_ := AS ((by rw [hg]; exact Nat.ne_of_lt (blk_lt (g := gb317) (o := .cells #[.float .f32 t314, .float .f32 t315, .float .f32 t316] 26 (0, 0)) (by (with_reducible repeat (first | apply blk_drewN | apply blk_drew | apply blk_alloc)); exact BK317.out)) : gb317 ≠ gb325)); have n7_ := AS ((by rw [hg]; exact Nat.ne_of_gt (blk_lt (g := gb317) (o := .cells #[.float .f32 t314, .float .f32 t315, .float .f32 t316] 26 (0, 0)) (by (with_reducible repeat (first | apply blk_drewN | apply blk_drew | apply blk_alloc)); exact BK317.out)) : gb325 ≠ gb317)); have n8_ := AS ((by rw [hg]; exact Nat.ne_of_lt (blk_lt (g := gb321) (o := .cells #[.float .f32 t318, .float .f32 t319, .float .f32 t320] 26 (0, 0)) (by (with_reducible repeat (first | apply blk_drewN | apply blk_drew | apply blk_alloc)); exact BK321.out)) : gb321 ≠ gb325)); have n9_ := AS ((by rw [hg]; exact Nat.ne_of_gt (blk_lt (g := gb321) (o := .cells #[.float .f32 t318, .float .f32 t319, .float .f32 t320] 26 (0, 0)) (by (with_reducible repeat (first | apply blk_drewN | apply blk_drew | apply blk_alloc)); exact BK321.out)) : gb325 ≠ gb321)); clear BK317; clear BK321; clear HB; have BK317 := n0_; have BK321 := n1_; have HB := n2_; have BK325 := n3_; have GW325 := n4_; have GE325 := n5_; have NB317_325 := n6_; have NB325_317 := n7_; have NB321_325 := n8_; have NB325_321 := n9_; clear n0_ n1_ n2_ n3_ n4_ n5_ n6_ n7_ n8_ n9_; clear hb hbox hg; have hnb23 := NB325_317.out; have hnc23 := NB317_325.out; have hnb24 := NB325_321.out; have hnc24 := NB321_325.out; have hcz25_0 : w22.cell? ⟨gb325, 0, none⟩ = some (.float .f32 0) := (blk_cell BK325.out 0).trans rfl; have hcz25_1 : w22.cell? ⟨gb325, 1, none⟩ = some (.float .f32 0) := (blk_cell BK325.out 1).trans rfl; have hcz25_2 : w22.cell? ⟨gb325, 2, none⟩ = some (.float .f32 0) := (blk_cell BK325.out 2).trans rfl; have hfz25_0 := blk_frozen BK325.out 0; have hfz25_1 := blk_frozen BK325.out 1; have hfz25_2 := blk_frozen BK325.out 2; have hcz26_0 : w22.cell? ⟨gb321, 0, none⟩ = some (.float .f32 t318) := (blk_cell BK321.out 0).trans rfl; have hcz26_1 : w22.cell? ⟨gb321, 1, none⟩ = some (.float .f32 t319) := (blk_cell BK321.out 1).trans rfl; have hcz26_2 : w22.cell? ⟨gb321, 2, none⟩ = some (.float .f32 t320) := (blk_cell BK321.out 2).trans rfl; have hfz26_0 := blk_frozen BK321.out 0; have hfz26_1 := blk_frozen BK321.out 1; have hfz26_2 := blk_frozen BK321.out 2; have hcz27_0 : w22.cell? ⟨gb317, 0, none⟩ = some (.float .f32 t314) := (blk_cell BK317.out 0).trans rfl; have hcz27_1 : w22.cell? ⟨gb317, 1, none⟩ = some (.float .f32 t315) := (blk_cell BK317.out 1).trans rfl; have hcz27_2 : w22.cell? ⟨gb317, 2, none⟩ = some (.float .f32 t316) := (blk_cell BK317.out 2).trans rfl; have hfz27_0 := blk_frozen BK317.out 0; have hfz27_1 := blk_frozen BK317.out 1; have hfz27_2 := blk_frozen BK317.out 2) | ((with_reducible refine gate_callee (f := 8) rfl ?_); refine goesL_ (some 27) rfl rfl Tryd.func8 (by kernel_rfl) rfl #[.agg #[.float .f32 t318, .float .f32 t319, .float .f32 t320], .agg #[.float .f32 t314, .float .f32 t315, .float .f32 t316]] rfl (by (try simp only [List.map_toArray, List.map_cons, List.map_nil]); first | done | rfl | (simp only [List.length_drop, List.length_take]; rfl)) ?_; (with_reducible refine (impl_CrossOf.calls t318 t319 t320 t314 t315 t316 t326 t327 t328 _ A8.out).mono ?_); rintro e w28 ⟨rfl, hb⟩; refine ⟨_, rfl, ?_⟩; have n0_ := AS (blk_below (g := gb317) (o := .cells #[.float .f32 t314, .float .f32 t315, .float .f32 t316] 26 (0, 0)) (by (with_reducible repeat (first | apply blk_drewN | apply blk_drew | apply blk_alloc)); refine blk_far ?_ NB317_325.out _; (with_reducible repeat (first | apply blk_drewN | apply blk_drew | apply blk_alloc)); refine blk_far ?_ NB317_325.out _; (with_reducible repeat (first | apply blk_drewN | apply blk_drew | apply blk_alloc)); refine blk_far ?_ NB317_325.out _; (with_reducible repeat (first | apply blk_drewN | apply blk_drew | apply blk_alloc)); exact BK317.out) hb); have n1_ := AS (blk_below (g := gb321) (o := .cells #[.float .f32 t318, .float .f32 t319, .float .f32 t320] 26 (0, 0)) (by (with_reducible repeat (first | apply blk_drewN | apply blk_drew | apply blk_alloc)); refine blk_far ?_ NB321_325.out _; (with_reducible repeat (first | apply blk_drewN | apply blk_drew | apply blk_alloc)); refine blk_far ?_ NB321_325.out _; (with_reducible repeat (first | apply blk_drewN | apply blk_drew | apply blk_alloc)); refine blk_far ?_ NB321_325.out _; (with_reducible repeat (first | apply blk_drewN | apply blk_drew | apply blk_alloc)); exact BK321.out) hb); have n2_ := AS (blk_below (g := gb325) (o := .cells #[.float .f32 t322, .float .f32 t323, .float .f32 t324] 26 (0, 0)) (by (with_reducible repeat (first | apply blk_drewN | apply blk_drew | apply blk_alloc)); refine blk_put (cs := #[.float .f32 t322, .float .f32 t323, .float .f32 0]) ?_ 2 _ rfl; (with_reducible repeat (first | apply blk_drewN | apply blk_drew | apply blk_alloc)); refine blk_put (cs := #[.float .f32 t322, .float .f32 0, .float .f32 0]) ?_ 1 _ rfl; (with_reducible repeat (first | apply blk_drewN | apply blk_drew | apply blk_alloc)); refine blk_put (cs := #[.float .f32 0, .float .f32 0, .float .f32 0]) ?_ 0 _ rfl; (with_reducible repeat (first | apply blk_drewN | apply blk_drew | apply blk_alloc)); exact BK325.out) hb); have n3_ := AS (below_step (by repeat (first | (with_reducible first | exact HB.out | apply below_alloc | apply pw_below_drewN | apply below_drew1 | refine below_set ?_ GE317.out | refine below_set ?_ GE321.out | refine below_set ?_ GE325.out) | exact HB.out)) hb); clear BK317; clear BK321; clear BK325; clear HB; have BK317 := n0_; have BK321 := n1_; have BK325 := n2_; have HB := n3_; clear n0_ n1_ n2_ n3_; (try clear hb); (try clear hb2); (try clear hk); (try clear hi)) | ((with_reducible refine gate_dst (N := 8) rfl ?_); (try (refine gate_guard (by rfl) ?_; dsimp only)); refine box_event ?hg (N := 8) ?hd (cs := #[.float .f32 0, .float .f32 0, .float .f32 0]) (t := 26) ?hr ?_; (case hd => rfl); (case hg => rfl); (case hr => first | (go_simp; done) | (go_simp; rfl)); intro gb329 hg w29 hbox hb; have n0_ := AS (blk_below (g := gb317) (o := .cells #[.float .f32 t314, .float .f32 t315, .float .f32 t316] 26 (0, 0)) (by (with_reducible repeat (first | apply blk_drewN | apply blk_drew | apply blk_alloc)); exact BK317.out) hb); have n1_ := AS (blk_below (g := gb321) (o := .cells #[.float .f32 t318, .float .f32 t319, .float .f32 t320] 26 (0, 0)) (by (with_reducible repeat (first | apply blk_drewN | apply blk_drew | apply blk_alloc)); exact BK321.out) hb); have n2_ := AS (blk_below (g := gb325) (o := .cells #[.float .f32 t322, .float .f32 t323, .float .f32 t324] 26 (0, 0)) (by (with_reducible repeat (first | apply blk_drewN | apply blk_drew | apply blk_alloc)); exact BK325.out) hb); have n3_ := AS (below_step (by repeat (first | (with_reducible first | exact HB.out | apply below_alloc | apply pw_below_drewN | apply below_drew1 | refine below_set ?_ GE317.out | refine below_set ?_ GE321.out | refine below_set ?_ GE325.out) | exact HB.out)) hb); have n4_ := AS (hbox); have n5_ := AS ((by rw [hg]; exact (below_size (by repeat (first | (with_reducible first | exact HB.out | apply below_alloc | apply pw_below_drewN | apply below_drew1 | refine below_set ?_ GE317.out | refine below_set ?_ GE321.out | refine below_set ?_ GE325.out) | exact HB.out))) : w.heap.size ≤ gb329)); have n6_ := AS ((by rw [hg]; exact (below_size (by repeat (first | (with_reducible first | exact HB.out | apply below_alloc | apply pw_below_drewN | apply below_drew1 | refine below_set ?_ GE317.out | refine below_set ?_ GE321.out | refine below_set ?_ GE325.out) | exact HB.out))) : w.heap.size ≤ gb329)); have n7_ := AS ((by rw [hg]; exact Nat.ne_of_lt (blk_lt (g := gb317) (o := .cells #[.float .f32 t314, .float .f32 t315, .float .f32 t316] 26 (0, 0)) (by (with_reducible repeat (first | apply blk_drewN | apply blk_drew | apply blk_alloc)); exact BK317.out)) : gb317 ≠ gb329)); have n8_ := AS ((by rw [hg]; exact Nat.ne_of_gt (blk_lt (g := gb317) (o := .cells #[.float .f32 t314, .float .f32 t315, .float .f32 t316] 26 (0, 0)) (by (with_reducible repeat (first | apply blk_drewN | apply blk_drew | apply blk_alloc)); exact BK317.out)) : gb329 ≠ gb317)); have n9_ := AS ((by rw [hg]; exact Nat.ne_of_lt (blk_lt (g := gb321) (o := .cells #[.float .f32 t318, .float .f32 t319, .float .f32 t320] 26 (0, 0)) (by (with_reducible repeat (first | apply blk_drewN | apply blk_drew | apply blk_alloc)); exact BK321.out)) : gb321 ≠ gb329)); have n10_ := AS ((by rw [hg]; exact Nat.ne_of_gt (blk_lt (g := gb321) (o := .cells #[.float .f32 t318, .float .f32 t319, .float .f32 t320] 26 (0, 0)) (by (with_reducible repeat (first | apply blk_drewN | apply blk_drew | apply blk_alloc)); exact BK321.out)) : gb329 ≠ gb321)); have n11_ := AS ((by rw [hg]; exact Nat.ne_of_lt (blk_lt (g := gb325) (o := .cells #[.float .f32 t322, .float .f32 t323, .float .f32 t324] 26 (0, 0)) (by (with_reducible repeat (first | apply blk_drewN | apply blk_drew | apply blk_alloc)); exact BK325.out)) : gb325 ≠ gb329)); have n12_ := AS ((by rw [hg]; exact Nat.ne_of_gt (blk_lt (g := gb325) (o := .cells #[.float .f32 t322, .float .f32 t323, .float .f32 t324] 26 (0, 0)) (by (with_reducible repeat (first | apply blk_drewN | apply blk_drew | apply blk_alloc)); exact BK325.out)) : gb329 ≠ gb325)); clear BK317; clear BK321; clear BK325; clear HB; have BK317 := n0_; have BK321 := n1_; have BK325 := n2_; have HB := n3_; have BK329 := n4_; have GW329 := n5_; have GE329 := n6_; have NB317_329 := n7_; have NB329_317 := n8_; have NB321_329 := n9_; have NB329_321 := n10_; have NB325_329 := n11_; have NB329_325 := n12_; clear n0_ n1_ n2_ n3_ n4_ n5_ n6_ n7_ n8_ n9_ n10_ n11_ n12_; clear hb hbox hg; have hnb30 := NB329_317.out; have hnc30 := NB317_329.out; have hnb31 := NB329_321.out; have hnc31 := NB321_329.out; have hnb32 := NB329_325.out; have hnc32 := NB325_329.out; have hcz33_0 : w29.cell? ⟨gb329, 0, none⟩ = some (.float .f32 0) := (blk_cell BK329.out 0).trans rfl; have hcz33_1 : w29.cell? ⟨gb329, 1, none⟩ = some (.float .f32 0) := (blk_cell BK329.out 1).trans rfl; have hcz33_2 : w29.cell? ⟨gb329, 2, none⟩ = some (.float .f32 0) := (blk_cell BK329.out 2).trans rfl; have hfz33_0 := blk_frozen BK329.out 0; have hfz33_1 := blk_frozen BK329.out 1; have hfz33_2 := blk_frozen BK329.out 2))
    have n0_ : Aside0 ((((w29.setCell ⟨gb329, 0, none⟩ (.float .f32 t326)).setCell ⟨gb329, 1, none⟩ (.float .f32 t327)).setCell ⟨gb329, 2, none⟩ (.float .f32 t328)).heap[gb317]? = some (.cells #[.float .f32 t314, .float .f32 t315, .float .f32 t316] 26 (0, 0))) := ⟨by (with_reducible repeat (first | apply blk_drewN | apply blk_drew | apply blk_alloc)); refine blk_far ?_ NB317_329.out _; (with_reducible repeat (first | apply blk_drewN | apply blk_drew | apply blk_alloc)); refine blk_far ?_ NB317_329.out _; (with_reducible repeat (first | apply blk_drewN | apply blk_drew | apply blk_alloc)); refine blk_far ?_ NB317_329.out _; (with_reducible repeat (first | apply blk_drewN | apply blk_drew | apply blk_alloc)); exact BK317.out⟩
    have n1_ : Aside0 ((((w29.setCell ⟨gb329, 0, none⟩ (.float .f32 t326)).setCell ⟨gb329, 1, none⟩ (.float .f32 t327)).setCell ⟨gb329, 2, none⟩ (.float .f32 t328)).heap[gb321]? = some (.cells #[.float .f32 t318, .float .f32 t319, .float .f32 t320] 26 (0, 0))) := ⟨by (with_reducible repeat (first | apply blk_drewN | apply blk_drew | apply blk_alloc)); refine blk_far ?_ NB321_329.out _; (with_reducible repeat (first | apply blk_drewN | apply blk_drew | apply blk_alloc)); refine blk_far ?_ NB321_329.out _; (with_reducible repeat (first | apply blk_drewN | apply blk_drew | apply blk_alloc)); refine blk_far ?_ NB321_329.out _; (with_reducible repeat (first | apply blk_drewN | apply blk_drew | apply blk_alloc)); exact BK321.out⟩
    have n2_ : Aside0 ((((w29.setCell ⟨gb329, 0, none⟩ (.float .f32 t326)).setCell ⟨gb329, 1, none⟩ (.float .f32 t327)).setCell ⟨gb329, 2, none⟩ (.float .f32 t328)).heap[gb325]? = some (.cells #[.float .f32 t322, .float .f32 t323, .float .f32 t324] 26 (0, 0))) := ⟨by (with_reducible repeat (first | apply blk_drewN | apply blk_drew | apply blk_alloc)); refine blk_far ?_ NB325_329.out _; (with_reducible repeat (first | apply blk_drewN | apply blk_drew | apply blk_alloc)); refine blk_far ?_ NB325_329.out _; (with_reducible repeat (first | apply blk_drewN | apply blk_drew | apply blk_alloc)); refine blk_far ?_ NB325_329.out _; (with_reducible repeat (first | apply blk_drewN | apply blk_drew | apply blk_alloc)); exact BK325.out⟩
    have n3_ : Aside0 ((((w29.setCell ⟨gb329, 0, none⟩ (.float .f32 t326)).setCell ⟨gb329, 1, none⟩ (.float .f32 t327)).setCell ⟨gb329, 2, none⟩ (.float .f32 t328)).heap[gb329]? = some (.cells #[.float .f32 t326, .float .f32 t327, .float .f32 t328] 26 (0, 0))) := ⟨by (with_reducible repeat (first | apply blk_drewN | apply blk_drew | apply blk_alloc)); refine blk_put (cs := #[.float .f32 t326, .float .f32 t327, .float .f32 0]) ?_ 2 _ rfl; (with_reducible repeat (first | apply blk_drewN | apply blk_drew | apply blk_alloc)); refine blk_put (cs := #[.float .f32 t326, .float .f32 0, .float .f32 0]) ?_ 1 _ rfl; (with_reducible repeat (first | apply blk_drewN | apply blk_drew | apply blk_alloc)); refine blk_put (cs := #[.float .f32 0, .float .f32 0, .float .f32 0]) ?_ 0 _ rfl; (with_reducible repeat (first | apply blk_drewN | apply blk_drew | apply blk_alloc)); exact BK329.out⟩
    have n4_ : Aside0 (Below w.heap.size w (((w29.setCell ⟨gb329, 0, none⟩ (.float .f32 t326)).setCell ⟨gb329, 1, none⟩ (.float .f32 t327)).setCell ⟨gb329, 2, none⟩ (.float .f32 t328))) := ⟨by repeat (first | (with_reducible first | exact HB.out | apply below_alloc | apply pw_below_drewN | apply below_drew1 | refine below_set ?_ GE317.out | refine below_set ?_ GE321.out | refine below_set ?_ GE325.out | refine below_set ?_ GE329.out) | exact HB.out)⟩
    (try clear BK317)
    (try clear BK321)
    (try clear BK325)
    (try clear BK329)
    (try clear HB)
    generalize (((w29.setCell ⟨gb329, 0, none⟩ (.float .f32 t326)).setCell ⟨gb329, 1, none⟩ (.float .f32 t327)).setCell ⟨gb329, 2, none⟩ (.float .f32 t328)) = w34 at n0_ n1_ n2_ n3_ n4_ ⊢
    have BK317 := n0_
    have BK321 := n1_
    have BK325 := n2_
    have BK329 := n3_
    have HB := n4_
    clear n0_ n1_ n2_ n3_ n4_
    have n0_ := AS (blk_drew BK317.out)
    have n1_ := AS (blk_drew BK321.out)
    have n2_ := AS (blk_drew BK325.out)
    have n3_ := AS (blk_drew BK329.out)
    have n4_ := AS (below_drew1 HB.out)
    clear BK317
    clear BK321
    clear BK325
    clear BK329
    clear HB
    have BK317 := n0_
    have BK321 := n1_
    have BK325 := n2_
    have BK329 := n3_
    have HB := n4_
    clear n0_ n1_ n2_ n3_ n4_
    refine start_ (n := 7) (S := fun w' => w'.cell? ⟨gb321, 0, none⟩ = some (.float .f32 t318) ∧ w'.cell? ⟨gb321, 1, none⟩ = some (.float .f32 t319) ∧ w'.cell? ⟨gb321, 2, none⟩ = some (.float .f32 t320) ∧ w'.cell? ⟨gb317, 0, none⟩ = some (.float .f32 t314) ∧ w'.cell? ⟨gb317, 1, none⟩ = some (.float .f32 t315) ∧ w'.cell? ⟨gb317, 2, none⟩ = some (.float .f32 t316)) (ds := []) #[false, false, false, false, false, false, false] (by kernel_rfl) rfl rfl ⟨(blk_cell BK321.out 0).trans rfl, (blk_cell BK321.out 1).trans rfl, (blk_cell BK321.out 2).trans rfl, (blk_cell BK317.out 0).trans rfl, (blk_cell BK317.out 1).trans rfl, (blk_cell BK317.out 2).trans rfl⟩ (fun hHeld => ?_)
    generalize w34.drew = w35 at BK317 BK321 BK325 BK329 HB hHeld ⊢
    refine take_ (i := 0) (N := some 28) (v := ?_) (a' := ?_) #[true, false, false, false, false, false, false] rfl rfl (by kernel_rfl) (fun _ _ _ h => h) (Or.inl ⟨by rfl, ?_⟩) hHeld ?_ ?_
    rotate_left
    · rintro w' ⟨s0, s1, s2, s3, s4, s5⟩
      go_simp
      with_reducible rfl
    rotate_left
    · simp only [Act.put, List.setIfInBounds_toArray, List.set_cons_zero, List.set_cons_succ, i64_w, i32_w]
      rfl
    refine take_ (i := 1) (N := some 29) (v := ?_) (a' := ?_) #[true, true, false, false, false, false, false] rfl rfl (by kernel_rfl) (fun _ _ _ h => h) (Or.inl ⟨by rfl, ?_⟩) hHeld ?_ ?_
    rotate_left
    · rintro w' ⟨s0, s1, s2, s3, s4, s5⟩
      go_simp
      with_reducible rfl
    rotate_left
    · simp only [Act.put, List.setIfInBounds_toArray, List.set_cons_zero, List.set_cons_succ, i64_w, i32_w]
      rfl
    refine take_ (i := 2) (N := some 30) (v := ?_) (a' := ?_) #[true, true, true, false, false, false, false] rfl rfl (by kernel_rfl) (fun _ _ _ h => h) (Or.inl ⟨by rfl, ?_⟩) hHeld ?_ ?_
    rotate_left
    · rintro w' ⟨s0, s1, s2, s3, s4, s5⟩
      go_simp
      with_reducible rfl
    rotate_left
    · simp only [Act.put, List.setIfInBounds_toArray, List.set_cons_zero, List.set_cons_succ, i64_w, i32_w]
      rfl
    refine join_ (σ := Nat) 1 #[true, true, true, true, true, true, false] (fun s_ => [(31, .agg #[.float .f32 t330, .float .f32 t331, .float .f32 t332]), (32, .agg #[.float .f32 t333, .float .f32 t334, .float .f32 t335]), (9, .pointer (some ⟨s_, 0, none⟩))]) (fun s_ w' => (w'.cell? ⟨gb321, 0, none⟩ = some (.float .f32 t318) ∧ w'.cell? ⟨gb321, 1, none⟩ = some (.float .f32 t319) ∧ w'.cell? ⟨gb321, 2, none⟩ = some (.float .f32 t320) ∧ w'.cell? ⟨gb317, 0, none⟩ = some (.float .f32 t314) ∧ w'.cell? ⟨gb317, 1, none⟩ = some (.float .f32 t315) ∧ w'.cell? ⟨gb317, 2, none⟩ = some (.float .f32 t316)) ∧ (w'.heap[gb317]? = some (.cells #[.float .f32 t314, .float .f32 t315, .float .f32 t316] 26 (0, 0))) ∧ (w'.heap[gb321]? = some (.cells #[.float .f32 t318, .float .f32 t319, .float .f32 t320] 26 (0, 0))) ∧ (w'.heap[gb325]? = some (.cells #[.float .f32 t322, .float .f32 t323, .float .f32 t324] 26 (0, 0))) ∧ (w'.heap[gb329]? = some (.cells #[.float .f32 t326, .float .f32 t327, .float .f32 t328] 26 (0, 0))) ∧ (w'.heap[s_]? = some (.cells #[.float .f32 0, .float .f32 0, .float .f32 0] 26 (0, 0))) ∧ (w.heap.size ≤ s_) ∧ (w.heap.size ≤ s_) ∧ (gb317 ≠ s_) ∧ (s_ ≠ gb317) ∧ (gb321 ≠ s_) ∧ (s_ ≠ gb321) ∧ (gb325 ≠ s_) ∧ (s_ ≠ gb325) ∧ (gb329 ≠ s_) ∧ (s_ ≠ gb329) ∧ (Below w.heap.size w w')) ?_ ?_
    rotate_left
    · intro hCont
      refine two_ (i := 3) (j := 5) (Ni := some 31) (Nj := some 9) #[true, true, true, true, false, false, false] #[true, true, true, false, false, true, false] rfl rfl rfl rfl (by kernel_rfl) (by decide) (by decide) (fun K hK => ?_) (fun K hK => ?_)
      · skip
        refine goes_ Tryd.func10 (by kernel_rfl) rfl #[.agg #[.float .f32 t314, .float .f32 t315, .float .f32 t316], .agg #[.float .f32 t318, .float .f32 t319, .float .f32 t320]] (by rfl) rfl rfl (by (try simp only [List.map_toArray, List.map_cons, List.map_nil]); first | done | rfl | (simp only [List.length_drop, List.length_take]; rfl)) ?_
        with_reducible refine (impl_LessVectors.calls t314 t315 t316 t318 t319 t320 t330 t331 t332 _ A9.out).mono ?_
        rintro e w36 ⟨rfl, hb⟩
        refine ⟨_, rfl, ?_⟩
        have n0_ := AS (blk_below (g := gb317) (o := .cells #[.float .f32 t314, .float .f32 t315, .float .f32 t316] 26 (0, 0)) (by (with_reducible repeat (first | apply blk_drewN | apply blk_drew | apply blk_alloc)); exact BK317.out) hb)
        have n1_ := AS (blk_below (g := gb321) (o := .cells #[.float .f32 t318, .float .f32 t319, .float .f32 t320] 26 (0, 0)) (by (with_reducible repeat (first | apply blk_drewN | apply blk_drew | apply blk_alloc)); exact BK321.out) hb)
        have n2_ := AS (blk_below (g := gb325) (o := .cells #[.float .f32 t322, .float .f32 t323, .float .f32 t324] 26 (0, 0)) (by (with_reducible repeat (first | apply blk_drewN | apply blk_drew | apply blk_alloc)); exact BK325.out) hb)
        have n3_ := AS (blk_below (g := gb329) (o := .cells #[.float .f32 t326, .float .f32 t327, .float .f32 t328] 26 (0, 0)) (by (with_reducible repeat (first | apply blk_drewN | apply blk_drew | apply blk_alloc)); exact BK329.out) hb)
        have n4_ := AS (below_step (by repeat (first | (with_reducible first | exact HB.out | apply below_alloc | apply pw_below_drewN | apply below_drew1 | refine below_set ?_ GE317.out | refine below_set ?_ GE321.out | refine below_set ?_ GE325.out | refine below_set ?_ GE329.out) | exact HB.out)) hb)
        clear BK317
        clear BK321
        clear BK325
        clear BK329
        clear HB
        have BK317 := n0_
        have BK321 := n1_
        have BK325 := n2_
        have BK329 := n3_
        have HB := n4_
        clear n0_ n1_ n2_ n3_ n4_
        (try clear hb)
        (try clear hb2)
        (try clear hk)
        (try clear hi)
        refine hK.out _ _ ⟨(blk_cell BK321.out 0).trans rfl, (blk_cell BK321.out 1).trans rfl, (blk_cell BK321.out 2).trans rfl, (blk_cell BK317.out 0).trans rfl, (blk_cell BK317.out 1).trans rfl, (blk_cell BK317.out 2).trans rfl⟩ (fun hHeld => ?_)
        clear hK K
        refine norm_ (a' := ?_) ?_ ?_
        rotate_left
        · show Act.put _ (some 31) _ = _
          simp only [Act.put, List.setIfInBounds_toArray, List.set_cons_zero, List.set_cons_succ, i64_w, i32_w]
          rfl
        refine two_ (i := 4) (j := 5) (Ni := some 32) (Nj := some 9) #[true, true, true, true, true, false, false] #[true, true, true, true, false, true, false] rfl rfl rfl rfl (by kernel_rfl) (by decide) (by decide) (fun K hK => ?_) (fun K hK => ?_)
        · skip
          refine goes_ Tryd.func9 (by kernel_rfl) rfl #[.agg #[.float .f32 t318, .float .f32 t319, .float .f32 t320], .agg #[.float .f32 t330, .float .f32 t331, .float .f32 t332]] (by rfl) rfl rfl (by (try simp only [List.map_toArray, List.map_cons, List.map_nil]); first | done | rfl | (simp only [List.length_drop, List.length_take]; rfl)) ?_
          with_reducible refine (impl_AddVectors.calls t318 t319 t320 t330 t331 t332 t333 t334 t335 _ A10.out).mono ?_
          rintro e w37 ⟨rfl, hb⟩
          refine ⟨_, rfl, ?_⟩
          have n0_ := AS (blk_below (g := gb317) (o := .cells #[.float .f32 t314, .float .f32 t315, .float .f32 t316] 26 (0, 0)) (by (with_reducible repeat (first | apply blk_drewN | apply blk_drew | apply blk_alloc)); exact BK317.out) hb)
          have n1_ := AS (blk_below (g := gb321) (o := .cells #[.float .f32 t318, .float .f32 t319, .float .f32 t320] 26 (0, 0)) (by (with_reducible repeat (first | apply blk_drewN | apply blk_drew | apply blk_alloc)); exact BK321.out) hb)
          have n2_ := AS (blk_below (g := gb325) (o := .cells #[.float .f32 t322, .float .f32 t323, .float .f32 t324] 26 (0, 0)) (by (with_reducible repeat (first | apply blk_drewN | apply blk_drew | apply blk_alloc)); exact BK325.out) hb)
          have n3_ := AS (blk_below (g := gb329) (o := .cells #[.float .f32 t326, .float .f32 t327, .float .f32 t328] 26 (0, 0)) (by (with_reducible repeat (first | apply blk_drewN | apply blk_drew | apply blk_alloc)); exact BK329.out) hb)
          have n4_ := AS (below_step (by repeat (first | (with_reducible first | exact HB.out | apply below_alloc | apply pw_below_drewN | apply below_drew1 | refine below_set ?_ GE317.out | refine below_set ?_ GE321.out | refine below_set ?_ GE325.out | refine below_set ?_ GE329.out) | exact HB.out)) hb)
          clear BK317
          clear BK321
          clear BK325
          clear BK329
          clear HB
          have BK317 := n0_
          have BK321 := n1_
          have BK325 := n2_
          have BK329 := n3_
          have HB := n4_
          clear n0_ n1_ n2_ n3_ n4_
          (try clear hb)
          (try clear hb2)
          (try clear hk)
          (try clear hi)
          refine hK.out _ _ ⟨(blk_cell BK321.out 0).trans rfl, (blk_cell BK321.out 1).trans rfl, (blk_cell BK321.out 2).trans rfl, (blk_cell BK317.out 0).trans rfl, (blk_cell BK317.out 1).trans rfl, (blk_cell BK317.out 2).trans rfl⟩ (fun hHeld => ?_)
          clear hK K
          refine norm_ (a' := ?_) ?_ ?_
          rotate_left
          · show Act.put _ (some 32) _ = _
            simp only [Act.put, List.setIfInBounds_toArray, List.set_cons_zero, List.set_cons_succ, i64_w, i32_w]
            rfl
          refine one_ (i := 5) (N := some 9) #[true, true, true, true, true, true, false] rfl rfl (by kernel_rfl) (by decide) (fun K hK => ?_)
          refine box_step ?hg (N := 9) ?hd (cs := #[.float .f32 0, .float .f32 0, .float .f32 0]) (t := 26) ?hr ?_; (case hd => rfl); (case hg => rfl); (case hr => first | (go_simp; done) | (go_simp; rfl))
          intro gb336 hg w38 hbox hb
          have n0_ := AS (blk_below (g := gb317) (o := .cells #[.float .f32 t314, .float .f32 t315, .float .f32 t316] 26 (0, 0)) (by (with_reducible repeat (first | apply blk_drewN | apply blk_drew | apply blk_alloc)); exact BK317.out) hb)
          have n1_ := AS (blk_below (g := gb321) (o := .cells #[.float .f32 t318, .float .f32 t319, .float .f32 t320] 26 (0, 0)) (by (with_reducible repeat (first | apply blk_drewN | apply blk_drew | apply blk_alloc)); exact BK321.out) hb)
          have n2_ := AS (blk_below (g := gb325) (o := .cells #[.float .f32 t322, .float .f32 t323, .float .f32 t324] 26 (0, 0)) (by (with_reducible repeat (first | apply blk_drewN | apply blk_drew | apply blk_alloc)); exact BK325.out) hb)
          have n3_ := AS (blk_below (g := gb329) (o := .cells #[.float .f32 t326, .float .f32 t327, .float .f32 t328] 26 (0, 0)) (by (with_reducible repeat (first | apply blk_drewN | apply blk_drew | apply blk_alloc)); exact BK329.out) hb)
          have n4_ := AS (below_step (by repeat (first | (with_reducible first | exact HB.out | apply below_alloc | apply pw_below_drewN | apply below_drew1 | refine below_set ?_ GE317.out | refine below_set ?_ GE321.out | refine below_set ?_ GE325.out | refine below_set ?_ GE329.out) | exact HB.out)) hb)
          have n5_ := AS (hbox)
          have n6_ := AS ((by rw [hg]; exact (below_size (by repeat (first | (with_reducible first | exact HB.out | apply below_alloc | apply pw_below_drewN | apply below_drew1 | refine below_set ?_ GE317.out | refine below_set ?_ GE321.out | refine below_set ?_ GE325.out | refine below_set ?_ GE329.out) | exact HB.out))) : w.heap.size ≤ gb336))
          have n7_ := AS ((by rw [hg]; exact (below_size (by repeat (first | (with_reducible first | exact HB.out | apply below_alloc | apply pw_below_drewN | apply below_drew1 | refine below_set ?_ GE317.out | refine below_set ?_ GE321.out | refine below_set ?_ GE325.out | refine below_set ?_ GE329.out) | exact HB.out))) : w.heap.size ≤ gb336))
          have n8_ := AS ((by rw [hg]; exact Nat.ne_of_lt (blk_lt (g := gb317) (o := .cells #[.float .f32 t314, .float .f32 t315, .float .f32 t316] 26 (0, 0)) (by (with_reducible repeat (first | apply blk_drewN | apply blk_drew | apply blk_alloc)); exact BK317.out)) : gb317 ≠ gb336))
          have n9_ := AS ((by rw [hg]; exact Nat.ne_of_gt (blk_lt (g := gb317) (o := .cells #[.float .f32 t314, .float .f32 t315, .float .f32 t316] 26 (0, 0)) (by (with_reducible repeat (first | apply blk_drewN | apply blk_drew | apply blk_alloc)); exact BK317.out)) : gb336 ≠ gb317))
          have n10_ := AS ((by rw [hg]; exact Nat.ne_of_lt (blk_lt (g := gb321) (o := .cells #[.float .f32 t318, .float .f32 t319, .float .f32 t320] 26 (0, 0)) (by (with_reducible repeat (first | apply blk_drewN | apply blk_drew | apply blk_alloc)); exact BK321.out)) : gb321 ≠ gb336))
          have n11_ := AS ((by rw [hg]; exact Nat.ne_of_gt (blk_lt (g := gb321) (o := .cells #[.float .f32 t318, .float .f32 t319, .float .f32 t320] 26 (0, 0)) (by (with_reducible repeat (first | apply blk_drewN | apply blk_drew | apply blk_alloc)); exact BK321.out)) : gb336 ≠ gb321))
          have n12_ := AS ((by rw [hg]; exact Nat.ne_of_lt (blk_lt (g := gb325) (o := .cells #[.float .f32 t322, .float .f32 t323, .float .f32 t324] 26 (0, 0)) (by (with_reducible repeat (first | apply blk_drewN | apply blk_drew | apply blk_alloc)); exact BK325.out)) : gb325 ≠ gb336))
          have n13_ := AS ((by rw [hg]; exact Nat.ne_of_gt (blk_lt (g := gb325) (o := .cells #[.float .f32 t322, .float .f32 t323, .float .f32 t324] 26 (0, 0)) (by (with_reducible repeat (first | apply blk_drewN | apply blk_drew | apply blk_alloc)); exact BK325.out)) : gb336 ≠ gb325))
          have n14_ := AS ((by rw [hg]; exact Nat.ne_of_lt (blk_lt (g := gb329) (o := .cells #[.float .f32 t326, .float .f32 t327, .float .f32 t328] 26 (0, 0)) (by (with_reducible repeat (first | apply blk_drewN | apply blk_drew | apply blk_alloc)); exact BK329.out)) : gb329 ≠ gb336))
          have n15_ := AS ((by rw [hg]; exact Nat.ne_of_gt (blk_lt (g := gb329) (o := .cells #[.float .f32 t326, .float .f32 t327, .float .f32 t328] 26 (0, 0)) (by (with_reducible repeat (first | apply blk_drewN | apply blk_drew | apply blk_alloc)); exact BK329.out)) : gb336 ≠ gb329))
          clear BK317
          clear BK321
          clear BK325
          clear BK329
          clear HB
          have BK317 := n0_
          have BK321 := n1_
          have BK325 := n2_
          have BK329 := n3_
          have HB := n4_
          have BK336 := n5_
          have GW336 := n6_
          have GE336 := n7_
          have NB317_336 := n8_
          have NB336_317 := n9_
          have NB321_336 := n10_
          have NB336_321 := n11_
          have NB325_336 := n12_
          have NB336_325 := n13_
          have NB329_336 := n14_
          have NB336_329 := n15_
          clear n0_ n1_ n2_ n3_ n4_ n5_ n6_ n7_ n8_ n9_ n10_ n11_ n12_ n13_ n14_ n15_
          clear hb hbox hg
          refine hK.out _ _ ⟨(blk_cell BK321.out 0).trans rfl, (blk_cell BK321.out 1).trans rfl, (blk_cell BK321.out 2).trans rfl, (blk_cell BK317.out 0).trans rfl, (blk_cell BK317.out 1).trans rfl, (blk_cell BK317.out 2).trans rfl⟩ (fun hHeld => ?_)
          clear hK K
          refine norm_ (a' := ?_) ?_ ?_
          rotate_left
          · show Act.put _ (some 9) _ = _
            simp only [Act.put, List.setIfInBounds_toArray, List.set_cons_zero, List.set_cons_succ, i64_w, i32_w]
            rfl
          exact norm_ (by simp only [putAll, Act.put, List.setIfInBounds_toArray, List.set_cons_zero, List.set_cons_succ]) (hCont (gb336) _ ⟨hHeld, (by (with_reducible repeat (first | apply blk_drewN | apply blk_drew | apply blk_alloc)); exact BK317.out), (by (with_reducible repeat (first | apply blk_drewN | apply blk_drew | apply blk_alloc)); exact BK321.out), (by (with_reducible repeat (first | apply blk_drewN | apply blk_drew | apply blk_alloc)); exact BK325.out), (by (with_reducible repeat (first | apply blk_drewN | apply blk_drew | apply blk_alloc)); exact BK329.out), (by (with_reducible repeat (first | apply blk_drewN | apply blk_drew | apply blk_alloc)); exact BK336.out), GW336.out, GE336.out, NB317_336.out, NB336_317.out, NB321_336.out, NB336_321.out, NB325_336.out, NB336_325.out, NB329_336.out, NB336_329.out, (by repeat (first | (with_reducible first | exact HB.out | apply below_alloc | apply pw_below_drewN | apply below_drew1 | refine below_set ?_ GE317.out | refine below_set ?_ GE321.out | refine below_set ?_ GE325.out | refine below_set ?_ GE329.out | refine below_set ?_ GE336.out) | exact HB.out))⟩)
        · skip
          refine box_step ?hg (N := 9) ?hd (cs := #[.float .f32 0, .float .f32 0, .float .f32 0]) (t := 26) ?hr ?_; (case hd => rfl); (case hg => rfl); (case hr => first | (go_simp; done) | (go_simp; rfl))
          intro gb336 hg w37 hbox hb
          have n0_ := AS (blk_below (g := gb317) (o := .cells #[.float .f32 t314, .float .f32 t315, .float .f32 t316] 26 (0, 0)) (by (with_reducible repeat (first | apply blk_drewN | apply blk_drew | apply blk_alloc)); exact BK317.out) hb)
          have n1_ := AS (blk_below (g := gb321) (o := .cells #[.float .f32 t318, .float .f32 t319, .float .f32 t320] 26 (0, 0)) (by (with_reducible repeat (first | apply blk_drewN | apply blk_drew | apply blk_alloc)); exact BK321.out) hb)
          have n2_ := AS (blk_below (g := gb325) (o := .cells #[.float .f32 t322, .float .f32 t323, .float .f32 t324] 26 (0, 0)) (by (with_reducible repeat (first | apply blk_drewN | apply blk_drew | apply blk_alloc)); exact BK325.out) hb)
          have n3_ := AS (blk_below (g := gb329) (o := .cells #[.float .f32 t326, .float .f32 t327, .float .f32 t328] 26 (0, 0)) (by (with_reducible repeat (first | apply blk_drewN | apply blk_drew | apply blk_alloc)); exact BK329.out) hb)
          have n4_ := AS (below_step (by repeat (first | (with_reducible first | exact HB.out | apply below_alloc | apply pw_below_drewN | apply below_drew1 | refine below_set ?_ GE317.out | refine below_set ?_ GE321.out | refine below_set ?_ GE325.out | refine below_set ?_ GE329.out) | exact HB.out)) hb)
          have n5_ := AS (hbox)
          have n6_ := AS ((by rw [hg]; exact (below_size (by repeat (first | (with_reducible first | exact HB.out | apply below_alloc | apply pw_below_drewN | apply below_drew1 | refine below_set ?_ GE317.out | refine below_set ?_ GE321.out | refine below_set ?_ GE325.out | refine below_set ?_ GE329.out) | exact HB.out))) : w.heap.size ≤ gb336))
          have n7_ := AS ((by rw [hg]; exact (below_size (by repeat (first | (with_reducible first | exact HB.out | apply below_alloc | apply pw_below_drewN | apply below_drew1 | refine below_set ?_ GE317.out | refine below_set ?_ GE321.out | refine below_set ?_ GE325.out | refine below_set ?_ GE329.out) | exact HB.out))) : w.heap.size ≤ gb336))
          have n8_ := AS ((by rw [hg]; exact Nat.ne_of_lt (blk_lt (g := gb317) (o := .cells #[.float .f32 t314, .float .f32 t315, .float .f32 t316] 26 (0, 0)) (by (with_reducible repeat (first | apply blk_drewN | apply blk_drew | apply blk_alloc)); exact BK317.out)) : gb317 ≠ gb336))
          have n9_ := AS ((by rw [hg]; exact Nat.ne_of_gt (blk_lt (g := gb317) (o := .cells #[.float .f32 t314, .float .f32 t315, .float .f32 t316] 26 (0, 0)) (by (with_reducible repeat (first | apply blk_drewN | apply blk_drew | apply blk_alloc)); exact BK317.out)) : gb336 ≠ gb317))
          have n10_ := AS ((by rw [hg]; exact Nat.ne_of_lt (blk_lt (g := gb321) (o := .cells #[.float .f32 t318, .float .f32 t319, .float .f32 t320] 26 (0, 0)) (by (with_reducible repeat (first | apply blk_drewN | apply blk_drew | apply blk_alloc)); exact BK321.out)) : gb321 ≠ gb336))
          have n11_ := AS ((by rw [hg]; exact Nat.ne_of_gt (blk_lt (g := gb321) (o := .cells #[.float .f32 t318, .float .f32 t319, .float .f32 t320] 26 (0, 0)) (by (with_reducible repeat (first | apply blk_drewN | apply blk_drew | apply blk_alloc)); exact BK321.out)) : gb336 ≠ gb321))
          have n12_ := AS ((by rw [hg]; exact Nat.ne_of_lt (blk_lt (g := gb325) (o := .cells #[.float .f32 t322, .float .f32 t323, .float .f32 t324] 26 (0, 0)) (by (with_reducible repeat (first | apply blk_drewN | apply blk_drew | apply blk_alloc)); exact BK325.out)) : gb325 ≠ gb336))
          have n13_ := AS ((by rw [hg]; exact Nat.ne_of_gt (blk_lt (g := gb325) (o := .cells #[.float .f32 t322, .float .f32 t323, .float .f32 t324] 26 (0, 0)) (by (with_reducible repeat (first | apply blk_drewN | apply blk_drew | apply blk_alloc)); exact BK325.out)) : gb336 ≠ gb325))
          have n14_ := AS ((by rw [hg]; exact Nat.ne_of_lt (blk_lt (g := gb329) (o := .cells #[.float .f32 t326, .float .f32 t327, .float .f32 t328] 26 (0, 0)) (by (with_reducible repeat (first | apply blk_drewN | apply blk_drew | apply blk_alloc)); exact BK329.out)) : gb329 ≠ gb336))
          have n15_ := AS ((by rw [hg]; exact Nat.ne_of_gt (blk_lt (g := gb329) (o := .cells #[.float .f32 t326, .float .f32 t327, .float .f32 t328] 26 (0, 0)) (by (with_reducible repeat (first | apply blk_drewN | apply blk_drew | apply blk_alloc)); exact BK329.out)) : gb336 ≠ gb329))
          clear BK317
          clear BK321
          clear BK325
          clear BK329
          clear HB
          have BK317 := n0_
          have BK321 := n1_
          have BK325 := n2_
          have BK329 := n3_
          have HB := n4_
          have BK336 := n5_
          have GW336 := n6_
          have GE336 := n7_
          have NB317_336 := n8_
          have NB336_317 := n9_
          have NB321_336 := n10_
          have NB336_321 := n11_
          have NB325_336 := n12_
          have NB336_325 := n13_
          have NB329_336 := n14_
          have NB336_329 := n15_
          clear n0_ n1_ n2_ n3_ n4_ n5_ n6_ n7_ n8_ n9_ n10_ n11_ n12_ n13_ n14_ n15_
          clear hb hbox hg
          refine hK.out _ _ ⟨(blk_cell BK321.out 0).trans rfl, (blk_cell BK321.out 1).trans rfl, (blk_cell BK321.out 2).trans rfl, (blk_cell BK317.out 0).trans rfl, (blk_cell BK317.out 1).trans rfl, (blk_cell BK317.out 2).trans rfl⟩ (fun hHeld => ?_)
          clear hK K
          refine norm_ (a' := ?_) ?_ ?_
          rotate_left
          · show Act.put _ (some 9) _ = _
            simp only [Act.put, List.setIfInBounds_toArray, List.set_cons_zero, List.set_cons_succ, i64_w, i32_w]
            rfl
          refine one_ (i := 4) (N := some 32) #[true, true, true, true, true, true, false] rfl rfl (by kernel_rfl) (by decide) (fun K hK => ?_)
          refine goes_ Tryd.func9 (by kernel_rfl) rfl #[.agg #[.float .f32 t318, .float .f32 t319, .float .f32 t320], .agg #[.float .f32 t330, .float .f32 t331, .float .f32 t332]] (by rfl) rfl rfl (by (try simp only [List.map_toArray, List.map_cons, List.map_nil]); first | done | rfl | (simp only [List.length_drop, List.length_take]; rfl)) ?_
          with_reducible refine (impl_AddVectors.calls t318 t319 t320 t330 t331 t332 t333 t334 t335 _ A10.out).mono ?_
          rintro e w38 ⟨rfl, hb⟩
          refine ⟨_, rfl, ?_⟩
          have n0_ := AS (blk_below (g := gb317) (o := .cells #[.float .f32 t314, .float .f32 t315, .float .f32 t316] 26 (0, 0)) (by (with_reducible repeat (first | apply blk_drewN | apply blk_drew | apply blk_alloc)); exact BK317.out) hb)
          have n1_ := AS (blk_below (g := gb321) (o := .cells #[.float .f32 t318, .float .f32 t319, .float .f32 t320] 26 (0, 0)) (by (with_reducible repeat (first | apply blk_drewN | apply blk_drew | apply blk_alloc)); exact BK321.out) hb)
          have n2_ := AS (blk_below (g := gb325) (o := .cells #[.float .f32 t322, .float .f32 t323, .float .f32 t324] 26 (0, 0)) (by (with_reducible repeat (first | apply blk_drewN | apply blk_drew | apply blk_alloc)); exact BK325.out) hb)
          have n3_ := AS (blk_below (g := gb329) (o := .cells #[.float .f32 t326, .float .f32 t327, .float .f32 t328] 26 (0, 0)) (by (with_reducible repeat (first | apply blk_drewN | apply blk_drew | apply blk_alloc)); exact BK329.out) hb)
          have n4_ := AS (blk_below (g := gb336) (o := .cells #[.float .f32 0, .float .f32 0, .float .f32 0] 26 (0, 0)) (by (with_reducible repeat (first | apply blk_drewN | apply blk_drew | apply blk_alloc)); exact BK336.out) hb)
          have n5_ := AS (below_step (by repeat (first | (with_reducible first | exact HB.out | apply below_alloc | apply pw_below_drewN | apply below_drew1 | refine below_set ?_ GE317.out | refine below_set ?_ GE321.out | refine below_set ?_ GE325.out | refine below_set ?_ GE329.out | refine below_set ?_ GE336.out) | exact HB.out)) hb)
          clear BK317
          clear BK321
          clear BK325
          clear BK329
          clear BK336
          clear HB
          have BK317 := n0_
          have BK321 := n1_
          have BK325 := n2_
          have BK329 := n3_
          have BK336 := n4_
          have HB := n5_
          clear n0_ n1_ n2_ n3_ n4_ n5_
          (try clear hb)
          (try clear hb2)
          (try clear hk)
          (try clear hi)
          refine hK.out _ _ ⟨(blk_cell BK321.out 0).trans rfl, (blk_cell BK321.out 1).trans rfl, (blk_cell BK321.out 2).trans rfl, (blk_cell BK317.out 0).trans rfl, (blk_cell BK317.out 1).trans rfl, (blk_cell BK317.out 2).trans rfl⟩ (fun hHeld => ?_)
          clear hK K
          refine norm_ (a' := ?_) ?_ ?_
          rotate_left
          · show Act.put _ (some 32) _ = _
            simp only [Act.put, List.setIfInBounds_toArray, List.set_cons_zero, List.set_cons_succ, i64_w, i32_w]
            rfl
          exact norm_ (by simp only [putAll, Act.put, List.setIfInBounds_toArray, List.set_cons_zero, List.set_cons_succ]) (hCont (gb336) _ ⟨hHeld, (by (with_reducible repeat (first | apply blk_drewN | apply blk_drew | apply blk_alloc)); exact BK317.out), (by (with_reducible repeat (first | apply blk_drewN | apply blk_drew | apply blk_alloc)); exact BK321.out), (by (with_reducible repeat (first | apply blk_drewN | apply blk_drew | apply blk_alloc)); exact BK325.out), (by (with_reducible repeat (first | apply blk_drewN | apply blk_drew | apply blk_alloc)); exact BK329.out), (by (with_reducible repeat (first | apply blk_drewN | apply blk_drew | apply blk_alloc)); exact BK336.out), GW336.out, GE336.out, NB317_336.out, NB336_317.out, NB321_336.out, NB336_321.out, NB325_336.out, NB336_325.out, NB329_336.out, NB336_329.out, (by repeat (first | (with_reducible first | exact HB.out | apply below_alloc | apply pw_below_drewN | apply below_drew1 | refine below_set ?_ GE317.out | refine below_set ?_ GE321.out | refine below_set ?_ GE325.out | refine below_set ?_ GE329.out | refine below_set ?_ GE336.out) | exact HB.out))⟩)
      · skip
        refine box_step ?hg (N := 9) ?hd (cs := #[.float .f32 0, .float .f32 0, .float .f32 0]) (t := 26) ?hr ?_; (case hd => rfl); (case hg => rfl); (case hr => first | (go_simp; done) | (go_simp; rfl))
        intro gb336 hg w36 hbox hb
        have n0_ := AS (blk_below (g := gb317) (o := .cells #[.float .f32 t314, .float .f32 t315, .float .f32 t316] 26 (0, 0)) (by (with_reducible repeat (first | apply blk_drewN | apply blk_drew | apply blk_alloc)); exact BK317.out) hb)
        have n1_ := AS (blk_below (g := gb321) (o := .cells #[.float .f32 t318, .float .f32 t319, .float .f32 t320] 26 (0, 0)) (by (with_reducible repeat (first | apply blk_drewN | apply blk_drew | apply blk_alloc)); exact BK321.out) hb)
        have n2_ := AS (blk_below (g := gb325) (o := .cells #[.float .f32 t322, .float .f32 t323, .float .f32 t324] 26 (0, 0)) (by (with_reducible repeat (first | apply blk_drewN | apply blk_drew | apply blk_alloc)); exact BK325.out) hb)
        have n3_ := AS (blk_below (g := gb329) (o := .cells #[.float .f32 t326, .float .f32 t327, .float .f32 t328] 26 (0, 0)) (by (with_reducible repeat (first | apply blk_drewN | apply blk_drew | apply blk_alloc)); exact BK329.out) hb)
        have n4_ := AS (below_step (by repeat (first | (with_reducible first | exact HB.out | apply below_alloc | apply pw_below_drewN | apply below_drew1 | refine below_set ?_ GE317.out | refine below_set ?_ GE321.out | refine below_set ?_ GE325.out | refine below_set ?_ GE329.out) | exact HB.out)) hb)
        have n5_ := AS (hbox)
        have n6_ := AS ((by rw [hg]; exact (below_size (by repeat (first | (with_reducible first | exact HB.out | apply below_alloc | apply pw_below_drewN | apply below_drew1 | refine below_set ?_ GE317.out | refine below_set ?_ GE321.out | refine below_set ?_ GE325.out | refine below_set ?_ GE329.out) | exact HB.out))) : w.heap.size ≤ gb336))
        have n7_ := AS ((by rw [hg]; exact (below_size (by repeat (first | (with_reducible first | exact HB.out | apply below_alloc | apply pw_below_drewN | apply below_drew1 | refine below_set ?_ GE317.out | refine below_set ?_ GE321.out | refine below_set ?_ GE325.out | refine below_set ?_ GE329.out) | exact HB.out))) : w.heap.size ≤ gb336))
        have n8_ := AS ((by rw [hg]; exact Nat.ne_of_lt (blk_lt (g := gb317) (o := .cells #[.float .f32 t314, .float .f32 t315, .float .f32 t316] 26 (0, 0)) (by (with_reducible repeat (first | apply blk_drewN | apply blk_drew | apply blk_alloc)); exact BK317.out)) : gb317 ≠ gb336))
        have n9_ := AS ((by rw [hg]; exact Nat.ne_of_gt (blk_lt (g := gb317) (o := .cells #[.float .f32 t314, .float .f32 t315, .float .f32 t316] 26 (0, 0)) (by (with_reducible repeat (first | apply blk_drewN | apply blk_drew | apply blk_alloc)); exact BK317.out)) : gb336 ≠ gb317))
        have n10_ := AS ((by rw [hg]; exact Nat.ne_of_lt (blk_lt (g := gb321) (o := .cells #[.float .f32 t318, .float .f32 t319, .float .f32 t320] 26 (0, 0)) (by (with_reducible repeat (first | apply blk_drewN | apply blk_drew | apply blk_alloc)); exact BK321.out)) : gb321 ≠ gb336))
        have n11_ := AS ((by rw [hg]; exact Nat.ne_of_gt (blk_lt (g := gb321) (o := .cells #[.float .f32 t318, .float .f32 t319, .float .f32 t320] 26 (0, 0)) (by (with_reducible repeat (first | apply blk_drewN | apply blk_drew | apply blk_alloc)); exact BK321.out)) : gb336 ≠ gb321))
        have n12_ := AS ((by rw [hg]; exact Nat.ne_of_lt (blk_lt (g := gb325) (o := .cells #[.float .f32 t322, .float .f32 t323, .float .f32 t324] 26 (0, 0)) (by (with_reducible repeat (first | apply blk_drewN | apply blk_drew | apply blk_alloc)); exact BK325.out)) : gb325 ≠ gb336))
        have n13_ := AS ((by rw [hg]; exact Nat.ne_of_gt (blk_lt (g := gb325) (o := .cells #[.float .f32 t322, .float .f32 t323, .float .f32 t324] 26 (0, 0)) (by (with_reducible repeat (first | apply blk_drewN | apply blk_drew | apply blk_alloc)); exact BK325.out)) : gb336 ≠ gb325))
        have n14_ := AS ((by rw [hg]; exact Nat.ne_of_lt (blk_lt (g := gb329) (o := .cells #[.float .f32 t326, .float .f32 t327, .float .f32 t328] 26 (0, 0)) (by (with_reducible repeat (first | apply blk_drewN | apply blk_drew | apply blk_alloc)); exact BK329.out)) : gb329 ≠ gb336))
        have n15_ := AS ((by rw [hg]; exact Nat.ne_of_gt (blk_lt (g := gb329) (o := .cells #[.float .f32 t326, .float .f32 t327, .float .f32 t328] 26 (0, 0)) (by (with_reducible repeat (first | apply blk_drewN | apply blk_drew | apply blk_alloc)); exact BK329.out)) : gb336 ≠ gb329))
        clear BK317
        clear BK321
        clear BK325
        clear BK329
        clear HB
        have BK317 := n0_
        have BK321 := n1_
        have BK325 := n2_
        have BK329 := n3_
        have HB := n4_
        have BK336 := n5_
        have GW336 := n6_
        have GE336 := n7_
        have NB317_336 := n8_
        have NB336_317 := n9_
        have NB321_336 := n10_
        have NB336_321 := n11_
        have NB325_336 := n12_
        have NB336_325 := n13_
        have NB329_336 := n14_
        have NB336_329 := n15_
        clear n0_ n1_ n2_ n3_ n4_ n5_ n6_ n7_ n8_ n9_ n10_ n11_ n12_ n13_ n14_ n15_
        clear hb hbox hg
        refine hK.out _ _ ⟨(blk_cell BK321.out 0).trans rfl, (blk_cell BK321.out 1).trans rfl, (blk_cell BK321.out 2).trans rfl, (blk_cell BK317.out 0).trans rfl, (blk_cell BK317.out 1).trans rfl, (blk_cell BK317.out 2).trans rfl⟩ (fun hHeld => ?_)
        clear hK K
        refine norm_ (a' := ?_) ?_ ?_
        rotate_left
        · show Act.put _ (some 9) _ = _
          simp only [Act.put, List.setIfInBounds_toArray, List.set_cons_zero, List.set_cons_succ, i64_w, i32_w]
          rfl
        refine one_ (i := 3) (N := some 31) #[true, true, true, true, false, true, false] rfl rfl (by kernel_rfl) (by decide) (fun K hK => ?_)
        refine goes_ Tryd.func10 (by kernel_rfl) rfl #[.agg #[.float .f32 t314, .float .f32 t315, .float .f32 t316], .agg #[.float .f32 t318, .float .f32 t319, .float .f32 t320]] (by rfl) rfl rfl (by (try simp only [List.map_toArray, List.map_cons, List.map_nil]); first | done | rfl | (simp only [List.length_drop, List.length_take]; rfl)) ?_
        with_reducible refine (impl_LessVectors.calls t314 t315 t316 t318 t319 t320 t330 t331 t332 _ A9.out).mono ?_
        rintro e w37 ⟨rfl, hb⟩
        refine ⟨_, rfl, ?_⟩
        have n0_ := AS (blk_below (g := gb317) (o := .cells #[.float .f32 t314, .float .f32 t315, .float .f32 t316] 26 (0, 0)) (by (with_reducible repeat (first | apply blk_drewN | apply blk_drew | apply blk_alloc)); exact BK317.out) hb)
        have n1_ := AS (blk_below (g := gb321) (o := .cells #[.float .f32 t318, .float .f32 t319, .float .f32 t320] 26 (0, 0)) (by (with_reducible repeat (first | apply blk_drewN | apply blk_drew | apply blk_alloc)); exact BK321.out) hb)
        have n2_ := AS (blk_below (g := gb325) (o := .cells #[.float .f32 t322, .float .f32 t323, .float .f32 t324] 26 (0, 0)) (by (with_reducible repeat (first | apply blk_drewN | apply blk_drew | apply blk_alloc)); exact BK325.out) hb)
        have n3_ := AS (blk_below (g := gb329) (o := .cells #[.float .f32 t326, .float .f32 t327, .float .f32 t328] 26 (0, 0)) (by (with_reducible repeat (first | apply blk_drewN | apply blk_drew | apply blk_alloc)); exact BK329.out) hb)
        have n4_ := AS (blk_below (g := gb336) (o := .cells #[.float .f32 0, .float .f32 0, .float .f32 0] 26 (0, 0)) (by (with_reducible repeat (first | apply blk_drewN | apply blk_drew | apply blk_alloc)); exact BK336.out) hb)
        have n5_ := AS (below_step (by repeat (first | (with_reducible first | exact HB.out | apply below_alloc | apply pw_below_drewN | apply below_drew1 | refine below_set ?_ GE317.out | refine below_set ?_ GE321.out | refine below_set ?_ GE325.out | refine below_set ?_ GE329.out | refine below_set ?_ GE336.out) | exact HB.out)) hb)
        clear BK317
        clear BK321
        clear BK325
        clear BK329
        clear BK336
        clear HB
        have BK317 := n0_
        have BK321 := n1_
        have BK325 := n2_
        have BK329 := n3_
        have BK336 := n4_
        have HB := n5_
        clear n0_ n1_ n2_ n3_ n4_ n5_
        (try clear hb)
        (try clear hb2)
        (try clear hk)
        (try clear hi)
        refine hK.out _ _ ⟨(blk_cell BK321.out 0).trans rfl, (blk_cell BK321.out 1).trans rfl, (blk_cell BK321.out 2).trans rfl, (blk_cell BK317.out 0).trans rfl, (blk_cell BK317.out 1).trans rfl, (blk_cell BK317.out 2).trans rfl⟩ (fun hHeld => ?_)
        clear hK K
        refine norm_ (a' := ?_) ?_ ?_
        rotate_left
        · show Act.put _ (some 31) _ = _
          simp only [Act.put, List.setIfInBounds_toArray, List.set_cons_zero, List.set_cons_succ, i64_w, i32_w]
          rfl
        refine one_ (i := 4) (N := some 32) #[true, true, true, true, true, true, false] rfl rfl (by kernel_rfl) (by decide) (fun K hK => ?_)
        refine goes_ Tryd.func9 (by kernel_rfl) rfl #[.agg #[.float .f32 t318, .float .f32 t319, .float .f32 t320], .agg #[.float .f32 t330, .float .f32 t331, .float .f32 t332]] (by rfl) rfl rfl (by (try simp only [List.map_toArray, List.map_cons, List.map_nil]); first | done | rfl | (simp only [List.length_drop, List.length_take]; rfl)) ?_
        with_reducible refine (impl_AddVectors.calls t318 t319 t320 t330 t331 t332 t333 t334 t335 _ A10.out).mono ?_
        rintro e w38 ⟨rfl, hb⟩
        refine ⟨_, rfl, ?_⟩
        have n0_ := AS (blk_below (g := gb317) (o := .cells #[.float .f32 t314, .float .f32 t315, .float .f32 t316] 26 (0, 0)) (by (with_reducible repeat (first | apply blk_drewN | apply blk_drew | apply blk_alloc)); exact BK317.out) hb)
        have n1_ := AS (blk_below (g := gb321) (o := .cells #[.float .f32 t318, .float .f32 t319, .float .f32 t320] 26 (0, 0)) (by (with_reducible repeat (first | apply blk_drewN | apply blk_drew | apply blk_alloc)); exact BK321.out) hb)
        have n2_ := AS (blk_below (g := gb325) (o := .cells #[.float .f32 t322, .float .f32 t323, .float .f32 t324] 26 (0, 0)) (by (with_reducible repeat (first | apply blk_drewN | apply blk_drew | apply blk_alloc)); exact BK325.out) hb)
        have n3_ := AS (blk_below (g := gb329) (o := .cells #[.float .f32 t326, .float .f32 t327, .float .f32 t328] 26 (0, 0)) (by (with_reducible repeat (first | apply blk_drewN | apply blk_drew | apply blk_alloc)); exact BK329.out) hb)
        have n4_ := AS (blk_below (g := gb336) (o := .cells #[.float .f32 0, .float .f32 0, .float .f32 0] 26 (0, 0)) (by (with_reducible repeat (first | apply blk_drewN | apply blk_drew | apply blk_alloc)); exact BK336.out) hb)
        have n5_ := AS (below_step (by repeat (first | (with_reducible first | exact HB.out | apply below_alloc | apply pw_below_drewN | apply below_drew1 | refine below_set ?_ GE317.out | refine below_set ?_ GE321.out | refine below_set ?_ GE325.out | refine below_set ?_ GE329.out | refine below_set ?_ GE336.out) | exact HB.out)) hb)
        clear BK317
        clear BK321
        clear BK325
        clear BK329
        clear BK336
        clear HB
        have BK317 := n0_
        have BK321 := n1_
        have BK325 := n2_
        have BK329 := n3_
        have BK336 := n4_
        have HB := n5_
        clear n0_ n1_ n2_ n3_ n4_ n5_
        (try clear hb)
        (try clear hb2)
        (try clear hk)
        (try clear hi)
        refine hK.out _ _ ⟨(blk_cell BK321.out 0).trans rfl, (blk_cell BK321.out 1).trans rfl, (blk_cell BK321.out 2).trans rfl, (blk_cell BK317.out 0).trans rfl, (blk_cell BK317.out 1).trans rfl, (blk_cell BK317.out 2).trans rfl⟩ (fun hHeld => ?_)
        clear hK K
        refine norm_ (a' := ?_) ?_ ?_
        rotate_left
        · show Act.put _ (some 32) _ = _
          simp only [Act.put, List.setIfInBounds_toArray, List.set_cons_zero, List.set_cons_succ, i64_w, i32_w]
          rfl
        exact norm_ (by simp only [putAll, Act.put, List.setIfInBounds_toArray, List.set_cons_zero, List.set_cons_succ]) (hCont (gb336) _ ⟨hHeld, (by (with_reducible repeat (first | apply blk_drewN | apply blk_drew | apply blk_alloc)); exact BK317.out), (by (with_reducible repeat (first | apply blk_drewN | apply blk_drew | apply blk_alloc)); exact BK321.out), (by (with_reducible repeat (first | apply blk_drewN | apply blk_drew | apply blk_alloc)); exact BK325.out), (by (with_reducible repeat (first | apply blk_drewN | apply blk_drew | apply blk_alloc)); exact BK329.out), (by (with_reducible repeat (first | apply blk_drewN | apply blk_drew | apply blk_alloc)); exact BK336.out), GW336.out, GE336.out, NB317_336.out, NB336_317.out, NB321_336.out, NB336_321.out, NB325_336.out, NB336_325.out, NB329_336.out, NB336_329.out, (by repeat (first | (with_reducible first | exact HB.out | apply below_alloc | apply pw_below_drewN | apply below_drew1 | refine below_set ?_ GE317.out | refine below_set ?_ GE321.out | refine below_set ?_ GE325.out | refine below_set ?_ GE329.out | refine below_set ?_ GE336.out) | exact HB.out))⟩)
    rintro gb336 w39 ⟨hS_, h0_, h1_, h2_, h3_, h4_, h5_, h6_, h7_, h8_, h9_, h10_, h11_, h12_, h13_, h14_, h15_⟩
    have n0_ : Aside0 (w39.heap[gb317]? = some (.cells #[.float .f32 t314, .float .f32 t315, .float .f32 t316] 26 (0, 0))) := ⟨h0_⟩
    have n1_ : Aside0 (w39.heap[gb321]? = some (.cells #[.float .f32 t318, .float .f32 t319, .float .f32 t320] 26 (0, 0))) := ⟨h1_⟩
    have n2_ : Aside0 (w39.heap[gb325]? = some (.cells #[.float .f32 t322, .float .f32 t323, .float .f32 t324] 26 (0, 0))) := ⟨h2_⟩
    have n3_ : Aside0 (w39.heap[gb329]? = some (.cells #[.float .f32 t326, .float .f32 t327, .float .f32 t328] 26 (0, 0))) := ⟨h3_⟩
    have n4_ : Aside0 (w39.heap[gb336]? = some (.cells #[.float .f32 0, .float .f32 0, .float .f32 0] 26 (0, 0))) := ⟨h4_⟩
    have n5_ : Aside0 (w.heap.size ≤ gb336) := ⟨h5_⟩
    have n6_ : Aside0 (w.heap.size ≤ gb336) := ⟨h6_⟩
    have n7_ : Aside0 (gb317 ≠ gb336) := ⟨h7_⟩
    have n8_ : Aside0 (gb336 ≠ gb317) := ⟨h8_⟩
    have n9_ : Aside0 (gb321 ≠ gb336) := ⟨h9_⟩
    have n10_ : Aside0 (gb336 ≠ gb321) := ⟨h10_⟩
    have n11_ : Aside0 (gb325 ≠ gb336) := ⟨h11_⟩
    have n12_ : Aside0 (gb336 ≠ gb325) := ⟨h12_⟩
    have n13_ : Aside0 (gb329 ≠ gb336) := ⟨h13_⟩
    have n14_ : Aside0 (gb336 ≠ gb329) := ⟨h14_⟩
    have n15_ : Aside0 (Below w.heap.size w w39) := ⟨h15_⟩
    clear BK317
    clear BK321
    clear BK325
    clear BK329
    clear HB
    clear h0_ h1_ h2_ h3_ h4_ h5_ h6_ h7_ h8_ h9_ h10_ h11_ h12_ h13_ h14_ h15_
    have BK317 := n0_
    have BK321 := n1_
    have BK325 := n2_
    have BK329 := n3_
    have BK336 := n4_
    have GW336 := n5_
    have GE336 := n6_
    have NB317_336 := n7_
    have NB336_317 := n8_
    have NB321_336 := n9_
    have NB336_321 := n10_
    have NB325_336 := n11_
    have NB336_325 := n12_
    have NB329_336 := n13_
    have NB336_329 := n14_
    have HB := n15_
    clear n0_ n1_ n2_ n3_ n4_ n5_ n6_ n7_ n8_ n9_ n10_ n11_ n12_ n13_ n14_ n15_
    have hHeld : w39.cell? ⟨gb321, 0, none⟩ = some (.float .f32 t318) ∧ w39.cell? ⟨gb321, 1, none⟩ = some (.float .f32 t319) ∧ w39.cell? ⟨gb321, 2, none⟩ = some (.float .f32 t320) ∧ w39.cell? ⟨gb317, 0, none⟩ = some (.float .f32 t314) ∧ w39.cell? ⟨gb317, 1, none⟩ = some (.float .f32 t315) ∧ w39.cell? ⟨gb317, 2, none⟩ = some (.float .f32 t316) := hS_
    refine norm_ (a' := ?_) ?_ ?_
    rotate_left
    · simp only [putAll, Act.put, List.setIfInBounds_toArray, List.set_cons_zero, List.set_cons_succ]
      rfl
    refine one_ (i := 6) (N := none) #[true, true, true, true, true, true, true] rfl rfl (by kernel_rfl) (by decide) (fun K hK => ?_)
    have hs40 : w39.cell? ⟨gb336, 0, none⟩ = some (.float .f32 0) := (blk_cell BK336.out 0).trans rfl
    have hfs40 := blk_frozen BK336.out 0
    have hns40_0 := NB317_336.out
    have hns40_1 := NB321_336.out
    have hns40_2 := NB325_336.out
    have hns40_3 := NB329_336.out
    have hms40_0 := NB336_317.out
    have hms40_1 := NB336_321.out
    have hms40_2 := NB336_325.out
    have hms40_3 := NB336_329.out
    have hs41 : w39.cell? ⟨gb336, 1, none⟩ = some (.float .f32 0) := (blk_cell BK336.out 1).trans rfl
    have hfs41 := blk_frozen BK336.out 1
    have hns41_0 := NB317_336.out
    have hns41_1 := NB321_336.out
    have hns41_2 := NB325_336.out
    have hns41_3 := NB329_336.out
    have hms41_0 := NB336_317.out
    have hms41_1 := NB336_321.out
    have hms41_2 := NB336_325.out
    have hms41_3 := NB336_329.out
    have hs42 : w39.cell? ⟨gb336, 2, none⟩ = some (.float .f32 0) := (blk_cell BK336.out 2).trans rfl
    have hfs42 := blk_frozen BK336.out 2
    have hns42_0 := NB317_336.out
    have hns42_1 := NB321_336.out
    have hns42_2 := NB325_336.out
    have hns42_3 := NB329_336.out
    have hms42_0 := NB336_317.out
    have hms42_1 := NB336_321.out
    have hms42_2 := NB336_325.out
    have hms42_3 := NB336_329.out
    refine skip_ (w1 := ?_) (by rfl) rfl ?_ ?_
    rotate_left
    · go_simp
      rfl
    refine hK.out _ _ ⟨((cell_far (p := ⟨gb336, _, none⟩) NB321_336.out _).trans (((cell_far (p := ⟨gb336, _, none⟩) NB321_336.out _).trans (((cell_far (p := ⟨gb336, _, none⟩) NB321_336.out _).trans (hHeld.1)))))), ((cell_far (p := ⟨gb336, _, none⟩) NB321_336.out _).trans (((cell_far (p := ⟨gb336, _, none⟩) NB321_336.out _).trans (((cell_far (p := ⟨gb336, _, none⟩) NB321_336.out _).trans (hHeld.2.1)))))), ((cell_far (p := ⟨gb336, _, none⟩) NB321_336.out _).trans (((cell_far (p := ⟨gb336, _, none⟩) NB321_336.out _).trans (((cell_far (p := ⟨gb336, _, none⟩) NB321_336.out _).trans (hHeld.2.2.1)))))), ((cell_far (p := ⟨gb336, _, none⟩) NB317_336.out _).trans (((cell_far (p := ⟨gb336, _, none⟩) NB317_336.out _).trans (((cell_far (p := ⟨gb336, _, none⟩) NB317_336.out _).trans (hHeld.2.2.2.1)))))), ((cell_far (p := ⟨gb336, _, none⟩) NB317_336.out _).trans (((cell_far (p := ⟨gb336, _, none⟩) NB317_336.out _).trans (((cell_far (p := ⟨gb336, _, none⟩) NB317_336.out _).trans (hHeld.2.2.2.2.1)))))), ((cell_far (p := ⟨gb336, _, none⟩) NB317_336.out _).trans (((cell_far (p := ⟨gb336, _, none⟩) NB317_336.out _).trans (((cell_far (p := ⟨gb336, _, none⟩) NB317_336.out _).trans (hHeld.2.2.2.2.2))))))⟩ (fun hHeld => ?_)
    clear hK K
    refine done_ (by kernel_rfl) ?_
    have hnb43 := NB317_336.out
    have hnc43 := NB336_317.out
    have hcz44_0 : w39.cell? ⟨gb317, 0, none⟩ = some (.float .f32 t314) := (blk_cell BK317.out 0).trans rfl
    have hcz44_1 : w39.cell? ⟨gb317, 1, none⟩ = some (.float .f32 t315) := (blk_cell BK317.out 1).trans rfl
    have hcz44_2 : w39.cell? ⟨gb317, 2, none⟩ = some (.float .f32 t316) := (blk_cell BK317.out 2).trans rfl
    have hfz44_0 := blk_frozen BK317.out 0
    have hfz44_1 := blk_frozen BK317.out 1
    have hfz44_2 := blk_frozen BK317.out 2
    go_upto_region 9 with (first | ((with_reducible refine gate_callee (f := 11) rfl ?_); refine goesL_ (some 34) rfl rfl Tryd.func11 (by kernel_rfl) rfl #[.agg #[.float .f32 t314, .float .f32 t315, .float .f32 t316], .float .f32 1073741824] rfl (by (try simp only [List.map_toArray, List.map_cons, List.map_nil]); first | done | rfl | (simp only [List.length_drop, List.length_take]; rfl)) ?_; (with_reducible refine (impl_ScaleVector.calls t314 t315 t316 1073741824 t337 t338 t339 _ A11.out).mono ?_); rintro e w45 ⟨rfl, hb⟩; refine ⟨_, rfl, ?_⟩; have n0_ := AS (blk_below (g := gb317) (o := .cells #[.float .f32 t314, .float .f32 t315, .float .f32 t316] 26 (0, 0)) (by (with_reducible repeat (first | apply blk_drewN | apply blk_drew | apply blk_alloc)); refine blk_far ?_ NB317_336.out _; (with_reducible repeat (first | apply blk_drewN | apply blk_drew | apply blk_alloc)); refine blk_far ?_ NB317_336.out _; (with_reducible repeat (first | apply blk_drewN | apply blk_drew | apply blk_alloc)); refine blk_far ?_ NB317_336.out _; (with_reducible repeat (first | apply blk_drewN | apply blk_drew | apply blk_alloc)); exact BK317.out) hb); have n1_ := AS (blk_below (g := gb321) (o := .cells #[.float .f32 t318, .float .f32 t319, .float .f32 t320] 26 (0, 0)) (by (with_reducible repeat (first | apply blk_drewN | apply blk_drew | apply blk_alloc)); refine blk_far ?_ NB321_336.out _; (with_reducible repeat (first | apply blk_drewN | apply blk_drew | apply blk_alloc)); refine blk_far ?_ NB321_336.out _; (with_reducible repeat (first | apply blk_drewN | apply blk_drew | apply blk_alloc)); refine blk_far ?_ NB321_336.out _; (with_reducible repeat (first | apply blk_drewN | apply blk_drew | apply blk_alloc)); exact BK321.out) hb); have n2_ := AS (blk_below (g := gb325) (o := .cells #[.float .f32 t322, .float .f32 t323, .float .f32 t324] 26 (0, 0)) (by (with_reducible repeat (first | apply blk_drewN | apply blk_drew | apply blk_alloc)); refine blk_far ?_ NB325_336.out _; (with_reducible repeat (first | apply blk_drewN | apply blk_drew | apply blk_alloc)); refine blk_far ?_ NB325_336.out _; (with_reducible repeat (first | apply blk_drewN | apply blk_drew | apply blk_alloc)); refine blk_far ?_ NB325_336.out _; (with_reducible repeat (first | apply blk_drewN | apply blk_drew | apply blk_alloc)); exact BK325.out) hb); have n3_ := AS (blk_below (g := gb329) (o := .cells #[.float .f32 t326, .float .f32 t327, .float .f32 t328] 26 (0, 0)) (by (with_reducible repeat (first | apply blk_drewN | apply blk_drew | apply blk_alloc)); refine blk_far ?_ NB329_336.out _; (with_reducible repeat (first | apply blk_drewN | apply blk_drew | apply blk_alloc)); refine blk_far ?_ NB329_336.out _; (with_reducible repeat (first | apply blk_drewN | apply blk_drew | apply blk_alloc)); refine blk_far ?_ NB329_336.out _; (with_reducible repeat (first | apply blk_drewN | apply blk_drew | apply blk_alloc)); exact BK329.out) hb); have n4_ := AS (blk_below (g := gb336) (o := .cells #[.float .f32 t333, .float .f32 t334, .float .f32 t335] 26 (0, 0)) (by (with_reducible repeat (first | apply blk_drewN | apply blk_drew | apply blk_alloc)); refine blk_put (cs := #[.float .f32 t333, .float .f32 t334, .float .f32 0]) ?_ 2 _ rfl; (with_reducible repeat (first | apply blk_drewN | apply blk_drew | apply blk_alloc)); refine blk_put (cs := #[.float .f32 t333, .float .f32 0, .float .f32 0]) ?_ 1 _ rfl; (with_reducible repeat (first | apply blk_drewN | apply blk_drew | apply blk_alloc)); refine blk_put (cs := #[.float .f32 0, .float .f32 0, .float .f32 0]) ?_ 0 _ rfl; (with_reducible repeat (first | apply blk_drewN | apply blk_drew | apply blk_alloc)); exact BK336.out) hb); have n5_ := AS (below_step (by repeat (first | (with_reducible first | exact HB.out | apply below_alloc | apply pw_below_drewN | apply below_drew1 | refine below_set ?_ GE317.out | refine below_set ?_ GE321.out | refine below_set ?_ GE325.out | refine below_set ?_ GE329.out | refine below_set ?_ GE336.out) | exact HB.out)) hb); clear BK317; clear BK321; clear BK325; clear BK329; clear BK336; clear HB; have BK317 := n0_; have BK321 := n1_; have BK325 := n2_; have BK329 := n3_; have BK336 := n4_; have HB := n5_; clear n0_ n1_ n2_ n3_ n4_ n5_; (try clear hb); (try clear hb2); (try clear hk); (try clear hi)) | ((with_reducible refine gate_dst (N := 10) rfl ?_); (try (refine gate_guard (by rfl) ?_; dsimp only)); refine box_event ?hg (N := 10) ?hd (cs := #[.float .f32 0, .float .f32 0, .float .f32 0]) (t := 26) ?hr ?_; (case hd => rfl); (case hg => rfl); (case hr => first | (go_simp; done) | (go_simp; rfl)); intro gb340 hg w46 hbox hb; have n0_ := AS (blk_below (g := gb317) (o := .cells #[.float .f32 t314, .float .f32 t315, .float .f32 t316] 26 (0, 0)) (by (with_reducible repeat (first | apply blk_drewN | apply blk_drew | apply blk_alloc)); exact BK317.out) hb); have n1_ := AS (blk_below (g := gb321) (o := .cells #[.float .f32 t318, .float .f32 t319, .float .f32 t320] 26 (0, 0)) (by (with_reducible repeat (first | apply blk_drewN | apply blk_drew | apply blk_alloc)); exact BK321.out) hb); have n2_ := AS (blk_below (g := gb325) (o := .cells #[.float .f32 t322, .float .f32 t323, .float .f32 t324] 26 (0, 0)) (by (with_reducible repeat (first | apply blk_drewN | apply blk_drew | apply blk_alloc)); exact BK325.out) hb); have n3_ := AS (blk_below (g := gb329) (o := .cells #[.float .f32 t326, .float .f32 t327, .float .f32 t328] 26 (0, 0)) (by (with_reducible repeat (first | apply blk_drewN | apply blk_drew | apply blk_alloc)); exact BK329.out) hb); have n4_ := AS (blk_below (g := gb336) (o := .cells #[.float .f32 t333, .float .f32 t334, .float .f32 t335] 26 (0, 0)) (by (with_reducible repeat (first | apply blk_drewN | apply blk_drew | apply blk_alloc)); exact BK336.out) hb); have n5_ := AS (below_step (by repeat (first | (with_reducible first | exact HB.out | apply below_alloc | apply pw_below_drewN | apply below_drew1 | refine below_set ?_ GE317.out | refine below_set ?_ GE321.out | refine below_set ?_ GE325.out | refine below_set ?_ GE329.out | refine below_set ?_ GE336.out) | exact HB.out)) hb); have n6_ := AS (hbox); have n7_ := AS ((by rw [hg]; exact (below_size (by repeat (first | (with_reducible first | exact HB.out | apply below_alloc | apply pw_below_drewN | apply below_drew1 | refine below_set ?_ GE317.out | refine below_set ?_ GE321.out | refine below_set ?_ GE325.out | refine below_set ?_ GE329.out | refine below_set ?_ GE336.out) | exact HB.out))) : w.heap.size ≤ gb340)); have n8_ := AS ((by rw [hg]; exact (below_size (by repeat (first | (with_reducible first | exact HB.out | apply below_alloc | apply pw_below_drewN | apply below_drew1 | refine below_set ?_ GE317.out | refine below_set ?_ GE321.out | refine below_set ?_ GE325.out | refine below_set ?_ GE329.out | refine below_set ?_ GE336.out) | exact HB.out))) : w.heap.size ≤ gb340)); have n9_ := AS ((by rw [hg]; exact Nat.ne_of_lt (blk_lt (g := gb317) (o := .cells #[.float .f32 t314, .float .f32 t315, .float .f32 t316] 26 (0, 0)) (by (with_reducible repeat (first | apply blk_drewN | apply blk_drew | apply blk_alloc)); exact BK317.out)) : gb317 ≠ gb340)); have n10_ := AS ((by rw [hg]; exact Nat.ne_of_gt (blk_lt (g := gb317) (o := .cells #[.float .f32 t314, .float .f32 t315, .float .f32 t316] 26 (0, 0)) (by (with_reducible repeat (first | apply blk_drewN | apply blk_drew | apply blk_alloc)); exact BK317.out)) : gb340 ≠ gb317)); have n11_ := AS ((by rw [hg]; exact Nat.ne_of_lt (blk_lt (g := gb321) (o := .cells #[.float .f32 t318, .float .f32 t319, .float .f32 t320] 26 (0, 0)) (by (with_reducible repeat (first | apply blk_drewN | apply blk_drew | apply blk_alloc)); exact BK321.out)) : gb321 ≠ gb340)); have n12_ := AS ((by rw [hg]; exact Nat.ne_of_gt (blk_lt (g := gb321) (o := .cells #[.float .f32 t318, .float .f32 t319, .float .f32 t320] 26 (0, 0)) (by (with_reducible repeat (first | apply blk_drewN | apply blk_drew | apply blk_alloc)); exact BK321.out)) : gb340 ≠ gb321)); have n13_ := AS ((by rw [hg]; exact Nat.ne_of_lt (blk_lt (g := gb325) (o := .cells #[.float .f32 t322, .float .f32 t323, .float .f32 t324] 26 (0, 0)) (by (with_reducible repeat (first | apply blk_drewN | apply blk_drew | apply blk_alloc)); exact BK325.out)) : gb325 ≠ gb340)); have n14_ := AS ((by rw [hg]; exact Nat.ne_of_gt (blk_lt (g := gb325) (o := .cells #[.float .f32 t322, .float .f32 t323, .float .f32 t324] 26 (0, 0)) (by (with_reducible repeat (first | apply blk_drewN | apply blk_drew | apply blk_alloc)); exact BK325.out)) : gb340 ≠ gb325)); have n15_ := AS ((by rw [hg]; exact Nat.ne_of_lt (blk_lt (g := gb329) (o := .cells #[.float .f32 t326, .float .f32 t327, .float .f32 t328] 26 (0, 0)) (by (with_reducible repeat (first | apply blk_drewN | apply blk_drew | apply blk_alloc)); exact BK329.out)) : gb329 ≠ gb340)); have n16_ := AS ((by rw [hg]; exact Nat.ne_of_gt (blk_lt (g := gb329) (o := .cells #[.float .f32 t326, .float .f32 t327, .float .f32 t328] 26 (0, 0)) (by (with_reducible repeat (first | apply blk_drewN | apply blk_drew | apply blk_alloc)); exact BK329.out)) : gb340 ≠ gb329)); have n17_ := AS ((by rw [hg]; exact Nat.ne_of_lt (blk_lt (g := gb336) (o := .cells #[.float .f32 t333, .float .f32 t334, .float .f32 t335] 26 (0, 0)) (by (with_reducible repeat (first | apply blk_drewN | apply blk_drew | apply blk_alloc)); exact BK336.out)) : gb336 ≠ gb340)); have n18_ := AS ((by rw [hg]; exact Nat.ne_of_gt (blk_lt (g := gb336) (o := .cells #[.float .f32 t333, .float .f32 t334, .float .f32 t335] 26 (0, 0)) (by (with_reducible repeat (first | apply blk_drewN | apply blk_drew | apply blk_alloc)); exact BK336.out)) : gb340 ≠ gb336)); clear BK317; clear BK321; clear BK325; clear BK329; clear BK336; clear HB; have BK317 := n0_; have BK321 := n1_; have BK325 := n2_; have BK329 := n3_; have BK336 := n4_; have HB := n5_; have BK340 := n6_; have GW340 := n7_; have GE340 := n8_; have NB317_340 := n9_; have NB340_317 := n10_; have NB321_340 := n11_; have NB340_321 := n12_; have NB325_340 := n13_; have NB340_325 := n14_; have NB329_340 := n15_; have NB340_329 := n16_; have NB336_340 := n17_; have NB340_336 := n18_; clear n0_ n1_ n2_ n3_ n4_ n5_ n6_ n7_ n8_ n9_ n10_ n11_ n12_ n13_ n14_ n15_ n16_ n17_ n18_; clear hb hbox hg; have hnb47 := NB340_317.out; have hnc47 := NB317_340.out; have hnb48 := NB340_321.out; have hnc48 := NB321_340.out; have hnb49 := NB340_325.out; have hnc49 := NB325_340.out; have hnb50 := NB340_329.out; have hnc50 := NB329_340.out; have hnb51 := NB340_336.out; have hnc51 := NB336_340.out; have hcz52_0 : w46.cell? ⟨gb340, 0, none⟩ = some (.float .f32 0) := (blk_cell BK340.out 0).trans rfl; have hcz52_1 : w46.cell? ⟨gb340, 1, none⟩ = some (.float .f32 0) := (blk_cell BK340.out 1).trans rfl; have hcz52_2 : w46.cell? ⟨gb340, 2, none⟩ = some (.float .f32 0) := (blk_cell BK340.out 2).trans rfl; have hfz52_0 := blk_frozen BK340.out 0; have hfz52_1 := blk_frozen BK340.out 1; have hfz52_2 := blk_frozen BK340.out 2))
    (try simp only [Act.put, List.setIfInBounds_toArray, List.set_cons_zero, List.set_cons_succ])
    go_cut [82] (fun v82 wc => ∃ (kq : Nat) (x82_11 : Bool), v82 = .bool x82_11 ∧ Aside0 (laws_FnVectors.j0 kq l0 x82_11 t314 t315 t316 t318 t319 t320 = some true) ∧ Aside0 (kq ≤ k) ∧ Aside0 (wc.heap[gb317]? = some (.cells #[.float .f32 t314, .float .f32 t315, .float .f32 t316] 26 (0, 0))) ∧ Aside0 (wc.heap[gb321]? = some (.cells #[.float .f32 t318, .float .f32 t319, .float .f32 t320] 26 (0, 0))) ∧ Aside0 (wc.heap[gb325]? = some (.cells #[.float .f32 t322, .float .f32 t323, .float .f32 t324] 26 (0, 0))) ∧ Aside0 (wc.heap[gb329]? = some (.cells #[.float .f32 t326, .float .f32 t327, .float .f32 t328] 26 (0, 0))) ∧ Aside0 (wc.heap[gb336]? = some (.cells #[.float .f32 t333, .float .f32 t334, .float .f32 t335] 26 (0, 0))) ∧ Aside0 (wc.heap[gb340]? = some (.cells #[.float .f32 t337, .float .f32 t338, .float .f32 t339] 26 (0, 0))) ∧ Aside0 (Below w.heap.size w wc))
    case first =>
      have H := HC12.out
      clear HC12
      replace H := Option.bind_eq_some_iff.mp H
      obtain ⟨t341, A530, H⟩ := H
      replace H : (if t341 = true then ((impl_InnerOf.f t322 t323 t324 t314 t315 t316).bind fun t342 => (if (FloatKind.f32.format.order t342 0 != some .eq) = true then (laws_FnVectors.j0 k l0 true t314 t315 t316 t318 t319 t320) else ((impl_InnerOf.f t322 t323 t324 t318 t319 t320).bind fun t343 => (if (FloatKind.f32.format.order t343 0 != some .eq) = true then (laws_FnVectors.j0 k l0 true t314 t315 t316 t318 t319 t320) else ((impl_ScaleVector.f t326 t327 t328 3212836864).bind fun bt344 => ((laws_b10VEqual.f t322 t323 t324 bt344.1 bt344.2.1 bt344.2.2).bind fun t347 => (if t347 = true then ((impl_AddVectors.f t314 t315 t316 t314 t315 t316).bind fun bt348 => ((laws_b10VEqual.f t337 t338 t339 bt348.1 bt348.2.1 bt348.2.2).bind fun t351 => (if t351 = true then ((impl_InnerOf.f t314 t315 t316 t314 t315 t316).bind fun t352 => ((laws_b10Square.f t314 t315 t316).bind fun t353 => (if (FloatKind.f32.format.order t352 t353 != some .eq) = true then (laws_FnVectors.j0 k l0 true t314 t315 t316 t318 t319 t320) else ((impl_SizeOfVector.f t314 t315 t316).bind fun t354 => ((laws_b10Square.f t314 t315 t316).bind fun t355 => ((spec_RootNumber.f t355).bind fun t356 => ((spec_SameNumber.f t354 t356).bind fun t357 => (laws_FnVectors.j0 k l0 (!t357) t314 t315 t316 t318 t319 t320)))))))) else (laws_FnVectors.j0 k l0 true t314 t315 t316 t318 t319 t320)))) else (laws_FnVectors.j0 k l0 true t314 t315 t316 t318 t319 t320)))))))) else (laws_FnVectors.j0 k l0 true t314 t315 t316 t318 t319 t320)) = some true := H
      have A53 := AS A530
      clear A530
      by_cases c54 : t341 = true
      · subst c54
        have H1 : ((impl_InnerOf.f t322 t323 t324 t314 t315 t316).bind fun t342 => (if (FloatKind.f32.format.order t342 0 != some .eq) = true then (laws_FnVectors.j0 k l0 true t314 t315 t316 t318 t319 t320) else ((impl_InnerOf.f t322 t323 t324 t318 t319 t320).bind fun t343 => (if (FloatKind.f32.format.order t343 0 != some .eq) = true then (laws_FnVectors.j0 k l0 true t314 t315 t316 t318 t319 t320) else ((impl_ScaleVector.f t326 t327 t328 3212836864).bind fun bt344 => ((laws_b10VEqual.f t322 t323 t324 bt344.1 bt344.2.1 bt344.2.2).bind fun t347 => (if t347 = true then ((impl_AddVectors.f t314 t315 t316 t314 t315 t316).bind fun bt348 => ((laws_b10VEqual.f t337 t338 t339 bt348.1 bt348.2.1 bt348.2.2).bind fun t351 => (if t351 = true then ((impl_InnerOf.f t314 t315 t316 t314 t315 t316).bind fun t352 => ((laws_b10Square.f t314 t315 t316).bind fun t353 => (if (FloatKind.f32.format.order t352 t353 != some .eq) = true then (laws_FnVectors.j0 k l0 true t314 t315 t316 t318 t319 t320) else ((impl_SizeOfVector.f t314 t315 t316).bind fun t354 => ((laws_b10Square.f t314 t315 t316).bind fun t355 => ((spec_RootNumber.f t355).bind fun t356 => ((spec_SameNumber.f t354 t356).bind fun t357 => (laws_FnVectors.j0 k l0 (!t357) t314 t315 t316 t318 t319 t320)))))))) else (laws_FnVectors.j0 k l0 true t314 t315 t316 t318 t319 t320)))) else (laws_FnVectors.j0 k l0 true t314 t315 t316 t318 t319 t320)))))))) = some true := by rw [if_pos rfl] at H; exact H
        clear H
        have H := H1
        clear H1
        replace H := Option.bind_eq_some_iff.mp H
        obtain ⟨t342, A550, H⟩ := H
        replace H : (if (FloatKind.f32.format.order t342 0 != some .eq) = true then (laws_FnVectors.j0 k l0 true t314 t315 t316 t318 t319 t320) else ((impl_InnerOf.f t322 t323 t324 t318 t319 t320).bind fun t343 => (if (FloatKind.f32.format.order t343 0 != some .eq) = true then (laws_FnVectors.j0 k l0 true t314 t315 t316 t318 t319 t320) else ((impl_ScaleVector.f t326 t327 t328 3212836864).bind fun bt344 => ((laws_b10VEqual.f t322 t323 t324 bt344.1 bt344.2.1 bt344.2.2).bind fun t347 => (if t347 = true then ((impl_AddVectors.f t314 t315 t316 t314 t315 t316).bind fun bt348 => ((laws_b10VEqual.f t337 t338 t339 bt348.1 bt348.2.1 bt348.2.2).bind fun t351 => (if t351 = true then ((impl_InnerOf.f t314 t315 t316 t314 t315 t316).bind fun t352 => ((laws_b10Square.f t314 t315 t316).bind fun t353 => (if (FloatKind.f32.format.order t352 t353 != some .eq) = true then (laws_FnVectors.j0 k l0 true t314 t315 t316 t318 t319 t320) else ((impl_SizeOfVector.f t314 t315 t316).bind fun t354 => ((laws_b10Square.f t314 t315 t316).bind fun t355 => ((spec_RootNumber.f t355).bind fun t356 => ((spec_SameNumber.f t354 t356).bind fun t357 => (laws_FnVectors.j0 k l0 (!t357) t314 t315 t316 t318 t319 t320)))))))) else (laws_FnVectors.j0 k l0 true t314 t315 t316 t318 t319 t320)))) else (laws_FnVectors.j0 k l0 true t314 t315 t316 t318 t319 t320))))))) = some true := H
        have A55 := AS A550
        clear A550
        by_cases c56 : (FloatKind.f32.format.order t342 0 != some .eq) = true
        · rw [if_pos c56] at H
          have c56b0 : (FloatKind.f32.format.order t342 0 != some .eq) = true := c56
          (try (have c56b1 : decide (FloatKind.f32.format.order t342 0 = some .eq) = false := by simpa using c56))
          (try (have c56b2 : (FloatKind.f32.format.order t342 0 == some .eq) = false := by simpa using c56))
          (try (have c56b3 : ¬ (FloatKind.f32.format.order t342 0 = some .eq) := by simpa using c56))
          clear c56
          (first | rw [c56b0] | (simp only [i64_w, i32_w]; rw [c56b0]) | skip)
          exact (FnVectors_j0_no H).elim
        · rw [if_neg c56] at H
          have c56b0 : (FloatKind.f32.format.order t342 0 != some .eq) = false := by simpa using c56
          (try (have c56b1 : decide (FloatKind.f32.format.order t342 0 = some .eq) = true := by simpa using c56))
          (try (have c56b2 : (FloatKind.f32.format.order t342 0 == some .eq) = true := by simpa using c56))
          clear c56
          (first | rw [c56b0] | (simp only [i64_w, i32_w]; rw [c56b0]) | skip)
          replace H := Option.bind_eq_some_iff.mp H
          obtain ⟨t343, A610, H⟩ := H
          replace H : (if (FloatKind.f32.format.order t343 0 != some .eq) = true then (laws_FnVectors.j0 k l0 true t314 t315 t316 t318 t319 t320) else ((impl_ScaleVector.f t326 t327 t328 3212836864).bind fun bt344 => ((laws_b10VEqual.f t322 t323 t324 bt344.1 bt344.2.1 bt344.2.2).bind fun t347 => (if t347 = true then ((impl_AddVectors.f t314 t315 t316 t314 t315 t316).bind fun bt348 => ((laws_b10VEqual.f t337 t338 t339 bt348.1 bt348.2.1 bt348.2.2).bind fun t351 => (if t351 = true then ((impl_InnerOf.f t314 t315 t316 t314 t315 t316).bind fun t352 => ((laws_b10Square.f t314 t315 t316).bind fun t353 => (if (FloatKind.f32.format.order t352 t353 != some .eq) = true then (laws_FnVectors.j0 k l0 true t314 t315 t316 t318 t319 t320) else ((impl_SizeOfVector.f t314 t315 t316).bind fun t354 => ((laws_b10Square.f t314 t315 t316).bind fun t355 => ((spec_RootNumber.f t355).bind fun t356 => ((spec_SameNumber.f t354 t356).bind fun t357 => (laws_FnVectors.j0 k l0 (!t357) t314 t315 t316 t318 t319 t320)))))))) else (laws_FnVectors.j0 k l0 true t314 t315 t316 t318 t319 t320)))) else (laws_FnVectors.j0 k l0 true t314 t315 t316 t318 t319 t320))))) = some true := H
          have A61 := AS A610
          clear A610
          by_cases c62 : (FloatKind.f32.format.order t343 0 != some .eq) = true
          · rw [if_pos c62] at H
            have c62b0 : (FloatKind.f32.format.order t343 0 != some .eq) = true := c62
            (try (have c62b1 : decide (FloatKind.f32.format.order t343 0 = some .eq) = false := by simpa using c62))
            (try (have c62b2 : (FloatKind.f32.format.order t343 0 == some .eq) = false := by simpa using c62))
            (try (have c62b3 : ¬ (FloatKind.f32.format.order t343 0 = some .eq) := by simpa using c62))
            clear c62
            exact (FnVectors_j0_no H).elim
          · rw [if_neg c62] at H
            have c62b0 : (FloatKind.f32.format.order t343 0 != some .eq) = false := by simpa using c62
            (try (have c62b1 : decide (FloatKind.f32.format.order t343 0 = some .eq) = true := by simpa using c62))
            (try (have c62b2 : (FloatKind.f32.format.order t343 0 == some .eq) = true := by simpa using c62))
            clear c62
            replace H := Option.bind_eq_some_iff.mp H
            obtain ⟨⟨t344, t345, t346⟩, A680, H⟩ := H
            replace H : ((laws_b10VEqual.f t322 t323 t324 t344 t345 t346).bind fun t347 => (if t347 = true then ((impl_AddVectors.f t314 t315 t316 t314 t315 t316).bind fun bt348 => ((laws_b10VEqual.f t337 t338 t339 bt348.1 bt348.2.1 bt348.2.2).bind fun t351 => (if t351 = true then ((impl_InnerOf.f t314 t315 t316 t314 t315 t316).bind fun t352 => ((laws_b10Square.f t314 t315 t316).bind fun t353 => (if (FloatKind.f32.format.order t352 t353 != some .eq) = true then (laws_FnVectors.j0 k l0 true t314 t315 t316 t318 t319 t320) else ((impl_SizeOfVector.f t314 t315 t316).bind fun t354 => ((laws_b10Square.f t314 t315 t316).bind fun t355 => ((spec_RootNumber.f t355).bind fun t356 => ((spec_SameNumber.f t354 t356).bind fun t357 => (laws_FnVectors.j0 k l0 (!t357) t314 t315 t316 t318 t319 t320)))))))) else (laws_FnVectors.j0 k l0 true t314 t315 t316 t318 t319 t320)))) else (laws_FnVectors.j0 k l0 true t314 t315 t316 t318 t319 t320))) = some true := H
            have A68 := AS A680
            clear A680
            replace H := Option.bind_eq_some_iff.mp H
            obtain ⟨t347, A690, H⟩ := H
            replace H : (if t347 = true then ((impl_AddVectors.f t314 t315 t316 t314 t315 t316).bind fun bt348 => ((laws_b10VEqual.f t337 t338 t339 bt348.1 bt348.2.1 bt348.2.2).bind fun t351 => (if t351 = true then ((impl_InnerOf.f t314 t315 t316 t314 t315 t316).bind fun t352 => ((laws_b10Square.f t314 t315 t316).bind fun t353 => (if (FloatKind.f32.format.order t352 t353 != some .eq) = true then (laws_FnVectors.j0 k l0 true t314 t315 t316 t318 t319 t320) else ((impl_SizeOfVector.f t314 t315 t316).bind fun t354 => ((laws_b10Square.f t314 t315 t316).bind fun t355 => ((spec_RootNumber.f t355).bind fun t356 => ((spec_SameNumber.f t354 t356).bind fun t357 => (laws_FnVectors.j0 k l0 (!t357) t314 t315 t316 t318 t319 t320)))))))) else (laws_FnVectors.j0 k l0 true t314 t315 t316 t318 t319 t320)))) else (laws_FnVectors.j0 k l0 true t314 t315 t316 t318 t319 t320)) = some true := H
            have A69 := AS A690
            clear A690
            by_cases c70 : t347 = true
            · subst c70
              have H1 : ((impl_AddVectors.f t314 t315 t316 t314 t315 t316).bind fun bt348 => ((laws_b10VEqual.f t337 t338 t339 bt348.1 bt348.2.1 bt348.2.2).bind fun t351 => (if t351 = true then ((impl_InnerOf.f t314 t315 t316 t314 t315 t316).bind fun t352 => ((laws_b10Square.f t314 t315 t316).bind fun t353 => (if (FloatKind.f32.format.order t352 t353 != some .eq) = true then (laws_FnVectors.j0 k l0 true t314 t315 t316 t318 t319 t320) else ((impl_SizeOfVector.f t314 t315 t316).bind fun t354 => ((laws_b10Square.f t314 t315 t316).bind fun t355 => ((spec_RootNumber.f t355).bind fun t356 => ((spec_SameNumber.f t354 t356).bind fun t357 => (laws_FnVectors.j0 k l0 (!t357) t314 t315 t316 t318 t319 t320)))))))) else (laws_FnVectors.j0 k l0 true t314 t315 t316 t318 t319 t320)))) = some true := by rw [if_pos rfl] at H; exact H
              clear H
              have H := H1
              clear H1
              replace H := Option.bind_eq_some_iff.mp H
              obtain ⟨⟨t348, t349, t350⟩, A710, H⟩ := H
              replace H : ((laws_b10VEqual.f t337 t338 t339 t348 t349 t350).bind fun t351 => (if t351 = true then ((impl_InnerOf.f t314 t315 t316 t314 t315 t316).bind fun t352 => ((laws_b10Square.f t314 t315 t316).bind fun t353 => (if (FloatKind.f32.format.order t352 t353 != some .eq) = true then (laws_FnVectors.j0 k l0 true t314 t315 t316 t318 t319 t320) else ((impl_SizeOfVector.f t314 t315 t316).bind fun t354 => ((laws_b10Square.f t314 t315 t316).bind fun t355 => ((spec_RootNumber.f t355).bind fun t356 => ((spec_SameNumber.f t354 t356).bind fun t357 => (laws_FnVectors.j0 k l0 (!t357) t314 t315 t316 t318 t319 t320)))))))) else (laws_FnVectors.j0 k l0 true t314 t315 t316 t318 t319 t320))) = some true := H
              have A71 := AS A710
              clear A710
              replace H := Option.bind_eq_some_iff.mp H
              obtain ⟨t351, A720, H⟩ := H
              replace H : (if t351 = true then ((impl_InnerOf.f t314 t315 t316 t314 t315 t316).bind fun t352 => ((laws_b10Square.f t314 t315 t316).bind fun t353 => (if (FloatKind.f32.format.order t352 t353 != some .eq) = true then (laws_FnVectors.j0 k l0 true t314 t315 t316 t318 t319 t320) else ((impl_SizeOfVector.f t314 t315 t316).bind fun t354 => ((laws_b10Square.f t314 t315 t316).bind fun t355 => ((spec_RootNumber.f t355).bind fun t356 => ((spec_SameNumber.f t354 t356).bind fun t357 => (laws_FnVectors.j0 k l0 (!t357) t314 t315 t316 t318 t319 t320)))))))) else (laws_FnVectors.j0 k l0 true t314 t315 t316 t318 t319 t320)) = some true := H
              have A72 := AS A720
              clear A720
              by_cases c73 : t351 = true
              · subst c73
                have H1 : ((impl_InnerOf.f t314 t315 t316 t314 t315 t316).bind fun t352 => ((laws_b10Square.f t314 t315 t316).bind fun t353 => (if (FloatKind.f32.format.order t352 t353 != some .eq) = true then (laws_FnVectors.j0 k l0 true t314 t315 t316 t318 t319 t320) else ((impl_SizeOfVector.f t314 t315 t316).bind fun t354 => ((laws_b10Square.f t314 t315 t316).bind fun t355 => ((spec_RootNumber.f t355).bind fun t356 => ((spec_SameNumber.f t354 t356).bind fun t357 => (laws_FnVectors.j0 k l0 (!t357) t314 t315 t316 t318 t319 t320)))))))) = some true := by rw [if_pos rfl] at H; exact H
                clear H
                have H := H1
                clear H1
                replace H := Option.bind_eq_some_iff.mp H
                obtain ⟨t352, A740, H⟩ := H
                replace H : ((laws_b10Square.f t314 t315 t316).bind fun t353 => (if (FloatKind.f32.format.order t352 t353 != some .eq) = true then (laws_FnVectors.j0 k l0 true t314 t315 t316 t318 t319 t320) else ((impl_SizeOfVector.f t314 t315 t316).bind fun t354 => ((laws_b10Square.f t314 t315 t316).bind fun t355 => ((spec_RootNumber.f t355).bind fun t356 => ((spec_SameNumber.f t354 t356).bind fun t357 => (laws_FnVectors.j0 k l0 (!t357) t314 t315 t316 t318 t319 t320))))))) = some true := H
                have A74 := AS A740
                clear A740
                replace H := Option.bind_eq_some_iff.mp H
                obtain ⟨t353, A750, H⟩ := H
                replace H : (if (FloatKind.f32.format.order t352 t353 != some .eq) = true then (laws_FnVectors.j0 k l0 true t314 t315 t316 t318 t319 t320) else ((impl_SizeOfVector.f t314 t315 t316).bind fun t354 => ((laws_b10Square.f t314 t315 t316).bind fun t355 => ((spec_RootNumber.f t355).bind fun t356 => ((spec_SameNumber.f t354 t356).bind fun t357 => (laws_FnVectors.j0 k l0 (!t357) t314 t315 t316 t318 t319 t320)))))) = some true := H
                have A75 := AS A750
                clear A750
                by_cases c76 : (FloatKind.f32.format.order t352 t353 != some .eq) = true
                · rw [if_pos c76] at H
                  have c76b0 : (FloatKind.f32.format.order t352 t353 != some .eq) = true := c76
                  (try (have c76b1 : decide (FloatKind.f32.format.order t352 t353 = some .eq) = false := by simpa using c76))
                  (try (have c76b2 : (FloatKind.f32.format.order t352 t353 == some .eq) = false := by simpa using c76))
                  (try (have c76b3 : ¬ (FloatKind.f32.format.order t352 t353 = some .eq) := by simpa using c76))
                  clear c76
                  exact (FnVectors_j0_no H).elim
                · rw [if_neg c76] at H
                  have c76b0 : (FloatKind.f32.format.order t352 t353 != some .eq) = false := by simpa using c76
                  (try (have c76b1 : decide (FloatKind.f32.format.order t352 t353 = some .eq) = true := by simpa using c76))
                  (try (have c76b2 : (FloatKind.f32.format.order t352 t353 == some .eq) = true := by simpa using c76))
                  clear c76
                  replace H := Option.bind_eq_some_iff.mp H
                  obtain ⟨t354, A880, H⟩ := H
                  replace H : ((laws_b10Square.f t314 t315 t316).bind fun t355 => ((spec_RootNumber.f t355).bind fun t356 => ((spec_SameNumber.f t354 t356).bind fun t357 => (laws_FnVectors.j0 k l0 (!t357) t314 t315 t316 t318 t319 t320)))) = some true := H
                  have A88 := AS A880
                  clear A880
                  replace H := Option.bind_eq_some_iff.mp H
                  obtain ⟨t355, A890, H⟩ := H
                  replace H : ((spec_RootNumber.f t355).bind fun t356 => ((spec_SameNumber.f t354 t356).bind fun t357 => (laws_FnVectors.j0 k l0 (!t357) t314 t315 t316 t318 t319 t320))) = some true := H
                  have A89 := AS A890
                  clear A890
                  replace H := Option.bind_eq_some_iff.mp H
                  obtain ⟨t356, A900, H⟩ := H
                  replace H : ((spec_SameNumber.f t354 t356).bind fun t357 => (laws_FnVectors.j0 k l0 (!t357) t314 t315 t316 t318 t319 t320)) = some true := H
                  have A90 := AS A900
                  clear A900
                  replace H := Option.bind_eq_some_iff.mp H
                  obtain ⟨t357, A910, H⟩ := H
                  replace H : (laws_FnVectors.j0 k l0 (!t357) t314 t315 t316 t318 t319 t320) = some true := H
                  have A91 := AS A910
                  clear A910
                  have H' := AS H
                  clear H
                  try go_wp2
                  have n0_ : Aside0 ((((w46.setCell ⟨gb340, 0, none⟩ (.float .f32 t337)).setCell ⟨gb340, 1, none⟩ (.float .f32 t338)).setCell ⟨gb340, 2, none⟩ (.float .f32 t339)).heap[gb317]? = some (.cells #[.float .f32 t314, .float .f32 t315, .float .f32 t316] 26 (0, 0))) := ⟨by (with_reducible repeat (first | apply blk_drewN | apply blk_drew | apply blk_alloc)); refine blk_far ?_ NB317_340.out _; (with_reducible repeat (first | apply blk_drewN | apply blk_drew | apply blk_alloc)); refine blk_far ?_ NB317_340.out _; (with_reducible repeat (first | apply blk_drewN | apply blk_drew | apply blk_alloc)); refine blk_far ?_ NB317_340.out _; (with_reducible repeat (first | apply blk_drewN | apply blk_drew | apply blk_alloc)); exact BK317.out⟩
                  have n1_ : Aside0 ((((w46.setCell ⟨gb340, 0, none⟩ (.float .f32 t337)).setCell ⟨gb340, 1, none⟩ (.float .f32 t338)).setCell ⟨gb340, 2, none⟩ (.float .f32 t339)).heap[gb321]? = some (.cells #[.float .f32 t318, .float .f32 t319, .float .f32 t320] 26 (0, 0))) := ⟨by (with_reducible repeat (first | apply blk_drewN | apply blk_drew | apply blk_alloc)); refine blk_far ?_ NB321_340.out _; (with_reducible repeat (first | apply blk_drewN | apply blk_drew | apply blk_alloc)); refine blk_far ?_ NB321_340.out _; (with_reducible repeat (first | apply blk_drewN | apply blk_drew | apply blk_alloc)); refine blk_far ?_ NB321_340.out _; (with_reducible repeat (first | apply blk_drewN | apply blk_drew | apply blk_alloc)); exact BK321.out⟩
                  have n2_ : Aside0 ((((w46.setCell ⟨gb340, 0, none⟩ (.float .f32 t337)).setCell ⟨gb340, 1, none⟩ (.float .f32 t338)).setCell ⟨gb340, 2, none⟩ (.float .f32 t339)).heap[gb325]? = some (.cells #[.float .f32 t322, .float .f32 t323, .float .f32 t324] 26 (0, 0))) := ⟨by (with_reducible repeat (first | apply blk_drewN | apply blk_drew | apply blk_alloc)); refine blk_far ?_ NB325_340.out _; (with_reducible repeat (first | apply blk_drewN | apply blk_drew | apply blk_alloc)); refine blk_far ?_ NB325_340.out _; (with_reducible repeat (first | apply blk_drewN | apply blk_drew | apply blk_alloc)); refine blk_far ?_ NB325_340.out _; (with_reducible repeat (first | apply blk_drewN | apply blk_drew | apply blk_alloc)); exact BK325.out⟩
                  have n3_ : Aside0 ((((w46.setCell ⟨gb340, 0, none⟩ (.float .f32 t337)).setCell ⟨gb340, 1, none⟩ (.float .f32 t338)).setCell ⟨gb340, 2, none⟩ (.float .f32 t339)).heap[gb329]? = some (.cells #[.float .f32 t326, .float .f32 t327, .float .f32 t328] 26 (0, 0))) := ⟨by (with_reducible repeat (first | apply blk_drewN | apply blk_drew | apply blk_alloc)); refine blk_far ?_ NB329_340.out _; (with_reducible repeat (first | apply blk_drewN | apply blk_drew | apply blk_alloc)); refine blk_far ?_ NB329_340.out _; (with_reducible repeat (first | apply blk_drewN | apply blk_drew | apply blk_alloc)); refine blk_far ?_ NB329_340.out _; (with_reducible repeat (first | apply blk_drewN | apply blk_drew | apply blk_alloc)); exact BK329.out⟩
                  have n4_ : Aside0 ((((w46.setCell ⟨gb340, 0, none⟩ (.float .f32 t337)).setCell ⟨gb340, 1, none⟩ (.float .f32 t338)).setCell ⟨gb340, 2, none⟩ (.float .f32 t339)).heap[gb336]? = some (.cells #[.float .f32 t333, .float .f32 t334, .float .f32 t335] 26 (0, 0))) := ⟨by (with_reducible repeat (first | apply blk_drewN | apply blk_drew | apply blk_alloc)); refine blk_far ?_ NB336_340.out _; (with_reducible repeat (first | apply blk_drewN | apply blk_drew | apply blk_alloc)); refine blk_far ?_ NB336_340.out _; (with_reducible repeat (first | apply blk_drewN | apply blk_drew | apply blk_alloc)); refine blk_far ?_ NB336_340.out _; (with_reducible repeat (first | apply blk_drewN | apply blk_drew | apply blk_alloc)); exact BK336.out⟩
                  have n5_ : Aside0 ((((w46.setCell ⟨gb340, 0, none⟩ (.float .f32 t337)).setCell ⟨gb340, 1, none⟩ (.float .f32 t338)).setCell ⟨gb340, 2, none⟩ (.float .f32 t339)).heap[gb340]? = some (.cells #[.float .f32 t337, .float .f32 t338, .float .f32 t339] 26 (0, 0))) := ⟨by (with_reducible repeat (first | apply blk_drewN | apply blk_drew | apply blk_alloc)); refine blk_put (cs := #[.float .f32 t337, .float .f32 t338, .float .f32 0]) ?_ 2 _ rfl; (with_reducible repeat (first | apply blk_drewN | apply blk_drew | apply blk_alloc)); refine blk_put (cs := #[.float .f32 t337, .float .f32 0, .float .f32 0]) ?_ 1 _ rfl; (with_reducible repeat (first | apply blk_drewN | apply blk_drew | apply blk_alloc)); refine blk_put (cs := #[.float .f32 0, .float .f32 0, .float .f32 0]) ?_ 0 _ rfl; (with_reducible repeat (first | apply blk_drewN | apply blk_drew | apply blk_alloc)); exact BK340.out⟩
                  have n6_ : Aside0 (Below w.heap.size w (((w46.setCell ⟨gb340, 0, none⟩ (.float .f32 t337)).setCell ⟨gb340, 1, none⟩ (.float .f32 t338)).setCell ⟨gb340, 2, none⟩ (.float .f32 t339))) := ⟨by repeat (first | (with_reducible first | exact HB.out | apply below_alloc | apply pw_below_drewN | apply below_drew1 | refine below_set ?_ GE317.out | refine below_set ?_ GE321.out | refine below_set ?_ GE325.out | refine below_set ?_ GE329.out | refine below_set ?_ GE336.out | refine below_set ?_ GE340.out) | exact HB.out)⟩
                  (try clear BK317)
                  (try clear BK321)
                  (try clear BK325)
                  (try clear BK329)
                  (try clear BK336)
                  (try clear BK340)
                  (try clear HB)
                  generalize (((w46.setCell ⟨gb340, 0, none⟩ (.float .f32 t337)).setCell ⟨gb340, 1, none⟩ (.float .f32 t338)).setCell ⟨gb340, 2, none⟩ (.float .f32 t339)) = w92 at n0_ n1_ n2_ n3_ n4_ n5_ n6_ ⊢
                  have BK317 := n0_
                  have BK321 := n1_
                  have BK325 := n2_
                  have BK329 := n3_
                  have BK336 := n4_
                  have BK340 := n5_
                  have HB := n6_
                  clear n0_ n1_ n2_ n3_ n4_ n5_ n6_
                  have n0_ := AS (blk_drew BK317.out)
                  have n1_ := AS (blk_drew BK321.out)
                  have n2_ := AS (blk_drew BK325.out)
                  have n3_ := AS (blk_drew BK329.out)
                  have n4_ := AS (blk_drew BK336.out)
                  have n5_ := AS (blk_drew BK340.out)
                  have n6_ := AS (below_drew1 HB.out)
                  clear BK317
                  clear BK321
                  clear BK325
                  clear BK329
                  clear BK336
                  clear BK340
                  clear HB
                  have BK317 := n0_
                  have BK321 := n1_
                  have BK325 := n2_
                  have BK329 := n3_
                  have BK336 := n4_
                  have BK340 := n5_
                  have HB := n6_
                  clear n0_ n1_ n2_ n3_ n4_ n5_ n6_
                  refine start_ (n := 48) (S := fun w' => w'.cell? ⟨gb336, 0, none⟩ = some (.float .f32 t333) ∧ w'.cell? ⟨gb336, 1, none⟩ = some (.float .f32 t334) ∧ w'.cell? ⟨gb336, 2, none⟩ = some (.float .f32 t335) ∧ w'.cell? ⟨gb317, 0, none⟩ = some (.float .f32 t314) ∧ w'.cell? ⟨gb317, 1, none⟩ = some (.float .f32 t315) ∧ w'.cell? ⟨gb317, 2, none⟩ = some (.float .f32 t316) ∧ w'.cell? ⟨gb325, 0, none⟩ = some (.float .f32 t322) ∧ w'.cell? ⟨gb325, 1, none⟩ = some (.float .f32 t323) ∧ w'.cell? ⟨gb325, 2, none⟩ = some (.float .f32 t324) ∧ w'.cell? ⟨gb321, 0, none⟩ = some (.float .f32 t318) ∧ w'.cell? ⟨gb321, 1, none⟩ = some (.float .f32 t319) ∧ w'.cell? ⟨gb321, 2, none⟩ = some (.float .f32 t320) ∧ w'.cell? ⟨gb329, 0, none⟩ = some (.float .f32 t326) ∧ w'.cell? ⟨gb329, 1, none⟩ = some (.float .f32 t327) ∧ w'.cell? ⟨gb329, 2, none⟩ = some (.float .f32 t328) ∧ w'.cell? ⟨gb340, 0, none⟩ = some (.float .f32 t337) ∧ w'.cell? ⟨gb340, 1, none⟩ = some (.float .f32 t338) ∧ w'.cell? ⟨gb340, 2, none⟩ = some (.float .f32 t339)) (ds := []) #[false, false, false, false, false, false, false, false, false, false, false, false, false, false, false, false, false, false, false, false, false, false, false, false, false, false, false, false, false, false, false, false, false, false, false, false, false, false, false, false, false, false, false, false, false, false, false, false] (by kernel_rfl) rfl rfl ⟨(blk_cell BK336.out 0).trans rfl, (blk_cell BK336.out 1).trans rfl, (blk_cell BK336.out 2).trans rfl, (blk_cell BK317.out 0).trans rfl, (blk_cell BK317.out 1).trans rfl, (blk_cell BK317.out 2).trans rfl, (blk_cell BK325.out 0).trans rfl, (blk_cell BK325.out 1).trans rfl, (blk_cell BK325.out 2).trans rfl, (blk_cell BK321.out 0).trans rfl, (blk_cell BK321.out 1).trans rfl, (blk_cell BK321.out 2).trans rfl, (blk_cell BK329.out 0).trans rfl, (blk_cell BK329.out 1).trans rfl, (blk_cell BK329.out 2).trans rfl, (blk_cell BK340.out 0).trans rfl, (blk_cell BK340.out 1).trans rfl, (blk_cell BK340.out 2).trans rfl⟩ (fun hHeld => ?_); refine with_tabW laws_FnVectors.tab9 laws_FnVectors.bits9 (fun HT_ HW_ => ?_)
                  generalize w92.drew = w93 at BK317 BK321 BK325 BK329 BK336 BK340 HB hHeld ⊢
                  refine take_ (i := 0) (N := some 35) (v := ?_) (a' := ?_) #[true, false, false, false, false, false, false, false, false, false, false, false, false, false, false, false, false, false, false, false, false, false, false, false, false, false, false, false, false, false, false, false, false, false, false, false, false, false, false, false, false, false, false, false, false, false, false, false] rfl rfl (take_ofW HT_.out HW_.out (by kernel_rfl)) (fun _ _ _ h => h) (Or.inl ⟨by rfl, ?_⟩) hHeld ?_ ?_
                  rotate_left
                  · rintro w' ⟨s0, s1, s2, s3, s4, s5, s6, s7, s8, s9, s10, s11, s12, s13, s14, s15, s16, s17⟩
                    go_simp
                    with_reducible rfl
                  rotate_left
                  · simp only [Act.put, List.setIfInBounds_toArray, List.set_cons_zero, List.set_cons_succ, i64_w, i32_w]
                    rfl
                  refine take_ (i := 1) (N := some 36) (v := ?_) (a' := ?_) #[true, true, false, false, false, false, false, false, false, false, false, false, false, false, false, false, false, false, false, false, false, false, false, false, false, false, false, false, false, false, false, false, false, false, false, false, false, false, false, false, false, false, false, false, false, false, false, false] rfl rfl (take_ofW HT_.out HW_.out (by kernel_rfl)) (fun _ _ _ h => h) (Or.inl ⟨by rfl, ?_⟩) hHeld ?_ ?_
                  rotate_left
                  · rintro w' ⟨s0, s1, s2, s3, s4, s5, s6, s7, s8, s9, s10, s11, s12, s13, s14, s15, s16, s17⟩
                    go_simp
                    with_reducible rfl
                  rotate_left
                  · simp only [Act.put, List.setIfInBounds_toArray, List.set_cons_zero, List.set_cons_succ, i64_w, i32_w]
                    rfl
                  refine one_ (i := 2) (N := some 37) #[true, true, true, false, false, false, false, false, false, false, false, false, false, false, false, false, false, false, false, false, false, false, false, false, false, false, false, false, false, false, false, false, false, false, false, false, false, false, false, false, false, false, false, false, false, false, false, false] rfl rfl (one_of HT_.out (by kernel_rfl)) (by decide) (fun K hK => ?_)
                  refine goes_ Tryd.func12 (by kernel_rfl) rfl #[.agg #[.float .f32 t333, .float .f32 t334, .float .f32 t335], .agg #[.float .f32 t314, .float .f32 t315, .float .f32 t316]] (by rfl) rfl rfl (by (try simp only [List.map_toArray, List.map_cons, List.map_nil]); first | done | rfl | (simp only [List.length_drop, List.length_take]; rfl)) ?_
                  with_reducible refine (laws_b10VEqual.calls t333 t334 t335 t314 t315 t316 true _ A53.out).mono ?_
                  rintro e w94 ⟨rfl, hb⟩
                  refine ⟨_, rfl, ?_⟩
                  have n0_ := AS (blk_below (g := gb317) (o := .cells #[.float .f32 t314, .float .f32 t315, .float .f32 t316] 26 (0, 0)) (by (with_reducible repeat (first | apply blk_drewN | apply blk_drew | apply blk_alloc)); exact BK317.out) hb)
                  have n1_ := AS (blk_below (g := gb321) (o := .cells #[.float .f32 t318, .float .f32 t319, .float .f32 t320] 26 (0, 0)) (by (with_reducible repeat (first | apply blk_drewN | apply blk_drew | apply blk_alloc)); exact BK321.out) hb)
                  have n2_ := AS (blk_below (g := gb325) (o := .cells #[.float .f32 t322, .float .f32 t323, .float .f32 t324] 26 (0, 0)) (by (with_reducible repeat (first | apply blk_drewN | apply blk_drew | apply blk_alloc)); exact BK325.out) hb)
                  have n3_ := AS (blk_below (g := gb329) (o := .cells #[.float .f32 t326, .float .f32 t327, .float .f32 t328] 26 (0, 0)) (by (with_reducible repeat (first | apply blk_drewN | apply blk_drew | apply blk_alloc)); exact BK329.out) hb)
                  have n4_ := AS (blk_below (g := gb336) (o := .cells #[.float .f32 t333, .float .f32 t334, .float .f32 t335] 26 (0, 0)) (by (with_reducible repeat (first | apply blk_drewN | apply blk_drew | apply blk_alloc)); exact BK336.out) hb)
                  have n5_ := AS (blk_below (g := gb340) (o := .cells #[.float .f32 t337, .float .f32 t338, .float .f32 t339] 26 (0, 0)) (by (with_reducible repeat (first | apply blk_drewN | apply blk_drew | apply blk_alloc)); exact BK340.out) hb)
                  have n6_ := AS (below_step (by repeat (first | (with_reducible first | exact HB.out | apply below_alloc | apply pw_below_drewN | apply below_drew1 | refine below_set ?_ GE317.out | refine below_set ?_ GE321.out | refine below_set ?_ GE325.out | refine below_set ?_ GE329.out | refine below_set ?_ GE336.out | refine below_set ?_ GE340.out) | exact HB.out)) hb)
                  clear BK317
                  clear BK321
                  clear BK325
                  clear BK329
                  clear BK336
                  clear BK340
                  clear HB
                  have BK317 := n0_
                  have BK321 := n1_
                  have BK325 := n2_
                  have BK329 := n3_
                  have BK336 := n4_
                  have BK340 := n5_
                  have HB := n6_
                  clear n0_ n1_ n2_ n3_ n4_ n5_ n6_
                  (try clear hb)
                  (try clear hb2)
                  (try clear hk)
                  (try clear hi)
                  refine hK.out _ _ ⟨(blk_cell BK336.out 0).trans rfl, (blk_cell BK336.out 1).trans rfl, (blk_cell BK336.out 2).trans rfl, (blk_cell BK317.out 0).trans rfl, (blk_cell BK317.out 1).trans rfl, (blk_cell BK317.out 2).trans rfl, (blk_cell BK325.out 0).trans rfl, (blk_cell BK325.out 1).trans rfl, (blk_cell BK325.out 2).trans rfl, (blk_cell BK321.out 0).trans rfl, (blk_cell BK321.out 1).trans rfl, (blk_cell BK321.out 2).trans rfl, (blk_cell BK329.out 0).trans rfl, (blk_cell BK329.out 1).trans rfl, (blk_cell BK329.out 2).trans rfl, (blk_cell BK340.out 0).trans rfl, (blk_cell BK340.out 1).trans rfl, (blk_cell BK340.out 2).trans rfl⟩ (fun hHeld => ?_)
                  clear hK K
                  refine norm_ (a' := ?_) ?_ ?_
                  rotate_left
                  · show Act.put _ (some 37) _ = _
                    simp only [Act.put, List.setIfInBounds_toArray, List.set_cons_zero, List.set_cons_succ, i64_w, i32_w]
                    rfl
                  refine pure_ (i := 3) (N := some 38) (v := ?_) (a' := ?_) #[true, true, true, true, false, false, false, false, false, false, false, false, false, false, false, false, false, false, false, false, false, false, false, false, false, false, false, false, false, false, false, false, false, false, false, false, false, false, false, false, false, false, false, false, false, false, false, false] rfl rfl (any_of HT_.out (by kernel_rfl)) (fun _ _ _ h => h) (Or.inl ⟨by rfl, ?_⟩) ?_ ?_
                  rotate_left
                  · intro w'
                    go_simp
                    with_reducible rfl
                  rotate_left
                  · simp only [Act.put, List.setIfInBounds_toArray, List.set_cons_zero, List.set_cons_succ, i64_w, i32_w]
                    rfl
                  refine pure_ (i := 4) (N := some 39) (v := ?_) (a' := ?_) #[true, true, true, true, true, false, false, false, false, false, false, false, false, false, false, false, false, false, false, false, false, false, false, false, false, false, false, false, false, false, false, false, false, false, false, false, false, false, false, false, false, false, false, false, false, false, false, false] rfl rfl (any_of HT_.out (by kernel_rfl)) (fun _ _ _ h => h) (Or.inl ⟨by rfl, ?_⟩) ?_ ?_
                  rotate_left
                  · intro w'
                    go_simp
                    with_reducible rfl
                  rotate_left
                  · simp only [Act.put, List.setIfInBounds_toArray, List.set_cons_zero, List.set_cons_succ, i64_w, i32_w]
                    rfl
                  refine take_ (i := 5) (N := some 40) (v := ?_) (a' := ?_) #[true, true, true, true, true, true, false, false, false, false, false, false, false, false, false, false, false, false, false, false, false, false, false, false, false, false, false, false, false, false, false, false, false, false, false, false, false, false, false, false, false, false, false, false, false, false, false, false] rfl rfl (take_ofW HT_.out HW_.out (by kernel_rfl)) (fun _ _ _ h => h) (Or.inl ⟨by rfl, ?_⟩) hHeld ?_ ?_
                  rotate_left
                  · rintro w' ⟨s0, s1, s2, s3, s4, s5, s6, s7, s8, s9, s10, s11, s12, s13, s14, s15, s16, s17⟩
                    go_simp
                    with_reducible rfl
                  rotate_left
                  · simp only [Act.put, List.setIfInBounds_toArray, List.set_cons_zero, List.set_cons_succ, i64_w, i32_w]
                    rfl
                  refine take_ (i := 6) (N := some 41) (v := ?_) (a' := ?_) #[true, true, true, true, true, true, true, false, false, false, false, false, false, false, false, false, false, false, false, false, false, false, false, false, false, false, false, false, false, false, false, false, false, false, false, false, false, false, false, false, false, false, false, false, false, false, false, false] rfl rfl (take_ofW HT_.out HW_.out (by kernel_rfl)) (fun _ _ _ h => h) (Or.inl ⟨by rfl, ?_⟩) hHeld ?_ ?_
                  rotate_left
                  · rintro w' ⟨s0, s1, s2, s3, s4, s5, s6, s7, s8, s9, s10, s11, s12, s13, s14, s15, s16, s17⟩
                    go_simp
                    with_reducible rfl
                  rotate_left
                  · simp only [Act.put, List.setIfInBounds_toArray, List.set_cons_zero, List.set_cons_succ, i64_w, i32_w]
                    rfl
                  refine one_ (i := 7) (N := some 42) #[true, true, true, true, true, true, true, true, false, false, false, false, false, false, false, false, false, false, false, false, false, false, false, false, false, false, false, false, false, false, false, false, false, false, false, false, false, false, false, false, false, false, false, false, false, false, false, false] rfl rfl (one_of HT_.out (by kernel_rfl)) (by decide) (fun K hK => ?_)
                  refine goes_ Tryd.func13 (by kernel_rfl) rfl #[.agg #[.float .f32 t322, .float .f32 t323, .float .f32 t324], .agg #[.float .f32 t314, .float .f32 t315, .float .f32 t316]] (by rfl) rfl rfl (by (try simp only [List.map_toArray, List.map_cons, List.map_nil]); first | done | rfl | (simp only [List.length_drop, List.length_take]; rfl)) ?_
                  with_reducible refine (impl_InnerOf.calls t322 t323 t324 t314 t315 t316 t342 _ A55.out).mono ?_
                  rintro e w95 ⟨rfl, hb⟩
                  refine ⟨_, rfl, ?_⟩
                  have n0_ := AS (blk_below (g := gb317) (o := .cells #[.float .f32 t314, .float .f32 t315, .float .f32 t316] 26 (0, 0)) (by (with_reducible repeat (first | apply blk_drewN | apply blk_drew | apply blk_alloc)); exact BK317.out) hb)
                  have n1_ := AS (blk_below (g := gb321) (o := .cells #[.float .f32 t318, .float .f32 t319, .float .f32 t320] 26 (0, 0)) (by (with_reducible repeat (first | apply blk_drewN | apply blk_drew | apply blk_alloc)); exact BK321.out) hb)
                  have n2_ := AS (blk_below (g := gb325) (o := .cells #[.float .f32 t322, .float .f32 t323, .float .f32 t324] 26 (0, 0)) (by (with_reducible repeat (first | apply blk_drewN | apply blk_drew | apply blk_alloc)); exact BK325.out) hb)
                  have n3_ := AS (blk_below (g := gb329) (o := .cells #[.float .f32 t326, .float .f32 t327, .float .f32 t328] 26 (0, 0)) (by (with_reducible repeat (first | apply blk_drewN | apply blk_drew | apply blk_alloc)); exact BK329.out) hb)
                  have n4_ := AS (blk_below (g := gb336) (o := .cells #[.float .f32 t333, .float .f32 t334, .float .f32 t335] 26 (0, 0)) (by (with_reducible repeat (first | apply blk_drewN | apply blk_drew | apply blk_alloc)); exact BK336.out) hb)
                  have n5_ := AS (blk_below (g := gb340) (o := .cells #[.float .f32 t337, .float .f32 t338, .float .f32 t339] 26 (0, 0)) (by (with_reducible repeat (first | apply blk_drewN | apply blk_drew | apply blk_alloc)); exact BK340.out) hb)
                  have n6_ := AS (below_step (by repeat (first | (with_reducible first | exact HB.out | apply below_alloc | apply pw_below_drewN | apply below_drew1 | refine below_set ?_ GE317.out | refine below_set ?_ GE321.out | refine below_set ?_ GE325.out | refine below_set ?_ GE329.out | refine below_set ?_ GE336.out | refine below_set ?_ GE340.out) | exact HB.out)) hb)
                  clear BK317
                  clear BK321
                  clear BK325
                  clear BK329
                  clear BK336
                  clear BK340
                  clear HB
                  have BK317 := n0_
                  have BK321 := n1_
                  have BK325 := n2_
                  have BK329 := n3_
                  have BK336 := n4_
                  have BK340 := n5_
                  have HB := n6_
                  clear n0_ n1_ n2_ n3_ n4_ n5_ n6_
                  (try clear hb)
                  (try clear hb2)
                  (try clear hk)
                  (try clear hi)
                  refine hK.out _ _ ⟨(blk_cell BK336.out 0).trans rfl, (blk_cell BK336.out 1).trans rfl, (blk_cell BK336.out 2).trans rfl, (blk_cell BK317.out 0).trans rfl, (blk_cell BK317.out 1).trans rfl, (blk_cell BK317.out 2).trans rfl, (blk_cell BK325.out 0).trans rfl, (blk_cell BK325.out 1).trans rfl, (blk_cell BK325.out 2).trans rfl, (blk_cell BK321.out 0).trans rfl, (blk_cell BK321.out 1).trans rfl, (blk_cell BK321.out 2).trans rfl, (blk_cell BK329.out 0).trans rfl, (blk_cell BK329.out 1).trans rfl, (blk_cell BK329.out 2).trans rfl, (blk_cell BK340.out 0).trans rfl, (blk_cell BK340.out 1).trans rfl, (blk_cell BK340.out 2).trans rfl⟩ (fun hHeld => ?_)
                  clear hK K
                  refine norm_ (a' := ?_) ?_ ?_
                  rotate_left
                  · show Act.put _ (some 42) _ = _
                    simp only [Act.put, List.setIfInBounds_toArray, List.set_cons_zero, List.set_cons_succ, i64_w, i32_w]
                    rfl
                  refine pure_ (i := 8) (N := some 43) (v := ?_) (a' := ?_) #[true, true, true, true, true, true, true, true, true, false, false, false, false, false, false, false, false, false, false, false, false, false, false, false, false, false, false, false, false, false, false, false, false, false, false, false, false, false, false, false, false, false, false, false, false, false, false, false] rfl rfl (any_of HT_.out (by kernel_rfl)) (fun _ _ _ h => h) (Or.inl ⟨by rfl, ?_⟩) ?_ ?_
                  rotate_left
                  · intro w'
                    go_simp
                    with_reducible rfl
                  rotate_left
                  · simp only [Act.put, List.setIfInBounds_toArray, List.set_cons_zero, List.set_cons_succ, i64_w, i32_w]
                    rfl
                  refine pure_ (i := 9) (N := some 44) (v := ?_) (a' := ?_) #[true, true, true, true, true, true, true, true, true, true, false, false, false, false, false, false, false, false, false, false, false, false, false, false, false, false, false, false, false, false, false, false, false, false, false, false, false, false, false, false, false, false, false, false, false, false, false, false] rfl rfl (any_of HT_.out (by kernel_rfl)) (fun _ _ _ h => h) (Or.inl ⟨by rfl, ?_⟩) ?_ ?_
                  rotate_left
                  · intro w'
                    go_simp
                    with_reducible rfl
                  rotate_left
                  · simp only [Act.put, List.setIfInBounds_toArray, List.set_cons_zero, List.set_cons_succ, i64_w, i32_w]
                    rfl
                  refine pure_ (i := 10) (N := some 45) (v := ?_) (a' := ?_) #[true, true, true, true, true, true, true, true, true, true, true, false, false, false, false, false, false, false, false, false, false, false, false, false, false, false, false, false, false, false, false, false, false, false, false, false, false, false, false, false, false, false, false, false, false, false, false, false] rfl rfl (any_of HT_.out (by kernel_rfl)) (fun _ _ _ h => h) (Or.inl ⟨by rfl, ?_⟩) ?_ ?_
                  rotate_left
                  · intro w'
                    go_simp
                    with_reducible rfl
                  rotate_left
                  · simp only [Act.put, List.setIfInBounds_toArray, List.set_cons_zero, List.set_cons_succ, i64_w, i32_w]
                    rfl
                  refine take_ (i := 11) (N := some 46) (v := ?_) (a' := ?_) #[true, true, true, true, true, true, true, true, true, true, true, true, false, false, false, false, false, false, false, false, false, false, false, false, false, false, false, false, false, false, false, false, false, false, false, false, false, false, false, false, false, false, false, false, false, false, false, false] rfl rfl (take_ofW HT_.out HW_.out (by kernel_rfl)) (fun _ _ _ h => h) (Or.inl ⟨by rfl, ?_⟩) hHeld ?_ ?_
                  rotate_left
                  · rintro w' ⟨s0, s1, s2, s3, s4, s5, s6, s7, s8, s9, s10, s11, s12, s13, s14, s15, s16, s17⟩
                    go_simp
                    with_reducible rfl
                  rotate_left
                  · simp only [Act.put, List.setIfInBounds_toArray, List.set_cons_zero, List.set_cons_succ, i64_w, i32_w]
                    rfl
                  refine take_ (i := 12) (N := some 47) (v := ?_) (a' := ?_) #[true, true, true, true, true, true, true, true, true, true, true, true, true, false, false, false, false, false, false, false, false, false, false, false, false, false, false, false, false, false, false, false, false, false, false, false, false, false, false, false, false, false, false, false, false, false, false, false] rfl rfl (take_ofW HT_.out HW_.out (by kernel_rfl)) (fun _ _ _ h => h) (Or.inl ⟨by rfl, ?_⟩) hHeld ?_ ?_
                  rotate_left
                  · rintro w' ⟨s0, s1, s2, s3, s4, s5, s6, s7, s8, s9, s10, s11, s12, s13, s14, s15, s16, s17⟩
                    go_simp
                    with_reducible rfl
                  rotate_left
                  · simp only [Act.put, List.setIfInBounds_toArray, List.set_cons_zero, List.set_cons_succ, i64_w, i32_w]
                    rfl
                  refine one_ (i := 13) (N := some 48) #[true, true, true, true, true, true, true, true, true, true, true, true, true, true, false, false, false, false, false, false, false, false, false, false, false, false, false, false, false, false, false, false, false, false, false, false, false, false, false, false, false, false, false, false, false, false, false, false] rfl rfl (one_of HT_.out (by kernel_rfl)) (by decide) (fun K hK => ?_)
                  refine goes_ Tryd.func13 (by kernel_rfl) rfl #[.agg #[.float .f32 t322, .float .f32 t323, .float .f32 t324], .agg #[.float .f32 t318, .float .f32 t319, .float .f32 t320]] (by rfl) rfl rfl (by (try simp only [List.map_toArray, List.map_cons, List.map_nil]); first | done | rfl | (simp only [List.length_drop, List.length_take]; rfl)) ?_
                  with_reducible refine (impl_InnerOf.calls t322 t323 t324 t318 t319 t320 t343 _ A61.out).mono ?_
                  rintro e w96 ⟨rfl, hb⟩
                  refine ⟨_, rfl, ?_⟩
                  have n0_ := AS (blk_below (g := gb317) (o := .cells #[.float .f32 t314, .float .f32 t315, .float .f32 t316] 26 (0, 0)) (by (with_reducible repeat (first | apply blk_drewN | apply blk_drew | apply blk_alloc)); exact BK317.out) hb)
                  have n1_ := AS (blk_below (g := gb321) (o := .cells #[.float .f32 t318, .float .f32 t319, .float .f32 t320] 26 (0, 0)) (by (with_reducible repeat (first | apply blk_drewN | apply blk_drew | apply blk_alloc)); exact BK321.out) hb)
                  have n2_ := AS (blk_below (g := gb325) (o := .cells #[.float .f32 t322, .float .f32 t323, .float .f32 t324] 26 (0, 0)) (by (with_reducible repeat (first | apply blk_drewN | apply blk_drew | apply blk_alloc)); exact BK325.out) hb)
                  have n3_ := AS (blk_below (g := gb329) (o := .cells #[.float .f32 t326, .float .f32 t327, .float .f32 t328] 26 (0, 0)) (by (with_reducible repeat (first | apply blk_drewN | apply blk_drew | apply blk_alloc)); exact BK329.out) hb)
                  have n4_ := AS (blk_below (g := gb336) (o := .cells #[.float .f32 t333, .float .f32 t334, .float .f32 t335] 26 (0, 0)) (by (with_reducible repeat (first | apply blk_drewN | apply blk_drew | apply blk_alloc)); exact BK336.out) hb)
                  have n5_ := AS (blk_below (g := gb340) (o := .cells #[.float .f32 t337, .float .f32 t338, .float .f32 t339] 26 (0, 0)) (by (with_reducible repeat (first | apply blk_drewN | apply blk_drew | apply blk_alloc)); exact BK340.out) hb)
                  have n6_ := AS (below_step (by repeat (first | (with_reducible first | exact HB.out | apply below_alloc | apply pw_below_drewN | apply below_drew1 | refine below_set ?_ GE317.out | refine below_set ?_ GE321.out | refine below_set ?_ GE325.out | refine below_set ?_ GE329.out | refine below_set ?_ GE336.out | refine below_set ?_ GE340.out) | exact HB.out)) hb)
                  clear BK317
                  clear BK321
                  clear BK325
                  clear BK329
                  clear BK336
                  clear BK340
                  clear HB
                  have BK317 := n0_
                  have BK321 := n1_
                  have BK325 := n2_
                  have BK329 := n3_
                  have BK336 := n4_
                  have BK340 := n5_
                  have HB := n6_
                  clear n0_ n1_ n2_ n3_ n4_ n5_ n6_
                  (try clear hb)
                  (try clear hb2)
                  (try clear hk)
                  (try clear hi)
                  refine hK.out _ _ ⟨(blk_cell BK336.out 0).trans rfl, (blk_cell BK336.out 1).trans rfl, (blk_cell BK336.out 2).trans rfl, (blk_cell BK317.out 0).trans rfl, (blk_cell BK317.out 1).trans rfl, (blk_cell BK317.out 2).trans rfl, (blk_cell BK325.out 0).trans rfl, (blk_cell BK325.out 1).trans rfl, (blk_cell BK325.out 2).trans rfl, (blk_cell BK321.out 0).trans rfl, (blk_cell BK321.out 1).trans rfl, (blk_cell BK321.out 2).trans rfl, (blk_cell BK329.out 0).trans rfl, (blk_cell BK329.out 1).trans rfl, (blk_cell BK329.out 2).trans rfl, (blk_cell BK340.out 0).trans rfl, (blk_cell BK340.out 1).trans rfl, (blk_cell BK340.out 2).trans rfl⟩ (fun hHeld => ?_)
                  clear hK K
                  refine norm_ (a' := ?_) ?_ ?_
                  rotate_left
                  · show Act.put _ (some 48) _ = _
                    simp only [Act.put, List.setIfInBounds_toArray, List.set_cons_zero, List.set_cons_succ, i64_w, i32_w]
                    rfl
                  refine pure_ (i := 14) (N := some 49) (v := ?_) (a' := ?_) #[true, true, true, true, true, true, true, true, true, true, true, true, true, true, true, false, false, false, false, false, false, false, false, false, false, false, false, false, false, false, false, false, false, false, false, false, false, false, false, false, false, false, false, false, false, false, false, false] rfl rfl (any_of HT_.out (by kernel_rfl)) (fun _ _ _ h => h) (Or.inl ⟨by rfl, ?_⟩) ?_ ?_
                  rotate_left
                  · intro w'
                    go_simp
                    with_reducible rfl
                  rotate_left
                  · simp only [Act.put, List.setIfInBounds_toArray, List.set_cons_zero, List.set_cons_succ, i64_w, i32_w]
                    rfl
                  refine pure_ (i := 15) (N := some 50) (v := ?_) (a' := ?_) #[true, true, true, true, true, true, true, true, true, true, true, true, true, true, true, true, false, false, false, false, false, false, false, false, false, false, false, false, false, false, false, false, false, false, false, false, false, false, false, false, false, false, false, false, false, false, false, false] rfl rfl (any_of HT_.out (by kernel_rfl)) (fun _ _ _ h => h) (Or.inl ⟨by rfl, ?_⟩) ?_ ?_
                  rotate_left
                  · intro w'
                    go_simp
                    with_reducible rfl
                  rotate_left
                  · simp only [Act.put, List.setIfInBounds_toArray, List.set_cons_zero, List.set_cons_succ, i64_w, i32_w]
                    rfl
                  refine pure_ (i := 16) (N := some 51) (v := ?_) (a' := ?_) #[true, true, true, true, true, true, true, true, true, true, true, true, true, true, true, true, true, false, false, false, false, false, false, false, false, false, false, false, false, false, false, false, false, false, false, false, false, false, false, false, false, false, false, false, false, false, false, false] rfl rfl (any_of HT_.out (by kernel_rfl)) (fun _ _ _ h => h) (Or.inl ⟨by rfl, ?_⟩) ?_ ?_
                  rotate_left
                  · intro w'
                    go_simp
                    with_reducible rfl
                  rotate_left
                  · simp only [Act.put, List.setIfInBounds_toArray, List.set_cons_zero, List.set_cons_succ, i64_w, i32_w]
                    rfl
                  refine take_ (i := 17) (N := some 52) (v := ?_) (a' := ?_) #[true, true, true, true, true, true, true, true, true, true, true, true, true, true, true, true, true, true, false, false, false, false, false, false, false, false, false, false, false, false, false, false, false, false, false, false, false, false, false, false, false, false, false, false, false, false, false, false] rfl rfl (take_ofW HT_.out HW_.out (by kernel_rfl)) (fun _ _ _ h => h) (Or.inl ⟨by rfl, ?_⟩) hHeld ?_ ?_
                  rotate_left
                  · rintro w' ⟨s0, s1, s2, s3, s4, s5, s6, s7, s8, s9, s10, s11, s12, s13, s14, s15, s16, s17⟩
                    go_simp
                    with_reducible rfl
                  rotate_left
                  · simp only [Act.put, List.setIfInBounds_toArray, List.set_cons_zero, List.set_cons_succ, i64_w, i32_w]
                    rfl
                  refine take_ (i := 18) (N := some 53) (v := ?_) (a' := ?_) #[true, true, true, true, true, true, true, true, true, true, true, true, true, true, true, true, true, true, true, false, false, false, false, false, false, false, false, false, false, false, false, false, false, false, false, false, false, false, false, false, false, false, false, false, false, false, false, false] rfl rfl (take_ofW HT_.out HW_.out (by kernel_rfl)) (fun _ _ _ h => h) (Or.inl ⟨by rfl, ?_⟩) hHeld ?_ ?_
                  rotate_left
                  · rintro w' ⟨s0, s1, s2, s3, s4, s5, s6, s7, s8, s9, s10, s11, s12, s13, s14, s15, s16, s17⟩
                    go_simp
                    with_reducible rfl
                  rotate_left
                  · simp only [Act.put, List.setIfInBounds_toArray, List.set_cons_zero, List.set_cons_succ, i64_w, i32_w]
                    rfl
                  refine one_ (i := 19) (N := some 54) #[true, true, true, true, true, true, true, true, true, true, true, true, true, true, true, true, true, true, true, true, false, false, false, false, false, false, false, false, false, false, false, false, false, false, false, false, false, false, false, false, false, false, false, false, false, false, false, false] rfl rfl (one_of HT_.out (by kernel_rfl)) (by decide) (fun K hK => ?_)
                  refine goes_ Tryd.func11 (by kernel_rfl) rfl #[.agg #[.float .f32 t326, .float .f32 t327, .float .f32 t328], .float .f32 3212836864] (by rfl) rfl rfl (by (try simp only [List.map_toArray, List.map_cons, List.map_nil]); first | done | rfl | (simp only [List.length_drop, List.length_take]; rfl)) ?_
                  with_reducible refine (impl_ScaleVector.calls t326 t327 t328 3212836864 t344 t345 t346 _ A68.out).mono ?_
                  rintro e w97 ⟨rfl, hb⟩
                  refine ⟨_, rfl, ?_⟩
                  have n0_ := AS (blk_below (g := gb317) (o := .cells #[.float .f32 t314, .float .f32 t315, .float .f32 t316] 26 (0, 0)) (by (with_reducible repeat (first | apply blk_drewN | apply blk_drew | apply blk_alloc)); exact BK317.out) hb)
                  have n1_ := AS (blk_below (g := gb321) (o := .cells #[.float .f32 t318, .float .f32 t319, .float .f32 t320] 26 (0, 0)) (by (with_reducible repeat (first | apply blk_drewN | apply blk_drew | apply blk_alloc)); exact BK321.out) hb)
                  have n2_ := AS (blk_below (g := gb325) (o := .cells #[.float .f32 t322, .float .f32 t323, .float .f32 t324] 26 (0, 0)) (by (with_reducible repeat (first | apply blk_drewN | apply blk_drew | apply blk_alloc)); exact BK325.out) hb)
                  have n3_ := AS (blk_below (g := gb329) (o := .cells #[.float .f32 t326, .float .f32 t327, .float .f32 t328] 26 (0, 0)) (by (with_reducible repeat (first | apply blk_drewN | apply blk_drew | apply blk_alloc)); exact BK329.out) hb)
                  have n4_ := AS (blk_below (g := gb336) (o := .cells #[.float .f32 t333, .float .f32 t334, .float .f32 t335] 26 (0, 0)) (by (with_reducible repeat (first | apply blk_drewN | apply blk_drew | apply blk_alloc)); exact BK336.out) hb)
                  have n5_ := AS (blk_below (g := gb340) (o := .cells #[.float .f32 t337, .float .f32 t338, .float .f32 t339] 26 (0, 0)) (by (with_reducible repeat (first | apply blk_drewN | apply blk_drew | apply blk_alloc)); exact BK340.out) hb)
                  have n6_ := AS (below_step (by repeat (first | (with_reducible first | exact HB.out | apply below_alloc | apply pw_below_drewN | apply below_drew1 | refine below_set ?_ GE317.out | refine below_set ?_ GE321.out | refine below_set ?_ GE325.out | refine below_set ?_ GE329.out | refine below_set ?_ GE336.out | refine below_set ?_ GE340.out) | exact HB.out)) hb)
                  clear BK317
                  clear BK321
                  clear BK325
                  clear BK329
                  clear BK336
                  clear BK340
                  clear HB
                  have BK317 := n0_
                  have BK321 := n1_
                  have BK325 := n2_
                  have BK329 := n3_
                  have BK336 := n4_
                  have BK340 := n5_
                  have HB := n6_
                  clear n0_ n1_ n2_ n3_ n4_ n5_ n6_
                  (try clear hb)
                  (try clear hb2)
                  (try clear hk)
                  (try clear hi)
                  refine hK.out _ _ ⟨(blk_cell BK336.out 0).trans rfl, (blk_cell BK336.out 1).trans rfl, (blk_cell BK336.out 2).trans rfl, (blk_cell BK317.out 0).trans rfl, (blk_cell BK317.out 1).trans rfl, (blk_cell BK317.out 2).trans rfl, (blk_cell BK325.out 0).trans rfl, (blk_cell BK325.out 1).trans rfl, (blk_cell BK325.out 2).trans rfl, (blk_cell BK321.out 0).trans rfl, (blk_cell BK321.out 1).trans rfl, (blk_cell BK321.out 2).trans rfl, (blk_cell BK329.out 0).trans rfl, (blk_cell BK329.out 1).trans rfl, (blk_cell BK329.out 2).trans rfl, (blk_cell BK340.out 0).trans rfl, (blk_cell BK340.out 1).trans rfl, (blk_cell BK340.out 2).trans rfl⟩ (fun hHeld => ?_)
                  clear hK K
                  refine norm_ (a' := ?_) ?_ ?_
                  rotate_left
                  · show Act.put _ (some 54) _ = _
                    simp only [Act.put, List.setIfInBounds_toArray, List.set_cons_zero, List.set_cons_succ, i64_w, i32_w]
                    rfl
                  refine one_ (i := 20) (N := some 55) #[true, true, true, true, true, true, true, true, true, true, true, true, true, true, true, true, true, true, true, true, true, false, false, false, false, false, false, false, false, false, false, false, false, false, false, false, false, false, false, false, false, false, false, false, false, false, false, false] rfl rfl (one_of HT_.out (by kernel_rfl)) (by decide) (fun K hK => ?_)
                  refine goes_ Tryd.func12 (by kernel_rfl) rfl #[.agg #[.float .f32 t322, .float .f32 t323, .float .f32 t324], .agg #[.float .f32 t344, .float .f32 t345, .float .f32 t346]] (by rfl) rfl rfl (by (try simp only [List.map_toArray, List.map_cons, List.map_nil]); first | done | rfl | (simp only [List.length_drop, List.length_take]; rfl)) ?_
                  with_reducible refine (laws_b10VEqual.calls t322 t323 t324 t344 t345 t346 true _ A69.out).mono ?_
                  rintro e w98 ⟨rfl, hb⟩
                  refine ⟨_, rfl, ?_⟩
                  have n0_ := AS (blk_below (g := gb317) (o := .cells #[.float .f32 t314, .float .f32 t315, .float .f32 t316] 26 (0, 0)) (by (with_reducible repeat (first | apply blk_drewN | apply blk_drew | apply blk_alloc)); exact BK317.out) hb)
                  have n1_ := AS (blk_below (g := gb321) (o := .cells #[.float .f32 t318, .float .f32 t319, .float .f32 t320] 26 (0, 0)) (by (with_reducible repeat (first | apply blk_drewN | apply blk_drew | apply blk_alloc)); exact BK321.out) hb)
                  have n2_ := AS (blk_below (g := gb325) (o := .cells #[.float .f32 t322, .float .f32 t323, .float .f32 t324] 26 (0, 0)) (by (with_reducible repeat (first | apply blk_drewN | apply blk_drew | apply blk_alloc)); exact BK325.out) hb)
                  have n3_ := AS (blk_below (g := gb329) (o := .cells #[.float .f32 t326, .float .f32 t327, .float .f32 t328] 26 (0, 0)) (by (with_reducible repeat (first | apply blk_drewN | apply blk_drew | apply blk_alloc)); exact BK329.out) hb)
                  have n4_ := AS (blk_below (g := gb336) (o := .cells #[.float .f32 t333, .float .f32 t334, .float .f32 t335] 26 (0, 0)) (by (with_reducible repeat (first | apply blk_drewN | apply blk_drew | apply blk_alloc)); exact BK336.out) hb)
                  have n5_ := AS (blk_below (g := gb340) (o := .cells #[.float .f32 t337, .float .f32 t338, .float .f32 t339] 26 (0, 0)) (by (with_reducible repeat (first | apply blk_drewN | apply blk_drew | apply blk_alloc)); exact BK340.out) hb)
                  have n6_ := AS (below_step (by repeat (first | (with_reducible first | exact HB.out | apply below_alloc | apply pw_below_drewN | apply below_drew1 | refine below_set ?_ GE317.out | refine below_set ?_ GE321.out | refine below_set ?_ GE325.out | refine below_set ?_ GE329.out | refine below_set ?_ GE336.out | refine below_set ?_ GE340.out) | exact HB.out)) hb)
                  clear BK317
                  clear BK321
                  clear BK325
                  clear BK329
                  clear BK336
                  clear BK340
                  clear HB
                  have BK317 := n0_
                  have BK321 := n1_
                  have BK325 := n2_
                  have BK329 := n3_
                  have BK336 := n4_
                  have BK340 := n5_
                  have HB := n6_
                  clear n0_ n1_ n2_ n3_ n4_ n5_ n6_
                  (try clear hb)
                  (try clear hb2)
                  (try clear hk)
                  (try clear hi)
                  refine hK.out _ _ ⟨(blk_cell BK336.out 0).trans rfl, (blk_cell BK336.out 1).trans rfl, (blk_cell BK336.out 2).trans rfl, (blk_cell BK317.out 0).trans rfl, (blk_cell BK317.out 1).trans rfl, (blk_cell BK317.out 2).trans rfl, (blk_cell BK325.out 0).trans rfl, (blk_cell BK325.out 1).trans rfl, (blk_cell BK325.out 2).trans rfl, (blk_cell BK321.out 0).trans rfl, (blk_cell BK321.out 1).trans rfl, (blk_cell BK321.out 2).trans rfl, (blk_cell BK329.out 0).trans rfl, (blk_cell BK329.out 1).trans rfl, (blk_cell BK329.out 2).trans rfl, (blk_cell BK340.out 0).trans rfl, (blk_cell BK340.out 1).trans rfl, (blk_cell BK340.out 2).trans rfl⟩ (fun hHeld => ?_)
                  clear hK K
                  refine norm_ (a' := ?_) ?_ ?_
                  rotate_left
                  · show Act.put _ (some 55) _ = _
                    simp only [Act.put, List.setIfInBounds_toArray, List.set_cons_zero, List.set_cons_succ, i64_w, i32_w]
                    rfl
                  refine pure_ (i := 21) (N := some 56) (v := ?_) (a' := ?_) #[true, true, true, true, true, true, true, true, true, true, true, true, true, true, true, true, true, true, true, true, true, true, false, false, false, false, false, false, false, false, false, false, false, false, false, false, false, false, false, false, false, false, false, false, false, false, false, false] rfl rfl (any_of HT_.out (by kernel_rfl)) (fun _ _ _ h => h) (Or.inl ⟨by rfl, ?_⟩) ?_ ?_
                  rotate_left
                  · intro w'
                    go_simp
                    with_reducible rfl
                  rotate_left
                  · simp only [Act.put, List.setIfInBounds_toArray, List.set_cons_zero, List.set_cons_succ, i64_w, i32_w]
                    rfl
                  refine pure_ (i := 22) (N := some 57) (v := ?_) (a' := ?_) #[true, true, true, true, true, true, true, true, true, true, true, true, true, true, true, true, true, true, true, true, true, true, true, false, false, false, false, false, false, false, false, false, false, false, false, false, false, false, false, false, false, false, false, false, false, false, false, false] rfl rfl (any_of HT_.out (by kernel_rfl)) (fun _ _ _ h => h) (Or.inl ⟨by rfl, ?_⟩) ?_ ?_
                  rotate_left
                  · intro w'
                    go_simp
                    with_reducible rfl
                  rotate_left
                  · simp only [Act.put, List.setIfInBounds_toArray, List.set_cons_zero, List.set_cons_succ, i64_w, i32_w]
                    rfl
                  refine pure_ (i := 23) (N := some 58) (v := ?_) (a' := ?_) #[true, true, true, true, true, true, true, true, true, true, true, true, true, true, true, true, true, true, true, true, true, true, true, true, false, false, false, false, false, false, false, false, false, false, false, false, false, false, false, false, false, false, false, false, false, false, false, false] rfl rfl (any_of HT_.out (by kernel_rfl)) (fun _ _ _ h => h) (Or.inl ⟨by rfl, ?_⟩) ?_ ?_
                  rotate_left
                  · intro w'
                    go_simp
                    with_reducible rfl
                  rotate_left
                  · simp only [Act.put, List.setIfInBounds_toArray, List.set_cons_zero, List.set_cons_succ, i64_w, i32_w]
                    rfl
                  refine take_ (i := 24) (N := some 59) (v := ?_) (a' := ?_) #[true, true, true, true, true, true, true, true, true, true, true, true, true, true, true, true, true, true, true, true, true, true, true, true, true, false, false, false, false, false, false, false, false, false, false, false, false, false, false, false, false, false, false, false, false, false, false, false] rfl rfl (take_ofW HT_.out HW_.out (by kernel_rfl)) (fun _ _ _ h => h) (Or.inl ⟨by rfl, ?_⟩) hHeld ?_ ?_
                  rotate_left
                  · rintro w' ⟨s0, s1, s2, s3, s4, s5, s6, s7, s8, s9, s10, s11, s12, s13, s14, s15, s16, s17⟩
                    go_simp
                    with_reducible rfl
                  rotate_left
                  · simp only [Act.put, List.setIfInBounds_toArray, List.set_cons_zero, List.set_cons_succ, i64_w, i32_w]
                    rfl
                  refine take_ (i := 25) (N := some 60) (v := ?_) (a' := ?_) #[true, true, true, true, true, true, true, true, true, true, true, true, true, true, true, true, true, true, true, true, true, true, true, true, true, true, false, false, false, false, false, false, false, false, false, false, false, false, false, false, false, false, false, false, false, false, false, false] rfl rfl (take_ofW HT_.out HW_.out (by kernel_rfl)) (fun _ _ _ h => h) (Or.inl ⟨by rfl, ?_⟩) hHeld ?_ ?_
                  rotate_left
                  · rintro w' ⟨s0, s1, s2, s3, s4, s5, s6, s7, s8, s9, s10, s11, s12, s13, s14, s15, s16, s17⟩
                    go_simp
                    with_reducible rfl
                  rotate_left
                  · simp only [Act.put, List.setIfInBounds_toArray, List.set_cons_zero, List.set_cons_succ, i64_w, i32_w]
                    rfl
                  refine take_ (i := 26) (N := some 61) (v := ?_) (a' := ?_) #[true, true, true, true, true, true, true, true, true, true, true, true, true, true, true, true, true, true, true, true, true, true, true, true, true, true, true, false, false, false, false, false, false, false, false, false, false, false, false, false, false, false, false, false, false, false, false, false] rfl rfl (take_ofW HT_.out HW_.out (by kernel_rfl)) (fun _ _ _ h => h) (Or.inl ⟨by rfl, ?_⟩) hHeld ?_ ?_
                  rotate_left
                  · rintro w' ⟨s0, s1, s2, s3, s4, s5, s6, s7, s8, s9, s10, s11, s12, s13, s14, s15, s16, s17⟩
                    go_simp
                    with_reducible rfl
                  rotate_left
                  · simp only [Act.put, List.setIfInBounds_toArray, List.set_cons_zero, List.set_cons_succ, i64_w, i32_w]
                    rfl
                  refine one_ (i := 27) (N := some 62) #[true, true, true, true, true, true, true, true, true, true, true, true, true, true, true, true, true, true, true, true, true, true, true, true, true, true, true, true, false, false, false, false, false, false, false, false, false, false, false, false, false, false, false, false, false, false, false, false] rfl rfl (one_of HT_.out (by kernel_rfl)) (by decide) (fun K hK => ?_)
                  refine goes_ Tryd.func9 (by kernel_rfl) rfl #[.agg #[.float .f32 t314, .float .f32 t315, .float .f32 t316], .agg #[.float .f32 t314, .float .f32 t315, .float .f32 t316]] (by rfl) rfl rfl (by (try simp only [List.map_toArray, List.map_cons, List.map_nil]); first | done | rfl | (simp only [List.length_drop, List.length_take]; rfl)) ?_
                  with_reducible refine (impl_AddVectors.calls t314 t315 t316 t314 t315 t316 t348 t349 t350 _ A71.out).mono ?_
                  rintro e w99 ⟨rfl, hb⟩
                  refine ⟨_, rfl, ?_⟩
                  have n0_ := AS (blk_below (g := gb317) (o := .cells #[.float .f32 t314, .float .f32 t315, .float .f32 t316] 26 (0, 0)) (by (with_reducible repeat (first | apply blk_drewN | apply blk_drew | apply blk_alloc)); exact BK317.out) hb)
                  have n1_ := AS (blk_below (g := gb321) (o := .cells #[.float .f32 t318, .float .f32 t319, .float .f32 t320] 26 (0, 0)) (by (with_reducible repeat (first | apply blk_drewN | apply blk_drew | apply blk_alloc)); exact BK321.out) hb)
                  have n2_ := AS (blk_below (g := gb325) (o := .cells #[.float .f32 t322, .float .f32 t323, .float .f32 t324] 26 (0, 0)) (by (with_reducible repeat (first | apply blk_drewN | apply blk_drew | apply blk_alloc)); exact BK325.out) hb)
                  have n3_ := AS (blk_below (g := gb329) (o := .cells #[.float .f32 t326, .float .f32 t327, .float .f32 t328] 26 (0, 0)) (by (with_reducible repeat (first | apply blk_drewN | apply blk_drew | apply blk_alloc)); exact BK329.out) hb)
                  have n4_ := AS (blk_below (g := gb336) (o := .cells #[.float .f32 t333, .float .f32 t334, .float .f32 t335] 26 (0, 0)) (by (with_reducible repeat (first | apply blk_drewN | apply blk_drew | apply blk_alloc)); exact BK336.out) hb)
                  have n5_ := AS (blk_below (g := gb340) (o := .cells #[.float .f32 t337, .float .f32 t338, .float .f32 t339] 26 (0, 0)) (by (with_reducible repeat (first | apply blk_drewN | apply blk_drew | apply blk_alloc)); exact BK340.out) hb)
                  have n6_ := AS (below_step (by repeat (first | (with_reducible first | exact HB.out | apply below_alloc | apply pw_below_drewN | apply below_drew1 | refine below_set ?_ GE317.out | refine below_set ?_ GE321.out | refine below_set ?_ GE325.out | refine below_set ?_ GE329.out | refine below_set ?_ GE336.out | refine below_set ?_ GE340.out) | exact HB.out)) hb)
                  clear BK317
                  clear BK321
                  clear BK325
                  clear BK329
                  clear BK336
                  clear BK340
                  clear HB
                  have BK317 := n0_
                  have BK321 := n1_
                  have BK325 := n2_
                  have BK329 := n3_
                  have BK336 := n4_
                  have BK340 := n5_
                  have HB := n6_
                  clear n0_ n1_ n2_ n3_ n4_ n5_ n6_
                  (try clear hb)
                  (try clear hb2)
                  (try clear hk)
                  (try clear hi)
                  refine hK.out _ _ ⟨(blk_cell BK336.out 0).trans rfl, (blk_cell BK336.out 1).trans rfl, (blk_cell BK336.out 2).trans rfl, (blk_cell BK317.out 0).trans rfl, (blk_cell BK317.out 1).trans rfl, (blk_cell BK317.out 2).trans rfl, (blk_cell BK325.out 0).trans rfl, (blk_cell BK325.out 1).trans rfl, (blk_cell BK325.out 2).trans rfl, (blk_cell BK321.out 0).trans rfl, (blk_cell BK321.out 1).trans rfl, (blk_cell BK321.out 2).trans rfl, (blk_cell BK329.out 0).trans rfl, (blk_cell BK329.out 1).trans rfl, (blk_cell BK329.out 2).trans rfl, (blk_cell BK340.out 0).trans rfl, (blk_cell BK340.out 1).trans rfl, (blk_cell BK340.out 2).trans rfl⟩ (fun hHeld => ?_)
                  clear hK K
                  refine norm_ (a' := ?_) ?_ ?_
                  rotate_left
                  · show Act.put _ (some 62) _ = _
                    simp only [Act.put, List.setIfInBounds_toArray, List.set_cons_zero, List.set_cons_succ, i64_w, i32_w]
                    rfl
                  refine one_ (i := 28) (N := some 63) #[true, true, true, true, true, true, true, true, true, true, true, true, true, true, true, true, true, true, true, true, true, true, true, true, true, true, true, true, true, false, false, false, false, false, false, false, false, false, false, false, false, false, false, false, false, false, false, false] rfl rfl (one_of HT_.out (by kernel_rfl)) (by decide) (fun K hK => ?_)
                  refine goes_ Tryd.func12 (by kernel_rfl) rfl #[.agg #[.float .f32 t337, .float .f32 t338, .float .f32 t339], .agg #[.float .f32 t348, .float .f32 t349, .float .f32 t350]] (by rfl) rfl rfl (by (try simp only [List.map_toArray, List.map_cons, List.map_nil]); first | done | rfl | (simp only [List.length_drop, List.length_take]; rfl)) ?_
                  with_reducible refine (laws_b10VEqual.calls t337 t338 t339 t348 t349 t350 true _ A72.out).mono ?_
                  rintro e w100 ⟨rfl, hb⟩
                  refine ⟨_, rfl, ?_⟩
                  have n0_ := AS (blk_below (g := gb317) (o := .cells #[.float .f32 t314, .float .f32 t315, .float .f32 t316] 26 (0, 0)) (by (with_reducible repeat (first | apply blk_drewN | apply blk_drew | apply blk_alloc)); exact BK317.out) hb)
                  have n1_ := AS (blk_below (g := gb321) (o := .cells #[.float .f32 t318, .float .f32 t319, .float .f32 t320] 26 (0, 0)) (by (with_reducible repeat (first | apply blk_drewN | apply blk_drew | apply blk_alloc)); exact BK321.out) hb)
                  have n2_ := AS (blk_below (g := gb325) (o := .cells #[.float .f32 t322, .float .f32 t323, .float .f32 t324] 26 (0, 0)) (by (with_reducible repeat (first | apply blk_drewN | apply blk_drew | apply blk_alloc)); exact BK325.out) hb)
                  have n3_ := AS (blk_below (g := gb329) (o := .cells #[.float .f32 t326, .float .f32 t327, .float .f32 t328] 26 (0, 0)) (by (with_reducible repeat (first | apply blk_drewN | apply blk_drew | apply blk_alloc)); exact BK329.out) hb)
                  have n4_ := AS (blk_below (g := gb336) (o := .cells #[.float .f32 t333, .float .f32 t334, .float .f32 t335] 26 (0, 0)) (by (with_reducible repeat (first | apply blk_drewN | apply blk_drew | apply blk_alloc)); exact BK336.out) hb)
                  have n5_ := AS (blk_below (g := gb340) (o := .cells #[.float .f32 t337, .float .f32 t338, .float .f32 t339] 26 (0, 0)) (by (with_reducible repeat (first | apply blk_drewN | apply blk_drew | apply blk_alloc)); exact BK340.out) hb)
                  have n6_ := AS (below_step (by repeat (first | (with_reducible first | exact HB.out | apply below_alloc | apply pw_below_drewN | apply below_drew1 | refine below_set ?_ GE317.out | refine below_set ?_ GE321.out | refine below_set ?_ GE325.out | refine below_set ?_ GE329.out | refine below_set ?_ GE336.out | refine below_set ?_ GE340.out) | exact HB.out)) hb)
                  clear BK317
                  clear BK321
                  clear BK325
                  clear BK329
                  clear BK336
                  clear BK340
                  clear HB
                  have BK317 := n0_
                  have BK321 := n1_
                  have BK325 := n2_
                  have BK329 := n3_
                  have BK336 := n4_
                  have BK340 := n5_
                  have HB := n6_
                  clear n0_ n1_ n2_ n3_ n4_ n5_ n6_
                  (try clear hb)
                  (try clear hb2)
                  (try clear hk)
                  (try clear hi)
                  refine hK.out _ _ ⟨(blk_cell BK336.out 0).trans rfl, (blk_cell BK336.out 1).trans rfl, (blk_cell BK336.out 2).trans rfl, (blk_cell BK317.out 0).trans rfl, (blk_cell BK317.out 1).trans rfl, (blk_cell BK317.out 2).trans rfl, (blk_cell BK325.out 0).trans rfl, (blk_cell BK325.out 1).trans rfl, (blk_cell BK325.out 2).trans rfl, (blk_cell BK321.out 0).trans rfl, (blk_cell BK321.out 1).trans rfl, (blk_cell BK321.out 2).trans rfl, (blk_cell BK329.out 0).trans rfl, (blk_cell BK329.out 1).trans rfl, (blk_cell BK329.out 2).trans rfl, (blk_cell BK340.out 0).trans rfl, (blk_cell BK340.out 1).trans rfl, (blk_cell BK340.out 2).trans rfl⟩ (fun hHeld => ?_)
                  clear hK K
                  refine norm_ (a' := ?_) ?_ ?_
                  rotate_left
                  · show Act.put _ (some 63) _ = _
                    simp only [Act.put, List.setIfInBounds_toArray, List.set_cons_zero, List.set_cons_succ, i64_w, i32_w]
                    rfl
                  refine pure_ (i := 29) (N := some 64) (v := ?_) (a' := ?_) #[true, true, true, true, true, true, true, true, true, true, true, true, true, true, true, true, true, true, true, true, true, true, true, true, true, true, true, true, true, true, false, false, false, false, false, false, false, false, false, false, false, false, false, false, false, false, false, false] rfl rfl (any_of HT_.out (by kernel_rfl)) (fun _ _ _ h => h) (Or.inl ⟨by rfl, ?_⟩) ?_ ?_
                  rotate_left
                  · intro w'
                    go_simp
                    with_reducible rfl
                  rotate_left
                  · simp only [Act.put, List.setIfInBounds_toArray, List.set_cons_zero, List.set_cons_succ, i64_w, i32_w]
                    rfl
                  refine pure_ (i := 30) (N := some 65) (v := ?_) (a' := ?_) #[true, true, true, true, true, true, true, true, true, true, true, true, true, true, true, true, true, true, true, true, true, true, true, true, true, true, true, true, true, true, true, false, false, false, false, false, false, false, false, false, false, false, false, false, false, false, false, false] rfl rfl (any_of HT_.out (by kernel_rfl)) (fun _ _ _ h => h) (Or.inl ⟨by rfl, ?_⟩) ?_ ?_
                  rotate_left
                  · intro w'
                    go_simp
                    with_reducible rfl
                  rotate_left
                  · simp only [Act.put, List.setIfInBounds_toArray, List.set_cons_zero, List.set_cons_succ, i64_w, i32_w]
                    rfl
                  refine pure_ (i := 31) (N := some 66) (v := ?_) (a' := ?_) #[true, true, true, true, true, true, true, true, true, true, true, true, true, true, true, true, true, true, true, true, true, true, true, true, true, true, true, true, true, true, true, true, false, false, false, false, false, false, false, false, false, false, false, false, false, false, false, false] rfl rfl (any_of HT_.out (by kernel_rfl)) (fun _ _ _ h => h) (Or.inl ⟨by rfl, ?_⟩) ?_ ?_
                  rotate_left
                  · intro w'
                    go_simp
                    with_reducible rfl
                  rotate_left
                  · simp only [Act.put, List.setIfInBounds_toArray, List.set_cons_zero, List.set_cons_succ, i64_w, i32_w]
                    rfl
                  refine take_ (i := 32) (N := some 67) (v := ?_) (a' := ?_) #[true, true, true, true, true, true, true, true, true, true, true, true, true, true, true, true, true, true, true, true, true, true, true, true, true, true, true, true, true, true, true, true, true, false, false, false, false, false, false, false, false, false, false, false, false, false, false, false] rfl rfl (take_ofW HT_.out HW_.out (by kernel_rfl)) (fun _ _ _ h => h) (Or.inl ⟨by rfl, ?_⟩) hHeld ?_ ?_
                  rotate_left
                  · rintro w' ⟨s0, s1, s2, s3, s4, s5, s6, s7, s8, s9, s10, s11, s12, s13, s14, s15, s16, s17⟩
                    go_simp
                    with_reducible rfl
                  rotate_left
                  · simp only [Act.put, List.setIfInBounds_toArray, List.set_cons_zero, List.set_cons_succ, i64_w, i32_w]
                    rfl
                  refine take_ (i := 33) (N := some 68) (v := ?_) (a' := ?_) #[true, true, true, true, true, true, true, true, true, true, true, true, true, true, true, true, true, true, true, true, true, true, true, true, true, true, true, true, true, true, true, true, true, true, false, false, false, false, false, false, false, false, false, false, false, false, false, false] rfl rfl (take_ofW HT_.out HW_.out (by kernel_rfl)) (fun _ _ _ h => h) (Or.inl ⟨by rfl, ?_⟩) hHeld ?_ ?_
                  rotate_left
                  · rintro w' ⟨s0, s1, s2, s3, s4, s5, s6, s7, s8, s9, s10, s11, s12, s13, s14, s15, s16, s17⟩
                    go_simp
                    with_reducible rfl
                  rotate_left
                  · simp only [Act.put, List.setIfInBounds_toArray, List.set_cons_zero, List.set_cons_succ, i64_w, i32_w]
                    rfl
                  refine take_ (i := 35) (N := some 70) (v := ?_) (a' := ?_) #[true, true, true, true, true, true, true, true, true, true, true, true, true, true, true, true, true, true, true, true, true, true, true, true, true, true, true, true, true, true, true, true, true, true, false, true, false, false, false, false, false, false, false, false, false, false, false, false] rfl rfl (take_ofW HT_.out HW_.out (by kernel_rfl)) (fun _ _ _ h => h) (Or.inl ⟨by rfl, ?_⟩) hHeld ?_ ?_
                  rotate_left
                  · rintro w' ⟨s0, s1, s2, s3, s4, s5, s6, s7, s8, s9, s10, s11, s12, s13, s14, s15, s16, s17⟩
                    go_simp
                    with_reducible rfl
                  rotate_left
                  · simp only [Act.put, List.setIfInBounds_toArray, List.set_cons_zero, List.set_cons_succ, i64_w, i32_w]
                    rfl
                  refine one_ (i := 34) (N := some 69) #[true, true, true, true, true, true, true, true, true, true, true, true, true, true, true, true, true, true, true, true, true, true, true, true, true, true, true, true, true, true, true, true, true, true, true, true, false, false, false, false, false, false, false, false, false, false, false, false] rfl rfl (one_of HT_.out (by kernel_rfl)) (by decide) (fun K hK => ?_)
                  refine goes_ Tryd.func13 (by kernel_rfl) rfl #[.agg #[.float .f32 t314, .float .f32 t315, .float .f32 t316], .agg #[.float .f32 t314, .float .f32 t315, .float .f32 t316]] (by rfl) rfl rfl (by (try simp only [List.map_toArray, List.map_cons, List.map_nil]); first | done | rfl | (simp only [List.length_drop, List.length_take]; rfl)) ?_
                  with_reducible refine (impl_InnerOf.calls t314 t315 t316 t314 t315 t316 t352 _ A74.out).mono ?_
                  rintro e w101 ⟨rfl, hb⟩
                  refine ⟨_, rfl, ?_⟩
                  have n0_ := AS (blk_below (g := gb317) (o := .cells #[.float .f32 t314, .float .f32 t315, .float .f32 t316] 26 (0, 0)) (by (with_reducible repeat (first | apply blk_drewN | apply blk_drew | apply blk_alloc)); exact BK317.out) hb)
                  have n1_ := AS (blk_below (g := gb321) (o := .cells #[.float .f32 t318, .float .f32 t319, .float .f32 t320] 26 (0, 0)) (by (with_reducible repeat (first | apply blk_drewN | apply blk_drew | apply blk_alloc)); exact BK321.out) hb)
                  have n2_ := AS (blk_below (g := gb325) (o := .cells #[.float .f32 t322, .float .f32 t323, .float .f32 t324] 26 (0, 0)) (by (with_reducible repeat (first | apply blk_drewN | apply blk_drew | apply blk_alloc)); exact BK325.out) hb)
                  have n3_ := AS (blk_below (g := gb329) (o := .cells #[.float .f32 t326, .float .f32 t327, .float .f32 t328] 26 (0, 0)) (by (with_reducible repeat (first | apply blk_drewN | apply blk_drew | apply blk_alloc)); exact BK329.out) hb)
                  have n4_ := AS (blk_below (g := gb336) (o := .cells #[.float .f32 t333, .float .f32 t334, .float .f32 t335] 26 (0, 0)) (by (with_reducible repeat (first | apply blk_drewN | apply blk_drew | apply blk_alloc)); exact BK336.out) hb)
                  have n5_ := AS (blk_below (g := gb340) (o := .cells #[.float .f32 t337, .float .f32 t338, .float .f32 t339] 26 (0, 0)) (by (with_reducible repeat (first | apply blk_drewN | apply blk_drew | apply blk_alloc)); exact BK340.out) hb)
                  have n6_ := AS (below_step (by repeat (first | (with_reducible first | exact HB.out | apply below_alloc | apply pw_below_drewN | apply below_drew1 | refine below_set ?_ GE317.out | refine below_set ?_ GE321.out | refine below_set ?_ GE325.out | refine below_set ?_ GE329.out | refine below_set ?_ GE336.out | refine below_set ?_ GE340.out) | exact HB.out)) hb)
                  clear BK317
                  clear BK321
                  clear BK325
                  clear BK329
                  clear BK336
                  clear BK340
                  clear HB
                  have BK317 := n0_
                  have BK321 := n1_
                  have BK325 := n2_
                  have BK329 := n3_
                  have BK336 := n4_
                  have BK340 := n5_
                  have HB := n6_
                  clear n0_ n1_ n2_ n3_ n4_ n5_ n6_
                  (try clear hb)
                  (try clear hb2)
                  (try clear hk)
                  (try clear hi)
                  refine hK.out _ _ ⟨(blk_cell BK336.out 0).trans rfl, (blk_cell BK336.out 1).trans rfl, (blk_cell BK336.out 2).trans rfl, (blk_cell BK317.out 0).trans rfl, (blk_cell BK317.out 1).trans rfl, (blk_cell BK317.out 2).trans rfl, (blk_cell BK325.out 0).trans rfl, (blk_cell BK325.out 1).trans rfl, (blk_cell BK325.out 2).trans rfl, (blk_cell BK321.out 0).trans rfl, (blk_cell BK321.out 1).trans rfl, (blk_cell BK321.out 2).trans rfl, (blk_cell BK329.out 0).trans rfl, (blk_cell BK329.out 1).trans rfl, (blk_cell BK329.out 2).trans rfl, (blk_cell BK340.out 0).trans rfl, (blk_cell BK340.out 1).trans rfl, (blk_cell BK340.out 2).trans rfl⟩ (fun hHeld => ?_)
                  clear hK K
                  refine norm_ (a' := ?_) ?_ ?_
                  rotate_left
                  · show Act.put _ (some 69) _ = _
                    simp only [Act.put, List.setIfInBounds_toArray, List.set_cons_zero, List.set_cons_succ, i64_w, i32_w]
                    rfl
                  refine one_ (i := 36) (N := some 71) #[true, true, true, true, true, true, true, true, true, true, true, true, true, true, true, true, true, true, true, true, true, true, true, true, true, true, true, true, true, true, true, true, true, true, true, true, true, false, false, false, false, false, false, false, false, false, false, false] rfl rfl (one_of HT_.out (by kernel_rfl)) (by decide) (fun K hK => ?_)
                  refine goes_ Tryd.func14 (by kernel_rfl) rfl #[.agg #[.float .f32 t314, .float .f32 t315, .float .f32 t316]] (by rfl) rfl rfl (by (try simp only [List.map_toArray, List.map_cons, List.map_nil]); first | done | rfl | (simp only [List.length_drop, List.length_take]; rfl)) ?_
                  with_reducible refine (laws_b10Square.calls t314 t315 t316 t353 _ A75.out).mono ?_
                  rintro e w102 ⟨rfl, hb⟩
                  refine ⟨_, rfl, ?_⟩
                  have n0_ := AS (blk_below (g := gb317) (o := .cells #[.float .f32 t314, .float .f32 t315, .float .f32 t316] 26 (0, 0)) (by (with_reducible repeat (first | apply blk_drewN | apply blk_drew | apply blk_alloc)); exact BK317.out) hb)
                  have n1_ := AS (blk_below (g := gb321) (o := .cells #[.float .f32 t318, .float .f32 t319, .float .f32 t320] 26 (0, 0)) (by (with_reducible repeat (first | apply blk_drewN | apply blk_drew | apply blk_alloc)); exact BK321.out) hb)
                  have n2_ := AS (blk_below (g := gb325) (o := .cells #[.float .f32 t322, .float .f32 t323, .float .f32 t324] 26 (0, 0)) (by (with_reducible repeat (first | apply blk_drewN | apply blk_drew | apply blk_alloc)); exact BK325.out) hb)
                  have n3_ := AS (blk_below (g := gb329) (o := .cells #[.float .f32 t326, .float .f32 t327, .float .f32 t328] 26 (0, 0)) (by (with_reducible repeat (first | apply blk_drewN | apply blk_drew | apply blk_alloc)); exact BK329.out) hb)
                  have n4_ := AS (blk_below (g := gb336) (o := .cells #[.float .f32 t333, .float .f32 t334, .float .f32 t335] 26 (0, 0)) (by (with_reducible repeat (first | apply blk_drewN | apply blk_drew | apply blk_alloc)); exact BK336.out) hb)
                  have n5_ := AS (blk_below (g := gb340) (o := .cells #[.float .f32 t337, .float .f32 t338, .float .f32 t339] 26 (0, 0)) (by (with_reducible repeat (first | apply blk_drewN | apply blk_drew | apply blk_alloc)); exact BK340.out) hb)
                  have n6_ := AS (below_step (by repeat (first | (with_reducible first | exact HB.out | apply below_alloc | apply pw_below_drewN | apply below_drew1 | refine below_set ?_ GE317.out | refine below_set ?_ GE321.out | refine below_set ?_ GE325.out | refine below_set ?_ GE329.out | refine below_set ?_ GE336.out | refine below_set ?_ GE340.out) | exact HB.out)) hb)
                  clear BK317
                  clear BK321
                  clear BK325
                  clear BK329
                  clear BK336
                  clear BK340
                  clear HB
                  have BK317 := n0_
                  have BK321 := n1_
                  have BK325 := n2_
                  have BK329 := n3_
                  have BK336 := n4_
                  have BK340 := n5_
                  have HB := n6_
                  clear n0_ n1_ n2_ n3_ n4_ n5_ n6_
                  (try clear hb)
                  (try clear hb2)
                  (try clear hk)
                  (try clear hi)
                  refine hK.out _ _ ⟨(blk_cell BK336.out 0).trans rfl, (blk_cell BK336.out 1).trans rfl, (blk_cell BK336.out 2).trans rfl, (blk_cell BK317.out 0).trans rfl, (blk_cell BK317.out 1).trans rfl, (blk_cell BK317.out 2).trans rfl, (blk_cell BK325.out 0).trans rfl, (blk_cell BK325.out 1).trans rfl, (blk_cell BK325.out 2).trans rfl, (blk_cell BK321.out 0).trans rfl, (blk_cell BK321.out 1).trans rfl, (blk_cell BK321.out 2).trans rfl, (blk_cell BK329.out 0).trans rfl, (blk_cell BK329.out 1).trans rfl, (blk_cell BK329.out 2).trans rfl, (blk_cell BK340.out 0).trans rfl, (blk_cell BK340.out 1).trans rfl, (blk_cell BK340.out 2).trans rfl⟩ (fun hHeld => ?_)
                  clear hK K
                  refine norm_ (a' := ?_) ?_ ?_
                  rotate_left
                  · show Act.put _ (some 71) _ = _
                    simp only [Act.put, List.setIfInBounds_toArray, List.set_cons_zero, List.set_cons_succ, i64_w, i32_w]
                    rfl
                  refine pure_ (i := 37) (N := some 72) (v := ?_) (a' := ?_) #[true, true, true, true, true, true, true, true, true, true, true, true, true, true, true, true, true, true, true, true, true, true, true, true, true, true, true, true, true, true, true, true, true, true, true, true, true, true, false, false, false, false, false, false, false, false, false, false] rfl rfl (any_of HT_.out (by kernel_rfl)) (fun _ _ _ h => h) (Or.inl ⟨by rfl, ?_⟩) ?_ ?_
                  rotate_left
                  · intro w'
                    go_simp
                    with_reducible rfl
                  rotate_left
                  · simp only [Act.put, List.setIfInBounds_toArray, List.set_cons_zero, List.set_cons_succ, i64_w, i32_w]
                    rfl
                  refine pure_ (i := 38) (N := some 73) (v := ?_) (a' := ?_) #[true, true, true, true, true, true, true, true, true, true, true, true, true, true, true, true, true, true, true, true, true, true, true, true, true, true, true, true, true, true, true, true, true, true, true, true, true, true, true, false, false, false, false, false, false, false, false, false] rfl rfl (any_of HT_.out (by kernel_rfl)) (fun _ _ _ h => h) (Or.inl ⟨by rfl, ?_⟩) ?_ ?_
                  rotate_left
                  · intro w'
                    go_simp
                    with_reducible rfl
                  rotate_left
                  · simp only [Act.put, List.setIfInBounds_toArray, List.set_cons_zero, List.set_cons_succ, i64_w, i32_w]
                    rfl
                  refine pure_ (i := 39) (N := some 74) (v := ?_) (a' := ?_) #[true, true, true, true, true, true, true, true, true, true, true, true, true, true, true, true, true, true, true, true, true, true, true, true, true, true, true, true, true, true, true, true, true, true, true, true, true, true, true, true, false, false, false, false, false, false, false, false] rfl rfl (any_of HT_.out (by kernel_rfl)) (fun _ _ _ h => h) (Or.inl ⟨by rfl, ?_⟩) ?_ ?_
                  rotate_left
                  · intro w'
                    go_simp
                    with_reducible rfl
                  rotate_left
                  · simp only [Act.put, List.setIfInBounds_toArray, List.set_cons_zero, List.set_cons_succ, i64_w, i32_w]
                    rfl
                  refine take_ (i := 40) (N := some 75) (v := ?_) (a' := ?_) #[true, true, true, true, true, true, true, true, true, true, true, true, true, true, true, true, true, true, true, true, true, true, true, true, true, true, true, true, true, true, true, true, true, true, true, true, true, true, true, true, true, false, false, false, false, false, false, false] rfl rfl (take_ofW HT_.out HW_.out (by kernel_rfl)) (fun _ _ _ h => h) (Or.inl ⟨by rfl, ?_⟩) hHeld ?_ ?_
                  rotate_left
                  · rintro w' ⟨s0, s1, s2, s3, s4, s5, s6, s7, s8, s9, s10, s11, s12, s13, s14, s15, s16, s17⟩
                    go_simp
                    with_reducible rfl
                  rotate_left
                  · simp only [Act.put, List.setIfInBounds_toArray, List.set_cons_zero, List.set_cons_succ, i64_w, i32_w]
                    rfl
                  refine take_ (i := 42) (N := some 77) (v := ?_) (a' := ?_) #[true, true, true, true, true, true, true, true, true, true, true, true, true, true, true, true, true, true, true, true, true, true, true, true, true, true, true, true, true, true, true, true, true, true, true, true, true, true, true, true, true, false, true, false, false, false, false, false] rfl rfl (take_ofW HT_.out HW_.out (by kernel_rfl)) (fun _ _ _ h => h) (Or.inl ⟨by rfl, ?_⟩) hHeld ?_ ?_
                  rotate_left
                  · rintro w' ⟨s0, s1, s2, s3, s4, s5, s6, s7, s8, s9, s10, s11, s12, s13, s14, s15, s16, s17⟩
                    go_simp
                    with_reducible rfl
                  rotate_left
                  · simp only [Act.put, List.setIfInBounds_toArray, List.set_cons_zero, List.set_cons_succ, i64_w, i32_w]
                    rfl
                  refine one_ (i := 41) (N := some 76) #[true, true, true, true, true, true, true, true, true, true, true, true, true, true, true, true, true, true, true, true, true, true, true, true, true, true, true, true, true, true, true, true, true, true, true, true, true, true, true, true, true, true, true, false, false, false, false, false] rfl rfl (one_of HT_.out (by kernel_rfl)) (by decide) (fun K hK => ?_)
                  refine goes_ Tryd.func16 (by kernel_rfl) rfl #[.agg #[.float .f32 t314, .float .f32 t315, .float .f32 t316]] (by rfl) rfl rfl (by (try simp only [List.map_toArray, List.map_cons, List.map_nil]); first | done | rfl | (simp only [List.length_drop, List.length_take]; rfl)) ?_
                  with_reducible refine (impl_SizeOfVector.calls t314 t315 t316 t354 _ A88.out).mono ?_
                  rintro e w103 ⟨rfl, hb⟩
                  refine ⟨_, rfl, ?_⟩
                  have n0_ := AS (blk_below (g := gb317) (o := .cells #[.float .f32 t314, .float .f32 t315, .float .f32 t316] 26 (0, 0)) (by (with_reducible repeat (first | apply blk_drewN | apply blk_drew | apply blk_alloc)); exact BK317.out) hb)
                  have n1_ := AS (blk_below (g := gb321) (o := .cells #[.float .f32 t318, .float .f32 t319, .float .f32 t320] 26 (0, 0)) (by (with_reducible repeat (first | apply blk_drewN | apply blk_drew | apply blk_alloc)); exact BK321.out) hb)
                  have n2_ := AS (blk_below (g := gb325) (o := .cells #[.float .f32 t322, .float .f32 t323, .float .f32 t324] 26 (0, 0)) (by (with_reducible repeat (first | apply blk_drewN | apply blk_drew | apply blk_alloc)); exact BK325.out) hb)
                  have n3_ := AS (blk_below (g := gb329) (o := .cells #[.float .f32 t326, .float .f32 t327, .float .f32 t328] 26 (0, 0)) (by (with_reducible repeat (first | apply blk_drewN | apply blk_drew | apply blk_alloc)); exact BK329.out) hb)
                  have n4_ := AS (blk_below (g := gb336) (o := .cells #[.float .f32 t333, .float .f32 t334, .float .f32 t335] 26 (0, 0)) (by (with_reducible repeat (first | apply blk_drewN | apply blk_drew | apply blk_alloc)); exact BK336.out) hb)
                  have n5_ := AS (blk_below (g := gb340) (o := .cells #[.float .f32 t337, .float .f32 t338, .float .f32 t339] 26 (0, 0)) (by (with_reducible repeat (first | apply blk_drewN | apply blk_drew | apply blk_alloc)); exact BK340.out) hb)
                  have n6_ := AS (below_step (by repeat (first | (with_reducible first | exact HB.out | apply below_alloc | apply pw_below_drewN | apply below_drew1 | refine below_set ?_ GE317.out | refine below_set ?_ GE321.out | refine below_set ?_ GE325.out | refine below_set ?_ GE329.out | refine below_set ?_ GE336.out | refine below_set ?_ GE340.out) | exact HB.out)) hb)
                  clear BK317
                  clear BK321
                  clear BK325
                  clear BK329
                  clear BK336
                  clear BK340
                  clear HB
                  have BK317 := n0_
                  have BK321 := n1_
                  have BK325 := n2_
                  have BK329 := n3_
                  have BK336 := n4_
                  have BK340 := n5_
                  have HB := n6_
                  clear n0_ n1_ n2_ n3_ n4_ n5_ n6_
                  (try clear hb)
                  (try clear hb2)
                  (try clear hk)
                  (try clear hi)
                  refine hK.out _ _ ⟨(blk_cell BK336.out 0).trans rfl, (blk_cell BK336.out 1).trans rfl, (blk_cell BK336.out 2).trans rfl, (blk_cell BK317.out 0).trans rfl, (blk_cell BK317.out 1).trans rfl, (blk_cell BK317.out 2).trans rfl, (blk_cell BK325.out 0).trans rfl, (blk_cell BK325.out 1).trans rfl, (blk_cell BK325.out 2).trans rfl, (blk_cell BK321.out 0).trans rfl, (blk_cell BK321.out 1).trans rfl, (blk_cell BK321.out 2).trans rfl, (blk_cell BK329.out 0).trans rfl, (blk_cell BK329.out 1).trans rfl, (blk_cell BK329.out 2).trans rfl, (blk_cell BK340.out 0).trans rfl, (blk_cell BK340.out 1).trans rfl, (blk_cell BK340.out 2).trans rfl⟩ (fun hHeld => ?_)
                  clear hK K
                  refine norm_ (a' := ?_) ?_ ?_
                  rotate_left
                  · show Act.put _ (some 76) _ = _
                    simp only [Act.put, List.setIfInBounds_toArray, List.set_cons_zero, List.set_cons_succ, i64_w, i32_w]
                    rfl
                  refine one_ (i := 43) (N := some 78) #[true, true, true, true, true, true, true, true, true, true, true, true, true, true, true, true, true, true, true, true, true, true, true, true, true, true, true, true, true, true, true, true, true, true, true, true, true, true, true, true, true, true, true, true, false, false, false, false] rfl rfl (one_of HT_.out (by kernel_rfl)) (by decide) (fun K hK => ?_)
                  refine goes_ Tryd.func14 (by kernel_rfl) rfl #[.agg #[.float .f32 t314, .float .f32 t315, .float .f32 t316]] (by rfl) rfl rfl (by (try simp only [List.map_toArray, List.map_cons, List.map_nil]); first | done | rfl | (simp only [List.length_drop, List.length_take]; rfl)) ?_
                  with_reducible refine (laws_b10Square.calls t314 t315 t316 t355 _ A89.out).mono ?_
                  rintro e w104 ⟨rfl, hb⟩
                  refine ⟨_, rfl, ?_⟩
                  have n0_ := AS (blk_below (g := gb317) (o := .cells #[.float .f32 t314, .float .f32 t315, .float .f32 t316] 26 (0, 0)) (by (with_reducible repeat (first | apply blk_drewN | apply blk_drew | apply blk_alloc)); exact BK317.out) hb)
                  have n1_ := AS (blk_below (g := gb321) (o := .cells #[.float .f32 t318, .float .f32 t319, .float .f32 t320] 26 (0, 0)) (by (with_reducible repeat (first | apply blk_drewN | apply blk_drew | apply blk_alloc)); exact BK321.out) hb)
                  have n2_ := AS (blk_below (g := gb325) (o := .cells #[.float .f32 t322, .float .f32 t323, .float .f32 t324] 26 (0, 0)) (by (with_reducible repeat (first | apply blk_drewN | apply blk_drew | apply blk_alloc)); exact BK325.out) hb)
                  have n3_ := AS (blk_below (g := gb329) (o := .cells #[.float .f32 t326, .float .f32 t327, .float .f32 t328] 26 (0, 0)) (by (with_reducible repeat (first | apply blk_drewN | apply blk_drew | apply blk_alloc)); exact BK329.out) hb)
                  have n4_ := AS (blk_below (g := gb336) (o := .cells #[.float .f32 t333, .float .f32 t334, .float .f32 t335] 26 (0, 0)) (by (with_reducible repeat (first | apply blk_drewN | apply blk_drew | apply blk_alloc)); exact BK336.out) hb)
                  have n5_ := AS (blk_below (g := gb340) (o := .cells #[.float .f32 t337, .float .f32 t338, .float .f32 t339] 26 (0, 0)) (by (with_reducible repeat (first | apply blk_drewN | apply blk_drew | apply blk_alloc)); exact BK340.out) hb)
                  have n6_ := AS (below_step (by repeat (first | (with_reducible first | exact HB.out | apply below_alloc | apply pw_below_drewN | apply below_drew1 | refine below_set ?_ GE317.out | refine below_set ?_ GE321.out | refine below_set ?_ GE325.out | refine below_set ?_ GE329.out | refine below_set ?_ GE336.out | refine below_set ?_ GE340.out) | exact HB.out)) hb)
                  clear BK317
                  clear BK321
                  clear BK325
                  clear BK329
                  clear BK336
                  clear BK340
                  clear HB
                  have BK317 := n0_
                  have BK321 := n1_
                  have BK325 := n2_
                  have BK329 := n3_
                  have BK336 := n4_
                  have BK340 := n5_
                  have HB := n6_
                  clear n0_ n1_ n2_ n3_ n4_ n5_ n6_
                  (try clear hb)
                  (try clear hb2)
                  (try clear hk)
                  (try clear hi)
                  refine hK.out _ _ ⟨(blk_cell BK336.out 0).trans rfl, (blk_cell BK336.out 1).trans rfl, (blk_cell BK336.out 2).trans rfl, (blk_cell BK317.out 0).trans rfl, (blk_cell BK317.out 1).trans rfl, (blk_cell BK317.out 2).trans rfl, (blk_cell BK325.out 0).trans rfl, (blk_cell BK325.out 1).trans rfl, (blk_cell BK325.out 2).trans rfl, (blk_cell BK321.out 0).trans rfl, (blk_cell BK321.out 1).trans rfl, (blk_cell BK321.out 2).trans rfl, (blk_cell BK329.out 0).trans rfl, (blk_cell BK329.out 1).trans rfl, (blk_cell BK329.out 2).trans rfl, (blk_cell BK340.out 0).trans rfl, (blk_cell BK340.out 1).trans rfl, (blk_cell BK340.out 2).trans rfl⟩ (fun hHeld => ?_)
                  clear hK K
                  refine norm_ (a' := ?_) ?_ ?_
                  rotate_left
                  · show Act.put _ (some 78) _ = _
                    simp only [Act.put, List.setIfInBounds_toArray, List.set_cons_zero, List.set_cons_succ, i64_w, i32_w]
                    rfl
                  refine one_ (i := 44) (N := some 79) #[true, true, true, true, true, true, true, true, true, true, true, true, true, true, true, true, true, true, true, true, true, true, true, true, true, true, true, true, true, true, true, true, true, true, true, true, true, true, true, true, true, true, true, true, true, false, false, false] rfl rfl (one_of HT_.out (by kernel_rfl)) (by decide) (fun K hK => ?_)
                  refine goes_ Tryd.func17 (by kernel_rfl) rfl #[.float .f32 t355] (by rfl) rfl rfl (by (try simp only [List.map_toArray, List.map_cons, List.map_nil]); first | done | rfl | (simp only [List.length_drop, List.length_take]; rfl)) ?_
                  with_reducible refine (spec_RootNumber.calls t355 t356 _ A90.out).mono ?_
                  rintro e w' ⟨rfl, ⟨nd, rfl⟩⟩
                  refine ⟨_, rfl, ?_⟩
                  refine hK.out _ _ ⟨(blk_cell BK336.out 0).trans rfl, (blk_cell BK336.out 1).trans rfl, (blk_cell BK336.out 2).trans rfl, (blk_cell BK317.out 0).trans rfl, (blk_cell BK317.out 1).trans rfl, (blk_cell BK317.out 2).trans rfl, (blk_cell BK325.out 0).trans rfl, (blk_cell BK325.out 1).trans rfl, (blk_cell BK325.out 2).trans rfl, (blk_cell BK321.out 0).trans rfl, (blk_cell BK321.out 1).trans rfl, (blk_cell BK321.out 2).trans rfl, (blk_cell BK329.out 0).trans rfl, (blk_cell BK329.out 1).trans rfl, (blk_cell BK329.out 2).trans rfl, (blk_cell BK340.out 0).trans rfl, (blk_cell BK340.out 1).trans rfl, (blk_cell BK340.out 2).trans rfl⟩ (fun hHeld => ?_)
                  clear hK K
                  refine norm_ (a' := ?_) ?_ ?_
                  rotate_left
                  · show Act.put _ (some 79) _ = _
                    simp only [Act.put, List.setIfInBounds_toArray, List.set_cons_zero, List.set_cons_succ, i64_w, i32_w]
                    rfl
                  refine one_ (i := 45) (N := some 80) #[true, true, true, true, true, true, true, true, true, true, true, true, true, true, true, true, true, true, true, true, true, true, true, true, true, true, true, true, true, true, true, true, true, true, true, true, true, true, true, true, true, true, true, true, true, true, false, false] rfl rfl (one_of HT_.out (by kernel_rfl)) (by decide) (fun K hK => ?_)
                  refine goes_ Tryd.func15 (by kernel_rfl) rfl #[.float .f32 t354, .float .f32 t356] (by rfl) rfl rfl (by (try simp only [List.map_toArray, List.map_cons, List.map_nil]); first | done | rfl | (simp only [List.length_drop, List.length_take]; rfl)) ?_
                  with_reducible refine (spec_SameNumber.calls t354 t356 t357 _ A91.out).mono ?_
                  rintro e w' ⟨rfl, ⟨nd, rfl⟩⟩
                  refine ⟨_, rfl, ?_⟩
                  refine hK.out _ _ ⟨(blk_cell BK336.out 0).trans rfl, (blk_cell BK336.out 1).trans rfl, (blk_cell BK336.out 2).trans rfl, (blk_cell BK317.out 0).trans rfl, (blk_cell BK317.out 1).trans rfl, (blk_cell BK317.out 2).trans rfl, (blk_cell BK325.out 0).trans rfl, (blk_cell BK325.out 1).trans rfl, (blk_cell BK325.out 2).trans rfl, (blk_cell BK321.out 0).trans rfl, (blk_cell BK321.out 1).trans rfl, (blk_cell BK321.out 2).trans rfl, (blk_cell BK329.out 0).trans rfl, (blk_cell BK329.out 1).trans rfl, (blk_cell BK329.out 2).trans rfl, (blk_cell BK340.out 0).trans rfl, (blk_cell BK340.out 1).trans rfl, (blk_cell BK340.out 2).trans rfl⟩ (fun hHeld => ?_)
                  clear hK K
                  refine norm_ (a' := ?_) ?_ ?_
                  rotate_left
                  · show Act.put _ (some 80) _ = _
                    simp only [Act.put, List.setIfInBounds_toArray, List.set_cons_zero, List.set_cons_succ, i64_w, i32_w]
                    rfl
                  refine pure_ (i := 46) (N := some 81) (v := ?_) (a' := ?_) #[true, true, true, true, true, true, true, true, true, true, true, true, true, true, true, true, true, true, true, true, true, true, true, true, true, true, true, true, true, true, true, true, true, true, true, true, true, true, true, true, true, true, true, true, true, true, true, false] rfl rfl (any_of HT_.out (by kernel_rfl)) (fun _ _ _ h => h) (Or.inl ⟨by rfl, ?_⟩) ?_ ?_
                  rotate_left
                  · intro w'
                    go_simp
                    with_reducible rfl
                  rotate_left
                  · simp only [Act.put, List.setIfInBounds_toArray, List.set_cons_zero, List.set_cons_succ, i64_w, i32_w]
                    rfl
                  refine pure_ (i := 47) (N := some 82) (v := ?_) (a' := ?_) #[true, true, true, true, true, true, true, true, true, true, true, true, true, true, true, true, true, true, true, true, true, true, true, true, true, true, true, true, true, true, true, true, true, true, true, true, true, true, true, true, true, true, true, true, true, true, true, true] rfl rfl (any_of HT_.out (by kernel_rfl)) (fun _ _ _ h => h) (Or.inl ⟨by rfl, ?_⟩) ?_ ?_
                  rotate_left
                  · intro w'
                    go_simp
                    with_reducible rfl
                  rotate_left
                  · simp only [Act.put, List.setIfInBounds_toArray, List.set_cons_zero, List.set_cons_succ, i64_w, i32_w]
                    rfl
                  refine done_ (done_of HT_.out (by kernel_rfl)) ?_
                  try go_wp2
                  go_meet
                  case rel => exact ⟨_, (!t357), (by first | rfl | (simp; done) | (simp [*]; done)), H', ⟨by first | omega | exact Nat.le_refl _⟩, ⟨by (with_reducible repeat (first | apply blk_drewN | apply blk_drew | apply blk_alloc)); exact BK317.out⟩, ⟨by (with_reducible repeat (first | apply blk_drewN | apply blk_drew | apply blk_alloc)); exact BK321.out⟩, ⟨by (with_reducible repeat (first | apply blk_drewN | apply blk_drew | apply blk_alloc)); exact BK325.out⟩, ⟨by (with_reducible repeat (first | apply blk_drewN | apply blk_drew | apply blk_alloc)); exact BK329.out⟩, ⟨by (with_reducible repeat (first | apply blk_drewN | apply blk_drew | apply blk_alloc)); exact BK336.out⟩, ⟨by (with_reducible repeat (first | apply blk_drewN | apply blk_drew | apply blk_alloc)); exact BK340.out⟩, ⟨by repeat (first | (with_reducible first | exact HB.out | apply below_alloc | apply pw_below_drewN | apply below_drew1 | refine below_set ?_ GE317.out | refine below_set ?_ GE321.out | refine below_set ?_ GE325.out | refine below_set ?_ GE329.out | refine below_set ?_ GE336.out | refine below_set ?_ GE340.out) | exact HB.out)⟩⟩
              · replace c73 := Bool.eq_false_iff.mpr c73
                subst c73
                have H1 : (laws_FnVectors.j0 k l0 true t314 t315 t316 t318 t319 t320) = some true := by rw [if_neg (show ¬ (false = true) by decide)] at H; exact H
                clear H
                have H := H1
                clear H1
                exact (FnVectors_j0_no H).elim
            · replace c70 := Bool.eq_false_iff.mpr c70
              subst c70
              have H1 : (laws_FnVectors.j0 k l0 true t314 t315 t316 t318 t319 t320) = some true := by rw [if_neg (show ¬ (false = true) by decide)] at H; exact H
              clear H
              have H := H1
              clear H1
              exact (FnVectors_j0_no H).elim
      · replace c54 := Bool.eq_false_iff.mpr c54
        subst c54
        have H1 : (laws_FnVectors.j0 k l0 true t314 t315 t316 t318 t319 t320) = some true := by rw [if_neg (show ¬ (false = true) by decide)] at H; exact H
        clear H
        have H := H1
        clear H1
        exact (FnVectors_j0_no H).elim
    case rest =>
      clear HC12
      try clear c1
      try clear p2
      try clear c5
      try clear c11
      try clear c12
      try clear c54
      obtain ⟨kq, x82_11, rfl, HA, HJ11, BK317, BK321, BK325, BK329, BK336, BK340, HB⟩ := hcut
      cases kq with
      | zero => exact absurd HA.out (by simp [laws_FnVectors.j0])
      | succ kj11 =>
        have H := HA.out
        clear HA
        simp only [laws_FnVectors.j0] at H
        by_cases c124 : x82_11 = true
        · subst c124
          have H1 : (some false) = some true := by rw [if_pos rfl] at H; exact H
          clear H
          have H := H1
          clear H1
          exact absurd (Option.some.inj H) (by decide)
        · replace c124 := Bool.eq_false_iff.mpr c124
          subst c124
          have H1 : ((impl_BetweenVectors.f t314 t315 t316 t318 t319 t320 0).bind fun bt358 => ((laws_b10VEqual.f bt358.1 bt358.2.1 bt358.2.2 t314 t315 t316).bind fun t361 => (if t361 = true then ((impl_BetweenVectors.f t314 t315 t316 t318 t319 t320 1065353216).bind fun bt362 => ((laws_b10VEqual.f bt362.1 bt362.2.1 bt362.2.2 t318 t319 t320).bind fun t365 => (laws_FnVectors.j1 kj11 l0 (!t365)))) else (laws_FnVectors.j1 kj11 l0 true)))) = some true := by rw [if_neg (show ¬ (false = true) by decide)] at H; exact H
          clear H
          have H := H1
          clear H1
          have HC125 := AS H
          clear H
          go_upto_region 11 with (fail)
          go_cut [96] (fun v96 wc => ∃ (kq : Nat) (x96_124 : Bool), v96 = .bool x96_124 ∧ Aside0 (laws_FnVectors.j1 kq l0 x96_124 = some true) ∧ Aside0 (kq ≤ kj11) ∧ Aside0 (wc.heap[gb317]? = some (.cells #[.float .f32 t314, .float .f32 t315, .float .f32 t316] 26 (0, 0))) ∧ Aside0 (wc.heap[gb321]? = some (.cells #[.float .f32 t318, .float .f32 t319, .float .f32 t320] 26 (0, 0))) ∧ Aside0 (wc.heap[gb325]? = some (.cells #[.float .f32 t322, .float .f32 t323, .float .f32 t324] 26 (0, 0))) ∧ Aside0 (wc.heap[gb329]? = some (.cells #[.float .f32 t326, .float .f32 t327, .float .f32 t328] 26 (0, 0))) ∧ Aside0 (wc.heap[gb336]? = some (.cells #[.float .f32 t333, .float .f32 t334, .float .f32 t335] 26 (0, 0))) ∧ Aside0 (wc.heap[gb340]? = some (.cells #[.float .f32 t337, .float .f32 t338, .float .f32 t339] 26 (0, 0))) ∧ Aside0 (Below w.heap.size w wc))
          case first =>
            have H := HC125.out
            clear HC125
            replace H := Option.bind_eq_some_iff.mp H
            obtain ⟨⟨t358, t359, t360⟩, A1260, H⟩ := H
            replace H : ((laws_b10VEqual.f t358 t359 t360 t314 t315 t316).bind fun t361 => (if t361 = true then ((impl_BetweenVectors.f t314 t315 t316 t318 t319 t320 1065353216).bind fun bt362 => ((laws_b10VEqual.f bt362.1 bt362.2.1 bt362.2.2 t318 t319 t320).bind fun t365 => (laws_FnVectors.j1 kj11 l0 (!t365)))) else (laws_FnVectors.j1 kj11 l0 true))) = some true := H
            have A126 := AS A1260
            clear A1260
            replace H := Option.bind_eq_some_iff.mp H
            obtain ⟨t361, A1270, H⟩ := H
            replace H : (if t361 = true then ((impl_BetweenVectors.f t314 t315 t316 t318 t319 t320 1065353216).bind fun bt362 => ((laws_b10VEqual.f bt362.1 bt362.2.1 bt362.2.2 t318 t319 t320).bind fun t365 => (laws_FnVectors.j1 kj11 l0 (!t365)))) else (laws_FnVectors.j1 kj11 l0 true)) = some true := H
            have A127 := AS A1270
            clear A1270
            by_cases c128 : t361 = true
            · subst c128
              have H1 : ((impl_BetweenVectors.f t314 t315 t316 t318 t319 t320 1065353216).bind fun bt362 => ((laws_b10VEqual.f bt362.1 bt362.2.1 bt362.2.2 t318 t319 t320).bind fun t365 => (laws_FnVectors.j1 kj11 l0 (!t365)))) = some true := by rw [if_pos rfl] at H; exact H
              clear H
              have H := H1
              clear H1
              replace H := Option.bind_eq_some_iff.mp H
              obtain ⟨⟨t362, t363, t364⟩, A1290, H⟩ := H
              replace H : ((laws_b10VEqual.f t362 t363 t364 t318 t319 t320).bind fun t365 => (laws_FnVectors.j1 kj11 l0 (!t365))) = some true := H
              have A129 := AS A1290
              clear A1290
              replace H := Option.bind_eq_some_iff.mp H
              obtain ⟨t365, A1300, H⟩ := H
              replace H : (laws_FnVectors.j1 kj11 l0 (!t365)) = some true := H
              have A130 := AS A1300
              clear A1300
              have H' := AS H
              clear H
              try go_wp2
              have n0_ := AS (blk_drew BK317.out)
              have n1_ := AS (blk_drew BK321.out)
              have n2_ := AS (blk_drew BK325.out)
              have n3_ := AS (blk_drew BK329.out)
              have n4_ := AS (blk_drew BK336.out)
              have n5_ := AS (blk_drew BK340.out)
              have n6_ := AS (below_drew1 HB.out)
              clear BK317
              clear BK321
              clear BK325
              clear BK329
              clear BK336
              clear BK340
              clear HB
              have BK317 := n0_
              have BK321 := n1_
              have BK325 := n2_
              have BK329 := n3_
              have BK336 := n4_
              have BK340 := n5_
              have HB := n6_
              clear n0_ n1_ n2_ n3_ n4_ n5_ n6_
              refine start_ (n := 14) (S := fun w' => w'.cell? ⟨gb317, 0, none⟩ = some (.float .f32 t314) ∧ w'.cell? ⟨gb317, 1, none⟩ = some (.float .f32 t315) ∧ w'.cell? ⟨gb317, 2, none⟩ = some (.float .f32 t316) ∧ w'.cell? ⟨gb321, 0, none⟩ = some (.float .f32 t318) ∧ w'.cell? ⟨gb321, 1, none⟩ = some (.float .f32 t319) ∧ w'.cell? ⟨gb321, 2, none⟩ = some (.float .f32 t320)) (ds := []) #[false, false, false, false, false, false, false, false, false, false, false, false, false, false] (by kernel_rfl) rfl rfl ⟨(blk_cell BK317.out 0).trans rfl, (blk_cell BK317.out 1).trans rfl, (blk_cell BK317.out 2).trans rfl, (blk_cell BK321.out 0).trans rfl, (blk_cell BK321.out 1).trans rfl, (blk_cell BK321.out 2).trans rfl⟩ (fun hHeld => ?_); refine with_tabW laws_FnVectors.tab11 laws_FnVectors.bits11 (fun HT_ HW_ => ?_)
              generalize wc.drew = w131 at BK317 BK321 BK325 BK329 BK336 BK340 HB hHeld ⊢
              refine take_ (i := 0) (N := some 83) (v := ?_) (a' := ?_) #[true, false, false, false, false, false, false, false, false, false, false, false, false, false] rfl rfl (take_ofW HT_.out HW_.out (by kernel_rfl)) (fun _ _ _ h => h) (Or.inl ⟨by rfl, ?_⟩) hHeld ?_ ?_
              rotate_left
              · rintro w' ⟨s0, s1, s2, s3, s4, s5⟩
                go_simp
                with_reducible rfl
              rotate_left
              · simp only [Act.put, List.setIfInBounds_toArray, List.set_cons_zero, List.set_cons_succ, i64_w, i32_w]
                rfl
              refine take_ (i := 1) (N := some 84) (v := ?_) (a' := ?_) #[true, true, false, false, false, false, false, false, false, false, false, false, false, false] rfl rfl (take_ofW HT_.out HW_.out (by kernel_rfl)) (fun _ _ _ h => h) (Or.inl ⟨by rfl, ?_⟩) hHeld ?_ ?_
              rotate_left
              · rintro w' ⟨s0, s1, s2, s3, s4, s5⟩
                go_simp
                with_reducible rfl
              rotate_left
              · simp only [Act.put, List.setIfInBounds_toArray, List.set_cons_zero, List.set_cons_succ, i64_w, i32_w]
                rfl
              refine take_ (i := 3) (N := some 86) (v := ?_) (a' := ?_) #[true, true, false, true, false, false, false, false, false, false, false, false, false, false] rfl rfl (take_ofW HT_.out HW_.out (by kernel_rfl)) (fun _ _ _ h => h) (Or.inl ⟨by rfl, ?_⟩) hHeld ?_ ?_
              rotate_left
              · rintro w' ⟨s0, s1, s2, s3, s4, s5⟩
                go_simp
                with_reducible rfl
              rotate_left
              · simp only [Act.put, List.setIfInBounds_toArray, List.set_cons_zero, List.set_cons_succ, i64_w, i32_w]
                rfl
              refine one_ (i := 2) (N := some 85) #[true, true, true, true, false, false, false, false, false, false, false, false, false, false] rfl rfl (one_of HT_.out (by kernel_rfl)) (by decide) (fun K hK => ?_)
              refine goes_ Tryd.func18 (by kernel_rfl) rfl #[.agg #[.float .f32 t314, .float .f32 t315, .float .f32 t316], .agg #[.float .f32 t318, .float .f32 t319, .float .f32 t320], .float .f32 0] (by rfl) rfl rfl (by (try simp only [List.map_toArray, List.map_cons, List.map_nil]); first | done | rfl | (simp only [List.length_drop, List.length_take]; rfl)) ?_
              with_reducible refine (impl_BetweenVectors.calls t314 t315 t316 t318 t319 t320 0 t358 t359 t360 _ A126.out).mono ?_
              rintro e w132 ⟨rfl, hb⟩
              refine ⟨_, rfl, ?_⟩
              have n0_ := AS (blk_below (g := gb317) (o := .cells #[.float .f32 t314, .float .f32 t315, .float .f32 t316] 26 (0, 0)) (by (with_reducible repeat (first | apply blk_drewN | apply blk_drew | apply blk_alloc)); exact BK317.out) hb)
              have n1_ := AS (blk_below (g := gb321) (o := .cells #[.float .f32 t318, .float .f32 t319, .float .f32 t320] 26 (0, 0)) (by (with_reducible repeat (first | apply blk_drewN | apply blk_drew | apply blk_alloc)); exact BK321.out) hb)
              have n2_ := AS (blk_below (g := gb325) (o := .cells #[.float .f32 t322, .float .f32 t323, .float .f32 t324] 26 (0, 0)) (by (with_reducible repeat (first | apply blk_drewN | apply blk_drew | apply blk_alloc)); exact BK325.out) hb)
              have n3_ := AS (blk_below (g := gb329) (o := .cells #[.float .f32 t326, .float .f32 t327, .float .f32 t328] 26 (0, 0)) (by (with_reducible repeat (first | apply blk_drewN | apply blk_drew | apply blk_alloc)); exact BK329.out) hb)
              have n4_ := AS (blk_below (g := gb336) (o := .cells #[.float .f32 t333, .float .f32 t334, .float .f32 t335] 26 (0, 0)) (by (with_reducible repeat (first | apply blk_drewN | apply blk_drew | apply blk_alloc)); exact BK336.out) hb)
              have n5_ := AS (blk_below (g := gb340) (o := .cells #[.float .f32 t337, .float .f32 t338, .float .f32 t339] 26 (0, 0)) (by (with_reducible repeat (first | apply blk_drewN | apply blk_drew | apply blk_alloc)); exact BK340.out) hb)
              have n6_ := AS (below_step (by repeat (first | (with_reducible first | exact HB.out | apply below_alloc | apply pw_below_drewN | apply below_drew1 | refine below_set ?_ GE317.out | refine below_set ?_ GE321.out | refine below_set ?_ GE325.out | refine below_set ?_ GE329.out | refine below_set ?_ GE336.out | refine below_set ?_ GE340.out) | exact HB.out)) hb)
              clear BK317
              clear BK321
              clear BK325
              clear BK329
              clear BK336
              clear BK340
              clear HB
              have BK317 := n0_
              have BK321 := n1_
              have BK325 := n2_
              have BK329 := n3_
              have BK336 := n4_
              have BK340 := n5_
              have HB := n6_
              clear n0_ n1_ n2_ n3_ n4_ n5_ n6_
              (try clear hb)
              (try clear hb2)
              (try clear hk)
              (try clear hi)
              refine hK.out _ _ ⟨(blk_cell BK317.out 0).trans rfl, (blk_cell BK317.out 1).trans rfl, (blk_cell BK317.out 2).trans rfl, (blk_cell BK321.out 0).trans rfl, (blk_cell BK321.out 1).trans rfl, (blk_cell BK321.out 2).trans rfl⟩ (fun hHeld => ?_)
              clear hK K
              refine norm_ (a' := ?_) ?_ ?_
              rotate_left
              · show Act.put _ (some 85) _ = _
                simp only [Act.put, List.setIfInBounds_toArray, List.set_cons_zero, List.set_cons_succ, i64_w, i32_w]
                rfl
              refine one_ (i := 4) (N := some 87) #[true, true, true, true, true, false, false, false, false, false, false, false, false, false] rfl rfl (one_of HT_.out (by kernel_rfl)) (by decide) (fun K hK => ?_)
              refine goes_ Tryd.func12 (by kernel_rfl) rfl #[.agg #[.float .f32 t358, .float .f32 t359, .float .f32 t360], .agg #[.float .f32 t314, .float .f32 t315, .float .f32 t316]] (by rfl) rfl rfl (by (try simp only [List.map_toArray, List.map_cons, List.map_nil]); first | done | rfl | (simp only [List.length_drop, List.length_take]; rfl)) ?_
              with_reducible refine (laws_b10VEqual.calls t358 t359 t360 t314 t315 t316 true _ A127.out).mono ?_
              rintro e w133 ⟨rfl, hb⟩
              refine ⟨_, rfl, ?_⟩
              have n0_ := AS (blk_below (g := gb317) (o := .cells #[.float .f32 t314, .float .f32 t315, .float .f32 t316] 26 (0, 0)) (by (with_reducible repeat (first | apply blk_drewN | apply blk_drew | apply blk_alloc)); exact BK317.out) hb)
              have n1_ := AS (blk_below (g := gb321) (o := .cells #[.float .f32 t318, .float .f32 t319, .float .f32 t320] 26 (0, 0)) (by (with_reducible repeat (first | apply blk_drewN | apply blk_drew | apply blk_alloc)); exact BK321.out) hb)
              have n2_ := AS (blk_below (g := gb325) (o := .cells #[.float .f32 t322, .float .f32 t323, .float .f32 t324] 26 (0, 0)) (by (with_reducible repeat (first | apply blk_drewN | apply blk_drew | apply blk_alloc)); exact BK325.out) hb)
              have n3_ := AS (blk_below (g := gb329) (o := .cells #[.float .f32 t326, .float .f32 t327, .float .f32 t328] 26 (0, 0)) (by (with_reducible repeat (first | apply blk_drewN | apply blk_drew | apply blk_alloc)); exact BK329.out) hb)
              have n4_ := AS (blk_below (g := gb336) (o := .cells #[.float .f32 t333, .float .f32 t334, .float .f32 t335] 26 (0, 0)) (by (with_reducible repeat (first | apply blk_drewN | apply blk_drew | apply blk_alloc)); exact BK336.out) hb)
              have n5_ := AS (blk_below (g := gb340) (o := .cells #[.float .f32 t337, .float .f32 t338, .float .f32 t339] 26 (0, 0)) (by (with_reducible repeat (first | apply blk_drewN | apply blk_drew | apply blk_alloc)); exact BK340.out) hb)
              have n6_ := AS (below_step (by repeat (first | (with_reducible first | exact HB.out | apply below_alloc | apply pw_below_drewN | apply below_drew1 | refine below_set ?_ GE317.out | refine below_set ?_ GE321.out | refine below_set ?_ GE325.out | refine below_set ?_ GE329.out | refine below_set ?_ GE336.out | refine below_set ?_ GE340.out) | exact HB.out)) hb)
              clear BK317
              clear BK321
              clear BK325
              clear BK329
              clear BK336
              clear BK340
              clear HB
              have BK317 := n0_
              have BK321 := n1_
              have BK325 := n2_
              have BK329 := n3_
              have BK336 := n4_
              have BK340 := n5_
              have HB := n6_
              clear n0_ n1_ n2_ n3_ n4_ n5_ n6_
              (try clear hb)
              (try clear hb2)
              (try clear hk)
              (try clear hi)
              refine hK.out _ _ ⟨(blk_cell BK317.out 0).trans rfl, (blk_cell BK317.out 1).trans rfl, (blk_cell BK317.out 2).trans rfl, (blk_cell BK321.out 0).trans rfl, (blk_cell BK321.out 1).trans rfl, (blk_cell BK321.out 2).trans rfl⟩ (fun hHeld => ?_)
              clear hK K
              refine norm_ (a' := ?_) ?_ ?_
              rotate_left
              · show Act.put _ (some 87) _ = _
                simp only [Act.put, List.setIfInBounds_toArray, List.set_cons_zero, List.set_cons_succ, i64_w, i32_w]
                rfl
              refine pure_ (i := 5) (N := some 88) (v := ?_) (a' := ?_) #[true, true, true, true, true, true, false, false, false, false, false, false, false, false] rfl rfl (any_of HT_.out (by kernel_rfl)) (fun _ _ _ h => h) (Or.inl ⟨by rfl, ?_⟩) ?_ ?_
              rotate_left
              · intro w'
                go_simp
                with_reducible rfl
              rotate_left
              · simp only [Act.put, List.setIfInBounds_toArray, List.set_cons_zero, List.set_cons_succ, i64_w, i32_w]
                rfl
              refine pure_ (i := 6) (N := some 89) (v := ?_) (a' := ?_) #[true, true, true, true, true, true, true, false, false, false, false, false, false, false] rfl rfl (any_of HT_.out (by kernel_rfl)) (fun _ _ _ h => h) (Or.inl ⟨by rfl, ?_⟩) ?_ ?_
              rotate_left
              · intro w'
                go_simp
                with_reducible rfl
              rotate_left
              · simp only [Act.put, List.setIfInBounds_toArray, List.set_cons_zero, List.set_cons_succ, i64_w, i32_w]
                rfl
              refine take_ (i := 7) (N := some 90) (v := ?_) (a' := ?_) #[true, true, true, true, true, true, true, true, false, false, false, false, false, false] rfl rfl (take_ofW HT_.out HW_.out (by kernel_rfl)) (fun _ _ _ h => h) (Or.inl ⟨by rfl, ?_⟩) hHeld ?_ ?_
              rotate_left
              · rintro w' ⟨s0, s1, s2, s3, s4, s5⟩
                go_simp
                with_reducible rfl
              rotate_left
              · simp only [Act.put, List.setIfInBounds_toArray, List.set_cons_zero, List.set_cons_succ, i64_w, i32_w]
                rfl
              refine take_ (i := 8) (N := some 91) (v := ?_) (a' := ?_) #[true, true, true, true, true, true, true, true, true, false, false, false, false, false] rfl rfl (take_ofW HT_.out HW_.out (by kernel_rfl)) (fun _ _ _ h => h) (Or.inl ⟨by rfl, ?_⟩) hHeld ?_ ?_
              rotate_left
              · rintro w' ⟨s0, s1, s2, s3, s4, s5⟩
                go_simp
                with_reducible rfl
              rotate_left
              · simp only [Act.put, List.setIfInBounds_toArray, List.set_cons_zero, List.set_cons_succ, i64_w, i32_w]
                rfl
              refine take_ (i := 10) (N := some 93) (v := ?_) (a' := ?_) #[true, true, true, true, true, true, true, true, true, false, true, false, false, false] rfl rfl (take_ofW HT_.out HW_.out (by kernel_rfl)) (fun _ _ _ h => h) (Or.inl ⟨by rfl, ?_⟩) hHeld ?_ ?_
              rotate_left
              · rintro w' ⟨s0, s1, s2, s3, s4, s5⟩
                go_simp
                with_reducible rfl
              rotate_left
              · simp only [Act.put, List.setIfInBounds_toArray, List.set_cons_zero, List.set_cons_succ, i64_w, i32_w]
                rfl
              refine one_ (i := 9) (N := some 92) #[true, true, true, true, true, true, true, true, true, true, true, false, false, false] rfl rfl (one_of HT_.out (by kernel_rfl)) (by decide) (fun K hK => ?_)
              refine goes_ Tryd.func18 (by kernel_rfl) rfl #[.agg #[.float .f32 t314, .float .f32 t315, .float .f32 t316], .agg #[.float .f32 t318, .float .f32 t319, .float .f32 t320], .float .f32 1065353216] (by rfl) rfl rfl (by (try simp only [List.map_toArray, List.map_cons, List.map_nil]); first | done | rfl | (simp only [List.length_drop, List.length_take]; rfl)) ?_
              with_reducible refine (impl_BetweenVectors.calls t314 t315 t316 t318 t319 t320 1065353216 t362 t363 t364 _ A129.out).mono ?_
              rintro e w134 ⟨rfl, hb⟩
              refine ⟨_, rfl, ?_⟩
              have n0_ := AS (blk_below (g := gb317) (o := .cells #[.float .f32 t314, .float .f32 t315, .float .f32 t316] 26 (0, 0)) (by (with_reducible repeat (first | apply blk_drewN | apply blk_drew | apply blk_alloc)); exact BK317.out) hb)
              have n1_ := AS (blk_below (g := gb321) (o := .cells #[.float .f32 t318, .float .f32 t319, .float .f32 t320] 26 (0, 0)) (by (with_reducible repeat (first | apply blk_drewN | apply blk_drew | apply blk_alloc)); exact BK321.out) hb)
              have n2_ := AS (blk_below (g := gb325) (o := .cells #[.float .f32 t322, .float .f32 t323, .float .f32 t324] 26 (0, 0)) (by (with_reducible repeat (first | apply blk_drewN | apply blk_drew | apply blk_alloc)); exact BK325.out) hb)
              have n3_ := AS (blk_below (g := gb329) (o := .cells #[.float .f32 t326, .float .f32 t327, .float .f32 t328] 26 (0, 0)) (by (with_reducible repeat (first | apply blk_drewN | apply blk_drew | apply blk_alloc)); exact BK329.out) hb)
              have n4_ := AS (blk_below (g := gb336) (o := .cells #[.float .f32 t333, .float .f32 t334, .float .f32 t335] 26 (0, 0)) (by (with_reducible repeat (first | apply blk_drewN | apply blk_drew | apply blk_alloc)); exact BK336.out) hb)
              have n5_ := AS (blk_below (g := gb340) (o := .cells #[.float .f32 t337, .float .f32 t338, .float .f32 t339] 26 (0, 0)) (by (with_reducible repeat (first | apply blk_drewN | apply blk_drew | apply blk_alloc)); exact BK340.out) hb)
              have n6_ := AS (below_step (by repeat (first | (with_reducible first | exact HB.out | apply below_alloc | apply pw_below_drewN | apply below_drew1 | refine below_set ?_ GE317.out | refine below_set ?_ GE321.out | refine below_set ?_ GE325.out | refine below_set ?_ GE329.out | refine below_set ?_ GE336.out | refine below_set ?_ GE340.out) | exact HB.out)) hb)
              clear BK317
              clear BK321
              clear BK325
              clear BK329
              clear BK336
              clear BK340
              clear HB
              have BK317 := n0_
              have BK321 := n1_
              have BK325 := n2_
              have BK329 := n3_
              have BK336 := n4_
              have BK340 := n5_
              have HB := n6_
              clear n0_ n1_ n2_ n3_ n4_ n5_ n6_
              (try clear hb)
              (try clear hb2)
              (try clear hk)
              (try clear hi)
              refine hK.out _ _ ⟨(blk_cell BK317.out 0).trans rfl, (blk_cell BK317.out 1).trans rfl, (blk_cell BK317.out 2).trans rfl, (blk_cell BK321.out 0).trans rfl, (blk_cell BK321.out 1).trans rfl, (blk_cell BK321.out 2).trans rfl⟩ (fun hHeld => ?_)
              clear hK K
              refine norm_ (a' := ?_) ?_ ?_
              rotate_left
              · show Act.put _ (some 92) _ = _
                simp only [Act.put, List.setIfInBounds_toArray, List.set_cons_zero, List.set_cons_succ, i64_w, i32_w]
                rfl
              refine one_ (i := 11) (N := some 94) #[true, true, true, true, true, true, true, true, true, true, true, true, false, false] rfl rfl (one_of HT_.out (by kernel_rfl)) (by decide) (fun K hK => ?_)
              refine goes_ Tryd.func12 (by kernel_rfl) rfl #[.agg #[.float .f32 t362, .float .f32 t363, .float .f32 t364], .agg #[.float .f32 t318, .float .f32 t319, .float .f32 t320]] (by rfl) rfl rfl (by (try simp only [List.map_toArray, List.map_cons, List.map_nil]); first | done | rfl | (simp only [List.length_drop, List.length_take]; rfl)) ?_
              with_reducible refine (laws_b10VEqual.calls t362 t363 t364 t318 t319 t320 t365 _ A130.out).mono ?_
              rintro e w135 ⟨rfl, hb⟩
              refine ⟨_, rfl, ?_⟩
              have n0_ := AS (blk_below (g := gb317) (o := .cells #[.float .f32 t314, .float .f32 t315, .float .f32 t316] 26 (0, 0)) (by (with_reducible repeat (first | apply blk_drewN | apply blk_drew | apply blk_alloc)); exact BK317.out) hb)
              have n1_ := AS (blk_below (g := gb321) (o := .cells #[.float .f32 t318, .float .f32 t319, .float .f32 t320] 26 (0, 0)) (by (with_reducible repeat (first | apply blk_drewN | apply blk_drew | apply blk_alloc)); exact BK321.out) hb)
              have n2_ := AS (blk_below (g := gb325) (o := .cells #[.float .f32 t322, .float .f32 t323, .float .f32 t324] 26 (0, 0)) (by (with_reducible repeat (first | apply blk_drewN | apply blk_drew | apply blk_alloc)); exact BK325.out) hb)
              have n3_ := AS (blk_below (g := gb329) (o := .cells #[.float .f32 t326, .float .f32 t327, .float .f32 t328] 26 (0, 0)) (by (with_reducible repeat (first | apply blk_drewN | apply blk_drew | apply blk_alloc)); exact BK329.out) hb)
              have n4_ := AS (blk_below (g := gb336) (o := .cells #[.float .f32 t333, .float .f32 t334, .float .f32 t335] 26 (0, 0)) (by (with_reducible repeat (first | apply blk_drewN | apply blk_drew | apply blk_alloc)); exact BK336.out) hb)
              have n5_ := AS (blk_below (g := gb340) (o := .cells #[.float .f32 t337, .float .f32 t338, .float .f32 t339] 26 (0, 0)) (by (with_reducible repeat (first | apply blk_drewN | apply blk_drew | apply blk_alloc)); exact BK340.out) hb)
              have n6_ := AS (below_step (by repeat (first | (with_reducible first | exact HB.out | apply below_alloc | apply pw_below_drewN | apply below_drew1 | refine below_set ?_ GE317.out | refine below_set ?_ GE321.out | refine below_set ?_ GE325.out | refine below_set ?_ GE329.out | refine below_set ?_ GE336.out | refine below_set ?_ GE340.out) | exact HB.out)) hb)
              clear BK317
              clear BK321
              clear BK325
              clear BK329
              clear BK336
              clear BK340
              clear HB
              have BK317 := n0_
              have BK321 := n1_
              have BK325 := n2_
              have BK329 := n3_
              have BK336 := n4_
              have BK340 := n5_
              have HB := n6_
              clear n0_ n1_ n2_ n3_ n4_ n5_ n6_
              (try clear hb)
              (try clear hb2)
              (try clear hk)
              (try clear hi)
              refine hK.out _ _ ⟨(blk_cell BK317.out 0).trans rfl, (blk_cell BK317.out 1).trans rfl, (blk_cell BK317.out 2).trans rfl, (blk_cell BK321.out 0).trans rfl, (blk_cell BK321.out 1).trans rfl, (blk_cell BK321.out 2).trans rfl⟩ (fun hHeld => ?_)
              clear hK K
              refine norm_ (a' := ?_) ?_ ?_
              rotate_left
              · show Act.put _ (some 94) _ = _
                simp only [Act.put, List.setIfInBounds_toArray, List.set_cons_zero, List.set_cons_succ, i64_w, i32_w]
                rfl
              refine pure_ (i := 12) (N := some 95) (v := ?_) (a' := ?_) #[true, true, true, true, true, true, true, true, true, true, true, true, true, false] rfl rfl (any_of HT_.out (by kernel_rfl)) (fun _ _ _ h => h) (Or.inl ⟨by rfl, ?_⟩) ?_ ?_
              rotate_left
              · intro w'
                go_simp
                with_reducible rfl
              rotate_left
              · simp only [Act.put, List.setIfInBounds_toArray, List.set_cons_zero, List.set_cons_succ, i64_w, i32_w]
                rfl
              refine pure_ (i := 13) (N := some 96) (v := ?_) (a' := ?_) #[true, true, true, true, true, true, true, true, true, true, true, true, true, true] rfl rfl (any_of HT_.out (by kernel_rfl)) (fun _ _ _ h => h) (Or.inl ⟨by rfl, ?_⟩) ?_ ?_
              rotate_left
              · intro w'
                go_simp
                with_reducible rfl
              rotate_left
              · simp only [Act.put, List.setIfInBounds_toArray, List.set_cons_zero, List.set_cons_succ, i64_w, i32_w]
                rfl
              refine done_ (done_of HT_.out (by kernel_rfl)) ?_
              try go_wp2
              go_meet
              case rel => exact ⟨_, (!t365), (by first | rfl | (simp; done) | (simp [*]; done)), H', ⟨by have := HJ11.out; first | omega | exact Nat.le_refl _⟩, ⟨by (with_reducible repeat (first | apply blk_drewN | apply blk_drew | apply blk_alloc)); exact BK317.out⟩, ⟨by (with_reducible repeat (first | apply blk_drewN | apply blk_drew | apply blk_alloc)); exact BK321.out⟩, ⟨by (with_reducible repeat (first | apply blk_drewN | apply blk_drew | apply blk_alloc)); exact BK325.out⟩, ⟨by (with_reducible repeat (first | apply blk_drewN | apply blk_drew | apply blk_alloc)); exact BK329.out⟩, ⟨by (with_reducible repeat (first | apply blk_drewN | apply blk_drew | apply blk_alloc)); exact BK336.out⟩, ⟨by (with_reducible repeat (first | apply blk_drewN | apply blk_drew | apply blk_alloc)); exact BK340.out⟩, ⟨by repeat (first | (with_reducible first | exact HB.out | apply below_alloc | apply pw_below_drewN | apply below_drew1 | refine below_set ?_ GE317.out | refine below_set ?_ GE321.out | refine below_set ?_ GE325.out | refine below_set ?_ GE329.out | refine below_set ?_ GE336.out | refine below_set ?_ GE340.out) | exact HB.out)⟩⟩
            · replace c128 := Bool.eq_false_iff.mpr c128
              subst c128
              have H1 : (laws_FnVectors.j1 kj11 l0 true) = some true := by rw [if_neg (show ¬ (false = true) by decide)] at H; exact H
              clear H
              have H := H1
              clear H1
              exact (FnVectors_j1_no H).elim
          case rest =>
            clear HC125
            try clear c1
            try clear p2
            try clear c5
            try clear c11
            try clear c12
            try clear c18
            try clear c54
            try clear c124
            try clear c128
            try clear p2
            obtain ⟨kq, x96_124, rfl, HA, HJ124, BK317, BK321, BK325, BK329, BK336, BK340, HB⟩ := hcut
            cases kq with
            | zero => exact absurd HA.out (by simp [laws_FnVectors.j1])
            | succ kj124 =>
              have H := HA.out
              clear HA
              simp only [laws_FnVectors.j1] at H
              by_cases c139 : x96_124 = true
              · subst c139
                have H1 : (some false) = some true := by rw [if_pos rfl] at H; exact H
                clear H
                have H := H1
                clear H1
                exact absurd (Option.some.inj H) (by decide)
              · replace c139 := Bool.eq_false_iff.mpr c139
                subst c139
                have H1 : ((spec_B10AnyVector.f l0).bind fun bt366 => ((impl_VectorText.f kj124 bt366.1 bt366.2.1 bt366.2.2).bind fun t370 => ((impl_ReadVector.f kj124 t370).bind fun bt371 => (if bt371.2.2.2 = true then ((impl_SameVector.f kj124 bt371.1 bt371.2.1 bt371.2.2.1 bt366.1 bt366.2.1 bt366.2.2).bind fun t376 => (if t376 = true then (some ((t370.size : Int) == 26)) else (some false))) else (some false))))) = some true := by rw [if_neg (show ¬ (false = true) by decide)] at H; exact H
                clear H
                have H := H1
                clear H1
                replace H := Option.bind_eq_some_iff.mp H
                obtain ⟨⟨t366, t367, t368⟩, A1400, H⟩ := H
                replace H : ((impl_VectorText.f kj124 t366 t367 t368).bind fun t370 => ((impl_ReadVector.f kj124 t370).bind fun bt371 => (if bt371.2.2.2 = true then ((impl_SameVector.f kj124 bt371.1 bt371.2.1 bt371.2.2.1 t366 t367 t368).bind fun t376 => (if t376 = true then (some ((t370.size : Int) == 26)) else (some false))) else (some false)))) = some true := H
                have A140 := AS A1400
                clear A1400
                replace H := Option.bind_eq_some_iff.mp H
                obtain ⟨t370, A1410, H⟩ := H
                replace H : ((impl_ReadVector.f kj124 t370).bind fun bt371 => (if bt371.2.2.2 = true then ((impl_SameVector.f kj124 bt371.1 bt371.2.1 bt371.2.2.1 t366 t367 t368).bind fun t376 => (if t376 = true then (some ((t370.size : Int) == 26)) else (some false))) else (some false))) = some true := H
                have A141 := AS A1410
                clear A1410
                replace H := Option.bind_eq_some_iff.mp H
                obtain ⟨⟨t371, t372, t373, t374⟩, A1420, H⟩ := H
                replace H : (if t374 = true then ((impl_SameVector.f kj124 t371 t372 t373 t366 t367 t368).bind fun t376 => (if t376 = true then (some ((t370.size : Int) == 26)) else (some false))) else (some false)) = some true := H
                have A142 := AS A1420
                clear A1420
                by_cases c143 : t374 = true
                · subst c143
                  have H1 : ((impl_SameVector.f kj124 t371 t372 t373 t366 t367 t368).bind fun t376 => (if t376 = true then (some ((t370.size : Int) == 26)) else (some false))) = some true := by rw [if_pos rfl] at H; exact H
                  clear H
                  have H := H1
                  clear H1
                  replace H := Option.bind_eq_some_iff.mp H
                  obtain ⟨t376, A1440, H⟩ := H
                  replace H : (if t376 = true then (some ((t370.size : Int) == 26)) else (some false)) = some true := H
                  have A144 := AS A1440
                  clear A1440
                  by_cases c145 : t376 = true
                  · subst c145
                    have H1 : (some ((t370.size : Int) == 26)) = some true := by rw [if_pos rfl] at H; exact H
                    clear H
                    have H := H1
                    clear H1
                    have HT_ := AS (Option.some.inj H)
                    clear H
                    go_wp2_with (first | ((with_reducible refine gate_callee (f := 19) rfl ?_); refine goesL_ (some 98) rfl rfl Tryd.func19 (by kernel_rfl) rfl #[.slice A0 l0.length c0] rfl (by (try simp only [List.map_toArray, List.map_cons, List.map_nil]); first | done | rfl | (simp only [List.length_drop, List.length_take]; rfl)) ?_; (with_reducible refine (spec_B10AnyVector.calls _ _ l0 t366 t367 t368 _ ?side1 ?side2 A140.out).mono ?_); (case side1 => repeat (first | exact (Kd.C_below HR0.out HB.out) | (with_reducible refine Kd.C_alloc ?_ _) | (with_reducible refine Kd.C_drewN ?_ _) | (with_reducible refine Kd.C_drew ?_))); (case side2 => exact HC0.out); rintro e w146 ⟨rfl, hb⟩; refine ⟨_, rfl, ?_⟩; have n0_ := AS (blk_below (g := gb317) (o := .cells #[.float .f32 t314, .float .f32 t315, .float .f32 t316] 26 (0, 0)) (by (with_reducible repeat (first | apply blk_drewN | apply blk_drew | apply blk_alloc)); exact BK317.out) hb); have n1_ := AS (blk_below (g := gb321) (o := .cells #[.float .f32 t318, .float .f32 t319, .float .f32 t320] 26 (0, 0)) (by (with_reducible repeat (first | apply blk_drewN | apply blk_drew | apply blk_alloc)); exact BK321.out) hb); have n2_ := AS (blk_below (g := gb325) (o := .cells #[.float .f32 t322, .float .f32 t323, .float .f32 t324] 26 (0, 0)) (by (with_reducible repeat (first | apply blk_drewN | apply blk_drew | apply blk_alloc)); exact BK325.out) hb); have n3_ := AS (blk_below (g := gb329) (o := .cells #[.float .f32 t326, .float .f32 t327, .float .f32 t328] 26 (0, 0)) (by (with_reducible repeat (first | apply blk_drewN | apply blk_drew | apply blk_alloc)); exact BK329.out) hb); have n4_ := AS (blk_below (g := gb336) (o := .cells #[.float .f32 t333, .float .f32 t334, .float .f32 t335] 26 (0, 0)) (by (with_reducible repeat (first | apply blk_drewN | apply blk_drew | apply blk_alloc)); exact BK336.out) hb); have n5_ := AS (blk_below (g := gb340) (o := .cells #[.float .f32 t337, .float .f32 t338, .float .f32 t339] 26 (0, 0)) (by (with_reducible repeat (first | apply blk_drewN | apply blk_drew | apply blk_alloc)); exact BK340.out) hb); have n6_ := AS (below_step (by repeat (first | (with_reducible first | exact HB.out | apply below_alloc | apply pw_below_drewN | apply below_drew1 | refine below_set ?_ GE317.out | refine below_set ?_ GE321.out | refine below_set ?_ GE325.out | refine below_set ?_ GE329.out | refine below_set ?_ GE336.out | refine below_set ?_ GE340.out) | exact HB.out)) hb); clear BK317; clear BK321; clear BK325; clear BK329; clear BK336; clear BK340; clear HB; have BK317 := n0_; have BK321 := n1_; have BK325 := n2_; have BK329 := n3_; have BK336 := n4_; have BK340 := n5_; have HB := n6_; clear n0_ n1_ n2_ n3_ n4_ n5_ n6_; (try clear hb); (try clear hb2); (try clear hk); (try clear hi)) | ((with_reducible refine gate_dst (N := 11) rfl ?_); (try (refine gate_guard (by rfl) ?_; dsimp only)); refine box_event ?hg (N := 11) ?hd (cs := #[.float .f32 0, .float .f32 0, .float .f32 0]) (t := 26) ?hr ?_; (case hd => rfl); (case hg => rfl); (case hr => first | (go_simp; done) | (go_simp; rfl)); intro gb369 hg w147 hbox hb; have n0_ := AS (blk_below (g := gb317) (o := .cells #[.float .f32 t314, .float .f32 t315, .float .f32 t316] 26 (0, 0)) (by (with_reducible repeat (first | apply blk_drewN | apply blk_drew | apply blk_alloc)); exact BK317.out) hb); have n1_ := AS (blk_below (g := gb321) (o := .cells #[.float .f32 t318, .float .f32 t319, .float .f32 t320] 26 (0, 0)) (by (with_reducible repeat (first | apply blk_drewN | apply blk_drew | apply blk_alloc)); exact BK321.out) hb); have n2_ := AS (blk_below (g := gb325) (o := .cells #[.float .f32 t322, .float .f32 t323, .float .f32 t324] 26 (0, 0)) (by (with_reducible repeat (first | apply blk_drewN | apply blk_drew | apply blk_alloc)); exact BK325.out) hb); have n3_ := AS (blk_below (g := gb329) (o := .cells #[.float .f32 t326, .float .f32 t327, .float .f32 t328] 26 (0, 0)) (by (with_reducible repeat (first | apply blk_drewN | apply blk_drew | apply blk_alloc)); exact BK329.out) hb); have n4_ := AS (blk_below (g := gb336) (o := .cells #[.float .f32 t333, .float .f32 t334, .float .f32 t335] 26 (0, 0)) (by (with_reducible repeat (first | apply blk_drewN | apply blk_drew | apply blk_alloc)); exact BK336.out) hb); have n5_ := AS (blk_below (g := gb340) (o := .cells #[.float .f32 t337, .float .f32 t338, .float .f32 t339] 26 (0, 0)) (by (with_reducible repeat (first | apply blk_drewN | apply blk_drew | apply blk_alloc)); exact BK340.out) hb); have n6_ := AS (below_step (by repeat (first | (with_reducible first | exact HB.out | apply below_alloc | apply pw_below_drewN | apply below_drew1 | refine below_set ?_ GE317.out | refine below_set ?_ GE321.out | refine below_set ?_ GE325.out | refine below_set ?_ GE329.out | refine below_set ?_ GE336.out | refine below_set ?_ GE340.out) | exact HB.out)) hb); have n7_ := AS (hbox); have n8_ := AS ((by rw [hg]; exact (below_size (by repeat (first | (with_reducible first | exact HB.out | apply below_alloc | apply pw_below_drewN | apply below_drew1 | refine below_set ?_ GE317.out | refine below_set ?_ GE321.out | refine below_set ?_ GE325.out | refine below_set ?_ GE329.out | refine below_set ?_ GE336.out | refine below_set ?_ GE340.out) | exact HB.out))) : w.heap.size ≤ gb369)); have n9_ := AS ((by rw [hg]; exact (below_size (by repeat (first | (with_reducible first | exact HB.out | apply below_alloc | apply pw_below_drewN | apply below_drew1 | refine below_set ?_ GE317.out | refine below_set ?_ GE321.out | refine below_set ?_ GE325.out | refine below_set ?_ GE329.out | refine below_set ?_ GE336.out | refine below_set ?_ GE340.out) | exact HB.out))) : w.heap.size ≤ gb369)); have n10_ := AS ((by rw [hg]; exact Nat.ne_of_lt (blk_lt (g := gb317) (o := .cells #[.float .f32 t314, .float .f32 t315, .float .f32 t316] 26 (0, 0)) (by (with_reducible repeat (first | apply blk_drewN | apply blk_drew | apply blk_alloc)); exact BK317.out)) : gb317 ≠ gb369)); have n11_ := AS ((by rw [hg]; exact Nat.ne_of_gt (blk_lt (g := gb317) (o := .cells #[.float .f32 t314, .float .f32 t315, .float .f32 t316] 26 (0, 0)) (by (with_reducible repeat (first | apply blk_drewN | apply blk_drew | apply blk_alloc)); exact BK317.out)) : gb369 ≠ gb317)); have n12_ := AS ((by rw [hg]; exact Nat.ne_of_lt (blk_lt (g := gb321) (o := .cells #[.float .f32 t318, .float .f32 t319, .float .f32 t320] 26 (0, 0)) (by (with_reducible repeat (first | apply blk_drewN | apply blk_drew | apply blk_alloc)); exact BK321.out)) : gb321 ≠ gb369)); have n13_ := AS ((by rw [hg]; exact Nat.ne_of_gt (blk_lt (g := gb321) (o := .cells #[.float .f32 t318, .float .f32 t319, .float .f32 t320] 26 (0, 0)) (by (with_reducible repeat (first | apply blk_drewN | apply blk_drew | apply blk_alloc)); exact BK321.out)) : gb369 ≠ gb321)); have n14_ := AS ((by rw [hg]; exact Nat.ne_of_lt (blk_lt (g := gb325) (o := .cells #[.float .f32 t322, .float .f32 t323, .float .f32 t324] 26 (0, 0)) (by (with_reducible repeat (first | apply blk_drewN | apply blk_drew | apply blk_alloc)); exact BK325.out)) : gb325 ≠ gb369)); have n15_ := AS ((by rw [hg]; exact Nat.ne_of_gt (blk_lt (g := gb325) (o := .cells #[.float .f32 t322, .float .f32 t323, .float .f32 t324] 26 (0, 0)) (by (with_reducible repeat (first | apply blk_drewN | apply blk_drew | apply blk_alloc)); exact BK325.out)) : gb369 ≠ gb325)); have n16_ := AS ((by rw [hg]; exact Nat.ne_of_lt (blk_lt (g := gb329) (o := .cells #[.float .f32 t326, .float .f32 t327, .float .f32 t328] 26 (0, 0)) (by (with_reducible repeat (first | apply blk_drewN | apply blk_drew | apply blk_alloc)); exact BK329.out)) : gb329 ≠ gb369)); have n17_ := AS ((by rw [hg]; exact Nat.ne_of_gt (blk_lt (g := gb329) (o := .cells #[.float .f32 t326, .float .f32 t327, .float .f32 t328] 26 (0, 0)) (by (with_reducible repeat (first | apply blk_drewN | apply blk_drew | apply blk_alloc)); exact BK329.out)) : gb369 ≠ gb329)); have n18_ := AS ((by rw [hg]; exact Nat.ne_of_lt (blk_lt (g := gb336) (o := .cells #[.float .f32 t333, .float .f32 t334, .float .f32 t335] 26 (0, 0)) (by (with_reducible repeat (first | apply blk_drewN | apply blk_drew | apply blk_alloc)); exact BK336.out)) : gb336 ≠ gb369)); have n19_ := AS ((by rw [hg]; exact Nat.ne_of_gt (blk_lt (g := gb336) (o := .cells #[.float .f32 t333, .float .f32 t334, .float .f32 t335] 26 (0, 0)) (by (with_reducible repeat (first | apply blk_drewN | apply blk_drew | apply blk_alloc)); exact BK336.out)) : gb369 ≠ gb336)); have n20_ := AS ((by rw [hg]; exact Nat.ne_of_lt (blk_lt (g := gb340) (o := .cells #[.float .f32 t337, .float .f32 t338, .float .f32 t339] 26 (0, 0)) (by (with_reducible repeat (first | apply blk_drewN | apply blk_drew | apply blk_alloc)); exact BK340.out)) : gb340 ≠ gb369)); have n21_ := AS ((by rw [hg]; exact Nat.ne_of_gt (blk_lt (g := gb340) (o := .cells #[.float .f32 t337, .float .f32 t338, .float .f32 t339] 26 (0, 0)) (by (with_reducible repeat (first | apply blk_drewN | apply blk_drew | apply blk_alloc)); exact BK340.out)) : gb369 ≠ gb340)); clear BK317; clear BK321; clear BK325; clear BK329; clear BK336; clear BK340; clear HB; have BK317 := n0_; have BK321 := n1_; have BK325 := n2_; have BK329 := n3_; have BK336 := n4_; have BK340 := n5_; have HB := n6_; have BK369 := n7_; have GW369 := n8_; have GE369 := n9_; have NB317_369 := n10_; have NB369_317 := n11_; have NB321_369 := n12_; have NB369_321 := n13_; have NB325_369 := n14_; have NB369_325 := n15_; have NB329_369 := n16_; have NB369_329 := n17_; have NB336_369 := n18_; have NB369_336 := n19_; have NB340_369 := n20_; have NB369_340 := n21_; clear n0_ n1_ n2_ n3_ n4_ n5_ n6_ n7_ n8_ n9_ n10_ n11_ n12_ n13_ n14_ n15_ n16_ n17_ n18_ n19_ n20_ n21_; clear hb hbox hg; have hnb148 := NB369_317.out; have hnc148 := NB317_369.out; have hnb149 := NB369_321.out; have hnc149 := NB321_369.out; have hnb150 := NB369_325.out; have hnc150 := NB325_369.out; have hnb151 := NB369_329.out; have hnc151 := NB329_369.out; have hnb152 := NB369_336.out; have hnc152 := NB336_369.out; have hnb153 := NB369_340.out; have hnc153 := NB340_369.out; have hcz154_0 : w147.cell? ⟨gb369, 0, none⟩ = some (.float .f32 0) := (blk_cell BK369.out 0).trans rfl; have hcz154_1 : w147.cell? ⟨gb369, 1, none⟩ = some (.float .f32 0) := (blk_cell BK369.out 1).trans rfl; have hcz154_2 : w147.cell? ⟨gb369, 2, none⟩ = some (.float .f32 0) := (blk_cell BK369.out 2).trans rfl; have hfz154_0 := blk_frozen BK369.out 0; have hfz154_1 := blk_frozen BK369.out 1; have hfz154_2 := blk_frozen BK369.out 2) | ((with_reducible refine gate_callee (f := 20) rfl ?_); refine goesL_ (some 100) rfl rfl Tryd.func20 (by kernel_rfl) rfl #[.agg #[.float .f32 t366, .float .f32 t367, .float .f32 t368]] rfl (by (try simp only [List.map_toArray, List.map_cons, List.map_nil]); first | done | rfl | (simp only [List.length_drop, List.length_take]; rfl)) ?_; (with_reducible refine (impl_VectorText.calls kj124 t366 t367 t368 t370 _ A141.out).mono ?_); rintro e w155 ⟨rfl, hb⟩; refine ⟨_, rfl, ?_⟩; have n0_ := AS (blk_below (g := gb317) (o := .cells #[.float .f32 t314, .float .f32 t315, .float .f32 t316] 26 (0, 0)) (by (with_reducible repeat (first | apply blk_drewN | apply blk_drew | apply blk_alloc)); refine blk_far ?_ NB317_369.out _; (with_reducible repeat (first | apply blk_drewN | apply blk_drew | apply blk_alloc)); refine blk_far ?_ NB317_369.out _; (with_reducible repeat (first | apply blk_drewN | apply blk_drew | apply blk_alloc)); refine blk_far ?_ NB317_369.out _; (with_reducible repeat (first | apply blk_drewN | apply blk_drew | apply blk_alloc)); exact BK317.out) hb); have n1_ := AS (blk_below (g := gb321) (o := .cells #[.float .f32 t318, .float .f32 t319, .float .f32 t320] 26 (0, 0)) (by (with_reducible repeat (first | apply blk_drewN | apply blk_drew | apply blk_alloc)); refine blk_far ?_ NB321_369.out _; (with_reducible repeat (first | apply blk_drewN | apply blk_drew | apply blk_alloc)); refine blk_far ?_ NB321_369.out _; (with_reducible repeat (first | apply blk_drewN | apply blk_drew | apply blk_alloc)); refine blk_far ?_ NB321_369.out _; (with_reducible repeat (first | apply blk_drewN | apply blk_drew | apply blk_alloc)); exact BK321.out) hb); have n2_ := AS (blk_below (g := gb325) (o := .cells #[.float .f32 t322, .float .f32 t323, .float .f32 t324] 26 (0, 0)) (by (with_reducible repeat (first | apply blk_drewN | apply blk_drew | apply blk_alloc)); refine blk_far ?_ NB325_369.out _; (with_reducible repeat (first | apply blk_drewN | apply blk_drew | apply blk_alloc)); refine blk_far ?_ NB325_369.out _; (with_reducible repeat (first | apply blk_drewN | apply blk_drew | apply blk_alloc)); refine blk_far ?_ NB325_369.out _; (with_reducible repeat (first | apply blk_drewN | apply blk_drew | apply blk_alloc)); exact BK325.out) hb); have n3_ := AS (blk_below (g := gb329) (o := .cells #[.float .f32 t326, .float .f32 t327, .float .f32 t328] 26 (0, 0)) (by (with_reducible repeat (first | apply blk_drewN | apply blk_drew | apply blk_alloc)); refine blk_far ?_ NB329_369.out _; (with_reducible repeat (first | apply blk_drewN | apply blk_drew | apply blk_alloc)); refine blk_far ?_ NB329_369.out _; (with_reducible repeat (first | apply blk_drewN | apply blk_drew | apply blk_alloc)); refine blk_far ?_ NB329_369.out _; (with_reducible repeat (first | apply blk_drewN | apply blk_drew | apply blk_alloc)); exact BK329.out) hb); have n4_ := AS (blk_below (g := gb336) (o := .cells #[.float .f32 t333, .float .f32 t334, .float .f32 t335] 26 (0, 0)) (by (with_reducible repeat (first | apply blk_drewN | apply blk_drew | apply blk_alloc)); refine blk_far ?_ NB336_369.out _; (with_reducible repeat (first | apply blk_drewN | apply blk_drew | apply blk_alloc)); refine blk_far ?_ NB336_369.out _; (with_reducible repeat (first | apply blk_drewN | apply blk_drew | apply blk_alloc)); refine blk_far ?_ NB336_369.out _; (with_reducible repeat (first | apply blk_drewN | apply blk_drew | apply blk_alloc)); exact BK336.out) hb); have n5_ := AS (blk_below (g := gb340) (o := .cells #[.float .f32 t337, .float .f32 t338, .float .f32 t339] 26 (0, 0)) (by (with_reducible repeat (first | apply blk_drewN | apply blk_drew | apply blk_alloc)); refine blk_far ?_ NB340_369.out _; (with_reducible repeat (first | apply blk_drewN | apply blk_drew | apply blk_alloc)); refine blk_far ?_ NB340_369.out _; (with_reducible repeat (first | apply blk_drewN | apply blk_drew | apply blk_alloc)); refine blk_far ?_ NB340_369.out _; (with_reducible repeat (first | apply blk_drewN | apply blk_drew | apply blk_alloc)); exact BK340.out) hb); have n6_ := AS (blk_below (g := gb369) (o := .cells #[.float .f32 t366, .float .f32 t367, .float .f32 t368] 26 (0, 0)) (by (with_reducible repeat (first | apply blk_drewN | apply blk_drew | apply blk_alloc)); refine blk_put (cs := #[.float .f32 t366, .float .f32 t367, .float .f32 0]) ?_ 2 _ rfl; (with_reducible repeat (first | apply blk_drewN | apply blk_drew | apply blk_alloc)); refine blk_put (cs := #[.float .f32 t366, .float .f32 0, .float .f32 0]) ?_ 1 _ rfl; (with_reducible repeat (first | apply blk_drewN | apply blk_drew | apply blk_alloc)); refine blk_put (cs := #[.float .f32 0, .float .f32 0, .float .f32 0]) ?_ 0 _ rfl; (with_reducible repeat (first | apply blk_drewN | apply blk_drew | apply blk_alloc)); exact BK369.out) hb); have n7_ := AS (below_step (by repeat (first | (with_reducible first | exact HB.out | apply below_alloc | apply pw_below_drewN | apply below_drew1 | refine below_set ?_ GE317.out | refine below_set ?_ GE321.out | refine below_set ?_ GE325.out | refine below_set ?_ GE329.out | refine below_set ?_ GE336.out | refine below_set ?_ GE340.out | refine below_set ?_ GE369.out) | exact HB.out)) hb); clear BK317; clear BK321; clear BK325; clear BK329; clear BK336; clear BK340; clear BK369; clear HB; have BK317 := n0_; have BK321 := n1_; have BK325 := n2_; have BK329 := n3_; have BK336 := n4_; have BK340 := n5_; have BK369 := n6_; have HB := n7_; clear n0_ n1_ n2_ n3_ n4_ n5_ n6_ n7_; (try clear hb); (try clear hb2); (try clear hk); (try clear hi)) | ((with_reducible refine gate_callee (f := 21) rfl ?_); refine goesL_ (some 103) rfl rfl Tryd.func21 (by kernel_rfl) rfl #[.string t370] rfl (by (try simp only [List.map_toArray, List.map_cons, List.map_nil]); first | done | rfl | (simp only [List.length_drop, List.length_take]; rfl)) ?_; (with_reducible refine (impl_ReadVector.calls kj124 t370 t371 t372 t373 true _ A142.out).mono ?_); rintro e w156 ⟨rfl, hb⟩; refine ⟨_, rfl, ?_⟩; have n0_ := AS (blk_below (g := gb317) (o := .cells #[.float .f32 t314, .float .f32 t315, .float .f32 t316] 26 (0, 0)) (by (with_reducible repeat (first | apply blk_drewN | apply blk_drew | apply blk_alloc)); exact BK317.out) hb); have n1_ := AS (blk_below (g := gb321) (o := .cells #[.float .f32 t318, .float .f32 t319, .float .f32 t320] 26 (0, 0)) (by (with_reducible repeat (first | apply blk_drewN | apply blk_drew | apply blk_alloc)); exact BK321.out) hb); have n2_ := AS (blk_below (g := gb325) (o := .cells #[.float .f32 t322, .float .f32 t323, .float .f32 t324] 26 (0, 0)) (by (with_reducible repeat (first | apply blk_drewN | apply blk_drew | apply blk_alloc)); exact BK325.out) hb); have n3_ := AS (blk_below (g := gb329) (o := .cells #[.float .f32 t326, .float .f32 t327, .float .f32 t328] 26 (0, 0)) (by (with_reducible repeat (first | apply blk_drewN | apply blk_drew | apply blk_alloc)); exact BK329.out) hb); have n4_ := AS (blk_below (g := gb336) (o := .cells #[.float .f32 t333, .float .f32 t334, .float .f32 t335] 26 (0, 0)) (by (with_reducible repeat (first | apply blk_drewN | apply blk_drew | apply blk_alloc)); exact BK336.out) hb); have n5_ := AS (blk_below (g := gb340) (o := .cells #[.float .f32 t337, .float .f32 t338, .float .f32 t339] 26 (0, 0)) (by (with_reducible repeat (first | apply blk_drewN | apply blk_drew | apply blk_alloc)); exact BK340.out) hb); have n6_ := AS (blk_below (g := gb369) (o := .cells #[.float .f32 t366, .float .f32 t367, .float .f32 t368] 26 (0, 0)) (by (with_reducible repeat (first | apply blk_drewN | apply blk_drew | apply blk_alloc)); exact BK369.out) hb); have n7_ := AS (below_step (by repeat (first | (with_reducible first | exact HB.out | apply below_alloc | apply pw_below_drewN | apply below_drew1 | refine below_set ?_ GE317.out | refine below_set ?_ GE321.out | refine below_set ?_ GE325.out | refine below_set ?_ GE329.out | refine below_set ?_ GE336.out | refine below_set ?_ GE340.out | refine below_set ?_ GE369.out) | exact HB.out)) hb); clear BK317; clear BK321; clear BK325; clear BK329; clear BK336; clear BK340; clear BK369; clear HB; have BK317 := n0_; have BK321 := n1_; have BK325 := n2_; have BK329 := n3_; have BK336 := n4_; have BK340 := n5_; have BK369 := n6_; have HB := n7_; clear n0_ n1_ n2_ n3_ n4_ n5_ n6_ n7_; (try clear hb); (try clear hb2); (try clear hk); (try clear hi)) | ((with_reducible refine gate_dst (N := 13) rfl ?_); (try (refine gate_guard (by rfl) ?_; dsimp only)); refine box_event ?hg (N := 13) ?hd (cs := #[.float .f32 0, .float .f32 0, .float .f32 0]) (t := 26) ?hr ?_; (case hd => rfl); (case hg => rfl); (case hr => first | (go_simp; done) | (go_simp; rfl)); intro gb375 hg w157 hbox hb; have n0_ := AS (blk_below (g := gb317) (o := .cells #[.float .f32 t314, .float .f32 t315, .float .f32 t316] 26 (0, 0)) (by (with_reducible repeat (first | apply blk_drewN | apply blk_drew | apply blk_alloc)); exact BK317.out) hb); have n1_ := AS (blk_below (g := gb321) (o := .cells #[.float .f32 t318, .float .f32 t319, .float .f32 t320] 26 (0, 0)) (by (with_reducible repeat (first | apply blk_drewN | apply blk_drew | apply blk_alloc)); exact BK321.out) hb); have n2_ := AS (blk_below (g := gb325) (o := .cells #[.float .f32 t322, .float .f32 t323, .float .f32 t324] 26 (0, 0)) (by (with_reducible repeat (first | apply blk_drewN | apply blk_drew | apply blk_alloc)); exact BK325.out) hb); have n3_ := AS (blk_below (g := gb329) (o := .cells #[.float .f32 t326, .float .f32 t327, .float .f32 t328] 26 (0, 0)) (by (with_reducible repeat (first | apply blk_drewN | apply blk_drew | apply blk_alloc)); exact BK329.out) hb); have n4_ := AS (blk_below (g := gb336) (o := .cells #[.float .f32 t333, .float .f32 t334, .float .f32 t335] 26 (0, 0)) (by (with_reducible repeat (first | apply blk_drewN | apply blk_drew | apply blk_alloc)); exact BK336.out) hb); have n5_ := AS (blk_below (g := gb340) (o := .cells #[.float .f32 t337, .float .f32 t338, .float .f32 t339] 26 (0, 0)) (by (with_reducible repeat (first | apply blk_drewN | apply blk_drew | apply blk_alloc)); exact BK340.out) hb); have n6_ := AS (blk_below (g := gb369) (o := .cells #[.float .f32 t366, .float .f32 t367, .float .f32 t368] 26 (0, 0)) (by (with_reducible repeat (first | apply blk_drewN | apply blk_drew | apply blk_alloc)); exact BK369.out) hb); have n7_ := AS (below_step (by repeat (first | (with_reducible first | exact HB.out | apply below_alloc | apply pw_below_drewN | apply below_drew1 | refine below_set ?_ GE317.out | refine below_set ?_ GE321.out | refine below_set ?_ GE325.out | refine below_set ?_ GE329.out | refine below_set ?_ GE336.out | refine below_set ?_ GE340.out | refine below_set ?_ GE369.out) | exact HB.out)) hb); have n8_ := AS (hbox); have n9_ := AS ((by rw [hg]; exact (below_size (by repeat (first | (with_reducible first | exact HB.out | apply below_alloc | apply pw_below_drewN | apply below_drew1 | refine below_set ?_ GE317.out | refine below_set ?_ GE321.out | refine below_set ?_ GE325.out | refine below_set ?_ GE329.out | refine below_set ?_ GE336.out | refine below_set ?_ GE340.out | refine below_set ?_ GE369.out) | exact HB.out))) : w.heap.size ≤ gb375)); have n10_ := AS ((by rw [hg]; exact (below_size (by repeat (first | (with_reducible first | exact HB.out | apply below_alloc | apply pw_below_drewN | apply below_drew1 | refine below_set ?_ GE317.out | refine below_set ?_ GE321.out | refine below_set ?_ GE325.out | refine below_set ?_ GE329.out | refine below_set ?_ GE336.out | refine below_set ?_ GE340.out | refine below_set ?_ GE369.out) | exact HB.out))) : w.heap.size ≤ gb375)); have n11_ := AS ((by rw [hg]; exact Nat.ne_of_lt (blk_lt (g := gb317) (o := .cells #[.float .f32 t314, .float .f32 t315, .float .f32 t316] 26 (0, 0)) (by (with_reducible repeat (first | apply blk_drewN | apply blk_drew | apply blk_alloc)); exact BK317.out)) : gb317 ≠ gb375)); have n12_ := AS ((by rw [hg]; exact Nat.ne_of_gt (blk_lt (g := gb317) (o := .cells #[.float .f32 t314, .float .f32 t315, .float .f32 t316] 26 (0, 0)) (by (with_reducible repeat (first | apply blk_drewN | apply blk_drew | apply blk_alloc)); exact BK317.out)) : gb375 ≠ gb317)); have n13_ := AS ((by rw [hg]; exact Nat.ne_of_lt (blk_lt (g := gb321) (o := .cells #[.float .f32 t318, .float .f32 t319, .float .f32 t320] 26 (0, 0)) (by (with_reducible repeat (first | apply blk_drewN | apply blk_drew | apply blk_alloc)); exact BK321.out)) : gb321 ≠ gb375)); have n14_ := AS ((by rw [hg]; exact Nat.ne_of_gt (blk_lt (g := gb321) (o := .cells #[.float .f32 t318, .float .f32 t319, .float .f32 t320] 26 (0, 0)) (by (with_reducible repeat (first | apply blk_drewN | apply blk_drew | apply blk_alloc)); exact BK321.out)) : gb375 ≠ gb321)); have n15_ := AS ((by rw [hg]; exact Nat.ne_of_lt (blk_lt (g := gb325) (o := .cells #[.float .f32 t322, .float .f32 t323, .float .f32 t324] 26 (0, 0)) (by (with_reducible repeat (first | apply blk_drewN | apply blk_drew | apply blk_alloc)); exact BK325.out)) : gb325 ≠ gb375)); have n16_ := AS ((by rw [hg]; exact Nat.ne_of_gt (blk_lt (g := gb325) (o := .cells #[.float .f32 t322, .float .f32 t323, .float .f32 t324] 26 (0, 0)) (by (with_reducible repeat (first | apply blk_drewN | apply blk_drew | apply blk_alloc)); exact BK325.out)) : gb375 ≠ gb325)); have n17_ := AS ((by rw [hg]; exact Nat.ne_of_lt (blk_lt (g := gb329) (o := .cells #[.float .f32 t326, .float .f32 t327, .float .f32 t328] 26 (0, 0)) (by (with_reducible repeat (first | apply blk_drewN | apply blk_drew | apply blk_alloc)); exact BK329.out)) : gb329 ≠ gb375)); have n18_ := AS ((by rw [hg]; exact Nat.ne_of_gt (blk_lt (g := gb329) (o := .cells #[.float .f32 t326, .float .f32 t327, .float .f32 t328] 26 (0, 0)) (by (with_reducible repeat (first | apply blk_drewN | apply blk_drew | apply blk_alloc)); exact BK329.out)) : gb375 ≠ gb329)); have n19_ := AS ((by rw [hg]; exact Nat.ne_of_lt (blk_lt (g := gb336) (o := .cells #[.float .f32 t333, .float .f32 t334, .float .f32 t335] 26 (0, 0)) (by (with_reducible repeat (first | apply blk_drewN | apply blk_drew | apply blk_alloc)); exact BK336.out)) : gb336 ≠ gb375)); have n20_ := AS ((by rw [hg]; exact Nat.ne_of_gt (blk_lt (g := gb336) (o := .cells #[.float .f32 t333, .float .f32 t334, .float .f32 t335] 26 (0, 0)) (by (with_reducible repeat (first | apply blk_drewN | apply blk_drew | apply blk_alloc)); exact BK336.out)) : gb375 ≠ gb336)); have n21_ := AS ((by rw [hg]; exact Nat.ne_of_lt (blk_lt (g := gb340) (o := .cells #[.float .f32 t337, .float .f32 t338, .float .f32 t339] 26 (0, 0)) (by (with_reducible repeat (first | apply blk_drewN | apply blk_drew | apply blk_alloc)); exact BK340.out)) : gb340 ≠ gb375)); have n22_ := AS ((by rw [hg]; exact Nat.ne_of_gt (blk_lt (g := gb340) (o := .cells #[.float .f32 t337, .float .f32 t338, .float .f32 t339] 26 (0, 0)) (by (with_reducible repeat (first | apply blk_drewN | apply blk_drew | apply blk_alloc)); exact BK340.out)) : gb375 ≠ gb340)); have n23_ := AS ((by rw [hg]; exact Nat.ne_of_lt (blk_lt (g := gb369) (o := .cells #[.float .f32 t366, .float .f32 t367, .float .f32 t368] 26 (0, 0)) (by (with_reducible repeat (first | apply blk_drewN | apply blk_drew | apply blk_alloc)); exact BK369.out)) : gb369 ≠ gb375)); have n24_ := AS ((by rw [hg]; exact Nat.ne_of_gt (blk_lt (g := gb369) (o := .cells #[.float .f32 t366, .float .f32 t367, .float .f32 t368] 26 (0, 0)) (by (with_reducible repeat (first | apply blk_drewN | apply blk_drew | apply blk_alloc)); exact BK369.out)) : gb375 ≠ gb369)); clear BK317; clear BK321; clear BK325; clear BK329; clear BK336; clear BK340; clear BK369; clear HB; have BK317 := n0_; have BK321 := n1_; have BK325 := n2_; have BK329 := n3_; have BK336 := n4_; have BK340 := n5_; have BK369 := n6_; have HB := n7_; have BK375 := n8_; have GW375 := n9_; have GE375 := n10_; have NB317_375 := n11_; have NB375_317 := n12_; have NB321_375 := n13_; have NB375_321 := n14_; have NB325_375 := n15_; have NB375_325 := n16_; have NB329_375 := n17_; have NB375_329 := n18_; have NB336_375 := n19_; have NB375_336 := n20_; have NB340_375 := n21_; have NB375_340 := n22_; have NB369_375 := n23_; have NB375_369 := n24_; clear n0_ n1_ n2_ n3_ n4_ n5_ n6_ n7_ n8_ n9_ n10_ n11_ n12_ n13_ n14_ n15_ n16_ n17_ n18_ n19_ n20_ n21_ n22_ n23_ n24_; clear hb hbox hg; have hnb158 := NB375_317.out; have hnc158 := NB317_375.out; have hnb159 := NB375_321.out; have hnc159 := NB321_375.out; have hnb160 := NB375_325.out; have hnc160 := NB325_375.out; have hnb161 := NB375_329.out; have hnc161 := NB329_375.out; have hnb162 := NB375_336.out; have hnc162 := NB336_375.out; have hnb163 := NB375_340.out; have hnc163 := NB340_375.out; have hnb164 := NB375_369.out; have hnc164 := NB369_375.out; have hcz165_0 : w157.cell? ⟨gb375, 0, none⟩ = some (.float .f32 0) := (blk_cell BK375.out 0).trans rfl; have hcz165_1 : w157.cell? ⟨gb375, 1, none⟩ = some (.float .f32 0) := (blk_cell BK375.out 1).trans rfl; have hcz165_2 : w157.cell? ⟨gb375, 2, none⟩ = some (.float .f32 0) := (blk_cell BK375.out 2).trans rfl; have hfz165_0 := blk_frozen BK375.out 0; have hfz165_1 := blk_frozen BK375.out 1; have hfz165_2 := blk_frozen BK375.out 2; have hcz166_0 : w157.cell? ⟨gb369, 0, none⟩ = some (.float .f32 t366) := (blk_cell BK369.out 0).trans rfl; have hcz166_1 : w157.cell? ⟨gb369, 1, none⟩ = some (.float .f32 t367) := (blk_cell BK369.out 1).trans rfl; have hcz166_2 : w157.cell? ⟨gb369, 2, none⟩ = some (.float .f32 t368) := (blk_cell BK369.out 2).trans rfl; have hfz166_0 := blk_frozen BK369.out 0; have hfz166_1 := blk_frozen BK369.out 1; have hfz166_2 := blk_frozen BK369.out 2) | (go_at_call 22; (with_reducible refine (impl_SameVector.calls kj124 t371 t372 t373 t366 t367 t368 true _ A144.out).mono ?_); rintro e w167 ⟨rfl, hb⟩; have n0_ := AS (blk_below (g := gb317) (o := .cells #[.float .f32 t314, .float .f32 t315, .float .f32 t316] 26 (0, 0)) (by (with_reducible repeat (first | apply blk_drewN | apply blk_drew | apply blk_alloc)); refine blk_far ?_ NB317_375.out _; (with_reducible repeat (first | apply blk_drewN | apply blk_drew | apply blk_alloc)); refine blk_far ?_ NB317_375.out _; (with_reducible repeat (first | apply blk_drewN | apply blk_drew | apply blk_alloc)); refine blk_far ?_ NB317_375.out _; (with_reducible repeat (first | apply blk_drewN | apply blk_drew | apply blk_alloc)); exact BK317.out) hb); have n1_ := AS (blk_below (g := gb321) (o := .cells #[.float .f32 t318, .float .f32 t319, .float .f32 t320] 26 (0, 0)) (by (with_reducible repeat (first | apply blk_drewN | apply blk_drew | apply blk_alloc)); refine blk_far ?_ NB321_375.out _; (with_reducible repeat (first | apply blk_drewN | apply blk_drew | apply blk_alloc)); refine blk_far ?_ NB321_375.out _; (with_reducible repeat (first | apply blk_drewN | apply blk_drew | apply blk_alloc)); refine blk_far ?_ NB321_375.out _; (with_reducible repeat (first | apply blk_drewN | apply blk_drew | apply blk_alloc)); exact BK321.out) hb); have n2_ := AS (blk_below (g := gb325) (o := .cells #[.float .f32 t322, .float .f32 t323, .float .f32 t324] 26 (0, 0)) (by (with_reducible repeat (first | apply blk_drewN | apply blk_drew | apply blk_alloc)); refine blk_far ?_ NB325_375.out _; (with_reducible repeat (first | apply blk_drewN | apply blk_drew | apply blk_alloc)); refine blk_far ?_ NB325_375.out _; (with_reducible repeat (first | apply blk_drewN | apply blk_drew | apply blk_alloc)); refine blk_far ?_ NB325_375.out _; (with_reducible repeat (first | apply blk_drewN | apply blk_drew | apply blk_alloc)); exact BK325.out) hb); have n3_ := AS (blk_below (g := gb329) (o := .cells #[.float .f32 t326, .float .f32 t327, .float .f32 t328] 26 (0, 0)) (by (with_reducible repeat (first | apply blk_drewN | apply blk_drew | apply blk_alloc)); refine blk_far ?_ NB329_375.out _; (with_reducible repeat (first | apply blk_drewN | apply blk_drew | apply blk_alloc)); refine blk_far ?_ NB329_375.out _; (with_reducible repeat (first | apply blk_drewN | apply blk_drew | apply blk_alloc)); refine blk_far ?_ NB329_375.out _; (with_reducible repeat (first | apply blk_drewN | apply blk_drew | apply blk_alloc)); exact BK329.out) hb); have n4_ := AS (blk_below (g := gb336) (o := .cells #[.float .f32 t333, .float .f32 t334, .float .f32 t335] 26 (0, 0)) (by (with_reducible repeat (first | apply blk_drewN | apply blk_drew | apply blk_alloc)); refine blk_far ?_ NB336_375.out _; (with_reducible repeat (first | apply blk_drewN | apply blk_drew | apply blk_alloc)); refine blk_far ?_ NB336_375.out _; (with_reducible repeat (first | apply blk_drewN | apply blk_drew | apply blk_alloc)); refine blk_far ?_ NB336_375.out _; (with_reducible repeat (first | apply blk_drewN | apply blk_drew | apply blk_alloc)); exact BK336.out) hb); have n5_ := AS (blk_below (g := gb340) (o := .cells #[.float .f32 t337, .float .f32 t338, .float .f32 t339] 26 (0, 0)) (by (with_reducible repeat (first | apply blk_drewN | apply blk_drew | apply blk_alloc)); refine blk_far ?_ NB340_375.out _; (with_reducible repeat (first | apply blk_drewN | apply blk_drew | apply blk_alloc)); refine blk_far ?_ NB340_375.out _; (with_reducible repeat (first | apply blk_drewN | apply blk_drew | apply blk_alloc)); refine blk_far ?_ NB340_375.out _; (with_reducible repeat (first | apply blk_drewN | apply blk_drew | apply blk_alloc)); exact BK340.out) hb); have n6_ := AS (blk_below (g := gb369) (o := .cells #[.float .f32 t366, .float .f32 t367, .float .f32 t368] 26 (0, 0)) (by (with_reducible repeat (first | apply blk_drewN | apply blk_drew | apply blk_alloc)); refine blk_far ?_ NB369_375.out _; (with_reducible repeat (first | apply blk_drewN | apply blk_drew | apply blk_alloc)); refine blk_far ?_ NB369_375.out _; (with_reducible repeat (first | apply blk_drewN | apply blk_drew | apply blk_alloc)); refine blk_far ?_ NB369_375.out _; (with_reducible repeat (first | apply blk_drewN | apply blk_drew | apply blk_alloc)); exact BK369.out) hb); have n7_ := AS (blk_below (g := gb375) (o := .cells #[.float .f32 t371, .float .f32 t372, .float .f32 t373] 26 (0, 0)) (by (with_reducible repeat (first | apply blk_drewN | apply blk_drew | apply blk_alloc)); refine blk_put (cs := #[.float .f32 t371, .float .f32 t372, .float .f32 0]) ?_ 2 _ rfl; (with_reducible repeat (first | apply blk_drewN | apply blk_drew | apply blk_alloc)); refine blk_put (cs := #[.float .f32 t371, .float .f32 0, .float .f32 0]) ?_ 1 _ rfl; (with_reducible repeat (first | apply blk_drewN | apply blk_drew | apply blk_alloc)); refine blk_put (cs := #[.float .f32 0, .float .f32 0, .float .f32 0]) ?_ 0 _ rfl; (with_reducible repeat (first | apply blk_drewN | apply blk_drew | apply blk_alloc)); exact BK375.out) hb); have n8_ := AS (below_step (by repeat (first | (with_reducible first | exact HB.out | apply below_alloc | apply pw_below_drewN | apply below_drew1 | refine below_set ?_ GE317.out | refine below_set ?_ GE321.out | refine below_set ?_ GE325.out | refine below_set ?_ GE329.out | refine below_set ?_ GE336.out | refine below_set ?_ GE340.out | refine below_set ?_ GE369.out | refine below_set ?_ GE375.out) | exact HB.out)) hb); clear BK317; clear BK321; clear BK325; clear BK329; clear BK336; clear BK340; clear BK369; clear BK375; clear HB; have BK317 := n0_; have BK321 := n1_; have BK325 := n2_; have BK329 := n3_; have BK336 := n4_; have BK340 := n5_; have BK369 := n6_; have BK375 := n7_; have HB := n8_; clear n0_ n1_ n2_ n3_ n4_ n5_ n6_ n7_ n8_; (try clear hb); (try clear hb2); (try clear hk); (try clear hi)))
                    go_ret
                    exact ⟨by first | (refine Eq.trans ?_ (congrArg (fun b => Ending.returned (Value.bool b)) HT_.out); rfl) | (rw [HT_.out]) | (simp [HT_.out]; done) | rfl | (simp [errW_none, errW_some] <;> rfl) | (simp [*, errW_none, errW_some] <;> rfl), by repeat (first | (with_reducible first | exact HB.out | apply below_alloc | apply pw_below_drewN | apply below_drew1 | refine below_set ?_ GE317.out | refine below_set ?_ GE321.out | refine below_set ?_ GE325.out | refine below_set ?_ GE329.out | refine below_set ?_ GE336.out | refine below_set ?_ GE340.out | refine below_set ?_ GE369.out | refine below_set ?_ GE375.out) | exact HB.out)⟩
                  · replace c145 := Bool.eq_false_iff.mpr c145
                    subst c145
                    have H1 : (some false) = some true := by rw [if_neg (show ¬ (false = true) by decide)] at H; exact H
                    clear H
                    have H := H1
                    clear H1
                    exact absurd (Option.some.inj H) (by decide)
                · replace c143 := Bool.eq_false_iff.mpr c143
                  subst c143
                  have H1 : (some false) = some true := by rw [if_neg (show ¬ (false = true) by decide)] at H; exact H
                  clear H
                  have H := H1
                  clear H1
                  exact absurd (Option.some.inj H) (by decide)
end Go.Proofs.YtnnemdjbopdjmaaDoor.VA
end
