/- The laws' eqThread, as plain functions with their contracts. -/
import Derived.Test.YtffofpiejcolfaaDoorXC
import Derived.Test.YtffofpiejcolfaaDoorF04
set_option linter.unusedVariables false
set_option linter.unusedSimpArgs false
namespace Go.Proofs.YtffofpiejcolfaaDoor
open Go.RowKit Go.Proofs.YtffofpiejcolfaaDoorW.PrintWords Go.Proofs.YtffofpiejcolfaaDoorW.PrintLast Go.Proofs.YtffofpiejcolfaaDoorW.PrintMore
attribute [local go_sem] max2_int min2_int max_two min_two max_three min_three max_four min_four   -- for this text's walks alone
namespace XT
open XF XL XC F0
theorem cell_first (w : World) (c : Array Value) (t : TypeId) (o2 : Obj) (i : Nat) : ((w.alloc (.cells c t)).alloc o2).cell? ⟨w.heap.size, i, none⟩ = c[i]? := by
  have h : ((w.alloc (.cells c t)).alloc o2).heap[w.heap.size]? = some (.cells c t) := (heap_alloc_old (w.alloc _) o2 (by simp)).trans (heap_alloc_new w _)
  unfold World.cell?
  rw [h]
  rfl
theorem cell_second (w : World) (o1 : Obj) (c : Array Value) (t : TypeId) (i : Nat) : ((w.alloc o1).alloc (.cells c t)).cell? ⟨w.heap.size + 1, i, none⟩ = c[i]? := by
  unfold World.cell?
  rw [heap_two]
  rfl
/-- laws.eqThread. -/
def eqThread.f (l0_0 : List S45) (a0_1 : Nat) (l1_0 : List S45) (a1_1 : Nat) : Option Bool :=
  (F0.laws_eqVectorS.f (l0_0.length + 1) l0_0 l1_0).bind fun t => some (t && sfc a0_1 a1_1)
set_option maxHeartbeats 4000000 in
set_option maxRecDepth 100000 in
theorem eqThread.calls (A0_0 : Option Addr) (c0_0 : Nat) (l0_0 : List S45) (a0_1 : Nat) (A1_0 : Option Addr) (c1_0 : Nat) (l1_0 : List S45) (a1_1 : Nat) (r : Bool) (w : World) (hr0_0 : Kd.C k45 w A0_0 l0_0.length l0_0) (hc0_0 : l0_0.length ≤ c0_0) (hr1_0 : Kd.C k45 w A1_0 l1_0.length l1_0) (hc1_0 : l1_0.length ≤ c1_0) (h : eqThread.f l0_0 a0_1 l1_0 a1_1 = some r) (gl : GL w := by first | exact (‹Aside0 (GL _)›).out | exact GL.of_below (‹Aside0 (GL _)›).out (by repeat (first | (with_reducible first | exact (‹Aside0 (Below _ _ _)›).out | apply below_alloc | apply pw_below_drewN | apply below_drew1 | refine below_set ?_ (Aside0.out (by assumption)) | exact Below.refl _ _) | exact (‹Aside0 (Below _ _ _)›).out))) :
    Calls Tryd.prog 7 #[.agg #[.slice A0_0 l0_0.length c0_0, .float .f32 a0_1], .agg #[.slice A1_0 l1_0.length c1_0, .float .f32 a1_1]] w fun e w' => e = .returned (.bool r) ∧ Below w.heap.size w w' := by
  have HG_ := Aside0.mk gl
  clear gl
  obtain ⟨t, ht, h2⟩ := Option.bind_eq_some_iff.1 h
  obtain rfl := Option.some.inj h2
  clear h h2
  have q0 : (Tryd.prog.underlying 23).isSome = true := by kernel_rfl
  have q1 := Tryd.underlying51
  cases t with
  | false =>
    go_enter Tryd.func7, Tryd.ntmps7
    go_wp2_with (first | (go_at_call 22; refine (F0.laws_eqVectorS.calls _ _ _ _ _ _ _ _ _ (Kd.C_alloc (Kd.C_alloc hr0_0 _) _) hc0_0 (Kd.C_alloc (Kd.C_alloc hr1_0 _) _) hc1_0 ht).mono ?_; rintro e w1 ⟨rfl, hb⟩))
    go_ret
    exact ⟨by first | rfl | (simp [*]; done), below_step (below_alloc (below_alloc (Below.refl _ _) _) _) hb⟩
  | true =>
    cases es : sfc a0_1 a1_1 with
    | false =>
      go_enter Tryd.func7, Tryd.ntmps7
      go_wp2_with (first | (go_at_call 22; refine (F0.laws_eqVectorS.calls _ _ _ _ _ _ _ _ _ (Kd.C_alloc (Kd.C_alloc hr0_0 _) _) hc0_0 (Kd.C_alloc (Kd.C_alloc hr1_0 _) _) hc1_0 ht).mono ?_; rintro e w1 ⟨rfl, hb⟩; have f1 := (hb.cell (p := ⟨w.heap.size, 1, none⟩) (by first | (simp; done) | (simp; omega))).trans (cell_first _ _ _ _ 1); have g1 := (hb.cell (p := ⟨w.heap.size + 1, 1, none⟩) (by first | (simp; done) | (simp; omega))).trans (cell_second _ _ _ _ 1); have hbw := below_step (below_alloc (below_alloc (Below.refl w.heap.size w) _) _) hb; clear hb) | (refine wpList_conv rfl _ _ _ rfl q0 q1 _ rfl ?_; intro b' n hc) | (go_at_call 23; refine (sameFloat_c _ _ _ _ (by assumption) (by assumption) _).mono ?_; rw [es]; rintro e w1 ⟨rfl, ⟨nd, rfl⟩⟩))
      go_ret
      exact ⟨by first | rfl | (simp [*]; done), by repeat (first | exact hbw | apply pw_below_drewN)⟩
    | true =>
      go_enter Tryd.func7, Tryd.ntmps7
      go_wp2_with (first | (go_at_call 22; refine (F0.laws_eqVectorS.calls _ _ _ _ _ _ _ _ _ (Kd.C_alloc (Kd.C_alloc hr0_0 _) _) hc0_0 (Kd.C_alloc (Kd.C_alloc hr1_0 _) _) hc1_0 ht).mono ?_; rintro e w1 ⟨rfl, hb⟩; have f1 := (hb.cell (p := ⟨w.heap.size, 1, none⟩) (by first | (simp; done) | (simp; omega))).trans (cell_first _ _ _ _ 1); have g1 := (hb.cell (p := ⟨w.heap.size + 1, 1, none⟩) (by first | (simp; done) | (simp; omega))).trans (cell_second _ _ _ _ 1); have hbw := below_step (below_alloc (below_alloc (Below.refl w.heap.size w) _) _) hb; clear hb) | (refine wpList_conv rfl _ _ _ rfl q0 q1 _ rfl ?_; intro b' n hc) | (go_at_call 23; refine (sameFloat_c _ _ _ _ (by assumption) (by assumption) _).mono ?_; rw [es]; rintro e w1 ⟨rfl, ⟨nd, rfl⟩⟩))
      go_ret
      exact ⟨by first | rfl | (simp [*]; done), by repeat (first | exact hbw | apply pw_below_drewN)⟩
end XT
end Go.Proofs.YtffofpiejcolfaaDoor
