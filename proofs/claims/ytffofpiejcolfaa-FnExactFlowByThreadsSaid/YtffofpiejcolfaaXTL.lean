/- laws.eqThread, for the round L. -/
import Derived.Test.YtffofpiejcolfaaXY
set_option linter.unusedVariables false
set_option linter.unusedSimpArgs false
namespace Go.Proofs.Ytffofpiejcolfaa
open Go.RowKit Go.Proofs.YtffofpiejcolfaaW.PrintWords Go.Proofs.YtffofpiejcolfaaW.PrintLast Go.Proofs.YtffofpiejcolfaaW.PrintMore
attribute [local go_sem] max2_int min2_int max_two min_two max_three min_three max_four min_four   -- for this text's walks alone
namespace XT
open XF XL XC L0
theorem heap_two (w : World) (o1 o2 : Obj) : ((w.alloc o1).alloc o2).heap[w.heap.size + 1]? = some o2 := by
  have := heap_alloc_new (w.alloc o1) o2
  simpa using this
theorem cell_first (w : World) (c : Array Value) (t : TypeId) (o2 : Obj) (i : Nat) : ((w.alloc (.cells c t)).alloc o2).cell? ⟨w.heap.size, i, none⟩ = c[i]? := by
  have h : ((w.alloc (.cells c t)).alloc o2).heap[w.heap.size]? = some (.cells c t) := (heap_alloc_old (w.alloc _) o2 (by simp)).trans (heap_alloc_new w _)
  unfold World.cell?
  rw [h]
  rfl
theorem cell_second (w : World) (o1 : Obj) (c : Array Value) (t : TypeId) (i : Nat) : ((w.alloc o1).alloc (.cells c t)).cell? ⟨w.heap.size + 1, i, none⟩ = c[i]? := by
  unfold World.cell?
  rw [heap_two]
  rfl
/-- laws.eqThread. -/
def eqThread.f (l0_0 : List S46) (a0_1 : Nat) (l1_0 : List S46) (a1_1 : Nat) : Option Bool :=
  (laws_eqVectorS.f (l0_0.length + 1) l0_0 l1_0).bind fun t => some (t && sfc a0_1 a1_1)
set_option maxHeartbeats 4000000 in
set_option maxRecDepth 100000 in
theorem eqThread.calls (A0_0 : Option Addr) (c0_0 : Nat) (l0_0 : List S46) (a0_1 : Nat) (A1_0 : Option Addr) (c1_0 : Nat) (l1_0 : List S46) (a1_1 : Nat) (r : Bool) (w : World) (hr0_0 : Kd.C k46 w A0_0 l0_0.length l0_0) (hc0_0 : l0_0.length ≤ c0_0) (hr1_0 : Kd.C k46 w A1_0 l1_0.length l1_0) (hc1_0 : l1_0.length ≤ c1_0) (h : eqThread.f l0_0 a0_1 l1_0 a1_1 = some r) :
    Calls Try.prog 16 #[.agg #[.slice A0_0 l0_0.length c0_0, .float .f32 a0_1], .agg #[.slice A1_0 l1_0.length c1_0, .float .f32 a1_1]] w fun e w' => e = .returned (.bool r) ∧ Below w.heap.size w w' := by
  obtain ⟨t, ht, h2⟩ := Option.bind_eq_some_iff.1 h
  obtain rfl := Option.some.inj h2
  clear h h2
  have q0 : (Try.prog.underlying 23).isSome = true := by kernel_rfl
  have q1 := Try.underlying34
  cases t with
  | false =>
    go_enter Try.func16, Try.ntmps16
    go_wp2_with (first | (go_at_call 48; refine (laws_eqVectorS.calls _ _ _ _ _ _ _ _ _ (Kd.C_alloc (Kd.C_alloc hr0_0 _) _) hc0_0 (Kd.C_alloc (Kd.C_alloc hr1_0 _) _) hc1_0 ht).mono ?_; rintro e w1 ⟨rfl, hb⟩))
    go_ret
    exact ⟨by first | rfl | (simp [*]; done), below_step (below_alloc (below_alloc (Below.refl _ _) _) _) hb⟩
  | true =>
    cases es : sfc a0_1 a1_1 with
    | false =>
      go_enter Try.func16, Try.ntmps16
      go_wp2_with (first | (go_at_call 48; refine (laws_eqVectorS.calls _ _ _ _ _ _ _ _ _ (Kd.C_alloc (Kd.C_alloc hr0_0 _) _) hc0_0 (Kd.C_alloc (Kd.C_alloc hr1_0 _) _) hc1_0 ht).mono ?_; rintro e w1 ⟨rfl, hb⟩; have f1 := (hb.cell (p := ⟨w.heap.size, 1, none⟩) (by first | (simp; done) | (simp; omega))).trans (cell_first _ _ _ _ 1); have g1 := (hb.cell (p := ⟨w.heap.size + 1, 1, none⟩) (by first | (simp; done) | (simp; omega))).trans (cell_second _ _ _ _ 1); have hbw := below_step (below_alloc (below_alloc (Below.refl w.heap.size w) _) _) hb; clear hb) | (refine wpList_conv rfl _ _ _ rfl q0 q1 _ rfl ?_; intro b' n hc) | (go_at_call 15; refine (sameFloat_c _ _ _ _ (by assumption) (by assumption) _).mono ?_; rw [es]; rintro e w1 ⟨rfl, ⟨nd, rfl⟩⟩))
      go_ret
      exact ⟨by first | rfl | (simp [*]; done), by repeat (first | exact hbw | apply pw_below_drewN)⟩
    | true =>
      go_enter Try.func16, Try.ntmps16
      go_wp2_with (first | (go_at_call 48; refine (laws_eqVectorS.calls _ _ _ _ _ _ _ _ _ (Kd.C_alloc (Kd.C_alloc hr0_0 _) _) hc0_0 (Kd.C_alloc (Kd.C_alloc hr1_0 _) _) hc1_0 ht).mono ?_; rintro e w1 ⟨rfl, hb⟩; have f1 := (hb.cell (p := ⟨w.heap.size, 1, none⟩) (by first | (simp; done) | (simp; omega))).trans (cell_first _ _ _ _ 1); have g1 := (hb.cell (p := ⟨w.heap.size + 1, 1, none⟩) (by first | (simp; done) | (simp; omega))).trans (cell_second _ _ _ _ 1); have hbw := below_step (below_alloc (below_alloc (Below.refl w.heap.size w) _) _) hb; clear hb) | (refine wpList_conv rfl _ _ _ rfl q0 q1 _ rfl ?_; intro b' n hc) | (go_at_call 15; refine (sameFloat_c _ _ _ _ (by assumption) (by assumption) _).mono ?_; rw [es]; rintro e w1 ⟨rfl, ⟨nd, rfl⟩⟩))
      go_ret
      exact ⟨by first | rfl | (simp [*]; done), by repeat (first | exact hbw | apply pw_below_drewN)⟩
/-- laws.sameFloat. -/
def sameFloat.f (a0 a1 : Nat) : Option Bool := some (sfd a0 a1)
theorem sameFloat.calls (a0 a1 : Nat) (r : Bool) (w : World) (h : sameFloat.f a0 a1 = some r) :
    Calls Try.prog 15 #[.float .f64 a0, .float .f64 a1] w fun e w' => e = .returned (.bool r) ∧ Drawn0 w w' := by
  obtain rfl := Option.some.inj h
  exact sameFloat_d a0 a1 w
end XT
end Go.Proofs.Ytffofpiejcolfaa
