/- Words, walks and plain laws that a claim of this seat needs, one text after the other (part 6). -/
import Derived.Test.YtffofpiejcolfaaBS5
set_option linter.unusedVariables false
set_option linter.unusedSimpArgs false
section
namespace Go.Proofs.Ytffofpiejcolfaa.L4
open Go.Proofs.Ytffofpiejcolfaa.L0 Go.Proofs.Ytffofpiejcolfaa.L3
open Go.RowKit Go.Proofs.YtffofpiejcolfaaW.PrintWords Go.Proofs.YtffofpiejcolfaaW.PrintLast Go.Proofs.YtffofpiejcolfaaW.PrintMore
attribute [local go_sem] max2_int min2_int max_two min_two max_three min_three max_four min_four
set_option linter.unusedVariables false
set_option linter.unusedSimpArgs false
def spec_StepThreads.f (k : Nat) (l0 : List (S31)) (a1 : Nat) (a2 : Nat) : Option ((List (S31)) × Bool) := (spec_l06Can.f l0 a1 a2).bind fun t249 => (if t249 = true then ((spec_l06Step.f k l0 a1 a2).bind fun bt250 => (some (bt250.1, bt250.2))) else (some (([] : List (S31)), false)))
theorem spec_StepThreads.mono : ∀ a0 a1 a2 k, LeO (spec_StepThreads.f k a0 a1 a2) (spec_StepThreads.f (k + 1) a0 a1 a2) := by
  intro a0 a1 a2 k
  unfold spec_StepThreads.f
  repeat' first
      | (with_reducible exact spec_l06Step.mono _ _ _ _)
      | (with_reducible exact LeO.refl _)
      | (with_reducible exact LeO.none _)
      | (with_reducible refine LeO.ite ?_ ?_)
      | (with_reducible refine LeO.bind ?_ (fun _ => ?_))
      | exact spec_l06Step.mono _ _ _ _
      | exact LeO.none _
      | refine LeO.ite ?_ ?_
      | refine LeO.bind ?_ (fun _ => ?_)
set_option maxHeartbeats 8000000 in
set_option maxRecDepth 100000 in
theorem spec_StepThreads.calls (k : Nat) (A0 : Option Addr) (c0 : Nat) (l0 : List (S31)) (a1 : Nat) (a2 : Nat) (r1 : List (S31)) (r2 : Bool) (w : World) (hr0 : Kd.C k31 w A0 l0.length l0) (hc0 : l0.length ≤ c0) (h : spec_StepThreads.f k l0 a1 a2 = some (r1, r2)) :
    Calls Try.prog 34 #[.slice A0 l0.length c0, .float .f32 a1, .float .f32 a2] w fun e w' => ∃ v0_ : Value, e = .returned (.tuple #[v0_, .bool r2]) ∧ Kd.S k31 31 w' w.heap.size (fun _ => True) v0_ r1 ∧ Below w.heap.size w w' := by
  have HR0 := Aside0.mk hr0
  have HC0 := Aside0.mk hc0
  clear hr0 hc0
  have HB := Aside0.mk (Below.refl w.heap.size w)
  have H : ((spec_l06Can.f l0 a1 a2).bind fun t249 => (if t249 = true then ((spec_l06Step.f k l0 a1 a2).bind fun bt250 => (some (bt250.1, bt250.2))) else (some (([] : List (S31)), false)))) = some (r1, r2) := h
  clear h
  replace H := Option.bind_eq_some_iff.mp H
  obtain ⟨t249, A40, H⟩ := H
  replace H : (if t249 = true then ((spec_l06Step.f k l0 a1 a2).bind fun bt250 => (some (bt250.1, bt250.2))) else (some (([] : List (S31)), false))) = some (r1, r2) := H
  have A4 := Aside0.mk A40
  clear A40
  by_cases c5 : t249 = true
  · subst c5
    have H1 : ((spec_l06Step.f k l0 a1 a2).bind fun bt250 => (some (bt250.1, bt250.2))) = some (r1, r2) := by rw [if_pos rfl] at H; exact H
    clear H
    have H := H1
    clear H1
    replace H := Option.bind_eq_some_iff.mp H
    obtain ⟨⟨t250, t251⟩, A60, H⟩ := H
    replace H : (some (t250, t251)) = some (r1, r2) := H
    have A6 := Aside0.mk A60
    clear A60
    simp only [Option.some.injEq, Prod.mk.injEq] at H
    obtain ⟨rfl, rfl⟩ := H
    go_enter Try.func34, Try.ntmps34
    go_wp2_with (first | ((with_reducible refine gate_callee (f := 90) rfl ?_); refine goesL_ (some 11) rfl rfl Try.func90 (by kernel_rfl) rfl #[.slice A0 l0.length c0, .float .f32 a1, .float .f32 a2] rfl (by (try simp only [List.map_toArray, List.map_cons, List.map_nil]); first | done | rfl | (simp only [List.length_drop, List.length_take]; rfl)) ?_; (with_reducible refine (spec_l06Can.calls _ _ l0 a1 a2 true _ ?side1 ?side2 A4.out).mono ?_); (case side1 => repeat (first | exact HR0.out | (with_reducible refine Kd.C_alloc ?_ _) | (with_reducible refine Kd.C_drewN ?_ _) | (with_reducible refine Kd.C_drew ?_))); (case side2 => exact HC0.out); rintro e w7 ⟨rfl, hb⟩; refine ⟨_, rfl, ?_⟩; have n0_ := Aside0.mk (below_step (by repeat (first | (with_reducible first | exact HB.out | apply below_alloc | apply pw_below_drewN | apply below_drew1) | exact HB.out)) hb); clear HB; have HB := n0_; clear n0_; (try clear hb); (try clear hb2); (try clear hk); (try clear hi)) | ((with_reducible refine gate_callee (f := 91) rfl ?_); refine goesL_ (some 16) rfl rfl Try.func91 (by kernel_rfl) rfl #[.slice A0 l0.length c0, .float .f32 a1, .float .f32 a2] rfl (by (try simp only [List.map_toArray, List.map_cons, List.map_nil]); first | done | rfl | (simp only [List.length_drop, List.length_take]; rfl)) ?_; (with_reducible refine (spec_l06Step.calls k _ _ l0 a1 a2 t250 t251 _ ?side1 ?side2 A6.out).mono ?_); (case side1 => repeat (first | exact (Kd.C_below HR0.out HB.out) | (with_reducible refine Kd.C_alloc ?_ _) | (with_reducible refine Kd.C_drewN ?_ _) | (with_reducible refine Kd.C_drew ?_))); (case side2 => exact HC0.out); rintro e w8 ⟨v252, rfl, ho0, hb⟩; refine ⟨_, rfl, ?_⟩; have n0_ := Aside0.mk (Kd.S_lower ho0 (below_size (by repeat (first | (with_reducible first | exact HB.out | apply below_alloc | apply pw_below_drewN | apply below_drew1) | exact HB.out)))); have n1_ := Aside0.mk (below_step (by repeat (first | (with_reducible first | exact HB.out | apply below_alloc | apply pw_below_drewN | apply below_drew1) | exact HB.out)) hb); clear HB; have HO253 := n0_; have HB := n1_; clear n0_ n1_; (try clear hb); (try clear hb2); (try clear hk); (try clear hi); (try clear ho0)))
    go_ret2
    exact ⟨_, by first | rfl | (simp [errW_none, errW_some] <;> rfl) | (simp [*, errW_none, errW_some] <;> rfl), by (with_reducible repeat (first | apply Kd.S_alloc | apply Kd.S_drewN | apply Kd.S_drew)); exact HO253.out, by repeat (first | (with_reducible first | exact HB.out | apply below_alloc | apply pw_below_drewN | apply below_drew1) | exact HB.out)⟩
  · replace c5 := Bool.eq_false_iff.mpr c5
    subst c5
    have H1 : (some (([] : List (S31)), false)) = some (r1, r2) := by rw [if_neg (show ¬ (false = true) by decide)] at H; exact H
    clear H
    have H := H1
    clear H1
    simp only [Option.some.injEq, Prod.mk.injEq] at H
    obtain ⟨rfl, rfl⟩ := H
    go_enter Try.func34, Try.ntmps34
    go_wp2_with (first | ((with_reducible refine gate_callee (f := 90) rfl ?_); refine goesL_ (some 11) rfl rfl Try.func90 (by kernel_rfl) rfl #[.slice A0 l0.length c0, .float .f32 a1, .float .f32 a2] rfl (by (try simp only [List.map_toArray, List.map_cons, List.map_nil]); first | done | rfl | (simp only [List.length_drop, List.length_take]; rfl)) ?_; (with_reducible refine (spec_l06Can.calls _ _ l0 a1 a2 false _ ?side1 ?side2 A4.out).mono ?_); (case side1 => repeat (first | exact HR0.out | (with_reducible refine Kd.C_alloc ?_ _) | (with_reducible refine Kd.C_drewN ?_ _) | (with_reducible refine Kd.C_drew ?_))); (case side2 => exact HC0.out); rintro e w9 ⟨rfl, hb⟩; refine ⟨_, rfl, ?_⟩; have n0_ := Aside0.mk (below_step (by repeat (first | (with_reducible first | exact HB.out | apply below_alloc | apply pw_below_drewN | apply below_drew1) | exact HB.out)) hb); clear HB; have HB := n0_; clear n0_; (try clear hb); (try clear hb2); (try clear hk); (try clear hi)))
    go_ret2
    exact ⟨_, by first | rfl | (simp [errW_none, errW_some] <;> rfl) | (simp [*, errW_none, errW_some] <;> rfl), by first | exact Kd.S_nil _ _ _ _ _ | exact Kd.N_nil _ _ _ _ _ | exact Kd.V_nil _ _ _ _ _ | exact Kd.Q_nil _ _ _ _ _ | exact Kd.R_nil _ _ _ _ _, by repeat (first | (with_reducible first | exact HB.out | apply below_alloc | apply pw_below_drewN | apply below_drew1) | exact HB.out)⟩
def impl_StepThreads.f (k : Nat) (l0 : List (S31)) (a1 : Nat) (a2 : Nat) : Option ((List (S31)) × Bool) := (impl_RunThreads.f k l0 a1 a2 1).bind fun bt254 => (some (bt254.1, bt254.2))
theorem impl_StepThreads.mono : ∀ a0 a1 a2 k, LeO (impl_StepThreads.f k a0 a1 a2) (impl_StepThreads.f (k + 1) a0 a1 a2) := by
  intro a0 a1 a2 k
  unfold impl_StepThreads.f
  repeat' first
      | (with_reducible exact impl_RunThreads.mono _ _ _ _ _)
      | (with_reducible exact LeO.refl _)
      | (with_reducible exact LeO.none _)
      | (with_reducible refine LeO.ite ?_ ?_)
      | (with_reducible refine LeO.bind ?_ (fun _ => ?_))
      | exact impl_RunThreads.mono _ _ _ _ _
      | exact LeO.none _
      | refine LeO.ite ?_ ?_
      | refine LeO.bind ?_ (fun _ => ?_)
set_option maxHeartbeats 8000000 in
set_option maxRecDepth 100000 in
theorem impl_StepThreads.calls (k : Nat) (A0 : Option Addr) (c0 : Nat) (l0 : List (S31)) (a1 : Nat) (a2 : Nat) (r1 : List (S31)) (r2 : Bool) (w : World) (hr0 : Kd.C k31 w A0 l0.length l0) (hc0 : l0.length ≤ c0) (h : impl_StepThreads.f k l0 a1 a2 = some (r1, r2)) :
    Calls Try.prog 35 #[.slice A0 l0.length c0, .float .f32 a1, .float .f32 a2] w fun e w' => ∃ v0_ : Value, e = .returned (.tuple #[v0_, .bool r2]) ∧ Kd.S k31 31 w' w.heap.size (fun _ => True) v0_ r1 ∧ Below w.heap.size w w' := by
  have HR0 := Aside0.mk hr0
  have HC0 := Aside0.mk hc0
  clear hr0 hc0
  have HB := Aside0.mk (Below.refl w.heap.size w)
  have H : ((impl_RunThreads.f k l0 a1 a2 1).bind fun bt254 => (some (bt254.1, bt254.2))) = some (r1, r2) := h
  clear h
  replace H := Option.bind_eq_some_iff.mp H
  obtain ⟨⟨t254, t255⟩, A40, H⟩ := H
  replace H : (some (t254, t255)) = some (r1, r2) := H
  have A4 := Aside0.mk A40
  clear A40
  simp only [Option.some.injEq, Prod.mk.injEq] at H
  obtain ⟨rfl, rfl⟩ := H
  go_enter Try.func35, Try.ntmps35
  go_wp2_with (first | ((with_reducible refine gate_callee (f := 39) rfl ?_); refine goesL_ (some 11) rfl rfl Try.func39 (by kernel_rfl) rfl #[.slice A0 l0.length c0, .float .f32 a1, .float .f32 a2, .int .i64 1] rfl (by (try simp only [List.map_toArray, List.map_cons, List.map_nil]); first | done | rfl | (simp only [List.length_drop, List.length_take]; rfl)) ?_; (with_reducible refine (impl_RunThreads.calls k _ _ l0 a1 a2 1 t254 t255 _ ?side1 ?side2 A4.out).mono ?_); (case side1 => repeat (first | exact HR0.out | (with_reducible refine Kd.C_alloc ?_ _) | (with_reducible refine Kd.C_drewN ?_ _) | (with_reducible refine Kd.C_drew ?_))); (case side2 => exact HC0.out); rintro e w5 ⟨v256, rfl, ho0, hb⟩; refine ⟨_, rfl, ?_⟩; have n0_ := Aside0.mk (Kd.S_lower ho0 (below_size (by repeat (first | (with_reducible first | exact HB.out | apply below_alloc | apply pw_below_drewN | apply below_drew1) | exact HB.out)))); have n1_ := Aside0.mk (below_step (by repeat (first | (with_reducible first | exact HB.out | apply below_alloc | apply pw_below_drewN | apply below_drew1) | exact HB.out)) hb); clear HB; have HO257 := n0_; have HB := n1_; clear n0_ n1_; (try clear hb); (try clear hb2); (try clear hk); (try clear hi); (try clear ho0)))
  go_ret2
  exact ⟨_, by first | rfl | (simp [errW_none, errW_some] <;> rfl) | (simp [*, errW_none, errW_some] <;> rfl), by (with_reducible repeat (first | apply Kd.S_alloc | apply Kd.S_drewN | apply Kd.S_drew)); exact HO257.out, by repeat (first | (with_reducible first | exact HB.out | apply below_alloc | apply pw_below_drewN | apply below_drew1) | exact HB.out)⟩
end Go.Proofs.Ytffofpiejcolfaa.L4
end
section
namespace Go.Proofs.Ytffofpiejcolfaa.L3
open Go.Proofs.Ytffofpiejcolfaa.L0
open Go.RowKit Go.Proofs.YtffofpiejcolfaaW.PrintWords Go.Proofs.YtffofpiejcolfaaW.PrintLast Go.Proofs.YtffofpiejcolfaaW.PrintMore
attribute [local go_sem] max2_int min2_int max_two min_two max_three min_three max_four min_four
set_option linter.unusedVariables false
set_option linter.unusedSimpArgs false
def laws_szVectorS.f (l0 : List (S44)) (a1 : Int) : Option (Int) := if (wrap64 (a1 - (l0.length : Int))) < 0 then (some (-1)) else (some (wrap64 (a1 - (l0.length : Int))))
set_option maxHeartbeats 8000000 in
set_option maxRecDepth 100000 in
theorem laws_szVectorS.calls (A0 : Option Addr) (c0 : Nat) (l0 : List (S44)) (a1 : Int) (r : Int) (w : World) (hr0 : Kd.C k44 w A0 l0.length l0) (hc0 : l0.length ≤ c0) (h : laws_szVectorS.f l0 a1 = some r) :
    Calls Try.prog 40 #[.slice A0 l0.length c0, .int .i64 a1] w fun e w' => e = .returned (.int .i64 r) ∧ Drawn0 w w' := by
  have HR0 := Aside0.mk hr0
  have HC0 := Aside0.mk hc0
  clear hr0 hc0
  have H : (if (wrap64 (a1 - (l0.length : Int))) < 0 then (some (-1)) else (some (wrap64 (a1 - (l0.length : Int))))) = some r := h
  clear h
  by_cases c3 : (wrap64 (a1 - (l0.length : Int))) < 0
  · rw [if_pos c3] at H
    have c3b0 : decide ((wrap64 (a1 - (l0.length : Int))) < 0) = true := decide_eq_true c3
    clear c3
    obtain rfl := Option.some.inj H
    go_enter Try.func40, Try.ntmps40
    go_wp2
    go_ret
    exact ⟨by first | rfl | (simp; done) | (simp [*]; done), by repeat (first | exact Drawn0.refl _ | apply Drawn0.step)⟩
  · rw [if_neg c3] at H
    have c3b0 : decide ((wrap64 (a1 - (l0.length : Int))) < 0) = false := decide_eq_false c3
    clear c3
    obtain rfl := Option.some.inj H
    go_enter Try.func40, Try.ntmps40
    go_wp2
    go_ret
    exact ⟨by first | rfl | (simp; done) | (simp [*]; done), by repeat (first | exact Drawn0.refl _ | apply Drawn0.step)⟩
def laws_szThread.f (l0_0 : List (S44)) (a0_1 : Nat) (a1 : Int) : Option (Int) := (laws_szVectorS.f l0_0 a1).bind fun t102 => (if t102 < 0 then (some (-1)) else (some t102))
set_option maxHeartbeats 8000000 in
set_option maxRecDepth 100000 in
theorem laws_szThread.calls (A0_0 : Option Addr) (c0_0 : Nat) (l0_0 : List (S44)) (a0_1 : Nat) (a1 : Int) (r : Int) (w : World) (hr0_0 : Kd.C k44 w A0_0 l0_0.length l0_0) (hc0_0 : l0_0.length ≤ c0_0) (h : laws_szThread.f l0_0 a0_1 a1 = some r) :
    Calls Try.prog 11 #[.agg #[.slice A0_0 l0_0.length c0_0, .float .f32 a0_1], .int .i64 a1] w fun e w' => e = .returned (.int .i64 r) ∧ Below w.heap.size w w' := by
  have hu25 := Try.underlying25
  have HR0_0 := Aside0.mk hr0_0
  have HC0_0 := Aside0.mk hc0_0
  clear hr0_0 hc0_0
  have HB := Aside0.mk (Below.refl w.heap.size w)
  have H : ((laws_szVectorS.f l0_0 a1).bind fun t102 => (if t102 < 0 then (some (-1)) else (some t102))) = some r := h
  clear h
  replace H := Option.bind_eq_some_iff.mp H
  obtain ⟨t102, A30, H⟩ := H
  replace H : (if t102 < 0 then (some (-1)) else (some t102)) = some r := H
  have A3 := Aside0.mk A30
  clear A30
  by_cases c4 : t102 < 0
  · rw [if_pos c4] at H
    have c4b0 : decide (t102 < 0) = true := decide_eq_true c4
    clear c4
    obtain rfl := Option.some.inj H
    go_enter Try.func11, Try.ntmps11
    go_wp2_with (first | ((with_reducible refine gate_dst (N := 2) rfl ?_); refine box_event ?hg (N := 2) ?hd (cs := #[.slice A0_0 l0_0.length c0_0, .float .f32 a0_1]) (t := 25) ?hr ?_; (case hd => rfl); (case hg => rfl); (case hr => first | (go_simp; done) | (go_simp; rfl)); intro gb101 hg w5 hbox hb; have n0_ := Aside0.mk (below_step (by repeat (first | (with_reducible first | exact HB.out | apply below_alloc | apply pw_below_drewN | apply below_drew1) | exact HB.out)) hb); have n1_ := Aside0.mk (hbox); have n2_ := Aside0.mk ((by rw [hg]; exact (below_size (by repeat (first | (with_reducible first | exact HB.out | apply below_alloc | apply pw_below_drewN | apply below_drew1) | exact HB.out))) : w.heap.size ≤ gb101)); have n3_ := Aside0.mk ((by rw [hg]; exact (below_size (by repeat (first | (with_reducible first | exact HB.out | apply below_alloc | apply pw_below_drewN | apply below_drew1) | exact HB.out))) : w.heap.size ≤ gb101)); clear HB; have HB := n0_; have BK101 := n1_; have GW101 := n2_; have GE101 := n3_; clear n0_ n1_ n2_ n3_; clear hb hbox hg; have hcz6_0 : w5.cell? ⟨gb101, 0, none⟩ = some (.slice A0_0 l0_0.length c0_0) := (blk_cell BK101.out 0).trans rfl; have hcz6_1 : w5.cell? ⟨gb101, 1, none⟩ = some (.float .f32 a0_1) := (blk_cell BK101.out 1).trans rfl; have hfz6_0 := blk_frozen BK101.out 0; have hfz6_1 := blk_frozen BK101.out 1) | ((with_reducible refine gate_callee (f := 40) rfl ?_); refine goesL_ (some 8) rfl rfl Try.func40 (by kernel_rfl) rfl #[.slice A0_0 l0_0.length c0_0, .int .i64 a1] rfl (by (try simp only [List.map_toArray, List.map_cons, List.map_nil]); first | done | rfl | (simp only [List.length_drop, List.length_take]; rfl)) ?_; (with_reducible refine (laws_szVectorS.calls _ _ l0_0 a1 t102 _ ?side1 ?side2 A3.out).mono ?_); (case side1 => repeat (first | exact (Kd.C_below HR0_0.out HB.out) | (with_reducible refine Kd.C_alloc ?_ _) | (with_reducible refine Kd.C_drewN ?_ _) | (with_reducible refine Kd.C_drew ?_))); (case side2 => exact HC0_0.out); rintro e w' ⟨rfl, ⟨nd, rfl⟩⟩; refine ⟨_, rfl, ?_⟩))
    go_ret
    exact ⟨by first | rfl | (simp [errW_none, errW_some] <;> rfl) | (simp [*, errW_none, errW_some] <;> rfl), by repeat (first | (with_reducible first | exact HB.out | apply below_alloc | apply pw_below_drewN | apply below_drew1 | refine below_set ?_ GE101.out) | exact HB.out)⟩
  · rw [if_neg c4] at H
    have c4b0 : decide (t102 < 0) = false := decide_eq_false c4
    clear c4
    obtain rfl := Option.some.inj H
    go_enter Try.func11, Try.ntmps11
    go_wp2_with (first | ((with_reducible refine gate_dst (N := 2) rfl ?_); refine box_event ?hg (N := 2) ?hd (cs := #[.slice A0_0 l0_0.length c0_0, .float .f32 a0_1]) (t := 25) ?hr ?_; (case hd => rfl); (case hg => rfl); (case hr => first | (go_simp; done) | (go_simp; rfl)); intro gb101 hg w7 hbox hb; have n0_ := Aside0.mk (below_step (by repeat (first | (with_reducible first | exact HB.out | apply below_alloc | apply pw_below_drewN | apply below_drew1) | exact HB.out)) hb); have n1_ := Aside0.mk (hbox); have n2_ := Aside0.mk ((by rw [hg]; exact (below_size (by repeat (first | (with_reducible first | exact HB.out | apply below_alloc | apply pw_below_drewN | apply below_drew1) | exact HB.out))) : w.heap.size ≤ gb101)); have n3_ := Aside0.mk ((by rw [hg]; exact (below_size (by repeat (first | (with_reducible first | exact HB.out | apply below_alloc | apply pw_below_drewN | apply below_drew1) | exact HB.out))) : w.heap.size ≤ gb101)); clear HB; have HB := n0_; have BK101 := n1_; have GW101 := n2_; have GE101 := n3_; clear n0_ n1_ n2_ n3_; clear hb hbox hg; have hcz8_0 : w7.cell? ⟨gb101, 0, none⟩ = some (.slice A0_0 l0_0.length c0_0) := (blk_cell BK101.out 0).trans rfl; have hcz8_1 : w7.cell? ⟨gb101, 1, none⟩ = some (.float .f32 a0_1) := (blk_cell BK101.out 1).trans rfl; have hfz8_0 := blk_frozen BK101.out 0; have hfz8_1 := blk_frozen BK101.out 1) | ((with_reducible refine gate_callee (f := 40) rfl ?_); refine goesL_ (some 8) rfl rfl Try.func40 (by kernel_rfl) rfl #[.slice A0_0 l0_0.length c0_0, .int .i64 a1] rfl (by (try simp only [List.map_toArray, List.map_cons, List.map_nil]); first | done | rfl | (simp only [List.length_drop, List.length_take]; rfl)) ?_; (with_reducible refine (laws_szVectorS.calls _ _ l0_0 a1 t102 _ ?side1 ?side2 A3.out).mono ?_); (case side1 => repeat (first | exact (Kd.C_below HR0_0.out HB.out) | (with_reducible refine Kd.C_alloc ?_ _) | (with_reducible refine Kd.C_drewN ?_ _) | (with_reducible refine Kd.C_drew ?_))); (case side2 => exact HC0_0.out); rintro e w' ⟨rfl, ⟨nd, rfl⟩⟩; refine ⟨_, rfl, ?_⟩))
    go_ret
    exact ⟨by first | rfl | (simp [errW_none, errW_some] <;> rfl) | (simp [*, errW_none, errW_some] <;> rfl), by repeat (first | (with_reducible first | exact HB.out | apply below_alloc | apply pw_below_drewN | apply below_drew1 | refine below_set ?_ GE101.out) | exact HB.out)⟩
def laws_szThreadS.l0 : Nat → List (S25) → Int → Int → Option (Int)
  | 0, _, _, _ => none
  | k + 1, x0, x1, x5 => if x5 < (x0.length : Int) then (if 0 ≤ x5 then ((laws_szThread.f ((rd_T25 x0 x5).f0) ((rd_T25 x0 x5).f1) x1).bind fun t104 => (if t104 < 0 then (some (-1)) else (laws_szThreadS.l0 k x0 t104 (wrap64 (x5 + 1))))) else (none)) else (some x1)
def laws_szThreadS.f (k : Nat) (l0 : List (S25)) (a1 : Int) : Option (Int) := if (wrap64 (a1 - (l0.length : Int))) < 0 then (some (-1)) else (laws_szThreadS.l0 k l0 (wrap64 (a1 - (l0.length : Int))) 0)
theorem laws_szThreadS.mono_l : ∀ k, (∀ y0 y1 y2, LeO (laws_szThreadS.l0 k y0 y1 y2) (laws_szThreadS.l0 (k + 1) y0 y1 y2))
  | 0 => fun _ _ _ r h => by simp [laws_szThreadS.l0] at h
  | k + 1 => by
    have ih0 := laws_szThreadS.mono_l k
    · intro y0 y1 y2
      unfold laws_szThreadS.l0
      repeat' first
      | (with_reducible exact ih0 _ _ _)
      | (with_reducible exact LeO.refl _)
      | (with_reducible exact LeO.none _)
      | (with_reducible refine LeO.ite ?_ ?_)
      | (with_reducible refine LeO.bind ?_ (fun _ => ?_))
      | exact ih0 _ _ _
      | exact LeO.none _
      | refine LeO.ite ?_ ?_
      | refine LeO.bind ?_ (fun _ => ?_)
theorem laws_szThreadS.mono : ∀ a0 a1 k, LeO (laws_szThreadS.f k a0 a1) (laws_szThreadS.f (k + 1) a0 a1) := by
  intro a0 a1 k
  have ih0 := laws_szThreadS.mono_l k
  unfold laws_szThreadS.f
  repeat' first
      | (with_reducible exact ih0 _ _ _)
      | (with_reducible exact LeO.refl _)
      | (with_reducible exact LeO.none _)
      | (with_reducible refine LeO.ite ?_ ?_)
      | (with_reducible refine LeO.bind ?_ (fun _ => ?_))
      | exact ih0 _ _ _
      | exact LeO.none _
      | refine LeO.ite ?_ ?_
      | refine LeO.bind ?_ (fun _ => ?_)
set_option maxHeartbeats 8000000 in
set_option maxRecDepth 100000 in
theorem laws_szThreadS.calls (k : Nat) (A0 : Option Addr) (c0 : Nat) (l0 : List (S25)) (a1 : Int) (r : Int) (w : World) (hr0 : Kd.C k25 w A0 l0.length l0) (hc0 : l0.length ≤ c0) (h : laws_szThreadS.f k l0 a1 = some r) :
    Calls Try.prog 21 #[.slice A0 l0.length c0, .int .i64 a1] w fun e w' => e = .returned (.int .i64 r) ∧ Below w.heap.size w w' := by
  have hu25 := Try.underlying25
  have HR0 := Aside0.mk hr0
  have HC0 := Aside0.mk hc0
  clear hr0 hc0
  have HB := Aside0.mk (Below.refl w.heap.size w)
  have H : (if (wrap64 (a1 - (l0.length : Int))) < 0 then (some (-1)) else (laws_szThreadS.l0 k l0 (wrap64 (a1 - (l0.length : Int))) 0)) = some r := h
  clear h
  by_cases c3 : (wrap64 (a1 - (l0.length : Int))) < 0
  · rw [if_pos c3] at H
    have c3b0 : decide ((wrap64 (a1 - (l0.length : Int))) < 0) = true := decide_eq_true c3
    clear c3
    obtain rfl := Option.some.inj H
    go_enter Try.func21, Try.ntmps21
    go_wp2
    go_ret
    exact ⟨by first | rfl | (simp [errW_none, errW_some] <;> rfl) | (simp [*, errW_none, errW_some] <;> rfl), by repeat (first | (with_reducible first | exact HB.out | apply below_alloc | apply pw_below_drewN | apply below_drew1) | exact HB.out)⟩
  · rw [if_neg c3] at H
    have c3b0 : decide ((wrap64 (a1 - (l0.length : Int))) < 0) = false := decide_eq_false c3
    clear c3
    have H' := Aside0.mk H
    clear H
    go_enter Try.func21, Try.ntmps21
    go_wp2
    go_loopg [1, 5] k (fun kq v1 v5 w' => ∃ (x1_1 : Int) (x5_1 : Int), v1 = .int .i64 x1_1 ∧ v5 = .int .i64 x5_1 ∧ Aside0 (laws_szThreadS.l0 kq l0 x1_1 x5_1 = some r) ∧ Aside0 (kq ≤ k) ∧ Aside0 (Below w.heap.size w w'))
    case atStart => exact ⟨(wrap64 (a1 - (l0.length : Int))), (0), (by first | rfl | (simp; done) | (simp [*]; done)), (by first | rfl | (simp; done) | (simp [*]; done)), H', ⟨Nat.le_refl _⟩, ⟨by repeat (first | (with_reducible first | exact HB.out | apply below_alloc | apply pw_below_drewN | apply below_drew1) | exact HB.out)⟩⟩
    case round =>
      clear H'
      try clear c2
      try clear p2
      try clear c3
      try clear c3b0
      obtain ⟨x1_1, x5_1, rfl, rfl, HA, HK1, HB⟩ := hrel
      cases gk with
      | zero => exact absurd HA.out (by simp [laws_szThreadS.l0])
      | succ k1 =>
        have H := HA.out
        clear HA
        simp only [laws_szThreadS.l0] at H
        by_cases c4 : x5_1 < (l0.length : Int)
        · rw [if_pos c4] at H
          have c4b0 : decide (x5_1 < (l0.length : Int)) = true := decide_eq_true c4
          clear c4
          by_cases c5 : 0 ≤ x5_1
          · rw [if_pos c5] at H
            have c5b0 : decide (0 ≤ x5_1) = true := decide_eq_true c5
            clear c5
            replace H := Option.bind_eq_some_iff.mp H
            obtain ⟨t104, A60, H⟩ := H
            replace H : (if t104 < 0 then (some (-1)) else (laws_szThreadS.l0 k1 l0 t104 (wrap64 (x5_1 + 1)))) = some r := H
            have A6 := Aside0.mk A60
            clear A60
            by_cases c7 : t104 < 0
            · rw [if_pos c7] at H
              have c7b0 : decide (t104 < 0) = true := decide_eq_true c7
              clear c7
              obtain rfl := Option.some.inj H
              have p103 : 0 ≤ (x5_1 : Int) := of_decide_eq_true (by first | (with_reducible assumption) | assumption)
              have q103 : x5_1 < (l0.length : Int) := of_decide_eq_true (by first | (with_reducible assumption) | assumption)
              obtain ⟨ad103, A103_0, c103_0, e103, hx103_0, hx103_1, hl103_0, hi103_0⟩ := at_T25 HR0.out x5_1 p103 q103
              cases e103
              replace hx103_0 := (HB.out.cell (World.block_lt_of_cell? w _ hx103_0)).trans hx103_0
              replace hx103_1 := (HB.out.cell (World.block_lt_of_cell? w _ hx103_1)).trans hx103_1
              have HR103_0 := Aside0.mk hi103_0
              have HC103_0 := Aside0.mk hl103_0
              clear hi103_0 hl103_0
              replace p103 := eq_true p103
              replace q103 := eq_true q103
              go_wp2_with (first | ((with_reducible refine gate_callee (f := 11) rfl ?_); refine goesL_ (some 23) rfl rfl Try.func11 (by kernel_rfl) rfl #[.agg #[.slice A103_0 ((rd_T25 l0 x5_1).f0).length c103_0, .float .f32 ((rd_T25 l0 x5_1).f1)], .int .i64 x1_1] rfl (by (try simp only [List.map_toArray, List.map_cons, List.map_nil]); first | done | rfl | (simp only [List.length_drop, List.length_take]; rfl)) ?_; (with_reducible refine (laws_szThread.calls _ _ ((rd_T25 l0 x5_1).f0) ((rd_T25 l0 x5_1).f1) x1_1 t104 _ ?side1 ?side2 A6.out).mono ?_); (case side1 => repeat (first | exact (Kd.C_below HR103_0.out HB.out) | (with_reducible refine Kd.C_alloc ?_ _) | (with_reducible refine Kd.C_drewN ?_ _) | (with_reducible refine Kd.C_drew ?_))); (case side2 => exact HC103_0.out); rintro e w8 ⟨rfl, hb⟩; refine ⟨_, rfl, ?_⟩; have n0_ := Aside0.mk (below_step (by repeat (first | (with_reducible first | exact HB.out | apply below_alloc | apply pw_below_drewN | apply below_drew1) | exact HB.out)) hb); clear HB; have HB := n0_; clear n0_; (try clear hb); (try clear hb2); (try clear hk); (try clear hi)))
              go_ret
              exact ⟨by first | rfl | (simp [errW_none, errW_some] <;> rfl) | (simp [*, errW_none, errW_some] <;> rfl), by repeat (first | (with_reducible first | exact HB.out | apply below_alloc | apply pw_below_drewN | apply below_drew1) | exact HB.out)⟩
            · rw [if_neg c7] at H
              have c7b0 : decide (t104 < 0) = false := decide_eq_false c7
              clear c7
              have H' := Aside0.mk H
              clear H
              have p103 : 0 ≤ (x5_1 : Int) := of_decide_eq_true (by first | (with_reducible assumption) | assumption)
              have q103 : x5_1 < (l0.length : Int) := of_decide_eq_true (by first | (with_reducible assumption) | assumption)
              obtain ⟨ad103, A103_0, c103_0, e103, hx103_0, hx103_1, hl103_0, hi103_0⟩ := at_T25 HR0.out x5_1 p103 q103
              cases e103
              replace hx103_0 := (HB.out.cell (World.block_lt_of_cell? w _ hx103_0)).trans hx103_0
              replace hx103_1 := (HB.out.cell (World.block_lt_of_cell? w _ hx103_1)).trans hx103_1
              have HR103_0 := Aside0.mk hi103_0
              have HC103_0 := Aside0.mk hl103_0
              clear hi103_0 hl103_0
              replace p103 := eq_true p103
              replace q103 := eq_true q103
              go_wp2_with (first | ((with_reducible refine gate_callee (f := 11) rfl ?_); refine goesL_ (some 23) rfl rfl Try.func11 (by kernel_rfl) rfl #[.agg #[.slice A103_0 ((rd_T25 l0 x5_1).f0).length c103_0, .float .f32 ((rd_T25 l0 x5_1).f1)], .int .i64 x1_1] rfl (by (try simp only [List.map_toArray, List.map_cons, List.map_nil]); first | done | rfl | (simp only [List.length_drop, List.length_take]; rfl)) ?_; (with_reducible refine (laws_szThread.calls _ _ ((rd_T25 l0 x5_1).f0) ((rd_T25 l0 x5_1).f1) x1_1 t104 _ ?side1 ?side2 A6.out).mono ?_); (case side1 => repeat (first | exact (Kd.C_below HR103_0.out HB.out) | (with_reducible refine Kd.C_alloc ?_ _) | (with_reducible refine Kd.C_drewN ?_ _) | (with_reducible refine Kd.C_drew ?_))); (case side2 => exact HC103_0.out); rintro e w9 ⟨rfl, hb⟩; refine ⟨_, rfl, ?_⟩; have n0_ := Aside0.mk (below_step (by repeat (first | (with_reducible first | exact HB.out | apply below_alloc | apply pw_below_drewN | apply below_drew1) | exact HB.out)) hb); clear HB; have HB := n0_; clear n0_; (try clear hb); (try clear hb2); (try clear hk); (try clear hi)))
              go_roundg k1
              case measure => have := HK1.out; omega
              case rel => exact ⟨(t104), (wrap64 (x5_1 + 1)), (by first | rfl | (simp; done) | (simp [*]; done)), (by first | rfl | (simp; done) | (simp [*]; done)), H', ⟨by have := HK1.out; omega⟩, ⟨by repeat (first | (with_reducible first | exact HB.out | apply below_alloc | apply pw_below_drewN | apply below_drew1) | exact HB.out)⟩⟩
          · rw [if_neg c5] at H
            exact absurd H (by simp)
        · rw [if_neg c4] at H
          have c4b0 : decide (x5_1 < (l0.length : Int)) = false := decide_eq_false c4
          clear c4
          obtain rfl := Option.some.inj H
          go_wp2
          go_ret
          exact ⟨by first | rfl | (simp [errW_none, errW_some] <;> rfl) | (simp [*, errW_none, errW_some] <;> rfl), by repeat (first | (with_reducible first | exact HB.out | apply below_alloc | apply pw_below_drewN | apply below_drew1) | exact HB.out)⟩
def laws_toVector.f (a0_0 : Nat) (a0_1 : Nat) (a0_2 : Nat) : Option (Nat × Nat × Nat) := some (a0_0, a0_1, a0_2)
set_option maxHeartbeats 8000000 in
set_option maxRecDepth 100000 in
theorem laws_toVector.calls (a0_0 : Nat) (a0_1 : Nat) (a0_2 : Nat) (r1 : Nat) (r2 : Nat) (r3 : Nat) (w : World) (h : laws_toVector.f a0_0 a0_1 a0_2 = some (r1, r2, r3)) :
    Calls Try.prog 24 #[.agg #[.float .f32 a0_0, .float .f32 a0_1, .float .f32 a0_2]] w fun e w' => e = .returned (.agg #[.float .f32 r1, .float .f32 r2, .float .f32 r3]) ∧ Below w.heap.size w w' := by
  have hu44 := Try.underlying44
  have hu46 := Try.underlying46
  have HB := Aside0.mk (Below.refl w.heap.size w)
  have H : (some (a0_0, a0_1, a0_2)) = some (r1, r2, r3) := h
  clear h
  simp only [Option.some.injEq, Prod.mk.injEq] at H
  obtain ⟨rfl, rfl, rfl⟩ := H
  go_enter Try.func24, Try.ntmps24
  go_wp2_with (first | ((with_reducible refine gate_dst (N := 1) rfl ?_); refine box_event ?hg (N := 1) ?hd (cs := #[.float .f32 a0_0, .float .f32 a0_1, .float .f32 a0_2]) (t := 44) ?hr ?_; (case hd => rfl); (case hg => rfl); (case hr => first | (go_simp; done) | (go_simp; rfl)); intro gb105 hg w2 hbox hb; have n0_ := Aside0.mk (below_step (by repeat (first | (with_reducible first | exact HB.out | apply below_alloc | apply pw_below_drewN | apply below_drew1) | exact HB.out)) hb); have n1_ := Aside0.mk (hbox); have n2_ := Aside0.mk ((by rw [hg]; exact (below_size (by repeat (first | (with_reducible first | exact HB.out | apply below_alloc | apply pw_below_drewN | apply below_drew1) | exact HB.out))) : w.heap.size ≤ gb105)); have n3_ := Aside0.mk ((by rw [hg]; exact (below_size (by repeat (first | (with_reducible first | exact HB.out | apply below_alloc | apply pw_below_drewN | apply below_drew1) | exact HB.out))) : w.heap.size ≤ gb105)); clear HB; have HB := n0_; have BK105 := n1_; have GW105 := n2_; have GE105 := n3_; clear n0_ n1_ n2_ n3_; clear hb hbox hg) | ((with_reducible refine gate_dst (N := 2) rfl ?_); refine box_event ?hg (N := 2) ?hd (cs := #[.float .f32 0, .float .f32 0, .float .f32 0]) (t := 46) ?hr ?_; (case hd => rfl); (case hg => rfl); (case hr => first | (go_simp; done) | (go_simp; rfl)); intro gb106 hg w3 hbox hb; have n0_ := Aside0.mk (blk_below (g := gb105) (o := .cells #[.float .f32 a0_0, .float .f32 a0_1, .float .f32 a0_2] 44 (0, 0)) (by (with_reducible repeat (first | refine blk_drewN ?_ _ | refine blk_drew ?_ | refine blk_alloc ?_ _)); exact BK105.out) hb); have n1_ := Aside0.mk (below_step (by repeat (first | (with_reducible first | exact HB.out | apply below_alloc | apply pw_below_drewN | apply below_drew1 | refine below_set ?_ GE105.out) | exact HB.out)) hb); have n2_ := Aside0.mk (hbox); have n3_ := Aside0.mk ((by rw [hg]; exact (below_size (by repeat (first | (with_reducible first | exact HB.out | apply below_alloc | apply pw_below_drewN | apply below_drew1 | refine below_set ?_ GE105.out) | exact HB.out))) : w.heap.size ≤ gb106)); have n4_ := Aside0.mk ((by rw [hg]; exact (below_size (by repeat (first | (with_reducible first | exact HB.out | apply below_alloc | apply pw_below_drewN | apply below_drew1 | refine below_set ?_ GE105.out) | exact HB.out))) : w.heap.size ≤ gb106)); have n5_ := Aside0.mk ((by rw [hg]; exact Nat.ne_of_lt (blk_lt (g := gb105) (o := .cells #[.float .f32 a0_0, .float .f32 a0_1, .float .f32 a0_2] 44 (0, 0)) (by (with_reducible repeat (first | refine blk_drewN ?_ _ | refine blk_drew ?_ | refine blk_alloc ?_ _)); exact BK105.out)) : gb105 ≠ gb106)); have n6_ := Aside0.mk ((by rw [hg]; exact Nat.ne_of_gt (blk_lt (g := gb105) (o := .cells #[.float .f32 a0_0, .float .f32 a0_1, .float .f32 a0_2] 44 (0, 0)) (by (with_reducible repeat (first | refine blk_drewN ?_ _ | refine blk_drew ?_ | refine blk_alloc ?_ _)); exact BK105.out)) : gb106 ≠ gb105)); clear BK105; clear HB; have BK105 := n0_; have HB := n1_; have BK106 := n2_; have GW106 := n3_; have GE106 := n4_; have NB105_106 := n5_; have NB106_105 := n6_; clear n0_ n1_ n2_ n3_ n4_ n5_ n6_; clear hb hbox hg) | ((with_reducible refine gate_dst (N := 3) rfl ?_); refine box_event ?hg (N := 3) ?hd (cs := #[.float .f32 0, .float .f32 0, .float .f32 0]) (t := 46) ?hr ?_; (case hd => rfl); (case hg => rfl); (case hr => first | (go_simp; done) | (go_simp; rfl)); intro gb107 hg w4 hbox hb; have n0_ := Aside0.mk (blk_below (g := gb105) (o := .cells #[.float .f32 a0_0, .float .f32 a0_1, .float .f32 a0_2] 44 (0, 0)) (by (with_reducible repeat (first | refine blk_drewN ?_ _ | refine blk_drew ?_ | refine blk_alloc ?_ _)); exact BK105.out) hb); have n1_ := Aside0.mk (blk_below (g := gb106) (o := .cells #[.float .f32 0, .float .f32 0, .float .f32 0] 46 (0, 0)) (by (with_reducible repeat (first | refine blk_drewN ?_ _ | refine blk_drew ?_ | refine blk_alloc ?_ _)); exact BK106.out) hb); have n2_ := Aside0.mk (below_step (by repeat (first | (with_reducible first | exact HB.out | apply below_alloc | apply pw_below_drewN | apply below_drew1 | refine below_set ?_ GE105.out | refine below_set ?_ GE106.out) | exact HB.out)) hb); have n3_ := Aside0.mk (hbox); have n4_ := Aside0.mk ((by rw [hg]; exact (below_size (by repeat (first | (with_reducible first | exact HB.out | apply below_alloc | apply pw_below_drewN | apply below_drew1 | refine below_set ?_ GE105.out | refine below_set ?_ GE106.out) | exact HB.out))) : w.heap.size ≤ gb107)); have n5_ := Aside0.mk ((by rw [hg]; exact (below_size (by repeat (first | (with_reducible first | exact HB.out | apply below_alloc | apply pw_below_drewN | apply below_drew1 | refine below_set ?_ GE105.out | refine below_set ?_ GE106.out) | exact HB.out))) : w.heap.size ≤ gb107)); have n6_ := Aside0.mk ((by rw [hg]; exact Nat.ne_of_lt (blk_lt (g := gb105) (o := .cells #[.float .f32 a0_0, .float .f32 a0_1, .float .f32 a0_2] 44 (0, 0)) (by (with_reducible repeat (first | refine blk_drewN ?_ _ | refine blk_drew ?_ | refine blk_alloc ?_ _)); exact BK105.out)) : gb105 ≠ gb107)); have n7_ := Aside0.mk ((by rw [hg]; exact Nat.ne_of_gt (blk_lt (g := gb105) (o := .cells #[.float .f32 a0_0, .float .f32 a0_1, .float .f32 a0_2] 44 (0, 0)) (by (with_reducible repeat (first | refine blk_drewN ?_ _ | refine blk_drew ?_ | refine blk_alloc ?_ _)); exact BK105.out)) : gb107 ≠ gb105)); have n8_ := Aside0.mk ((by rw [hg]; exact Nat.ne_of_lt (blk_lt (g := gb106) (o := .cells #[.float .f32 0, .float .f32 0, .float .f32 0] 46 (0, 0)) (by (with_reducible repeat (first | refine blk_drewN ?_ _ | refine blk_drew ?_ | refine blk_alloc ?_ _)); exact BK106.out)) : gb106 ≠ gb107)); have n9_ := Aside0.mk ((by rw [hg]; exact Nat.ne_of_gt (blk_lt (g := gb106) (o := .cells #[.float .f32 0, .float .f32 0, .float .f32 0] 46 (0, 0)) (by (with_reducible repeat (first | refine blk_drewN ?_ _ | refine blk_drew ?_ | refine blk_alloc ?_ _)); exact BK106.out)) : gb107 ≠ gb106)); clear BK105; clear BK106; clear HB; have BK105 := n0_; have BK106 := n1_; have HB := n2_; have BK107 := n3_; have GW107 := n4_; have GE107 := n5_; have NB105_107 := n6_; have NB107_105 := n7_; have NB106_107 := n8_; have NB107_106 := n9_; clear n0_ n1_ n2_ n3_ n4_ n5_ n6_ n7_ n8_ n9_; clear hb hbox hg; have hnb5 := NB105_106.out; have hnc5 := NB106_105.out; have hnb6 := NB105_107.out; have hnc6 := NB107_105.out; have hcz7_0 : w4.cell? ⟨gb105, 0, none⟩ = some (.float .f32 a0_0) := (blk_cell BK105.out 0).trans rfl; have hcz7_1 : w4.cell? ⟨gb105, 1, none⟩ = some (.float .f32 a0_1) := (blk_cell BK105.out 1).trans rfl; have hcz7_2 : w4.cell? ⟨gb105, 2, none⟩ = some (.float .f32 a0_2) := (blk_cell BK105.out 2).trans rfl; have hfz7_0 := blk_frozen BK105.out 0; have hfz7_1 := blk_frozen BK105.out 1; have hfz7_2 := blk_frozen BK105.out 2; have hnb8 := NB107_106.out; have hnc8 := NB106_107.out; have hcz9_0 : w4.cell? ⟨gb107, 0, none⟩ = some (.float .f32 0) := (blk_cell BK107.out 0).trans rfl; have hcz9_1 : w4.cell? ⟨gb107, 1, none⟩ = some (.float .f32 0) := (blk_cell BK107.out 1).trans rfl; have hcz9_2 : w4.cell? ⟨gb107, 2, none⟩ = some (.float .f32 0) := (blk_cell BK107.out 2).trans rfl; have hfz9_0 := blk_frozen BK107.out 0; have hfz9_1 := blk_frozen BK107.out 1; have hfz9_2 := blk_frozen BK107.out 2; have hcz10_0 : w4.cell? ⟨gb106, 0, none⟩ = some (.float .f32 0) := (blk_cell BK106.out 0).trans rfl; have hcz10_1 : w4.cell? ⟨gb106, 1, none⟩ = some (.float .f32 0) := (blk_cell BK106.out 1).trans rfl; have hcz10_2 : w4.cell? ⟨gb106, 2, none⟩ = some (.float .f32 0) := (blk_cell BK106.out 2).trans rfl; have hfz10_0 := blk_frozen BK106.out 0; have hfz10_1 := blk_frozen BK106.out 1; have hfz10_2 := blk_frozen BK106.out 2))
  refine bodyPost_ret (results_cell_row rfl _ _ gb106 46 #[.float .f32 a0_0, .float .f32 a0_1, .float .f32 a0_2] (0, 0) _ rfl (by (with_reducible repeat (first | refine blk_drewN ?_ _ | refine blk_drew ?_ | refine blk_alloc ?_ _)); refine blk_put (cs := #[.float .f32 a0_0, .float .f32 a0_1, .float .f32 0]) ?_ 2 _ rfl; (with_reducible repeat (first | refine blk_drewN ?_ _ | refine blk_drew ?_ | refine blk_alloc ?_ _)); refine blk_put (cs := #[.float .f32 a0_0, .float .f32 0, .float .f32 0]) ?_ 1 _ rfl; (with_reducible repeat (first | refine blk_drewN ?_ _ | refine blk_drew ?_ | refine blk_alloc ?_ _)); refine blk_put (cs := #[.float .f32 0, .float .f32 0, .float .f32 0]) ?_ 0 _ rfl; (with_reducible repeat (first | refine blk_drewN ?_ _ | refine blk_drew ?_ | refine blk_alloc ?_ _)); refine blk_far ?_ NB106_107.out _; (with_reducible repeat (first | refine blk_drewN ?_ _ | refine blk_drew ?_ | refine blk_alloc ?_ _)); refine blk_far ?_ NB106_107.out _; (with_reducible repeat (first | refine blk_drewN ?_ _ | refine blk_drew ?_ | refine blk_alloc ?_ _)); refine blk_far ?_ NB106_107.out _; (with_reducible repeat (first | refine blk_drewN ?_ _ | refine blk_drew ?_ | refine blk_alloc ?_ _)); exact BK106.out) Try.underlying46 rfl (by kernel_rfl)) rfl ?_
  exact ⟨by first | rfl | (simp [errW_none, errW_some] <;> rfl) | (simp [*, errW_none, errW_some] <;> rfl), by repeat (first | (with_reducible first | exact HB.out | apply below_alloc | apply pw_below_drewN | apply below_drew1 | refine below_set ?_ GE105.out | refine below_set ?_ GE106.out | refine below_set ?_ GE107.out) | exact HB.out)⟩
def laws_toVectorS.l0 : Nat → List (S44) → List (S46) → Int → Option ((List (S46)))
  | 0, _, _, _ => none
  | k + 1, x0, x3, x4 => if x4 < (x0.length : Int) then (if 0 ≤ x4 then ((laws_toVector.f ((rd_T44 x0 x4).f0) ((rd_T44 x0 x4).f1) ((rd_T44 x0 x4).f2)).bind fun bt112 => (if x4 < (x3.length : Int) then (laws_toVectorS.l0 k x0 (x3.set (x4 : Int).toNat (⟨bt112.1, bt112.2.1, bt112.2.2⟩ : S46)) (wrap64 (x4 + 1))) else (none))) else (none)) else (some x3)
def laws_toVectorS.f (k : Nat) (l0 : List (S44)) : Option ((List (S46))) := if 0 ≤ (l0.length : Int) then (if ((l0.length : Int) : Int).toNat ≤ 23456248059221 then (laws_toVectorS.l0 k l0 (List.replicate ((l0.length : Int) : Int).toNat z46) 0) else (none)) else (none)
theorem laws_toVectorS.mono_l : ∀ k, (∀ y0 y1 y2, LeO (laws_toVectorS.l0 k y0 y1 y2) (laws_toVectorS.l0 (k + 1) y0 y1 y2))
  | 0 => fun _ _ _ r h => by simp [laws_toVectorS.l0] at h
  | k + 1 => by
    have ih0 := laws_toVectorS.mono_l k
    · intro y0 y1 y2
      unfold laws_toVectorS.l0
      repeat' first
      | (with_reducible exact ih0 _ _ _)
      | (with_reducible exact LeO.refl _)
      | (with_reducible exact LeO.none _)
      | (with_reducible refine LeO.ite ?_ ?_)
      | (with_reducible refine LeO.bind ?_ (fun _ => ?_))
      | exact ih0 _ _ _
      | exact LeO.none _
      | refine LeO.ite ?_ ?_
      | refine LeO.bind ?_ (fun _ => ?_)
theorem laws_toVectorS.mono : ∀ a0 k, LeO (laws_toVectorS.f k a0) (laws_toVectorS.f (k + 1) a0) := by
  intro a0 k
  have ih0 := laws_toVectorS.mono_l k
  unfold laws_toVectorS.f
  repeat' first
      | (with_reducible exact ih0 _ _ _)
      | (with_reducible exact LeO.refl _)
      | (with_reducible exact LeO.none _)
      | (with_reducible refine LeO.ite ?_ ?_)
      | (with_reducible refine LeO.bind ?_ (fun _ => ?_))
      | exact ih0 _ _ _
      | exact LeO.none _
      | refine LeO.ite ?_ ?_
      | refine LeO.bind ?_ (fun _ => ?_)
set_option maxHeartbeats 8000000 in
set_option maxRecDepth 100000 in
theorem laws_toVectorS.calls (k : Nat) (A0 : Option Addr) (c0 : Nat) (l0 : List (S44)) (r : List (S46)) (w : World) (hr0 : Kd.C k44 w A0 l0.length l0) (hc0 : l0.length ≤ c0) (h : laws_toVectorS.f k l0 = some r) :
    Calls Try.prog 44 #[.slice A0 l0.length c0] w fun e w' => ∃ v0_ : Value, e = .returned (v0_) ∧ Kd.R k46 46 w' w.heap.size (fun _ => True) v0_ r ∧ Below w.heap.size w w' := by
  have hu44 := Try.underlying44
  have hu46 := Try.underlying46
  have HR0 := Aside0.mk hr0
  have HC0 := Aside0.mk hc0
  clear hr0 hc0
  have HB := Aside0.mk (Below.refl w.heap.size w)
  have H : (if 0 ≤ (l0.length : Int) then (if ((l0.length : Int) : Int).toNat ≤ 23456248059221 then (laws_toVectorS.l0 k l0 (List.replicate ((l0.length : Int) : Int).toNat z46) 0) else (none)) else (none)) = some r := h
  clear h
  by_cases c2 : 0 ≤ (l0.length : Int)
  · rw [if_pos c2] at H
    have c2b0 := eq_true c2
    have c2b1 : decide (0 ≤ (l0.length : Int)) = true := decide_eq_true c2
    clear c2
    by_cases c3 : ((l0.length : Int) : Int).toNat ≤ 23456248059221
    · rw [if_pos c3] at H
      have c3b0 := eq_true c3
      have c3b1 : decide (((l0.length : Int) : Int).toNat ≤ 23456248059221) = true := decide_eq_true c3
      clear c3
      obtain ⟨y108, hy108⟩ : ∃ y_ : List (S46), y_ = (List.replicate ((l0.length : Int) : Int).toNat z46) := ⟨_, rfl⟩
      replace H : (laws_toVectorS.l0 k l0 y108 0) = some r := by first | (rw [hy108]; with_reducible exact H) | (have H2_ := (Option.bind_some _ _).symm.trans H; rw [hy108]; with_reducible exact H2_) | (have H2_ := (Option.bind_some _ _).symm.trans H; with_reducible exact H2_) | with_reducible exact H | (rw [hy108]; exact H) | exact H
      have Ny108 := Aside0.mk hy108
      clear hy108
      have H' := Aside0.mk H
      clear H
      go_enter Try.func44, Try.ntmps44
      go_wp2_with (first | ((with_reducible refine gate_dst (N := 7) rfl ?_); refine Kd.R_make k46 _ 46 rfl (N := 7) rfl 29 _ _ rfl (l0.length : Int) rfl rfl Try.underlying29 (.agg #[(.float .f32 0), (.float .f32 0), (.float .f32 0)]) 12 info46 rfl (by decide) (by omega) z46 (ok := fun _ => True) (okp := fun _ => True) (k46_mkM _ _ _ z46 ) (fun _ hk => hk) trivial (of_decide_eq_true (by first | (with_reducible assumption) | assumption)) (Nat.le_trans (Nat.mul_le_mul_right _ (of_decide_eq_true (by first | (with_reducible assumption) | assumption) : (l0.length : Int).toNat ≤ 23456248059221)) (by omega)) (Below.refl _ _) (Nat.le_refl _) ?_; intro v109 w4 ho5 hb hg_ hnew_; clear hg_ hnew_; (first | rw [← Ny108.out] at ho5 | (simp only [Int.reduceToNat] at ho5; rw [← Ny108.out] at ho5)); have n0_ := Aside0.mk (Kd.R_lower ho5 (below_size (by repeat (first | (with_reducible first | exact HB.out | apply below_alloc | apply pw_below_drewN | apply below_drew1) | exact HB.out)))); have n1_ := Aside0.mk (below_step (by repeat (first | (with_reducible first | exact HB.out | apply below_alloc | apply pw_below_drewN | apply below_drew1) | exact HB.out)) hb); clear HB; have HO110 := n0_; have HB := n1_; clear n0_ n1_; clear hb ho5))
      go_loopg [4] k (fun kq v4 w' => ∃ (x3_1 : List (S46)) (x4_1 : Int), v4 = .int .i64 x4_1 ∧ Aside0 (laws_toVectorS.l0 kq l0 x3_1 x4_1 = some r) ∧ Aside0 (kq ≤ k) ∧ Aside0 (Kd.R k46 46 w' w.heap.size (fun _ => True) v109 x3_1) ∧ Aside0 (Below w.heap.size w w'))
      case atStart => exact ⟨(y108), (0), (by first | rfl | (simp; done) | (simp [*]; done)), H', ⟨Nat.le_refl _⟩, ⟨by (with_reducible repeat (first | apply Kd.R_alloc | apply Kd.R_drewN | apply Kd.R_drew)); exact HO110.out⟩, ⟨by repeat (first | (with_reducible first | exact HB.out | apply below_alloc | apply pw_below_drewN | apply below_drew1) | exact HB.out)⟩⟩
      case round =>
        clear H'
        try clear c2
        try clear c2b0
        try clear c2b1
        try clear p2
        try clear c3
        try clear c3b0
        try clear c3b1
        try clear c4
        obtain ⟨x3_1, x4_1, rfl, HA, HK1, HO_3, HB⟩ := hrel
        cases gk with
        | zero => exact absurd HA.out (by simp [laws_toVectorS.l0])
        | succ k1 =>
          have H := HA.out
          clear HA
          simp only [laws_toVectorS.l0] at H
          by_cases c6 : x4_1 < (l0.length : Int)
          · rw [if_pos c6] at H
            have c6b0 : decide (x4_1 < (l0.length : Int)) = true := decide_eq_true c6
            clear c6
            by_cases c7 : 0 ≤ x4_1
            · rw [if_pos c7] at H
              have c7b0 : decide (0 ≤ x4_1) = true := decide_eq_true c7
              clear c7
              replace H := Option.bind_eq_some_iff.mp H
              obtain ⟨⟨t112, t113, t114⟩, A80, H⟩ := H
              replace H : (if x4_1 < (x3_1.length : Int) then (laws_toVectorS.l0 k1 l0 (x3_1.set (x4_1 : Int).toNat (⟨t112, t113, t114⟩ : S46)) (wrap64 (x4_1 + 1))) else (none)) = some r := H
              have A8 := Aside0.mk A80
              clear A80
              by_cases c9 : x4_1 < (x3_1.length : Int)
              · rw [if_pos c9] at H
                have c9b0 : decide (x4_1 < (x3_1.length : Int)) = true := decide_eq_true c9
                clear c9
                obtain ⟨y115, hy115⟩ : ∃ y_ : List (S46), y_ = (x3_1.set (x4_1 : Int).toNat (⟨t112, t113, t114⟩ : S46)) := ⟨_, rfl⟩
                replace H : (laws_toVectorS.l0 k1 l0 y115 (wrap64 (x4_1 + 1))) = some r := by first | (rw [hy115]; with_reducible exact H) | (have H2_ := (Option.bind_some _ _).symm.trans H; rw [hy115]; with_reducible exact H2_) | (have H2_ := (Option.bind_some _ _).symm.trans H; with_reducible exact H2_) | with_reducible exact H | (rw [hy115]; exact H) | exact H
                have Ny115 := Aside0.mk hy115
                clear hy115
                have H' := Aside0.mk H
                clear H
                have p111 : 0 ≤ (x4_1 : Int) := of_decide_eq_true (by first | (with_reducible assumption) | assumption)
                have q111 : x4_1 < (l0.length : Int) := of_decide_eq_true (by first | (with_reducible assumption) | assumption)
                obtain ⟨ad111, e111, hx111_0, hx111_1, hx111_2⟩ := at_T44 HR0.out x4_1 p111 q111
                cases e111
                replace hx111_0 := (HB.out.cell (World.block_lt_of_cell? w _ hx111_0)).trans hx111_0
                replace hx111_1 := (HB.out.cell (World.block_lt_of_cell? w _ hx111_1)).trans hx111_1
                replace hx111_2 := (HB.out.cell (World.block_lt_of_cell? w _ hx111_2)).trans hx111_2
                replace p111 := eq_true p111
                replace q111 := eq_true q111
                go_wp2_with (first | ((with_reducible refine gate_callee (f := 24) rfl ?_); refine goesL_ (some 20) rfl rfl Try.func24 (by kernel_rfl) rfl #[.agg #[.float .f32 ((rd_T44 l0 x4_1).f0), .float .f32 ((rd_T44 l0 x4_1).f1), .float .f32 ((rd_T44 l0 x4_1).f2)]] rfl (by (try simp only [List.map_toArray, List.map_cons, List.map_nil]); first | done | rfl | (simp only [List.length_drop, List.length_take]; rfl)) ?_; (with_reducible refine (laws_toVector.calls ((rd_T44 l0 x4_1).f0) ((rd_T44 l0 x4_1).f1) ((rd_T44 l0 x4_1).f2) t112 t113 t114 _ A8.out).mono ?_); rintro e w11 ⟨rfl, hb⟩; refine ⟨_, rfl, ?_⟩; have n0_ := Aside0.mk (Kd.R_below (by (with_reducible repeat (first | apply Kd.R_alloc | apply Kd.R_drewN | apply Kd.R_drew)); exact HO_3.out) hb); have n1_ := Aside0.mk (below_step (by repeat (first | (with_reducible first | exact HB.out | apply below_alloc | apply pw_below_drewN | apply below_drew1) | exact HB.out)) hb); clear HO_3; clear HB; have HO_3 := n0_; have HB := n1_; clear n0_ n1_; (try clear hb); (try clear hb2); (try clear hk); (try clear hi); have p10 : 0 ≤ (x4_1 : Int) := of_decide_eq_true (by first | (with_reducible assumption) | assumption); have q10 : (x4_1 : Int) < ((x3_1.length : Int) : Int) := of_decide_eq_true (by first | (with_reducible assumption) | assumption); obtain ⟨go10, co10, eo10, gb10, gl10, cl10, HG10⟩ := Kd.R_form HO_3.out (by omega); (first | cases eo10 | (injection eo10 with ea_ en_ ec_; (first | subst ea_ | (injection ea_ with ea_; subst ea_)); subst ec_; clear en_)); have GB10 := Aside0.mk gb10; have GG10 := Aside0.mk HG10; clear gb10 gl10 HG10; obtain ⟨ce10, hcl10, hM10, hcc10, hfr10⟩ := Kd.R_elem HO_3.out z46 (x4_1 : Int) p10 q10; obtain rfl := k46_openM hM10; have hx10_0 : w11.cell? ⟨go10, (x4_1 : Int).toNat * 3, none⟩ = some (.float .f32 ((rd_T46 x3_1 x4_1).f0)) := hcc10 0 _ rfl; have hx10_1 : w11.cell? ⟨go10, (x4_1 : Int).toNat * 3 + 1, none⟩ = some (.float .f32 ((rd_T46 x3_1 x4_1).f1)) := hcc10 1 _ rfl; have hx10_2 : w11.cell? ⟨go10, (x4_1 : Int).toNat * 3 + 2, none⟩ = some (.float .f32 ((rd_T46 x3_1 x4_1).f2)) := hcc10 2 _ rfl; have hf10_0 : w11.frozen? ⟨go10, (x4_1 : Int).toNat * 3, none⟩ = false := hfr10 0; have hf10_1 : w11.frozen? ⟨go10, (x4_1 : Int).toNat * 3 + 1, none⟩ = false := hfr10 1; have hf10_2 : w11.frozen? ⟨go10, (x4_1 : Int).toNat * 3 + 2, none⟩ = false := hfr10 2; clear hcl10 hcc10 hfr10 hM10; replace p10 := eq_true p10; replace q10 := eq_true q10; have HX12 := Aside0.mk (show Kd.R k46 46 w11 w.heap.size (fun _ => True) (.slice (some ⟨go10, 0, none⟩) x3_1.length co10) x3_1 from (by (with_reducible repeat (first | apply Kd.R_alloc | apply Kd.R_drewN | apply Kd.R_drew)); exact HO_3.out)); obtain ⟨ce12, hcl12, hM12, hcc12, hfr12⟩ := Kd.R_elem HX12.out z46 (x4_1 : Int) (of_decide_eq_true (by first | (with_reducible assumption) | assumption)) (by have h_ : (x4_1 : Int) < ((x3_1.length : Int) : Int) := of_decide_eq_true (by first | (with_reducible assumption) | assumption); first | exact h_ | (have e_ := (Kd.R_reads' HO_3.out).1; omega) | simpa using h_); obtain rfl := k46_openM hM12; have HP12 := Kd.R_seg HX12.out (x4_1 : Int) (of_decide_eq_true (by first | (with_reducible assumption) | assumption)) (by have h_ : (x4_1 : Int) < ((x3_1.length : Int) : Int) := of_decide_eq_true (by first | (with_reducible assumption) | assumption); first | exact h_ | (have e_ := (Kd.R_reads' HO_3.out).1; omega) | simpa using h_) (seg := [.float .f32 t112, .float .f32 t113, .float .f32 t114]) (j := 0) hcl12 hcc12 (show 3 ≤ 3 from by decide) (x' := (⟨t112, t113, t114⟩ : S46)) (k46_mkM _ _ _ (⟨t112, t113, t114⟩ : S46) ) (fun _ hk => hk); have hx12_0 := hcc12 0 _ rfl; (try simp only [show (k46).sz = 3 from rfl, Nat.mul_one, Nat.add_zero] at hx12_0); have hf12_0 := hfr12 0; (try simp only [show (k46).sz = 3 from rfl, Nat.mul_one, Nat.add_zero] at hf12_0); have hx12_1 := hcc12 1 _ rfl; (try simp only [show (k46).sz = 3 from rfl, Nat.mul_one, Nat.add_zero] at hx12_1); have hf12_1 := hfr12 1; (try simp only [show (k46).sz = 3 from rfl, Nat.mul_one, Nat.add_zero] at hf12_1); have hx12_2 := hcc12 2 _ rfl; (try simp only [show (k46).sz = 3 from rfl, Nat.mul_one, Nat.add_zero] at hx12_2); have hf12_2 := hfr12 2; (try simp only [show (k46).sz = 3 from rfl, Nat.mul_one, Nat.add_zero] at hf12_2); clear hcl12 hcc12 hfr12 hM12) | ((with_reducible refine gate_store (t := 46) (p := 21) rfl ?_); refine store_event (t := 46) (p := 21) (v := ?vo_w13) (w1 := (((w11.setCell ⟨go10, (x4_1 : Int).toNat * 3, none⟩ (.float .f32 t112)).setCell ⟨go10, (x4_1 : Int).toNat * 3 + 1, none⟩ (.float .f32 t113)).setCell ⟨go10, (x4_1 : Int).toNat * 3 + 2, none⟩ (.float .f32 t114))) ?hg ?ho ?hn ?hr ?_; (case ho => rfl); (case hg => rfl); (case hn => rfl); (case hr => first | (go_simp; done) | (go_simp; rfl)); intro w13 hw; have hg : w11.grownBy w13 (some go10) := (by rw [hw]; exact HP12.2); have hp_ : Kd.R k46 46 w13 w.heap.size (fun _ => True) (.slice (some ⟨go10, 0, none⟩) x3_1.length co10) y115 := (by rw [hw, Ny115.out]; exact HP12.1); clear HP12; have n0_ := Aside0.mk (hp_); have n1_ := Aside0.mk ((by rw [hw]; exact below_set (below_set (below_set (HB.out) GB10.out) GB10.out) GB10.out : Below w.heap.size w w13)); clear HO_3; clear HB; have HO_3 := n0_; have HB := n1_; clear n0_ n1_; clear hg hw hp_))
                go_roundg k1
                case measure => have := HK1.out; omega
                case rel => exact ⟨(y115), (wrap64 (x4_1 + 1)), (by first | rfl | (simp; done) | (simp [*]; done)), H', ⟨by have := HK1.out; omega⟩, ⟨by (with_reducible repeat (first | apply Kd.R_alloc | apply Kd.R_drewN | apply Kd.R_drew)); exact HO_3.out⟩, ⟨by repeat (first | (with_reducible first | exact HB.out | apply below_alloc | apply pw_below_drewN | apply below_drew1) | exact HB.out)⟩⟩
              · rw [if_neg c9] at H
                exact absurd H (by simp)
            · rw [if_neg c7] at H
              exact absurd H (by simp)
          · rw [if_neg c6] at H
            have c6b0 : decide (x4_1 < (l0.length : Int)) = false := decide_eq_false c6
            clear c6
            obtain rfl := Option.some.inj H
            go_wp2
            go_ret
            exact ⟨_, by first | rfl | (simp [errW_none, errW_some] <;> rfl) | (simp [*, errW_none, errW_some] <;> rfl), by (with_reducible repeat (first | apply Kd.R_alloc | apply Kd.R_drewN | apply Kd.R_drew)); exact HO_3.out, by repeat (first | (with_reducible first | exact HB.out | apply below_alloc | apply pw_below_drewN | apply below_drew1) | exact HB.out)⟩
    · rw [if_neg c3] at H
      exact absurd H (by simp)
  · rw [if_neg c2] at H
    exact absurd H (by simp)
def laws_toThread.f (k : Nat) (l0_0 : List (S44)) (a0_1 : Nat) : Option ((List (S46)) × Nat) := (laws_toVectorS.f k l0_0).bind fun t119 => (some (t119, a0_1))
theorem laws_toThread.mono : ∀ a0 a1 k, LeO (laws_toThread.f k a0 a1) (laws_toThread.f (k + 1) a0 a1) := by
  intro a0 a1 k
  unfold laws_toThread.f
  repeat' first
      | (with_reducible exact laws_toVectorS.mono _ _)
      | (with_reducible exact LeO.refl _)
      | (with_reducible exact LeO.none _)
      | (with_reducible refine LeO.ite ?_ ?_)
      | (with_reducible refine LeO.bind ?_ (fun _ => ?_))
      | exact laws_toVectorS.mono _ _
      | exact LeO.none _
      | refine LeO.ite ?_ ?_
      | refine LeO.bind ?_ (fun _ => ?_)
set_option maxHeartbeats 8000000 in
set_option maxRecDepth 100000 in
theorem laws_toThread.calls (k : Nat) (A0_0 : Option Addr) (c0_0 : Nat) (l0_0 : List (S44)) (a0_1 : Nat) (r1 : List (S46)) (r2 : Nat) (w : World) (hr0_0 : Kd.C k44 w A0_0 l0_0.length l0_0) (hc0_0 : l0_0.length ≤ c0_0) (h : laws_toThread.f k l0_0 a0_1 = some (r1, r2)) :
    Calls Try.prog 13 #[.agg #[.slice A0_0 l0_0.length c0_0, .float .f32 a0_1]] w fun e w' => ∃ v0_ : Value, e = .returned (.agg #[v0_, .float .f32 r2]) ∧ Kd.R k46 46 w' w.heap.size (fun _ => True) v0_ r1 ∧ Below w.heap.size w w' := by
  have hu25 := Try.underlying25
  have hu31 := Try.underlying31
  have HR0_0 := Aside0.mk hr0_0
  have HC0_0 := Aside0.mk hc0_0
  clear hr0_0 hc0_0
  have HB := Aside0.mk (Below.refl w.heap.size w)
  have H : ((laws_toVectorS.f k l0_0).bind fun t119 => (some (t119, a0_1))) = some (r1, r2) := h
  clear h
  replace H := Option.bind_eq_some_iff.mp H
  obtain ⟨t119, A20, H⟩ := H
  replace H : (some (t119, a0_1)) = some (r1, r2) := H
  have A2 := Aside0.mk A20
  clear A20
  simp only [Option.some.injEq, Prod.mk.injEq] at H
  obtain ⟨rfl, rfl⟩ := H
  go_enter Try.func13, Try.ntmps13
  go_wp2_with (first | ((with_reducible refine gate_dst (N := 1) rfl ?_); refine box_event ?hg (N := 1) ?hd (cs := #[.slice A0_0 l0_0.length c0_0, .float .f32 a0_1]) (t := 25) ?hr ?_; (case hd => rfl); (case hg => rfl); (case hr => first | (go_simp; done) | (go_simp; rfl)); intro gb116 hg w3 hbox hb; have n0_ := Aside0.mk (below_step (by repeat (first | (with_reducible first | exact HB.out | apply below_alloc | apply pw_below_drewN | apply below_drew1) | exact HB.out)) hb); have n1_ := Aside0.mk (hbox); have n2_ := Aside0.mk ((by rw [hg]; exact (below_size (by repeat (first | (with_reducible first | exact HB.out | apply below_alloc | apply pw_below_drewN | apply below_drew1) | exact HB.out))) : w.heap.size ≤ gb116)); have n3_ := Aside0.mk ((by rw [hg]; exact (below_size (by repeat (first | (with_reducible first | exact HB.out | apply below_alloc | apply pw_below_drewN | apply below_drew1) | exact HB.out))) : w.heap.size ≤ gb116)); clear HB; have HB := n0_; have BK116 := n1_; have GW116 := n2_; have GE116 := n3_; clear n0_ n1_ n2_ n3_; clear hb hbox hg) | ((with_reducible refine gate_dst (N := 2) rfl ?_); refine box_event ?hg (N := 2) ?hd (cs := #[.slice none 0 0, .float .f32 0]) (t := 31) ?hr ?_; (case hd => rfl); (case hg => rfl); (case hr => first | (go_simp; done) | (go_simp; rfl)); intro gb117 hg w4 hbox hb; have n0_ := Aside0.mk (blk_below (g := gb116) (o := .cells #[.slice A0_0 l0_0.length c0_0, .float .f32 a0_1] 25 (0, 0)) (by (with_reducible repeat (first | refine blk_drewN ?_ _ | refine blk_drew ?_ | refine blk_alloc ?_ _)); exact BK116.out) hb); have n1_ := Aside0.mk (below_step (by repeat (first | (with_reducible first | exact HB.out | apply below_alloc | apply pw_below_drewN | apply below_drew1 | refine below_set ?_ GE116.out) | exact HB.out)) hb); have n2_ := Aside0.mk (hbox); have n3_ := Aside0.mk ((by rw [hg]; exact (below_size (by repeat (first | (with_reducible first | exact HB.out | apply below_alloc | apply pw_below_drewN | apply below_drew1 | refine below_set ?_ GE116.out) | exact HB.out))) : w.heap.size ≤ gb117)); have n4_ := Aside0.mk ((by rw [hg]; exact (below_size (by repeat (first | (with_reducible first | exact HB.out | apply below_alloc | apply pw_below_drewN | apply below_drew1 | refine below_set ?_ GE116.out) | exact HB.out))) : w.heap.size ≤ gb117)); have n5_ := Aside0.mk ((by rw [hg]; exact Nat.ne_of_lt (blk_lt (g := gb116) (o := .cells #[.slice A0_0 l0_0.length c0_0, .float .f32 a0_1] 25 (0, 0)) (by (with_reducible repeat (first | refine blk_drewN ?_ _ | refine blk_drew ?_ | refine blk_alloc ?_ _)); exact BK116.out)) : gb116 ≠ gb117)); have n6_ := Aside0.mk ((by rw [hg]; exact Nat.ne_of_gt (blk_lt (g := gb116) (o := .cells #[.slice A0_0 l0_0.length c0_0, .float .f32 a0_1] 25 (0, 0)) (by (with_reducible repeat (first | refine blk_drewN ?_ _ | refine blk_drew ?_ | refine blk_alloc ?_ _)); exact BK116.out)) : gb117 ≠ gb116)); clear BK116; clear HB; have BK116 := n0_; have HB := n1_; have BK117 := n2_; have GW117 := n3_; have GE117 := n4_; have NB116_117 := n5_; have NB117_116 := n6_; clear n0_ n1_ n2_ n3_ n4_ n5_ n6_; clear hb hbox hg) | ((with_reducible refine gate_dst (N := 3) rfl ?_); refine box_event ?hg (N := 3) ?hd (cs := #[.slice none 0 0, .float .f32 0]) (t := 31) ?hr ?_; (case hd => rfl); (case hg => rfl); (case hr => first | (go_simp; done) | (go_simp; rfl)); intro gb118 hg w5 hbox hb; have n0_ := Aside0.mk (blk_below (g := gb116) (o := .cells #[.slice A0_0 l0_0.length c0_0, .float .f32 a0_1] 25 (0, 0)) (by (with_reducible repeat (first | refine blk_drewN ?_ _ | refine blk_drew ?_ | refine blk_alloc ?_ _)); exact BK116.out) hb); have n1_ := Aside0.mk (blk_below (g := gb117) (o := .cells #[.slice none 0 0, .float .f32 0] 31 (0, 0)) (by (with_reducible repeat (first | refine blk_drewN ?_ _ | refine blk_drew ?_ | refine blk_alloc ?_ _)); exact BK117.out) hb); have n2_ := Aside0.mk (below_step (by repeat (first | (with_reducible first | exact HB.out | apply below_alloc | apply pw_below_drewN | apply below_drew1 | refine below_set ?_ GE116.out | refine below_set ?_ GE117.out) | exact HB.out)) hb); have n3_ := Aside0.mk (hbox); have n4_ := Aside0.mk ((by rw [hg]; exact (below_size (by repeat (first | (with_reducible first | exact HB.out | apply below_alloc | apply pw_below_drewN | apply below_drew1 | refine below_set ?_ GE116.out | refine below_set ?_ GE117.out) | exact HB.out))) : w.heap.size ≤ gb118)); have n5_ := Aside0.mk ((by rw [hg]; exact (below_size (by repeat (first | (with_reducible first | exact HB.out | apply below_alloc | apply pw_below_drewN | apply below_drew1 | refine below_set ?_ GE116.out | refine below_set ?_ GE117.out) | exact HB.out))) : w.heap.size ≤ gb118)); have n6_ := Aside0.mk ((by rw [hg]; exact Nat.ne_of_lt (blk_lt (g := gb116) (o := .cells #[.slice A0_0 l0_0.length c0_0, .float .f32 a0_1] 25 (0, 0)) (by (with_reducible repeat (first | refine blk_drewN ?_ _ | refine blk_drew ?_ | refine blk_alloc ?_ _)); exact BK116.out)) : gb116 ≠ gb118)); have n7_ := Aside0.mk ((by rw [hg]; exact Nat.ne_of_gt (blk_lt (g := gb116) (o := .cells #[.slice A0_0 l0_0.length c0_0, .float .f32 a0_1] 25 (0, 0)) (by (with_reducible repeat (first | refine blk_drewN ?_ _ | refine blk_drew ?_ | refine blk_alloc ?_ _)); exact BK116.out)) : gb118 ≠ gb116)); have n8_ := Aside0.mk ((by rw [hg]; exact Nat.ne_of_lt (blk_lt (g := gb117) (o := .cells #[.slice none 0 0, .float .f32 0] 31 (0, 0)) (by (with_reducible repeat (first | refine blk_drewN ?_ _ | refine blk_drew ?_ | refine blk_alloc ?_ _)); exact BK117.out)) : gb117 ≠ gb118)); have n9_ := Aside0.mk ((by rw [hg]; exact Nat.ne_of_gt (blk_lt (g := gb117) (o := .cells #[.slice none 0 0, .float .f32 0] 31 (0, 0)) (by (with_reducible repeat (first | refine blk_drewN ?_ _ | refine blk_drew ?_ | refine blk_alloc ?_ _)); exact BK117.out)) : gb118 ≠ gb117)); clear BK116; clear BK117; clear HB; have BK116 := n0_; have BK117 := n1_; have HB := n2_; have BK118 := n3_; have GW118 := n4_; have GE118 := n5_; have NB116_118 := n6_; have NB118_116 := n7_; have NB117_118 := n8_; have NB118_117 := n9_; clear n0_ n1_ n2_ n3_ n4_ n5_ n6_ n7_ n8_ n9_; clear hb hbox hg; have hnb6 := NB116_117.out; have hnc6 := NB117_116.out; have hnb7 := NB116_118.out; have hnc7 := NB118_116.out; have hcz8_0 : w5.cell? ⟨gb116, 0, none⟩ = some (.slice A0_0 l0_0.length c0_0) := (blk_cell BK116.out 0).trans rfl; have hcz8_1 : w5.cell? ⟨gb116, 1, none⟩ = some (.float .f32 a0_1) := (blk_cell BK116.out 1).trans rfl; have hfz8_0 := blk_frozen BK116.out 0; have hfz8_1 := blk_frozen BK116.out 1) | ((with_reducible refine gate_callee (f := 44) rfl ?_); refine goesL_ (some 6) rfl rfl Try.func44 (by kernel_rfl) rfl #[.slice A0_0 l0_0.length c0_0] rfl (by (try simp only [List.map_toArray, List.map_cons, List.map_nil]); first | done | rfl | (simp only [List.length_drop, List.length_take]; rfl)) ?_; (with_reducible refine (laws_toVectorS.calls k _ _ l0_0 t119 _ ?side1 ?side2 A2.out).mono ?_); (case side1 => repeat (first | exact (Kd.C_below HR0_0.out HB.out) | (with_reducible refine Kd.C_alloc ?_ _) | (with_reducible refine Kd.C_drewN ?_ _) | (with_reducible refine Kd.C_drew ?_))); (case side2 => exact HC0_0.out); rintro e w9 ⟨v120, rfl, ho0, hb⟩; refine ⟨_, rfl, ?_⟩; have n0_ := Aside0.mk (Kd.R_lower ho0 (below_size (by repeat (first | (with_reducible first | exact HB.out | apply below_alloc | apply pw_below_drewN | apply below_drew1 | refine below_set ?_ GE116.out | refine below_set ?_ GE117.out | refine below_set ?_ GE118.out) | exact HB.out)))); have n1_ := Aside0.mk (blk_below (g := gb116) (o := .cells #[.slice A0_0 l0_0.length c0_0, .float .f32 a0_1] 25 (0, 0)) (by (with_reducible repeat (first | refine blk_drewN ?_ _ | refine blk_drew ?_ | refine blk_alloc ?_ _)); exact BK116.out) hb); have n2_ := Aside0.mk (blk_below (g := gb117) (o := .cells #[.slice none 0 0, .float .f32 0] 31 (0, 0)) (by (with_reducible repeat (first | refine blk_drewN ?_ _ | refine blk_drew ?_ | refine blk_alloc ?_ _)); exact BK117.out) hb); have n3_ := Aside0.mk (blk_below (g := gb118) (o := .cells #[.slice none 0 0, .float .f32 0] 31 (0, 0)) (by (with_reducible repeat (first | refine blk_drewN ?_ _ | refine blk_drew ?_ | refine blk_alloc ?_ _)); exact BK118.out) hb); have n4_ := Aside0.mk (below_step (by repeat (first | (with_reducible first | exact HB.out | apply below_alloc | apply pw_below_drewN | apply below_drew1 | refine below_set ?_ GE116.out | refine below_set ?_ GE117.out | refine below_set ?_ GE118.out) | exact HB.out)) hb); clear BK116; clear BK117; clear BK118; clear HB; have HO121 := n0_; have BK116 := n1_; have BK117 := n2_; have BK118 := n3_; have HB := n4_; clear n0_ n1_ n2_ n3_ n4_; (try clear hb); (try clear hb2); (try clear hk); (try clear hi); (try clear ho0); obtain ⟨Ao10, co10, eo10⟩ := Kd.R_slice HO121.out; subst eo10; have hnb11 := NB118_117.out; have hnc11 := NB117_118.out; have hcz12_0 : w9.cell? ⟨gb118, 0, none⟩ = some (.slice none 0 0) := (blk_cell BK118.out 0).trans rfl; have hcz12_1 : w9.cell? ⟨gb118, 1, none⟩ = some (.float .f32 0) := (blk_cell BK118.out 1).trans rfl; have hfz12_0 := blk_frozen BK118.out 0; have hfz12_1 := blk_frozen BK118.out 1; have hcz13_0 : w9.cell? ⟨gb116, 0, none⟩ = some (.slice A0_0 l0_0.length c0_0) := (blk_cell BK116.out 0).trans rfl; have hcz13_1 : w9.cell? ⟨gb116, 1, none⟩ = some (.float .f32 a0_1) := (blk_cell BK116.out 1).trans rfl; have hfz13_0 := blk_frozen BK116.out 0; have hfz13_1 := blk_frozen BK116.out 1; have hcz14_0 : w9.cell? ⟨gb117, 0, none⟩ = some (.slice none 0 0) := (blk_cell BK117.out 0).trans rfl; have hcz14_1 : w9.cell? ⟨gb117, 1, none⟩ = some (.float .f32 0) := (blk_cell BK117.out 1).trans rfl; have hfz14_0 := blk_frozen BK117.out 0; have hfz14_1 := blk_frozen BK117.out 1))
  refine bodyPost_ret (results_cell_row rfl _ _ gb117 31 #[.slice Ao10 t119.length co10, .float .f32 a0_1] (0, 0) _ rfl (by (with_reducible repeat (first | refine blk_drewN ?_ _ | refine blk_drew ?_ | refine blk_alloc ?_ _)); refine blk_put (cs := #[.slice Ao10 t119.length co10, .float .f32 0]) ?_ 1 _ rfl; (with_reducible repeat (first | refine blk_drewN ?_ _ | refine blk_drew ?_ | refine blk_alloc ?_ _)); refine blk_put (cs := #[.slice none 0 0, .float .f32 0]) ?_ 0 _ rfl; (with_reducible repeat (first | refine blk_drewN ?_ _ | refine blk_drew ?_ | refine blk_alloc ?_ _)); refine blk_far ?_ NB117_118.out _; (with_reducible repeat (first | refine blk_drewN ?_ _ | refine blk_drew ?_ | refine blk_alloc ?_ _)); refine blk_far ?_ NB117_118.out _; (with_reducible repeat (first | refine blk_drewN ?_ _ | refine blk_drew ?_ | refine blk_alloc ?_ _)); exact BK117.out) Try.underlying31 rfl (by kernel_rfl)) rfl ?_
  exact ⟨_, by first | rfl | (simp [errW_none, errW_some] <;> rfl) | (simp [*, errW_none, errW_some] <;> rfl), by (with_reducible repeat (first | apply Kd.R_alloc | apply Kd.R_drewN | apply Kd.R_drew)); exact Kd.R_mono (Kd.R_far (p := ⟨gb117, 1, none⟩) (Kd.R_far (p := ⟨gb117, 0, none⟩) (Kd.R_far (p := ⟨gb118, 1, none⟩) (Kd.R_far (p := ⟨gb118, 0, none⟩) (Kd.R_types (Kd.R_types HO121.out BK118.out (by decide)) BK117.out (by decide)) (fun _ hk => hk.1.2) (.slice Ao10 t119.length co10)) (fun _ hk => hk.1.2) (.float .f32 a0_1)) (fun _ hk => hk.2) (.slice Ao10 t119.length co10)) (fun _ hk => hk.2) (.float .f32 a0_1)) (fun _ hk => trivial), by repeat (first | (with_reducible first | exact HB.out | apply below_alloc | apply pw_below_drewN | apply below_drew1 | refine below_set ?_ GE116.out | refine below_set ?_ GE117.out | refine below_set ?_ GE118.out) | exact HB.out)⟩
def laws_toThreadS.l0 : Nat → List (S25) → List (S31) → Int → Option ((List (S31)))
  | 0, _, _, _ => none
  | k + 1, x0, x3, x4 => if x4 < (x0.length : Int) then (if 0 ≤ x4 then ((laws_toThread.f k ((rd_T25 x0 x4).f0) ((rd_T25 x0 x4).f1)).bind fun bt126 => (if x4 < (x3.length : Int) then (laws_toThreadS.l0 k x0 (x3.set (x4 : Int).toNat (⟨bt126.1, bt126.2⟩ : S31)) (wrap64 (x4 + 1))) else (none))) else (none)) else (some x3)
def laws_toThreadS.f (k : Nat) (l0 : List (S25)) : Option ((List (S31))) := if 0 ≤ (l0.length : Int) then (if ((l0.length : Int) : Int).toNat ≤ 8796093022208 then (laws_toThreadS.l0 k l0 (List.replicate ((l0.length : Int) : Int).toNat z31) 0) else (none)) else (none)
theorem laws_toThreadS.mono_l : ∀ k, (∀ y0 y1 y2, LeO (laws_toThreadS.l0 k y0 y1 y2) (laws_toThreadS.l0 (k + 1) y0 y1 y2))
  | 0 => fun _ _ _ r h => by simp [laws_toThreadS.l0] at h
  | k + 1 => by
    have ih0 := laws_toThreadS.mono_l k
    · intro y0 y1 y2
      unfold laws_toThreadS.l0
      repeat' first
      | (with_reducible exact ih0 _ _ _)
      | (with_reducible exact laws_toThread.mono _ _ _)
      | (with_reducible exact LeO.refl _)
      | (with_reducible exact LeO.none _)
      | (with_reducible refine LeO.ite ?_ ?_)
      | (with_reducible refine LeO.bind ?_ (fun _ => ?_))
      | exact ih0 _ _ _
      | exact laws_toThread.mono _ _ _
      | exact LeO.none _
      | refine LeO.ite ?_ ?_
      | refine LeO.bind ?_ (fun _ => ?_)
theorem laws_toThreadS.mono : ∀ a0 k, LeO (laws_toThreadS.f k a0) (laws_toThreadS.f (k + 1) a0) := by
  intro a0 k
  have ih0 := laws_toThreadS.mono_l k
  unfold laws_toThreadS.f
  repeat' first
      | (with_reducible exact ih0 _ _ _)
      | (with_reducible exact laws_toThread.mono _ _ _)
      | (with_reducible exact LeO.refl _)
      | (with_reducible exact LeO.none _)
      | (with_reducible refine LeO.ite ?_ ?_)
      | (with_reducible refine LeO.bind ?_ (fun _ => ?_))
      | exact ih0 _ _ _
      | exact laws_toThread.mono _ _ _
      | exact LeO.none _
      | refine LeO.ite ?_ ?_
      | refine LeO.bind ?_ (fun _ => ?_)
set_option maxHeartbeats 8000000 in
set_option maxRecDepth 100000 in
theorem laws_toThreadS.calls (k : Nat) (A0 : Option Addr) (c0 : Nat) (l0 : List (S25)) (r : List (S31)) (w : World) (hr0 : Kd.C k25 w A0 l0.length l0) (hc0 : l0.length ≤ c0) (h : laws_toThreadS.f k l0 = some r) :
    Calls Try.prog 23 #[.slice A0 l0.length c0] w fun e w' => ∃ v0_ : Value, e = .returned (v0_) ∧ Kd.S k31 31 w' w.heap.size (fun _ => True) v0_ r ∧ Below w.heap.size w w' := by
  have hu25 := Try.underlying25
  have hu31 := Try.underlying31
  have HR0 := Aside0.mk hr0
  have HC0 := Aside0.mk hc0
  clear hr0 hc0
  have HB := Aside0.mk (Below.refl w.heap.size w)
  have H : (if 0 ≤ (l0.length : Int) then (if ((l0.length : Int) : Int).toNat ≤ 8796093022208 then (laws_toThreadS.l0 k l0 (List.replicate ((l0.length : Int) : Int).toNat z31) 0) else (none)) else (none)) = some r := h
  clear h
  by_cases c2 : 0 ≤ (l0.length : Int)
  · rw [if_pos c2] at H
    have c2b0 := eq_true c2
    have c2b1 : decide (0 ≤ (l0.length : Int)) = true := decide_eq_true c2
    clear c2
    by_cases c3 : ((l0.length : Int) : Int).toNat ≤ 8796093022208
    · rw [if_pos c3] at H
      have c3b0 := eq_true c3
      have c3b1 : decide (((l0.length : Int) : Int).toNat ≤ 8796093022208) = true := decide_eq_true c3
      clear c3
      obtain ⟨y122, hy122⟩ : ∃ y_ : List (S31), y_ = (List.replicate ((l0.length : Int) : Int).toNat z31) := ⟨_, rfl⟩
      replace H : (laws_toThreadS.l0 k l0 y122 0) = some r := by first | (rw [hy122]; with_reducible exact H) | (have H2_ := (Option.bind_some _ _).symm.trans H; rw [hy122]; with_reducible exact H2_) | (have H2_ := (Option.bind_some _ _).symm.trans H; with_reducible exact H2_) | with_reducible exact H | (rw [hy122]; exact H) | exact H
      have Ny122 := Aside0.mk hy122
      clear hy122
      have H' := Aside0.mk H
      clear H
      go_enter Try.func23, Try.ntmps23
      go_wp2_with (first | ((with_reducible refine gate_dst (N := 7) rfl ?_); refine Kd.S_make k31 _ 31 rfl (N := 7) rfl 49 _ _ rfl (l0.length : Int) rfl rfl Try.underlying49 (.agg #[(.slice none 0 0), (.float .f32 0)]) 32 info31 rfl (by decide) (by omega) z31 (ok := fun _ => True) (okp := fun _ => True) (k31_mkM _ _ _ z31 (Kd.R_nil _ _ _ _ _)) (fun _ hk => hk) trivial (of_decide_eq_true (by first | (with_reducible assumption) | assumption)) (Nat.le_trans (Nat.mul_le_mul_right _ (of_decide_eq_true (by first | (with_reducible assumption) | assumption) : (l0.length : Int).toNat ≤ 8796093022208)) (by omega)) (Below.refl _ _) (Nat.le_refl _) ?_; intro v123 w4 ho5 hb hg_ hnew_; clear hg_ hnew_; (first | rw [← Ny122.out] at ho5 | (simp only [Int.reduceToNat] at ho5; rw [← Ny122.out] at ho5)); have n0_ := Aside0.mk (Kd.S_lower ho5 (below_size (by repeat (first | (with_reducible first | exact HB.out | apply below_alloc | apply pw_below_drewN | apply below_drew1) | exact HB.out)))); have n1_ := Aside0.mk (below_step (by repeat (first | (with_reducible first | exact HB.out | apply below_alloc | apply pw_below_drewN | apply below_drew1) | exact HB.out)) hb); clear HB; have HO124 := n0_; have HB := n1_; clear n0_ n1_; clear hb ho5))
      go_loopg [4] k (fun kq v4 w' => ∃ (x3_1 : List (S31)) (x4_1 : Int), v4 = .int .i64 x4_1 ∧ Aside0 (laws_toThreadS.l0 kq l0 x3_1 x4_1 = some r) ∧ Aside0 (kq ≤ k) ∧ Aside0 (Kd.S k31 31 w' w.heap.size (fun _ => True) v123 x3_1) ∧ Aside0 (Below w.heap.size w w'))
      case atStart => exact ⟨(y122), (0), (by first | rfl | (simp; done) | (simp [*]; done)), H', ⟨Nat.le_refl _⟩, ⟨by (with_reducible repeat (first | apply Kd.S_alloc | apply Kd.S_drewN | apply Kd.S_drew)); exact HO124.out⟩, ⟨by repeat (first | (with_reducible first | exact HB.out | apply below_alloc | apply pw_below_drewN | apply below_drew1) | exact HB.out)⟩⟩
      case round =>
        clear H'
        try clear c2
        try clear c2b0
        try clear c2b1
        try clear p2
        try clear c3
        try clear c3b0
        try clear c3b1
        obtain ⟨x3_1, x4_1, rfl, HA, HK1, HO_3, HB⟩ := hrel
        cases gk with
        | zero => exact absurd HA.out (by simp [laws_toThreadS.l0])
        | succ k1 =>
          have H := HA.out
          clear HA
          simp only [laws_toThreadS.l0] at H
          by_cases c6 : x4_1 < (l0.length : Int)
          · rw [if_pos c6] at H
            have c6b0 : decide (x4_1 < (l0.length : Int)) = true := decide_eq_true c6
            clear c6
            by_cases c7 : 0 ≤ x4_1
            · rw [if_pos c7] at H
              have c7b0 : decide (0 ≤ x4_1) = true := decide_eq_true c7
              clear c7
              replace H := Option.bind_eq_some_iff.mp H
              obtain ⟨⟨t126, t129⟩, A80, H⟩ := H
              replace H : (if x4_1 < (x3_1.length : Int) then (laws_toThreadS.l0 k1 l0 (x3_1.set (x4_1 : Int).toNat (⟨t126, t129⟩ : S31)) (wrap64 (x4_1 + 1))) else (none)) = some r := H
              have A8 := Aside0.mk A80
              clear A80
              by_cases c9 : x4_1 < (x3_1.length : Int)
              · rw [if_pos c9] at H
                have c9b0 : decide (x4_1 < (x3_1.length : Int)) = true := decide_eq_true c9
                clear c9
                obtain ⟨y130, hy130⟩ : ∃ y_ : List (S31), y_ = (x3_1.set (x4_1 : Int).toNat (⟨t126, t129⟩ : S31)) := ⟨_, rfl⟩
                replace H : (laws_toThreadS.l0 k1 l0 y130 (wrap64 (x4_1 + 1))) = some r := by first | (rw [hy130]; with_reducible exact H) | (have H2_ := (Option.bind_some _ _).symm.trans H; rw [hy130]; with_reducible exact H2_) | (have H2_ := (Option.bind_some _ _).symm.trans H; with_reducible exact H2_) | with_reducible exact H | (rw [hy130]; exact H) | exact H
                have Ny130 := Aside0.mk hy130
                clear hy130
                have H' := Aside0.mk H
                clear H
                have p125 : 0 ≤ (x4_1 : Int) := of_decide_eq_true (by first | (with_reducible assumption) | assumption)
                have q125 : x4_1 < (l0.length : Int) := of_decide_eq_true (by first | (with_reducible assumption) | assumption)
                obtain ⟨ad125, A125_0, c125_0, e125, hx125_0, hx125_1, hl125_0, hi125_0⟩ := at_T25 HR0.out x4_1 p125 q125
                cases e125
                replace hx125_0 := (HB.out.cell (World.block_lt_of_cell? w _ hx125_0)).trans hx125_0
                replace hx125_1 := (HB.out.cell (World.block_lt_of_cell? w _ hx125_1)).trans hx125_1
                have HR125_0 := Aside0.mk hi125_0
                have HC125_0 := Aside0.mk hl125_0
                clear hi125_0 hl125_0
                replace p125 := eq_true p125
                replace q125 := eq_true q125
                go_wp2_with (first | ((with_reducible refine gate_callee (f := 13) rfl ?_); refine goesL_ (some 20) rfl rfl Try.func13 (by kernel_rfl) rfl #[.agg #[.slice A125_0 ((rd_T25 l0 x4_1).f0).length c125_0, .float .f32 ((rd_T25 l0 x4_1).f1)]] rfl (by (try simp only [List.map_toArray, List.map_cons, List.map_nil]); first | done | rfl | (simp only [List.length_drop, List.length_take]; rfl)) ?_; (with_reducible refine (laws_toThread.calls k1 _ _ ((rd_T25 l0 x4_1).f0) ((rd_T25 l0 x4_1).f1) t126 t129 _ ?side1 ?side2 A8.out).mono ?_); (case side1 => repeat (first | exact (Kd.C_below HR125_0.out HB.out) | (with_reducible refine Kd.C_alloc ?_ _) | (with_reducible refine Kd.C_drewN ?_ _) | (with_reducible refine Kd.C_drew ?_))); (case side2 => exact HC125_0.out); rintro e w11 ⟨v127, rfl, ho0, hb⟩; refine ⟨_, rfl, ?_⟩; have n0_ := Aside0.mk (Kd.S_elder' (by (with_reducible repeat (first | apply Kd.S_alloc | apply Kd.S_drewN | apply Kd.S_drew)); exact HO_3.out) (Kd.R_base ho0) hb); have n1_ := Aside0.mk (Kd.R_lower ho0 (below_size (by repeat (first | (with_reducible first | exact HB.out | apply below_alloc | apply pw_below_drewN | apply below_drew1) | exact HB.out)))); have n2_ := Aside0.mk (below_step (by repeat (first | (with_reducible first | exact HB.out | apply below_alloc | apply pw_below_drewN | apply below_drew1) | exact HB.out)) hb); clear HO_3; clear HB; have HO_3 := n0_; have HO128 := n1_; have HB := n2_; clear n0_ n1_ n2_; (try clear hb); (try clear hb2); (try clear hk); (try clear hi); (try clear ho0); have p10 : 0 ≤ (x4_1 : Int) := of_decide_eq_true (by first | (with_reducible assumption) | assumption); have q10 : (x4_1 : Int) < ((x3_1.length : Int) : Int) := of_decide_eq_true (by first | (with_reducible assumption) | assumption); obtain ⟨go10, co10, eo10, gb10, gl10, cl10, HG10⟩ := Kd.S_form HO_3.out (by omega); (first | cases eo10 | (injection eo10 with ea_ en_ ec_; (first | subst ea_ | (injection ea_ with ea_; subst ea_)); subst ec_; clear en_)); have GB10 := Aside0.mk gb10; have GG10 := Aside0.mk HG10; clear gb10 gl10 HG10; obtain ⟨_, ce10, hcl10, hM10, hcc10, hfr10, _, _⟩ := Kd.S_elem HO_3.out z31 (x4_1 : Int) p10 q10; obtain ⟨ve10_0, rfl, ge10_0⟩ := k31_openM hM10; have hx10_0 : w11.cell? ⟨go10, (x4_1 : Int).toNat * 2, none⟩ = some (ve10_0) := hcc10 0 _ rfl; have hx10_1 : w11.cell? ⟨go10, (x4_1 : Int).toNat * 2 + 1, none⟩ = some (.float .f32 ((rd_T31 x3_1 x4_1).f1)) := hcc10 1 _ rfl; have hf10_0 : w11.frozen? ⟨go10, (x4_1 : Int).toNat * 2, none⟩ = false := hfr10 0; have hf10_1 : w11.frozen? ⟨go10, (x4_1 : Int).toNat * 2 + 1, none⟩ = false := hfr10 1; clear hcl10 hcc10 hfr10 hM10; replace p10 := eq_true p10; replace q10 := eq_true q10; have n_ := Aside0.mk (Kd.S_mono (ok' := (fun k_ => some k_ ≠ (v127 : Value).ownBlock)) HO_3.out (fun k_ hk => hk.2)); clear HO_3; have HO_3 := n_; clear n_; have HX12 := Aside0.mk (show Kd.S k31 31 w11 w.heap.size (fun k_ => ((fun _ => True)) k_ ∧ ¬ ((fun k_ => some k_ = (v127 : Value).ownBlock)) k_) (.slice (some ⟨go10, 0, none⟩) x3_1.length co10) x3_1 from (by (with_reducible repeat (first | apply Kd.S_alloc | apply Kd.S_drewN | apply Kd.S_drew)); exact Kd.S_mono HO_3.out (fun k_ hk => ⟨trivial, fun e_ => hk e_⟩))); obtain ⟨oki12, ce12, hcl12, hM12, hcc12, hfr12, hoki12, hH12⟩ := Kd.S_elem HX12.out z31 (x4_1 : Int) (of_decide_eq_true (by first | (with_reducible assumption) | assumption)) (by have h_ : (x4_1 : Int) < ((x3_1.length : Int) : Int) := of_decide_eq_true (by first | (with_reducible assumption) | assumption); first | exact h_ | (have e_ := (Kd.S_reads' HO_3.out).1; omega) | simpa using h_); obtain ⟨ve12_0, rfl, ge12_0⟩ := k31_openM hM12; have HP12 := Kd.S_seg hH12 (of_decide_eq_true (by first | (with_reducible assumption) | assumption)) (by have h_ : (x4_1 : Int) < ((x3_1.length : Int) : Int) := of_decide_eq_true (by first | (with_reducible assumption) | assumption); first | exact h_ | (have e_ := (Kd.S_reads' HO_3.out).1; omega) | simpa using h_) (seg := [v127, .float .f32 t129]) (j := 0) (show 2 ≤ 2 from by decide) (x' := (⟨t126, t129⟩ : S31)) (k31_mkM _ _ _ (⟨t126, t129⟩ : S31) (Kd.R_mono (Kd.R_tight rfl (Kd.R_mono (ok' := fun k_ => ((fun _ => True)) k_ ∧ k_ ≠ go10) (Kd.R_apart' (HO128.out) (Kd.S_typed HO_3.out) (by decide)) (fun k_ hk => ⟨trivial, fun e_ => (hk.2) (by rw [e_]; rfl)⟩))) (fun _ h_ => Or.inr (h_)))) (fun _ hk => hk) (fun k_ hk_ => ((Kd.R_mono (ok' := fun k_ => ((fun _ => True)) k_ ∧ k_ ≠ go10) (Kd.R_apart' (HO128.out) (Kd.S_typed HO_3.out) (by decide)) (fun k_ hk => ⟨trivial, fun e_ => (hk.2) (by rw [e_]; rfl)⟩))).1 k_ hk_.symm); have hx12_0 := hcc12 0 _ rfl; (try simp only [show (k31).sz = 2 from rfl, Nat.mul_one, Nat.add_zero] at hx12_0); have hf12_0 := hfr12 0; (try simp only [show (k31).sz = 2 from rfl, Nat.mul_one, Nat.add_zero] at hf12_0); have hx12_1 := hcc12 1 _ rfl; (try simp only [show (k31).sz = 2 from rfl, Nat.mul_one, Nat.add_zero] at hx12_1); have hf12_1 := hfr12 1; (try simp only [show (k31).sz = 2 from rfl, Nat.mul_one, Nat.add_zero] at hf12_1); clear hcl12 hcc12 hfr12 hM12 hoki12 hH12) | ((with_reducible refine gate_store (t := 31) (p := 21) rfl ?_); refine store_event (t := 31) (p := 21) (v := ?vo_w13) (w1 := ((w11.setCell ⟨go10, (x4_1 : Int).toNat * 2, none⟩ (v127)).setCell ⟨go10, (x4_1 : Int).toNat * 2 + 1, none⟩ (.float .f32 t129))) ?hg ?ho ?hn ?hr ?_; (case ho => rfl); (case hg => rfl); (case hn => rfl); (case hr => (try (obtain ⟨Av127_, cv127_, ev127_⟩ := Kd.R_slice HO128.out; subst ev127_)); first | (go_simp; done) | (go_simp; rfl)); intro w13 hw; have hg : w11.grownBy w13 (some go10) := (by rw [hw]; exact HP12.2); have hp_ : Kd.S k31 31 w13 w.heap.size (fun _ => True) (.slice (some ⟨go10, 0, none⟩) x3_1.length co10) y130 := (by rw [hw, Ny130.out]; exact HP12.1); clear HP12; have n0_ := Aside0.mk (hp_); have n1_ := Aside0.mk ((by rw [hw]; exact below_set (below_set (HB.out) GB10.out) GB10.out : Below w.heap.size w w13)); clear HO_3; clear HB; clear HO128; have HO_3 := n0_; have HB := n1_; clear n0_ n1_; clear hg hw hp_))
                go_roundg k1
                case measure => have := HK1.out; omega
                case rel => exact ⟨(y130), (wrap64 (x4_1 + 1)), (by first | rfl | (simp; done) | (simp [*]; done)), H', ⟨by have := HK1.out; omega⟩, ⟨by (with_reducible repeat (first | apply Kd.S_alloc | apply Kd.S_drewN | apply Kd.S_drew)); exact HO_3.out⟩, ⟨by repeat (first | (with_reducible first | exact HB.out | apply below_alloc | apply pw_below_drewN | apply below_drew1) | exact HB.out)⟩⟩
              · rw [if_neg c9] at H
                exact absurd H (by simp)
            · rw [if_neg c7] at H
              exact absurd H (by simp)
          · rw [if_neg c6] at H
            have c6b0 : decide (x4_1 < (l0.length : Int)) = false := decide_eq_false c6
            clear c6
            obtain rfl := Option.some.inj H
            go_wp2
            go_ret
            exact ⟨_, by first | rfl | (simp [errW_none, errW_some] <;> rfl) | (simp [*, errW_none, errW_some] <;> rfl), by (with_reducible repeat (first | apply Kd.S_alloc | apply Kd.S_drewN | apply Kd.S_drew)); exact HO_3.out, by repeat (first | (with_reducible first | exact HB.out | apply below_alloc | apply pw_below_drewN | apply below_drew1) | exact HB.out)⟩
    · rw [if_neg c3] at H
      exact absurd H (by simp)
  · rw [if_neg c2] at H
    exact absurd H (by simp)
end Go.Proofs.Ytffofpiejcolfaa.L3
end
section
namespace Go.Proofs.Ytffofpiejcolfaa.L3
open Go.Proofs.Ytffofpiejcolfaa.L0
open Go.RowKit Go.Proofs.YtffofpiejcolfaaW.PrintWords Go.Proofs.YtffofpiejcolfaaW.PrintLast Go.Proofs.YtffofpiejcolfaaW.PrintMore
attribute [local go_sem] max2_int min2_int max_two min_two max_three min_three max_four min_four
set_option linter.unusedVariables false
set_option linter.unusedSimpArgs false
def laws_eqThreadS.l0 : Nat → List (S31) → List (S31) → Int → Option (Bool)
  | 0, _, _, _ => none
  | k + 1, x0, x1, x5 => if x5 < (x0.length : Int) then (if 0 ≤ x5 then (if x5 < (x1.length : Int) then ((XT.eqThread.f ((rd_T31 x0 x5).f0) ((rd_T31 x0 x5).f1) ((rd_T31 x1 x5).f0) ((rd_T31 x1 x5).f1)).bind fun t133 => (if t133 = true then (laws_eqThreadS.l0 k x0 x1 (wrap64 (x5 + 1))) else (some false))) else (none)) else (none)) else (some true)
def laws_eqThreadS.f (k : Nat) (l0 : List (S31)) (l1 : List (S31)) : Option (Bool) := if (l0.length : Int) = (l1.length : Int) then (laws_eqThreadS.l0 k l0 l1 0) else (some false)
theorem laws_eqThreadS.mono_l : ∀ k, (∀ y0 y1 y2, LeO (laws_eqThreadS.l0 k y0 y1 y2) (laws_eqThreadS.l0 (k + 1) y0 y1 y2))
  | 0 => fun _ _ _ r h => by simp [laws_eqThreadS.l0] at h
  | k + 1 => by
    have ih0 := laws_eqThreadS.mono_l k
    · intro y0 y1 y2
      unfold laws_eqThreadS.l0
      repeat' first
      | (with_reducible exact ih0 _ _ _)
      | (with_reducible exact LeO.refl _)
      | (with_reducible exact LeO.none _)
      | (with_reducible refine LeO.ite ?_ ?_)
      | (with_reducible refine LeO.bind ?_ (fun _ => ?_))
      | exact ih0 _ _ _
      | exact LeO.none _
      | refine LeO.ite ?_ ?_
      | refine LeO.bind ?_ (fun _ => ?_)
theorem laws_eqThreadS.mono : ∀ a0 a1 k, LeO (laws_eqThreadS.f k a0 a1) (laws_eqThreadS.f (k + 1) a0 a1) := by
  intro a0 a1 k
  have ih0 := laws_eqThreadS.mono_l k
  unfold laws_eqThreadS.f
  repeat' first
      | (with_reducible exact ih0 _ _ _)
      | (with_reducible exact LeO.refl _)
      | (with_reducible exact LeO.none _)
      | (with_reducible refine LeO.ite ?_ ?_)
      | (with_reducible refine LeO.bind ?_ (fun _ => ?_))
      | exact ih0 _ _ _
      | exact LeO.none _
      | refine LeO.ite ?_ ?_
      | refine LeO.bind ?_ (fun _ => ?_)
def laws_eqThreadS.T6 : Bool × List (List Nat × List Nat) := (true, [([], []), ([], []), ([0, 1], [0, 1]), ([2], [2]), ([], []), ([], []), ([4, 5], [4, 5]), ([6], [6]), ([3, 7], [3, 7]), ([8], [8])])
def laws_eqThreadS.B6 : List Nat := [0, 0, 3, 7, 0, 0, 48, 112, 255, 511]
theorem laws_eqThreadS.tab6 : rtab .any (opsOf Try.f27 6) = laws_eqThreadS.T6 := by kernel_rfl
theorem laws_eqThreadS.bits6 : waitsOk laws_eqThreadS.T6.2 laws_eqThreadS.B6 = true := by kernel_rfl
set_option maxHeartbeats 8000000 in
set_option maxRecDepth 100000 in
theorem laws_eqThreadS.calls (k : Nat) (A0 : Option Addr) (c0 : Nat) (l0 : List (S31)) (A1 : Option Addr) (c1 : Nat) (l1 : List (S31)) (r : Bool) (w : World) (hr0 : Kd.C k31 w A0 l0.length l0) (hc0 : l0.length ≤ c0) (hr1 : Kd.C k31 w A1 l1.length l1) (hc1 : l1.length ≤ c1) (h : laws_eqThreadS.f k l0 l1 = some r) :
    Calls Try.prog 27 #[.slice A0 l0.length c0, .slice A1 l1.length c1] w fun e w' => e = .returned (.bool r) ∧ Below w.heap.size w w' := by
  have hu31 := Try.underlying31
  have HR0 := Aside0.mk hr0
  have HC0 := Aside0.mk hc0
  clear hr0 hc0
  have HR1 := Aside0.mk hr1
  have HC1 := Aside0.mk hc1
  clear hr1 hc1
  have HB := Aside0.mk (Below.refl w.heap.size w)
  have H : (if (l0.length : Int) = (l1.length : Int) then (laws_eqThreadS.l0 k l0 l1 0) else (some false)) = some r := h
  clear h
  by_cases c3 : (l0.length : Int) = (l1.length : Int)
  · rw [if_pos c3] at H
    have c3b0 : ((l0.length : Int) == (l1.length : Int)) = true := beq_iff_eq.mpr c3
    have c3b1 : ((l0.length : Int) != (l1.length : Int)) = false := bne_eq_false_iff_eq.mpr c3
    have c3b2 : (l0.length == l1.length) = true := by first | simpa using c3 | (simp at c3 ⊢; omega)
    clear c3
    have H' := Aside0.mk H
    clear H
    go_enter Try.func27, Try.ntmps27
    go_wp2
    go_loopg [5] k (fun kq v5 w' => ∃ (x5_1 : Int), v5 = .int .i64 x5_1 ∧ Aside0 (laws_eqThreadS.l0 kq l0 l1 x5_1 = some r) ∧ Aside0 (kq ≤ k) ∧ Aside0 (Below w.heap.size w w'))
    case atStart => exact ⟨(0), (by first | rfl | (simp; done) | (simp [*]; done)), H', ⟨Nat.le_refl _⟩, ⟨by repeat (first | (with_reducible first | exact HB.out | apply below_alloc | apply pw_below_drewN | apply below_drew1) | exact HB.out)⟩⟩
    case round =>
      clear H'
      try clear c1
      try clear c2
      try clear p2
      try clear c3
      try clear c3b0
      try clear c3b1
      try clear c3b2
      obtain ⟨x5_1, rfl, HA, HK1, HB⟩ := hrel
      cases gk with
      | zero => exact absurd HA.out (by simp [laws_eqThreadS.l0])
      | succ k1 =>
        have H := HA.out
        clear HA
        simp only [laws_eqThreadS.l0] at H
        by_cases c4 : x5_1 < (l0.length : Int)
        · rw [if_pos c4] at H
          have c4b0 : decide (x5_1 < (l0.length : Int)) = true := decide_eq_true c4
          clear c4
          by_cases c5 : 0 ≤ x5_1
          · rw [if_pos c5] at H
            have c5b0 : decide (0 ≤ x5_1) = true := decide_eq_true c5
            clear c5
            by_cases c6 : x5_1 < (l1.length : Int)
            · rw [if_pos c6] at H
              have c6b0 : decide (x5_1 < (l1.length : Int)) = true := decide_eq_true c6
              clear c6
              replace H := Option.bind_eq_some_iff.mp H
              obtain ⟨t133, A70, H⟩ := H
              replace H : (if t133 = true then (laws_eqThreadS.l0 k1 l0 l1 (wrap64 (x5_1 + 1))) else (some false)) = some r := H
              have A7 := Aside0.mk A70
              clear A70
              by_cases c8 : t133 = true
              · subst c8
                have H1 : (laws_eqThreadS.l0 k1 l0 l1 (wrap64 (x5_1 + 1))) = some r := by rw [if_pos rfl] at H; exact H
                clear H
                have H := H1
                clear H1
                have H' := Aside0.mk H
                clear H
                try go_wp2
                have n0_ := Aside0.mk (below_drew1 HB.out)
                clear HB
                have HB := n0_
                clear n0_
                have p131 : 0 ≤ (x5_1 : Int) := of_decide_eq_true (by first | (with_reducible assumption) | assumption)
                have q131 : x5_1 < (l0.length : Int) := of_decide_eq_true (by first | (with_reducible assumption) | assumption)
                obtain ⟨ad131, A131_0, c131_0, e131, hx131_0, hx131_1, hl131_0, hi131_0⟩ := at_T31 HR0.out x5_1 p131 q131
                have hw131_1 := hx131_1
                have hw131_0 := hx131_0
                cases e131
                replace hx131_0 := (HB.out.cell (World.block_lt_of_cell? w _ hx131_0)).trans hx131_0
                replace hx131_1 := (HB.out.cell (World.block_lt_of_cell? w _ hx131_1)).trans hx131_1
                have HR131_0 := Aside0.mk hi131_0
                have HC131_0 := Aside0.mk hl131_0
                clear hi131_0 hl131_0
                replace p131 := eq_true p131
                replace q131 := eq_true q131
                have p132 : 0 ≤ (x5_1 : Int) := of_decide_eq_true (by first | (with_reducible assumption) | assumption)
                have q132 : x5_1 < (l1.length : Int) := of_decide_eq_true (by first | (with_reducible assumption) | assumption)
                obtain ⟨ad132, A132_0, c132_0, e132, hx132_0, hx132_1, hl132_0, hi132_0⟩ := at_T31 HR1.out x5_1 p132 q132
                have hw132_1 := hx132_1
                have hw132_0 := hx132_0
                cases e132
                replace hx132_0 := (HB.out.cell (World.block_lt_of_cell? w _ hx132_0)).trans hx132_0
                replace hx132_1 := (HB.out.cell (World.block_lt_of_cell? w _ hx132_1)).trans hx132_1
                have HR132_0 := Aside0.mk hi132_0
                have HC132_0 := Aside0.mk hl132_0
                clear hi132_0 hl132_0
                replace p132 := eq_true p132
                replace q132 := eq_true q132
                refine start_ (n := 10) (S := fun w' => w'.cell? (ad131.add ((x5_1).toNat * 2)) = some (.slice A131_0 ((rd_T31 l0 x5_1).f0).length c131_0) ∧ w'.cell? ⟨(ad131.add ((x5_1).toNat * 2)).block, (ad131.add ((x5_1).toNat * 2)).off + 1, none⟩ = some (.float .f32 ((rd_T31 l0 x5_1).f1)) ∧ w'.cell? (ad132.add ((x5_1).toNat * 2)) = some (.slice A132_0 ((rd_T31 l1 x5_1).f0).length c132_0) ∧ w'.cell? ⟨(ad132.add ((x5_1).toNat * 2)).block, (ad132.add ((x5_1).toNat * 2)).off + 1, none⟩ = some (.float .f32 ((rd_T31 l1 x5_1).f1))) (ds := []) #[false, false, false, false, false, false, false, false, false, false] (by kernel_rfl) rfl rfl ⟨((HB.out.cell (World.block_lt_of_cell? w _ hw131_0)).trans hw131_0), ((HB.out.cell (World.block_lt_of_cell? w _ hw131_1)).trans hw131_1), ((HB.out.cell (World.block_lt_of_cell? w _ hw132_0)).trans hw132_0), ((HB.out.cell (World.block_lt_of_cell? w _ hw132_1)).trans hw132_1)⟩ (fun hHeld => ?_); refine with_tabW laws_eqThreadS.tab6 laws_eqThreadS.bits6 (fun HT_ HW_ => ?_)
                generalize wr.drew = w9 at HB HR131_0 HR132_0 hx131_0 hx131_1 hx132_0 hx132_1 hHeld ⊢
                refine pure_ (i := 0) (N := some 17) (v := ?_) (a' := ?_) #[true, false, false, false, false, false, false, false, false, false] rfl rfl (any_of HT_.out (by kernel_rfl)) (fun _ _ _ h => h) (Or.inl ⟨by rfl, ?_⟩) ?_ ?_
                rotate_left
                · intro w'
                  go_simp
                  with_reducible rfl
                rotate_left
                · simp only [Act.put, List.setIfInBounds_toArray, List.set_cons_zero, List.set_cons_succ, i64_w, i32_w]
                  rfl
                refine pure_ (i := 1) (N := some 18) (v := ?_) (a' := ?_) #[true, true, false, false, false, false, false, false, false, false] rfl rfl (any_of HT_.out (by kernel_rfl)) (fun _ _ _ h => h) (Or.inl ⟨by rfl, ?_⟩) ?_ ?_
                rotate_left
                · intro w'
                  go_simp
                  with_reducible rfl
                rotate_left
                · simp only [Act.put, List.setIfInBounds_toArray, List.set_cons_zero, List.set_cons_succ, i64_w, i32_w]
                  rfl
                refine pure_ (i := 2) (N := some 19) (v := ?_) (a' := ?_) #[true, true, true, false, false, false, false, false, false, false] rfl rfl (any_of HT_.out (by kernel_rfl)) (fun _ _ _ h => h) (Or.inl ⟨by rfl, ?_⟩) ?_ ?_
                rotate_left
                · intro w'
                  go_simp
                  with_reducible rfl
                rotate_left
                · simp only [Act.put, List.setIfInBounds_toArray, List.set_cons_zero, List.set_cons_succ, i64_w, i32_w]
                  rfl
                refine pure_ (i := 4) (N := some 21) (v := ?_) (a' := ?_) #[true, true, true, false, true, false, false, false, false, false] rfl rfl (any_of HT_.out (by kernel_rfl)) (fun _ _ _ h => h) (Or.inl ⟨by rfl, ?_⟩) ?_ ?_
                rotate_left
                · intro w'
                  go_simp
                  with_reducible rfl
                rotate_left
                · simp only [Act.put, List.setIfInBounds_toArray, List.set_cons_zero, List.set_cons_succ, i64_w, i32_w]
                  rfl
                refine pure_ (i := 5) (N := some 22) (v := ?_) (a' := ?_) #[true, true, true, false, true, true, false, false, false, false] rfl rfl (any_of HT_.out (by kernel_rfl)) (fun _ _ _ h => h) (Or.inl ⟨by rfl, ?_⟩) ?_ ?_
                rotate_left
                · intro w'
                  go_simp
                  with_reducible rfl
                rotate_left
                · simp only [Act.put, List.setIfInBounds_toArray, List.set_cons_zero, List.set_cons_succ, i64_w, i32_w]
                  rfl
                refine pure_ (i := 6) (N := some 23) (v := ?_) (a' := ?_) #[true, true, true, false, true, true, true, false, false, false] rfl rfl (any_of HT_.out (by kernel_rfl)) (fun _ _ _ h => h) (Or.inl ⟨by rfl, ?_⟩) ?_ ?_
                rotate_left
                · intro w'
                  go_simp
                  with_reducible rfl
                rotate_left
                · simp only [Act.put, List.setIfInBounds_toArray, List.set_cons_zero, List.set_cons_succ, i64_w, i32_w]
                  rfl
                refine take_ (i := 3) (N := some 20) (v := ?_) (a' := ?_) #[true, true, true, true, true, true, true, false, false, false] rfl rfl (take_ofW HT_.out HW_.out (by kernel_rfl)) (fun _ _ _ h => h) (Or.inl ⟨by rfl, ?_⟩) hHeld ?_ ?_
                rotate_left
                · rintro w' ⟨s0, s1, s2, s3⟩
                  go_simp
                  with_reducible rfl
                rotate_left
                · simp only [Act.put, List.setIfInBounds_toArray, List.set_cons_zero, List.set_cons_succ, i64_w, i32_w]
                  rfl
                refine take_ (i := 7) (N := some 24) (v := ?_) (a' := ?_) #[true, true, true, true, true, true, true, true, false, false] rfl rfl (take_ofW HT_.out HW_.out (by kernel_rfl)) (fun _ _ _ h => h) (Or.inl ⟨by rfl, ?_⟩) hHeld ?_ ?_
                rotate_left
                · rintro w' ⟨s0, s1, s2, s3⟩
                  go_simp
                  with_reducible rfl
                rotate_left
                · simp only [Act.put, List.setIfInBounds_toArray, List.set_cons_zero, List.set_cons_succ, i64_w, i32_w]
                  rfl
                refine one_ (i := 8) (N := some 25) #[true, true, true, true, true, true, true, true, true, false] rfl rfl (one_of HT_.out (by kernel_rfl)) (by decide) (fun K hK => ?_)
                refine goes_ Try.func16 (by kernel_rfl) rfl #[.agg #[.slice A131_0 ((rd_T31 l0 x5_1).f0).length c131_0, .float .f32 ((rd_T31 l0 x5_1).f1)], .agg #[.slice A132_0 ((rd_T31 l1 x5_1).f0).length c132_0, .float .f32 ((rd_T31 l1 x5_1).f1)]] (by rfl) rfl rfl (by (try simp only [List.map_toArray, List.map_cons, List.map_nil]); first | done | rfl | (simp only [List.length_drop, List.length_take]; rfl)) ?_
                with_reducible refine (XT.eqThread.calls _ _ ((rd_T31 l0 x5_1).f0) ((rd_T31 l0 x5_1).f1) _ _ ((rd_T31 l1 x5_1).f0) ((rd_T31 l1 x5_1).f1) true _ ?side1 ?side2 ?side3 ?side4 A7.out).mono ?_
                (case side1 => repeat (first | exact (Kd.C_below HR131_0.out HB.out) | (with_reducible refine Kd.C_alloc ?_ _) | (with_reducible refine Kd.C_drewN ?_ _) | (with_reducible refine Kd.C_drew ?_)))
                (case side2 => exact HC131_0.out)
                (case side3 => repeat (first | exact (Kd.C_below HR132_0.out HB.out) | (with_reducible refine Kd.C_alloc ?_ _) | (with_reducible refine Kd.C_drewN ?_ _) | (with_reducible refine Kd.C_drew ?_)))
                (case side4 => exact HC132_0.out)
                rintro e w10 ⟨rfl, hb⟩
                refine ⟨_, rfl, ?_⟩
                have n0_ := Aside0.mk (below_step (by repeat (first | (with_reducible first | exact HB.out | apply below_alloc | apply pw_below_drewN | apply below_drew1) | exact HB.out)) hb)
                clear HB
                have HB := n0_
                clear n0_
                (try clear hb)
                (try clear hb2)
                (try clear hk)
                (try clear hi)
                refine hK.out _ _ ⟨((HB.out.cell (World.block_lt_of_cell? w _ hw131_0)).trans hw131_0), ((HB.out.cell (World.block_lt_of_cell? w _ hw131_1)).trans hw131_1), ((HB.out.cell (World.block_lt_of_cell? w _ hw132_0)).trans hw132_0), ((HB.out.cell (World.block_lt_of_cell? w _ hw132_1)).trans hw132_1)⟩ (fun hHeld => ?_)
                clear hK K
                refine norm_ (a' := ?_) ?_ ?_
                rotate_left
                · show Act.put _ (some 25) _ = _
                  simp only [Act.put, List.setIfInBounds_toArray, List.set_cons_zero, List.set_cons_succ, i64_w, i32_w]
                  rfl
                refine pure_ (i := 9) (N := some 26) (v := ?_) (a' := ?_) #[true, true, true, true, true, true, true, true, true, true] rfl rfl (any_of HT_.out (by kernel_rfl)) (fun _ _ _ h => h) (Or.inl ⟨by rfl, ?_⟩) ?_ ?_
                rotate_left
                · intro w'
                  go_simp
                  with_reducible rfl
                rotate_left
                · simp only [Act.put, List.setIfInBounds_toArray, List.set_cons_zero, List.set_cons_succ, i64_w, i32_w]
                  rfl
                refine done_ (done_of HT_.out (by kernel_rfl)) ?_
                try go_wp2
                go_roundg k1
                case measure => have := HK1.out; omega
                case rel => exact ⟨(wrap64 (x5_1 + 1)), (by first | rfl | (simp; done) | (simp [*]; done)), H', ⟨by have := HK1.out; omega⟩, ⟨by repeat (first | (with_reducible first | exact HB.out | apply below_alloc | apply pw_below_drewN | apply below_drew1) | exact HB.out)⟩⟩
              · replace c8 := Bool.eq_false_iff.mpr c8
                subst c8
                have H1 : (some false) = some r := by rw [if_neg (show ¬ (false = true) by decide)] at H; exact H
                clear H
                have H := H1
                clear H1
                obtain rfl := Option.some.inj H
                try go_wp2
                have n0_ := Aside0.mk (below_drew1 HB.out)
                clear HB
                have HB := n0_
                clear n0_
                have p131 : 0 ≤ (x5_1 : Int) := of_decide_eq_true (by first | (with_reducible assumption) | assumption)
                have q131 : x5_1 < (l0.length : Int) := of_decide_eq_true (by first | (with_reducible assumption) | assumption)
                obtain ⟨ad131, A131_0, c131_0, e131, hx131_0, hx131_1, hl131_0, hi131_0⟩ := at_T31 HR0.out x5_1 p131 q131
                have hw131_1 := hx131_1
                have hw131_0 := hx131_0
                cases e131
                replace hx131_0 := (HB.out.cell (World.block_lt_of_cell? w _ hx131_0)).trans hx131_0
                replace hx131_1 := (HB.out.cell (World.block_lt_of_cell? w _ hx131_1)).trans hx131_1
                have HR131_0 := Aside0.mk hi131_0
                have HC131_0 := Aside0.mk hl131_0
                clear hi131_0 hl131_0
                replace p131 := eq_true p131
                replace q131 := eq_true q131
                have p132 : 0 ≤ (x5_1 : Int) := of_decide_eq_true (by first | (with_reducible assumption) | assumption)
                have q132 : x5_1 < (l1.length : Int) := of_decide_eq_true (by first | (with_reducible assumption) | assumption)
                obtain ⟨ad132, A132_0, c132_0, e132, hx132_0, hx132_1, hl132_0, hi132_0⟩ := at_T31 HR1.out x5_1 p132 q132
                have hw132_1 := hx132_1
                have hw132_0 := hx132_0
                cases e132
                replace hx132_0 := (HB.out.cell (World.block_lt_of_cell? w _ hx132_0)).trans hx132_0
                replace hx132_1 := (HB.out.cell (World.block_lt_of_cell? w _ hx132_1)).trans hx132_1
                have HR132_0 := Aside0.mk hi132_0
                have HC132_0 := Aside0.mk hl132_0
                clear hi132_0 hl132_0
                replace p132 := eq_true p132
                replace q132 := eq_true q132
                refine start_ (n := 10) (S := fun w' => w'.cell? (ad131.add ((x5_1).toNat * 2)) = some (.slice A131_0 ((rd_T31 l0 x5_1).f0).length c131_0) ∧ w'.cell? ⟨(ad131.add ((x5_1).toNat * 2)).block, (ad131.add ((x5_1).toNat * 2)).off + 1, none⟩ = some (.float .f32 ((rd_T31 l0 x5_1).f1)) ∧ w'.cell? (ad132.add ((x5_1).toNat * 2)) = some (.slice A132_0 ((rd_T31 l1 x5_1).f0).length c132_0) ∧ w'.cell? ⟨(ad132.add ((x5_1).toNat * 2)).block, (ad132.add ((x5_1).toNat * 2)).off + 1, none⟩ = some (.float .f32 ((rd_T31 l1 x5_1).f1))) (ds := []) #[false, false, false, false, false, false, false, false, false, false] (by kernel_rfl) rfl rfl ⟨((HB.out.cell (World.block_lt_of_cell? w _ hw131_0)).trans hw131_0), ((HB.out.cell (World.block_lt_of_cell? w _ hw131_1)).trans hw131_1), ((HB.out.cell (World.block_lt_of_cell? w _ hw132_0)).trans hw132_0), ((HB.out.cell (World.block_lt_of_cell? w _ hw132_1)).trans hw132_1)⟩ (fun hHeld => ?_); refine with_tabW laws_eqThreadS.tab6 laws_eqThreadS.bits6 (fun HT_ HW_ => ?_)
                generalize wr.drew = w11 at HB HR131_0 HR132_0 hx131_0 hx131_1 hx132_0 hx132_1 hHeld ⊢
                refine pure_ (i := 0) (N := some 17) (v := ?_) (a' := ?_) #[true, false, false, false, false, false, false, false, false, false] rfl rfl (any_of HT_.out (by kernel_rfl)) (fun _ _ _ h => h) (Or.inl ⟨by rfl, ?_⟩) ?_ ?_
                rotate_left
                · intro w'
                  go_simp
                  with_reducible rfl
                rotate_left
                · simp only [Act.put, List.setIfInBounds_toArray, List.set_cons_zero, List.set_cons_succ, i64_w, i32_w]
                  rfl
                refine pure_ (i := 1) (N := some 18) (v := ?_) (a' := ?_) #[true, true, false, false, false, false, false, false, false, false] rfl rfl (any_of HT_.out (by kernel_rfl)) (fun _ _ _ h => h) (Or.inl ⟨by rfl, ?_⟩) ?_ ?_
                rotate_left
                · intro w'
                  go_simp
                  with_reducible rfl
                rotate_left
                · simp only [Act.put, List.setIfInBounds_toArray, List.set_cons_zero, List.set_cons_succ, i64_w, i32_w]
                  rfl
                refine pure_ (i := 2) (N := some 19) (v := ?_) (a' := ?_) #[true, true, true, false, false, false, false, false, false, false] rfl rfl (any_of HT_.out (by kernel_rfl)) (fun _ _ _ h => h) (Or.inl ⟨by rfl, ?_⟩) ?_ ?_
                rotate_left
                · intro w'
                  go_simp
                  with_reducible rfl
                rotate_left
                · simp only [Act.put, List.setIfInBounds_toArray, List.set_cons_zero, List.set_cons_succ, i64_w, i32_w]
                  rfl
                refine pure_ (i := 4) (N := some 21) (v := ?_) (a' := ?_) #[true, true, true, false, true, false, false, false, false, false] rfl rfl (any_of HT_.out (by kernel_rfl)) (fun _ _ _ h => h) (Or.inl ⟨by rfl, ?_⟩) ?_ ?_
                rotate_left
                · intro w'
                  go_simp
                  with_reducible rfl
                rotate_left
                · simp only [Act.put, List.setIfInBounds_toArray, List.set_cons_zero, List.set_cons_succ, i64_w, i32_w]
                  rfl
                refine pure_ (i := 5) (N := some 22) (v := ?_) (a' := ?_) #[true, true, true, false, true, true, false, false, false, false] rfl rfl (any_of HT_.out (by kernel_rfl)) (fun _ _ _ h => h) (Or.inl ⟨by rfl, ?_⟩) ?_ ?_
                rotate_left
                · intro w'
                  go_simp
                  with_reducible rfl
                rotate_left
                · simp only [Act.put, List.setIfInBounds_toArray, List.set_cons_zero, List.set_cons_succ, i64_w, i32_w]
                  rfl
                refine pure_ (i := 6) (N := some 23) (v := ?_) (a' := ?_) #[true, true, true, false, true, true, true, false, false, false] rfl rfl (any_of HT_.out (by kernel_rfl)) (fun _ _ _ h => h) (Or.inl ⟨by rfl, ?_⟩) ?_ ?_
                rotate_left
                · intro w'
                  go_simp
                  with_reducible rfl
                rotate_left
                · simp only [Act.put, List.setIfInBounds_toArray, List.set_cons_zero, List.set_cons_succ, i64_w, i32_w]
                  rfl
                refine take_ (i := 3) (N := some 20) (v := ?_) (a' := ?_) #[true, true, true, true, true, true, true, false, false, false] rfl rfl (take_ofW HT_.out HW_.out (by kernel_rfl)) (fun _ _ _ h => h) (Or.inl ⟨by rfl, ?_⟩) hHeld ?_ ?_
                rotate_left
                · rintro w' ⟨s0, s1, s2, s3⟩
                  go_simp
                  with_reducible rfl
                rotate_left
                · simp only [Act.put, List.setIfInBounds_toArray, List.set_cons_zero, List.set_cons_succ, i64_w, i32_w]
                  rfl
                refine take_ (i := 7) (N := some 24) (v := ?_) (a' := ?_) #[true, true, true, true, true, true, true, true, false, false] rfl rfl (take_ofW HT_.out HW_.out (by kernel_rfl)) (fun _ _ _ h => h) (Or.inl ⟨by rfl, ?_⟩) hHeld ?_ ?_
                rotate_left
                · rintro w' ⟨s0, s1, s2, s3⟩
                  go_simp
                  with_reducible rfl
                rotate_left
                · simp only [Act.put, List.setIfInBounds_toArray, List.set_cons_zero, List.set_cons_succ, i64_w, i32_w]
                  rfl
                refine one_ (i := 8) (N := some 25) #[true, true, true, true, true, true, true, true, true, false] rfl rfl (one_of HT_.out (by kernel_rfl)) (by decide) (fun K hK => ?_)
                refine goes_ Try.func16 (by kernel_rfl) rfl #[.agg #[.slice A131_0 ((rd_T31 l0 x5_1).f0).length c131_0, .float .f32 ((rd_T31 l0 x5_1).f1)], .agg #[.slice A132_0 ((rd_T31 l1 x5_1).f0).length c132_0, .float .f32 ((rd_T31 l1 x5_1).f1)]] (by rfl) rfl rfl (by (try simp only [List.map_toArray, List.map_cons, List.map_nil]); first | done | rfl | (simp only [List.length_drop, List.length_take]; rfl)) ?_
                with_reducible refine (XT.eqThread.calls _ _ ((rd_T31 l0 x5_1).f0) ((rd_T31 l0 x5_1).f1) _ _ ((rd_T31 l1 x5_1).f0) ((rd_T31 l1 x5_1).f1) false _ ?side1 ?side2 ?side3 ?side4 A7.out).mono ?_
                (case side1 => repeat (first | exact (Kd.C_below HR131_0.out HB.out) | (with_reducible refine Kd.C_alloc ?_ _) | (with_reducible refine Kd.C_drewN ?_ _) | (with_reducible refine Kd.C_drew ?_)))
                (case side2 => exact HC131_0.out)
                (case side3 => repeat (first | exact (Kd.C_below HR132_0.out HB.out) | (with_reducible refine Kd.C_alloc ?_ _) | (with_reducible refine Kd.C_drewN ?_ _) | (with_reducible refine Kd.C_drew ?_)))
                (case side4 => exact HC132_0.out)
                rintro e w12 ⟨rfl, hb⟩
                refine ⟨_, rfl, ?_⟩
                have n0_ := Aside0.mk (below_step (by repeat (first | (with_reducible first | exact HB.out | apply below_alloc | apply pw_below_drewN | apply below_drew1) | exact HB.out)) hb)
                clear HB
                have HB := n0_
                clear n0_
                (try clear hb)
                (try clear hb2)
                (try clear hk)
                (try clear hi)
                refine hK.out _ _ ⟨((HB.out.cell (World.block_lt_of_cell? w _ hw131_0)).trans hw131_0), ((HB.out.cell (World.block_lt_of_cell? w _ hw131_1)).trans hw131_1), ((HB.out.cell (World.block_lt_of_cell? w _ hw132_0)).trans hw132_0), ((HB.out.cell (World.block_lt_of_cell? w _ hw132_1)).trans hw132_1)⟩ (fun hHeld => ?_)
                clear hK K
                refine norm_ (a' := ?_) ?_ ?_
                rotate_left
                · show Act.put _ (some 25) _ = _
                  simp only [Act.put, List.setIfInBounds_toArray, List.set_cons_zero, List.set_cons_succ, i64_w, i32_w]
                  rfl
                refine pure_ (i := 9) (N := some 26) (v := ?_) (a' := ?_) #[true, true, true, true, true, true, true, true, true, true] rfl rfl (any_of HT_.out (by kernel_rfl)) (fun _ _ _ h => h) (Or.inl ⟨by rfl, ?_⟩) ?_ ?_
                rotate_left
                · intro w'
                  go_simp
                  with_reducible rfl
                rotate_left
                · simp only [Act.put, List.setIfInBounds_toArray, List.set_cons_zero, List.set_cons_succ, i64_w, i32_w]
                  rfl
                refine done_ (done_of HT_.out (by kernel_rfl)) ?_
                try go_wp2
                go_ret
                exact ⟨by first | rfl | (simp [errW_none, errW_some] <;> rfl) | (simp [*, errW_none, errW_some] <;> rfl), by repeat (first | (with_reducible first | exact HB.out | apply below_alloc | apply pw_below_drewN | apply below_drew1) | exact HB.out)⟩
            · rw [if_neg c6] at H
              exact absurd H (by simp)
          · rw [if_neg c5] at H
            exact absurd H (by simp)
        · rw [if_neg c4] at H
          have c4b0 : decide (x5_1 < (l0.length : Int)) = false := decide_eq_false c4
          clear c4
          obtain rfl := Option.some.inj H
          go_wp2
          go_ret
          exact ⟨by first | rfl | (simp [errW_none, errW_some] <;> rfl) | (simp [*, errW_none, errW_some] <;> rfl), by repeat (first | (with_reducible first | exact HB.out | apply below_alloc | apply pw_below_drewN | apply below_drew1) | exact HB.out)⟩
  · rw [if_neg c3] at H
    have c3b0 : ((l0.length : Int) == (l1.length : Int)) = false := beq_eq_false_iff_ne.mpr c3
    have c3b1 : ((l0.length : Int) != (l1.length : Int)) = true := bne_iff_ne.mpr c3
    have c3b2 : (l0.length == l1.length) = false := by first | simpa using c3 | (simp at c3 ⊢; omega)
    obtain rfl := Option.some.inj H
    go_enter Try.func27, Try.ntmps27
    go_wp2
    go_ret
    exact ⟨by first | rfl | (simp [errW_none, errW_some] <;> rfl) | (simp [*, errW_none, errW_some] <;> rfl), by repeat (first | (with_reducible first | exact HB.out | apply below_alloc | apply pw_below_drewN | apply below_drew1) | exact HB.out)⟩
end Go.Proofs.Ytffofpiejcolfaa.L3
end
section
namespace Go.Proofs.Ytffofpiejcolfaa.L5
open Go.Proofs.Ytffofpiejcolfaa.L0 Go.Proofs.Ytffofpiejcolfaa.L3
open Go.RowKit Go.Proofs.YtffofpiejcolfaaW.PrintWords Go.Proofs.YtffofpiejcolfaaW.PrintLast Go.Proofs.YtffofpiejcolfaaW.PrintMore
attribute [local go_sem] max2_int min2_int max_two min_two max_three min_three max_four min_four
set_option linter.unusedVariables false
set_option linter.unusedSimpArgs false
def errW : Option Int → Value
  | none => .nilIface
  | some c => .iface 0 (.int .i64 c)
theorem errW_none : errW none = .nilIface := rfl
theorem errW_some (c : Int) : errW (some c) = .iface 0 (.int .i64 c) := rfl
end Go.Proofs.Ytffofpiejcolfaa.L5
end
section
namespace Go.Proofs.Ytffofpiejcolfaa.L5
open Go.Proofs.Ytffofpiejcolfaa.L0 Go.Proofs.Ytffofpiejcolfaa.L3
open Go.RowKit Go.Proofs.YtffofpiejcolfaaW.PrintWords Go.Proofs.YtffofpiejcolfaaW.PrintLast Go.Proofs.YtffofpiejcolfaaW.PrintMore
attribute [local go_sem] max2_int min2_int max_two min_two max_three min_three max_four min_four
set_option linter.unusedVariables false
set_option linter.unusedSimpArgs false
def laws_markVectorS.l0 : Nat → List (S46) → Int → Int → Option (Int × (List (S46)))
  | 0, _, _, _ => none
  | k + 1, x0, x1, x5 => if x5 < (x0.length : Int) then (if 0 ≤ x5 then ((some (x0.set (x5 : Int).toNat (⟨floatOfInt .f32 x1, (rd_T46 x0 x5).f1, (rd_T46 x0 x5).f2⟩ : S46) : List (S46))).bind fun y101 => ((some (y101.set (x5 : Int).toNat (⟨(rd_T46 y101 x5).f0, floatOfInt .f32 (wrap64 (x1 + 1)), (rd_T46 y101 x5).f2⟩ : S46) : List (S46))).bind fun y102 => (laws_markVectorS.l0 k (y102.set (x5 : Int).toNat (⟨(rd_T46 y102 x5).f0, (rd_T46 y102 x5).f1, floatOfInt .f32 (wrap64 ((wrap64 (x1 + 1)) + 1))⟩ : S46)) (wrap64 ((wrap64 ((wrap64 (x1 + 1)) + 1)) + 1)) (wrap64 (x5 + 1))))) else (none)) else (some (x1, x0))
def laws_markVectorS.f (k : Nat) (l0 : List (S46)) (a1 : Int) : Option (Int × (List (S46))) := laws_markVectorS.l0 k l0 a1 0
theorem laws_markVectorS.mono_l : ∀ k, (∀ y0 y1 y2, LeO (laws_markVectorS.l0 k y0 y1 y2) (laws_markVectorS.l0 (k + 1) y0 y1 y2))
  | 0 => fun _ _ _ r h => by simp [laws_markVectorS.l0] at h
  | k + 1 => by
    have ih0 := laws_markVectorS.mono_l k
    · intro y0 y1 y2
      unfold laws_markVectorS.l0
      repeat' first
      | (with_reducible exact ih0 _ _ _)
      | (with_reducible exact LeO.refl _)
      | (with_reducible exact LeO.none _)
      | (with_reducible refine LeO.ite ?_ ?_)
      | (with_reducible refine LeO.bind ?_ (fun _ => ?_))
      | exact ih0 _ _ _
      | exact LeO.none _
      | refine LeO.ite ?_ ?_
      | refine LeO.bind ?_ (fun _ => ?_)
theorem laws_markVectorS.mono : ∀ a0 a1 k, LeO (laws_markVectorS.f k a0 a1) (laws_markVectorS.f (k + 1) a0 a1) := by
  intro a0 a1 k
  have ih0 := laws_markVectorS.mono_l k
  unfold laws_markVectorS.f
  repeat' first
      | (with_reducible exact ih0 _ _ _)
      | (with_reducible exact LeO.refl _)
      | (with_reducible exact LeO.none _)
      | (with_reducible refine LeO.ite ?_ ?_)
      | (with_reducible refine LeO.bind ?_ (fun _ => ?_))
      | exact ih0 _ _ _
      | exact LeO.none _
      | refine LeO.ite ?_ ?_
      | refine LeO.bind ?_ (fun _ => ?_)
set_option maxHeartbeats 8000000 in
set_option maxRecDepth 100000 in
theorem laws_markVectorS.calls (k : Nat) (P0_ : Nat → Prop) (u9000_ : Value) (l0 : List (S46)) (a1 : Int) (r1 : Int) (r2 : List (S46)) (w0 w : World) (hB : Below w0.heap.size w0 w) (ho0 : Kd.R k46 46 w w0.heap.size P0_ u9000_ l0) (h : laws_markVectorS.f k l0 a1 = some (r1, r2)) :
    Calls Try.prog 88 #[u9000_, .int .i64 a1] w fun e w' => e = .returned (.int .i64 r1) ∧ Kd.R k46 46 w' w0.heap.size (fun k_ => (P0_ k_ ∨ w.heap.size ≤ k_)) u9000_ r2 ∧ Below w0.heap.size w0 w' ∧ Kept w w' (fun k_ => P0_ k_) := by
  have HO0 := Aside0.mk (show Kd.R k46 46 w w0.heap.size (fun k_ => (P0_ k_ ∨ w.heap.size ≤ k_)) u9000_ l0 from Kd.R_mono ho0 (fun k_ hk => (.inl hk)))
  have HK := Aside0.mk (Kept.refl w (fun k_ => P0_ k_))
  have HW0 := Aside0.mk hB.size
  have HB := Aside0.mk hB
  clear hB
  have H : (laws_markVectorS.l0 k l0 a1 0) = some (r1, r2) := h
  clear h
  have H' := Aside0.mk H
  clear H
  go_enter Try.func88, Try.ntmps88
  go_wp2
  go_loopg [1, 5] k (fun kq v1 v5 w' => ∃ (x0_1 : List (S46)) (x1_1 : Int) (x5_1 : Int), v1 = .int .i64 x1_1 ∧ v5 = .int .i64 x5_1 ∧ Aside0 (laws_markVectorS.l0 kq x0_1 x1_1 x5_1 = some (r1, r2)) ∧ Aside0 (kq ≤ k) ∧ Aside0 (Kd.R k46 46 w' w0.heap.size (fun k_ => (P0_ k_ ∨ w.heap.size ≤ k_)) u9000_ x0_1) ∧ Aside0 (Kept w w' (fun k_ => P0_ k_)) ∧ Aside0 (Below w0.heap.size w0 w'))
  case atStart => exact ⟨(l0), (a1), (0), (by first | rfl | (simp; done) | (simp [*]; done)), (by first | rfl | (simp; done) | (simp [*]; done)), H', ⟨Nat.le_refl _⟩, ⟨by (with_reducible repeat (first | apply Kd.R_alloc | apply Kd.R_drewN | apply Kd.R_drew)); exact HO0.out⟩, ⟨by repeat (first | (with_reducible first | exact HK.out | apply Kept.alloc | apply Kept.drewN | apply Kept.drew) | exact HK.out)⟩, ⟨by repeat (first | (with_reducible first | exact HB.out | apply below_alloc | apply pw_below_drewN | apply below_drew1) | exact HB.out)⟩⟩
  case round =>
    clear H'
    try clear p2
    obtain ⟨x0_1, x1_1, x5_1, rfl, rfl, HA, HK1, HO_0, HK, HB⟩ := hrel
    cases gk with
    | zero => exact absurd HA.out (by simp [laws_markVectorS.l0])
    | succ k1 =>
      have H := HA.out
      clear HA
      simp only [laws_markVectorS.l0] at H
      by_cases c3 : x5_1 < (x0_1.length : Int)
      · rw [if_pos c3] at H
        have c3b0 : decide (x5_1 < (x0_1.length : Int)) = true := decide_eq_true c3
        clear c3
        by_cases c4 : 0 ≤ x5_1
        · rw [if_pos c4] at H
          have c4b0 : decide (0 ≤ x5_1) = true := decide_eq_true c4
          clear c4
          obtain ⟨y101, hy101⟩ : ∃ y_ : List (S46), y_ = (x0_1.set (x5_1 : Int).toNat (⟨floatOfInt .f32 x1_1, (rd_T46 x0_1 x5_1).f1, (rd_T46 x0_1 x5_1).f2⟩ : S46)) := ⟨_, rfl⟩
          replace H : ((some (y101.set (x5_1 : Int).toNat (⟨(rd_T46 y101 x5_1).f0, floatOfInt .f32 (wrap64 (x1_1 + 1)), (rd_T46 y101 x5_1).f2⟩ : S46) : List (S46))).bind fun y102 => (laws_markVectorS.l0 k1 (y102.set (x5_1 : Int).toNat (⟨(rd_T46 y102 x5_1).f0, (rd_T46 y102 x5_1).f1, floatOfInt .f32 (wrap64 ((wrap64 (x1_1 + 1)) + 1))⟩ : S46)) (wrap64 ((wrap64 ((wrap64 (x1_1 + 1)) + 1)) + 1)) (wrap64 (x5_1 + 1)))) = some (r1, r2) := by first | (rw [hy101]; with_reducible exact H) | (have H2_ := (Option.bind_some _ _).symm.trans H; rw [hy101]; with_reducible exact H2_) | (have H2_ := (Option.bind_some _ _).symm.trans H; with_reducible exact H2_) | with_reducible exact H | (rw [hy101]; exact H) | exact H
          have Ny101 := Aside0.mk hy101
          clear hy101
          obtain ⟨y102, hy102⟩ : ∃ y_ : List (S46), y_ = (y101.set (x5_1 : Int).toNat (⟨(rd_T46 y101 x5_1).f0, floatOfInt .f32 (wrap64 (x1_1 + 1)), (rd_T46 y101 x5_1).f2⟩ : S46)) := ⟨_, rfl⟩
          replace H : (laws_markVectorS.l0 k1 (y102.set (x5_1 : Int).toNat (⟨(rd_T46 y102 x5_1).f0, (rd_T46 y102 x5_1).f1, floatOfInt .f32 (wrap64 ((wrap64 (x1_1 + 1)) + 1))⟩ : S46)) (wrap64 ((wrap64 ((wrap64 (x1_1 + 1)) + 1)) + 1)) (wrap64 (x5_1 + 1))) = some (r1, r2) := by first | (rw [hy102]; with_reducible exact H) | (have H2_ := (Option.bind_some _ _).symm.trans H; rw [hy102]; with_reducible exact H2_) | (have H2_ := (Option.bind_some _ _).symm.trans H; with_reducible exact H2_) | with_reducible exact H | (rw [hy102]; exact H) | exact H
          have Ny102 := Aside0.mk hy102
          clear hy102
          obtain ⟨y103, hy103⟩ : ∃ y_ : List (S46), y_ = (y102.set (x5_1 : Int).toNat (⟨(rd_T46 y102 x5_1).f0, (rd_T46 y102 x5_1).f1, floatOfInt .f32 (wrap64 ((wrap64 (x1_1 + 1)) + 1))⟩ : S46)) := ⟨_, rfl⟩
          replace H : (laws_markVectorS.l0 k1 y103 (wrap64 ((wrap64 ((wrap64 (x1_1 + 1)) + 1)) + 1)) (wrap64 (x5_1 + 1))) = some (r1, r2) := by first | (rw [hy103]; with_reducible exact H) | (have H2_ := (Option.bind_some _ _).symm.trans H; rw [hy103]; with_reducible exact H2_) | (have H2_ := (Option.bind_some _ _).symm.trans H; with_reducible exact H2_) | with_reducible exact H | (rw [hy103]; exact H) | exact H
          have Ny103 := Aside0.mk hy103
          clear hy103
          have H' := Aside0.mk H
          clear H
          obtain ⟨Ao8, co8, eo8⟩ := Kd.R_slice HO_0.out
          subst eo8
          have p5 : 0 ≤ (x5_1 : Int) := of_decide_eq_true (by first | (with_reducible assumption) | assumption)
          have q5 : (x5_1 : Int) < ((x0_1.length : Int) : Int) := of_decide_eq_true (by first | (with_reducible assumption) | assumption)
          obtain ⟨go5, co5, eo5, gb5, gl5, cl5, HG5⟩ := Kd.R_form HO_0.out (by omega)
          (first | cases eo5 | (injection eo5 with ea_ en_ ec_; (first | subst ea_ | (injection ea_ with ea_; subst ea_)); subst ec_; clear en_))
          have GB5 := Aside0.mk gb5
          have GG5 := Aside0.mk HG5
          clear gb5 gl5 HG5
          have HMgo5 := Aside0.mk (show (P0_ go5 ∨ w.heap.size ≤ go5) from (HO_0.out.1 _ rfl))
          obtain ⟨ce5, hcl5, hM5, hcc5, hfr5⟩ := Kd.R_elem HO_0.out z46 (x5_1 : Int) p5 q5
          obtain rfl := k46_openM hM5
          have hx5_0 : wr.cell? ⟨go5, (x5_1 : Int).toNat * 3, none⟩ = some (.float .f32 ((rd_T46 x0_1 x5_1).f0)) := hcc5 0 _ rfl
          have hx5_1 : wr.cell? ⟨go5, (x5_1 : Int).toNat * 3 + 1, none⟩ = some (.float .f32 ((rd_T46 x0_1 x5_1).f1)) := hcc5 1 _ rfl
          have hx5_2 : wr.cell? ⟨go5, (x5_1 : Int).toNat * 3 + 2, none⟩ = some (.float .f32 ((rd_T46 x0_1 x5_1).f2)) := hcc5 2 _ rfl
          have hf5_0 : wr.frozen? ⟨go5, (x5_1 : Int).toNat * 3, none⟩ = false := hfr5 0
          have hf5_1 : wr.frozen? ⟨go5, (x5_1 : Int).toNat * 3 + 1, none⟩ = false := hfr5 1
          have hf5_2 : wr.frozen? ⟨go5, (x5_1 : Int).toNat * 3 + 2, none⟩ = false := hfr5 2
          clear hcl5 hcc5 hfr5 hM5
          replace p5 := eq_true p5
          replace q5 := eq_true q5
          have HX9 := Aside0.mk (show Kd.R k46 46 wr w0.heap.size (fun k_ => (P0_ k_ ∨ w.heap.size ≤ k_)) (.slice (some ⟨go5, 0, none⟩) x0_1.length co8) x0_1 from (by (with_reducible repeat (first | apply Kd.R_alloc | apply Kd.R_drewN | apply Kd.R_drew)); exact HO_0.out))
          obtain ⟨ce9, hcl9, hM9, hcc9, hfr9⟩ := Kd.R_elem HX9.out z46 (x5_1 : Int) (of_decide_eq_true (by first | (with_reducible assumption) | assumption)) (by have h_ : (x5_1 : Int) < ((x0_1.length : Int) : Int) := of_decide_eq_true (by first | (with_reducible assumption) | assumption); first | exact h_ | (have e_ := (Kd.R_reads' HO_0.out).1; omega) | simpa using h_)
          obtain rfl := k46_openM hM9
          have HP9 := Kd.R_seg HX9.out (x5_1 : Int) (of_decide_eq_true (by first | (with_reducible assumption) | assumption)) (by have h_ : (x5_1 : Int) < ((x0_1.length : Int) : Int) := of_decide_eq_true (by first | (with_reducible assumption) | assumption); first | exact h_ | (have e_ := (Kd.R_reads' HO_0.out).1; omega) | simpa using h_) (seg := [.float .f32 (floatOfInt .f32 x1_1)]) (j := 0) hcl9 hcc9 (show 1 ≤ 3 from by decide) (x' := (⟨floatOfInt .f32 x1_1, (rd_T46 x0_1 x5_1).f1, (rd_T46 x0_1 x5_1).f2⟩ : S46)) (k46_mkM _ _ _ (⟨floatOfInt .f32 x1_1, (rd_T46 x0_1 x5_1).f1, (rd_T46 x0_1 x5_1).f2⟩ : S46) ) (fun _ hk => hk)
          have hx9_0 := hcc9 0 _ rfl
          (try simp only [show (k46).sz = 3 from rfl, Nat.mul_one, Nat.add_zero] at hx9_0)
          have hf9_0 := hfr9 0
          (try simp only [show (k46).sz = 3 from rfl, Nat.mul_one, Nat.add_zero] at hf9_0)
          clear hcl9 hcc9 hfr9 hM9
          go_wp2_with (first | ((with_reducible refine gate_store (t := 23) (p := 17) rfl ?_); refine store_event (t := 23) (p := 17) (v := ?vo_w10) (w1 := (wr.setCell ⟨go5, (x5_1 : Int).toNat * 3, none⟩ (.float .f32 (floatOfInt .f32 x1_1)))) ?hg ?ho ?hn ?hr ?_; (case ho => rfl); (case hg => rfl); (case hn => rfl); (case hr => first | (go_simp; done) | (go_simp; rfl)); intro w10 hw; have hg : wr.grownBy w10 (some go5) := (by rw [hw]; exact HP9.2); have hp_ : Kd.R k46 46 w10 w0.heap.size (fun k_ => (P0_ k_ ∨ w.heap.size ≤ k_)) (.slice (some ⟨go5, 0, none⟩) x0_1.length co8) y101 := (by rw [hw, Ny101.out]; exact HP9.1); clear HP9; have n0_ := Aside0.mk (hp_); have n1_ := Aside0.mk ((by rw [hw]; exact below_set (HB.out) GB5.out : Below w0.heap.size w0 w10)); have n2_ := Aside0.mk (Kept.of_grown (S := (fun k_ => P0_ k_)) hg (by repeat (first | (with_reducible first | exact HK.out | apply Kept.alloc | apply Kept.drewN | apply Kept.drew) | exact HK.out)) (fun k_ e_ => (HO_0.out.1 k_ e_))); clear HO_0; clear HB; clear HK; have HO_0 := n0_; have HB := n1_; have HK := n2_; clear n0_ n1_ n2_; clear hg hw hp_; have p6 : 0 ≤ (x5_1 : Int) := of_decide_eq_true (by first | (with_reducible assumption) | assumption); have q6 : (x5_1 : Int) < ((x0_1.length : Int) : Int) := of_decide_eq_true (by first | (with_reducible assumption) | assumption); obtain ⟨ce6, hcl6, hM6, hcc6, hfr6⟩ := Kd.R_elem HO_0.out z46 (x5_1 : Int) p6 q6; obtain rfl := k46_openM hM6; have hx6_0 : w10.cell? ⟨go5, (x5_1 : Int).toNat * 3, none⟩ = some (.float .f32 ((rd_T46 y101 x5_1).f0)) := hcc6 0 _ rfl; have hx6_1 : w10.cell? ⟨go5, (x5_1 : Int).toNat * 3 + 1, none⟩ = some (.float .f32 ((rd_T46 y101 x5_1).f1)) := hcc6 1 _ rfl; have hx6_2 : w10.cell? ⟨go5, (x5_1 : Int).toNat * 3 + 2, none⟩ = some (.float .f32 ((rd_T46 y101 x5_1).f2)) := hcc6 2 _ rfl; have hf6_0 : w10.frozen? ⟨go5, (x5_1 : Int).toNat * 3, none⟩ = false := hfr6 0; have hf6_1 : w10.frozen? ⟨go5, (x5_1 : Int).toNat * 3 + 1, none⟩ = false := hfr6 1; have hf6_2 : w10.frozen? ⟨go5, (x5_1 : Int).toNat * 3 + 2, none⟩ = false := hfr6 2; clear hcl6 hcc6 hfr6 hM6; replace p6 := eq_true p6; replace q6 := eq_true q6; have HX11 := Aside0.mk (show Kd.R k46 46 w10 w0.heap.size (fun k_ => (P0_ k_ ∨ w.heap.size ≤ k_)) (.slice (some ⟨go5, 0, none⟩) x0_1.length co8) y101 from (by (with_reducible repeat (first | apply Kd.R_alloc | apply Kd.R_drewN | apply Kd.R_drew)); exact HO_0.out)); obtain ⟨ce11, hcl11, hM11, hcc11, hfr11⟩ := Kd.R_elem HX11.out z46 (x5_1 : Int) (of_decide_eq_true (by first | (with_reducible assumption) | assumption)) (by have h_ : (x5_1 : Int) < ((x0_1.length : Int) : Int) := of_decide_eq_true (by first | (with_reducible assumption) | assumption); first | exact h_ | (have e_ := (Kd.R_reads' HO_0.out).1; omega) | simpa using h_); obtain rfl := k46_openM hM11; have HP11 := Kd.R_seg HX11.out (x5_1 : Int) (of_decide_eq_true (by first | (with_reducible assumption) | assumption)) (by have h_ : (x5_1 : Int) < ((x0_1.length : Int) : Int) := of_decide_eq_true (by first | (with_reducible assumption) | assumption); first | exact h_ | (have e_ := (Kd.R_reads' HO_0.out).1; omega) | simpa using h_) (seg := [.float .f32 (floatOfInt .f32 (wrap64 (x1_1 + 1)))]) (j := 1) hcl11 hcc11 (show 2 ≤ 3 from by decide) (x' := (⟨(rd_T46 y101 x5_1).f0, floatOfInt .f32 (wrap64 (x1_1 + 1)), (rd_T46 y101 x5_1).f2⟩ : S46)) (k46_mkM _ _ _ (⟨(rd_T46 y101 x5_1).f0, floatOfInt .f32 (wrap64 (x1_1 + 1)), (rd_T46 y101 x5_1).f2⟩ : S46) ) (fun _ hk => hk); have hx11_1 := hcc11 1 _ rfl; (try simp only [show (k46).sz = 3 from rfl, Nat.mul_one, Nat.add_zero] at hx11_1); have hf11_1 := hfr11 1; (try simp only [show (k46).sz = 3 from rfl, Nat.mul_one, Nat.add_zero] at hf11_1); clear hcl11 hcc11 hfr11 hM11) | ((with_reducible refine gate_store (t := 23) (p := 25) rfl ?_); refine store_event (t := 23) (p := 25) (v := ?vo_w12) (w1 := (w10.setCell ⟨go5, (x5_1 : Int).toNat * 3 + 1, none⟩ (.float .f32 (floatOfInt .f32 (wrap64 (x1_1 + 1)))))) ?hg ?ho ?hn ?hr ?_; (case ho => rfl); (case hg => rfl); (case hn => rfl); (case hr => first | (go_simp; done) | (go_simp; rfl)); intro w12 hw; have hg : w10.grownBy w12 (some go5) := (by rw [hw]; exact HP11.2); have hp_ : Kd.R k46 46 w12 w0.heap.size (fun k_ => (P0_ k_ ∨ w.heap.size ≤ k_)) (.slice (some ⟨go5, 0, none⟩) x0_1.length co8) y102 := (by rw [hw, Ny102.out]; exact HP11.1); clear HP11; have n0_ := Aside0.mk (hp_); have n1_ := Aside0.mk ((by rw [hw]; exact below_set (HB.out) GB5.out : Below w0.heap.size w0 w12)); have n2_ := Aside0.mk (Kept.of_grown (S := (fun k_ => P0_ k_)) hg (by repeat (first | (with_reducible first | exact HK.out | apply Kept.alloc | apply Kept.drewN | apply Kept.drew) | exact HK.out)) (fun k_ e_ => (HO_0.out.1 k_ e_))); clear HO_0; clear HB; clear HK; have HO_0 := n0_; have HB := n1_; have HK := n2_; clear n0_ n1_ n2_; clear hg hw hp_; have p7 : 0 ≤ (x5_1 : Int) := of_decide_eq_true (by first | (with_reducible assumption) | assumption); have q7 : (x5_1 : Int) < ((x0_1.length : Int) : Int) := of_decide_eq_true (by first | (with_reducible assumption) | assumption); obtain ⟨ce7, hcl7, hM7, hcc7, hfr7⟩ := Kd.R_elem HO_0.out z46 (x5_1 : Int) p7 q7; obtain rfl := k46_openM hM7; have hx7_0 : w12.cell? ⟨go5, (x5_1 : Int).toNat * 3, none⟩ = some (.float .f32 ((rd_T46 y102 x5_1).f0)) := hcc7 0 _ rfl; have hx7_1 : w12.cell? ⟨go5, (x5_1 : Int).toNat * 3 + 1, none⟩ = some (.float .f32 ((rd_T46 y102 x5_1).f1)) := hcc7 1 _ rfl; have hx7_2 : w12.cell? ⟨go5, (x5_1 : Int).toNat * 3 + 2, none⟩ = some (.float .f32 ((rd_T46 y102 x5_1).f2)) := hcc7 2 _ rfl; have hf7_0 : w12.frozen? ⟨go5, (x5_1 : Int).toNat * 3, none⟩ = false := hfr7 0; have hf7_1 : w12.frozen? ⟨go5, (x5_1 : Int).toNat * 3 + 1, none⟩ = false := hfr7 1; have hf7_2 : w12.frozen? ⟨go5, (x5_1 : Int).toNat * 3 + 2, none⟩ = false := hfr7 2; clear hcl7 hcc7 hfr7 hM7; replace p7 := eq_true p7; replace q7 := eq_true q7; have HX13 := Aside0.mk (show Kd.R k46 46 w12 w0.heap.size (fun k_ => (P0_ k_ ∨ w.heap.size ≤ k_)) (.slice (some ⟨go5, 0, none⟩) x0_1.length co8) y102 from (by (with_reducible repeat (first | apply Kd.R_alloc | apply Kd.R_drewN | apply Kd.R_drew)); exact HO_0.out)); obtain ⟨ce13, hcl13, hM13, hcc13, hfr13⟩ := Kd.R_elem HX13.out z46 (x5_1 : Int) (of_decide_eq_true (by first | (with_reducible assumption) | assumption)) (by have h_ : (x5_1 : Int) < ((x0_1.length : Int) : Int) := of_decide_eq_true (by first | (with_reducible assumption) | assumption); first | exact h_ | (have e_ := (Kd.R_reads' HO_0.out).1; omega) | simpa using h_); obtain rfl := k46_openM hM13; have HP13 := Kd.R_seg HX13.out (x5_1 : Int) (of_decide_eq_true (by first | (with_reducible assumption) | assumption)) (by have h_ : (x5_1 : Int) < ((x0_1.length : Int) : Int) := of_decide_eq_true (by first | (with_reducible assumption) | assumption); first | exact h_ | (have e_ := (Kd.R_reads' HO_0.out).1; omega) | simpa using h_) (seg := [.float .f32 (floatOfInt .f32 (wrap64 ((wrap64 (x1_1 + 1)) + 1)))]) (j := 2) hcl13 hcc13 (show 3 ≤ 3 from by decide) (x' := (⟨(rd_T46 y102 x5_1).f0, (rd_T46 y102 x5_1).f1, floatOfInt .f32 (wrap64 ((wrap64 (x1_1 + 1)) + 1))⟩ : S46)) (k46_mkM _ _ _ (⟨(rd_T46 y102 x5_1).f0, (rd_T46 y102 x5_1).f1, floatOfInt .f32 (wrap64 ((wrap64 (x1_1 + 1)) + 1))⟩ : S46) ) (fun _ hk => hk); have hx13_2 := hcc13 2 _ rfl; (try simp only [show (k46).sz = 3 from rfl, Nat.mul_one, Nat.add_zero] at hx13_2); have hf13_2 := hfr13 2; (try simp only [show (k46).sz = 3 from rfl, Nat.mul_one, Nat.add_zero] at hf13_2); clear hcl13 hcc13 hfr13 hM13) | ((with_reducible refine gate_store (t := 23) (p := 33) rfl ?_); refine store_event (t := 23) (p := 33) (v := ?vo_w14) (w1 := (w12.setCell ⟨go5, (x5_1 : Int).toNat * 3 + 2, none⟩ (.float .f32 (floatOfInt .f32 (wrap64 ((wrap64 (x1_1 + 1)) + 1)))))) ?hg ?ho ?hn ?hr ?_; (case ho => rfl); (case hg => rfl); (case hn => rfl); (case hr => first | (go_simp; done) | (go_simp; rfl)); intro w14 hw; have hg : w12.grownBy w14 (some go5) := (by rw [hw]; exact HP13.2); have hp_ : Kd.R k46 46 w14 w0.heap.size (fun k_ => (P0_ k_ ∨ w.heap.size ≤ k_)) (.slice (some ⟨go5, 0, none⟩) x0_1.length co8) y103 := (by rw [hw, Ny103.out]; exact HP13.1); clear HP13; have n0_ := Aside0.mk (hp_); have n1_ := Aside0.mk ((by rw [hw]; exact below_set (HB.out) GB5.out : Below w0.heap.size w0 w14)); have n2_ := Aside0.mk (Kept.of_grown (S := (fun k_ => P0_ k_)) hg (by repeat (first | (with_reducible first | exact HK.out | apply Kept.alloc | apply Kept.drewN | apply Kept.drew) | exact HK.out)) (fun k_ e_ => (HO_0.out.1 k_ e_))); clear HO_0; clear HB; clear HK; have HO_0 := n0_; have HB := n1_; have HK := n2_; clear n0_ n1_ n2_; clear hg hw hp_))
          go_roundg k1
          case measure => have := HK1.out; omega
          case rel => exact ⟨(y103), (wrap64 ((wrap64 ((wrap64 (x1_1 + 1)) + 1)) + 1)), (wrap64 (x5_1 + 1)), (by first | rfl | (simp; done) | (simp [*]; done)), (by first | rfl | (simp; done) | (simp [*]; done)), H', ⟨by have := HK1.out; omega⟩, ⟨by (with_reducible repeat (first | apply Kd.R_alloc | apply Kd.R_drewN | apply Kd.R_drew)); exact HO_0.out⟩, ⟨by repeat (first | (with_reducible first | exact HK.out | apply Kept.alloc | apply Kept.drewN | apply Kept.drew) | exact HK.out)⟩, ⟨by repeat (first | (with_reducible first | exact HB.out | apply below_alloc | apply pw_below_drewN | apply below_drew1) | exact HB.out)⟩⟩
        · rw [if_neg c4] at H
          exact absurd H (by simp)
      · rw [if_neg c3] at H
        have c3b0 : decide (x5_1 < (x0_1.length : Int)) = false := decide_eq_false c3
        clear c3
        simp only [Option.some.injEq, Prod.mk.injEq] at H
        obtain ⟨rfl, rfl⟩ := H
        obtain ⟨Ao15, co15, eo15⟩ := Kd.R_slice HO_0.out
        subst eo15
        go_wp2
        go_ret
        exact ⟨by first | rfl | (simp [errW_none, errW_some] <;> rfl) | (simp [*, errW_none, errW_some] <;> rfl), by (with_reducible repeat (first | apply Kd.R_alloc | apply Kd.R_drewN | apply Kd.R_drew)); exact HO_0.out, by repeat (first | (with_reducible first | exact HB.out | apply below_alloc | apply pw_below_drewN | apply below_drew1) | exact HB.out), by repeat (first | (with_reducible first | exact HK.out | apply Kept.alloc | apply Kept.drewN | apply Kept.drew) | exact HK.out)⟩
def laws_heldVectorS.l0 : Nat → List (S46) → Int → Int → Option (Int)
  | 0, _, _, _ => none
  | k + 1, x0, x1, x5 => if x5 < (x0.length : Int) then (if 0 ≤ x5 then (if (FloatKind.f32.format.order ((rd_T46 x0 x5).f0) (floatOfInt .f32 x1) != some .eq) = true then (some (-1)) else (if (FloatKind.f32.format.order ((rd_T46 x0 x5).f1) (floatOfInt .f32 (wrap64 (x1 + 1))) != some .eq) = true then (some (-1)) else (if (FloatKind.f32.format.order ((rd_T46 x0 x5).f2) (floatOfInt .f32 (wrap64 ((wrap64 (x1 + 1)) + 1))) != some .eq) = true then (some (-1)) else (laws_heldVectorS.l0 k x0 (wrap64 ((wrap64 ((wrap64 (x1 + 1)) + 1)) + 1)) (wrap64 (x5 + 1)))))) else (none)) else (some x1)
def laws_heldVectorS.f (k : Nat) (l0 : List (S46)) (a1 : Int) : Option (Int) := laws_heldVectorS.l0 k l0 a1 0
theorem laws_heldVectorS.mono_l : ∀ k, (∀ y0 y1 y2, LeO (laws_heldVectorS.l0 k y0 y1 y2) (laws_heldVectorS.l0 (k + 1) y0 y1 y2))
  | 0 => fun _ _ _ r h => by simp [laws_heldVectorS.l0] at h
  | k + 1 => by
    have ih0 := laws_heldVectorS.mono_l k
    · intro y0 y1 y2
      unfold laws_heldVectorS.l0
      repeat' first
      | (with_reducible exact ih0 _ _ _)
      | (with_reducible exact LeO.refl _)
      | (with_reducible exact LeO.none _)
      | (with_reducible refine LeO.ite ?_ ?_)
      | (with_reducible refine LeO.bind ?_ (fun _ => ?_))
      | exact ih0 _ _ _
      | exact LeO.none _
      | refine LeO.ite ?_ ?_
      | refine LeO.bind ?_ (fun _ => ?_)
theorem laws_heldVectorS.mono : ∀ a0 a1 k, LeO (laws_heldVectorS.f k a0 a1) (laws_heldVectorS.f (k + 1) a0 a1) := by
  intro a0 a1 k
  have ih0 := laws_heldVectorS.mono_l k
  unfold laws_heldVectorS.f
  repeat' first
      | (with_reducible exact ih0 _ _ _)
      | (with_reducible exact LeO.refl _)
      | (with_reducible exact LeO.none _)
      | (with_reducible refine LeO.ite ?_ ?_)
      | (with_reducible refine LeO.bind ?_ (fun _ => ?_))
      | exact ih0 _ _ _
      | exact LeO.none _
      | refine LeO.ite ?_ ?_
      | refine LeO.bind ?_ (fun _ => ?_)
set_option maxHeartbeats 8000000 in
set_option maxRecDepth 100000 in
theorem laws_heldVectorS.calls (k : Nat) (A0 : Option Addr) (c0 : Nat) (l0 : List (S46)) (a1 : Int) (r : Int) (w : World) (hr0 : Kd.C k46 w A0 l0.length l0) (hc0 : l0.length ≤ c0) (h : laws_heldVectorS.f k l0 a1 = some r) :
    Calls Try.prog 89 #[.slice A0 l0.length c0, .int .i64 a1] w fun e w' => e = .returned (.int .i64 r) ∧ Drawn0 w w' := by
  have HR0 := Aside0.mk hr0
  have HC0 := Aside0.mk hc0
  clear hr0 hc0
  have H : (laws_heldVectorS.l0 k l0 a1 0) = some r := h
  clear h
  have H' := Aside0.mk H
  clear H
  go_enter Try.func89, Try.ntmps89
  go_wp2
  go_loopg [1, 5] k (fun kq v1 v5 w' => ∃ (x1_1 : Int) (x5_1 : Int), v1 = .int .i64 x1_1 ∧ v5 = .int .i64 x5_1 ∧ Aside0 (laws_heldVectorS.l0 kq l0 x1_1 x5_1 = some r) ∧ Aside0 (kq ≤ k) ∧ Drawn0 w w')
  case atStart => exact ⟨(a1), (0), (by first | rfl | (simp; done) | (simp [*]; done)), (by first | rfl | (simp; done) | (simp [*]; done)), H', ⟨Nat.le_refl _⟩, by repeat (first | exact Drawn0.refl _ | apply Drawn0.step)⟩
  case round =>
    clear H'
    try clear p2
    obtain ⟨x1_1, x5_1, rfl, rfl, HA, HK1, ⟨m1, rfl⟩⟩ := hrel
    cases gk with
    | zero => exact absurd HA.out (by simp [laws_heldVectorS.l0])
    | succ k1 =>
      have H := HA.out
      clear HA
      simp only [laws_heldVectorS.l0] at H
      by_cases c3 : x5_1 < (l0.length : Int)
      · rw [if_pos c3] at H
        have c3b0 : decide (x5_1 < (l0.length : Int)) = true := decide_eq_true c3
        clear c3
        by_cases c4 : 0 ≤ x5_1
        · rw [if_pos c4] at H
          have c4b0 : decide (0 ≤ x5_1) = true := decide_eq_true c4
          clear c4
          by_cases c5 : (FloatKind.f32.format.order ((rd_T46 l0 x5_1).f0) (floatOfInt .f32 x1_1) != some .eq) = true
          · rw [if_pos c5] at H
            have c5b0 : (FloatKind.f32.format.order ((rd_T46 l0 x5_1).f0) (floatOfInt .f32 x1_1) != some .eq) = true := c5
            (try (have c5b1 : decide (FloatKind.f32.format.order ((rd_T46 l0 x5_1).f0) (floatOfInt .f32 x1_1) = some .eq) = false := by simpa using c5))
            (try (have c5b2 : (FloatKind.f32.format.order ((rd_T46 l0 x5_1).f0) (floatOfInt .f32 x1_1) == some .eq) = false := by simpa using c5))
            (try (have c5b3 : ¬ (FloatKind.f32.format.order ((rd_T46 l0 x5_1).f0) (floatOfInt .f32 x1_1) = some .eq) := by simpa using c5))
            clear c5
            obtain rfl := Option.some.inj H
            have p107 : 0 ≤ (x5_1 : Int) := of_decide_eq_true (by first | (with_reducible assumption) | assumption)
            have q107 : x5_1 < (l0.length : Int) := of_decide_eq_true (by first | (with_reducible assumption) | assumption)
            obtain ⟨ad107, e107, hx107_0, hx107_1, hx107_2⟩ := at_T46 HR0.out x5_1 p107 q107
            cases e107
            replace p107 := eq_true p107
            replace q107 := eq_true q107
            go_wp2
            go_ret
            exact ⟨by first | rfl | (simp; done) | (simp [*]; done), by repeat (first | exact Drawn0.refl _ | apply Drawn0.step)⟩
          · rw [if_neg c5] at H
            have c5b0 : (FloatKind.f32.format.order ((rd_T46 l0 x5_1).f0) (floatOfInt .f32 x1_1) != some .eq) = false := by simpa using c5
            (try (have c5b1 : decide (FloatKind.f32.format.order ((rd_T46 l0 x5_1).f0) (floatOfInt .f32 x1_1) = some .eq) = true := by simpa using c5))
            (try (have c5b2 : (FloatKind.f32.format.order ((rd_T46 l0 x5_1).f0) (floatOfInt .f32 x1_1) == some .eq) = true := by simpa using c5))
            clear c5
            by_cases c6 : (FloatKind.f32.format.order ((rd_T46 l0 x5_1).f1) (floatOfInt .f32 (wrap64 (x1_1 + 1))) != some .eq) = true
            · rw [if_pos c6] at H
              have c6b0 : (FloatKind.f32.format.order ((rd_T46 l0 x5_1).f1) (floatOfInt .f32 (wrap64 (x1_1 + 1))) != some .eq) = true := c6
              (try (have c6b1 : decide (FloatKind.f32.format.order ((rd_T46 l0 x5_1).f1) (floatOfInt .f32 (wrap64 (x1_1 + 1))) = some .eq) = false := by simpa using c6))
              (try (have c6b2 : (FloatKind.f32.format.order ((rd_T46 l0 x5_1).f1) (floatOfInt .f32 (wrap64 (x1_1 + 1))) == some .eq) = false := by simpa using c6))
              (try (have c6b3 : ¬ (FloatKind.f32.format.order ((rd_T46 l0 x5_1).f1) (floatOfInt .f32 (wrap64 (x1_1 + 1))) = some .eq) := by simpa using c6))
              clear c6
              obtain rfl := Option.some.inj H
              have p107 : 0 ≤ (x5_1 : Int) := of_decide_eq_true (by first | (with_reducible assumption) | assumption)
              have q107 : x5_1 < (l0.length : Int) := of_decide_eq_true (by first | (with_reducible assumption) | assumption)
              obtain ⟨ad107, e107, hx107_0, hx107_1, hx107_2⟩ := at_T46 HR0.out x5_1 p107 q107
              cases e107
              replace p107 := eq_true p107
              replace q107 := eq_true q107
              have p108 : 0 ≤ (x5_1 : Int) := of_decide_eq_true (by first | (with_reducible assumption) | assumption)
              have q108 : x5_1 < (l0.length : Int) := of_decide_eq_true (by first | (with_reducible assumption) | assumption)
              obtain ⟨ad108, e108, hx108_0, hx108_1, hx108_2⟩ := at_T46 HR0.out x5_1 p108 q108
              obtain rfl : ad107 = ad108 := (by injection e108)
              replace p108 := eq_true p108
              replace q108 := eq_true q108
              go_wp2
              go_ret
              exact ⟨by first | rfl | (simp; done) | (simp [*]; done), by repeat (first | exact Drawn0.refl _ | apply Drawn0.step)⟩
            · rw [if_neg c6] at H
              have c6b0 : (FloatKind.f32.format.order ((rd_T46 l0 x5_1).f1) (floatOfInt .f32 (wrap64 (x1_1 + 1))) != some .eq) = false := by simpa using c6
              (try (have c6b1 : decide (FloatKind.f32.format.order ((rd_T46 l0 x5_1).f1) (floatOfInt .f32 (wrap64 (x1_1 + 1))) = some .eq) = true := by simpa using c6))
              (try (have c6b2 : (FloatKind.f32.format.order ((rd_T46 l0 x5_1).f1) (floatOfInt .f32 (wrap64 (x1_1 + 1))) == some .eq) = true := by simpa using c6))
              clear c6
              by_cases c7 : (FloatKind.f32.format.order ((rd_T46 l0 x5_1).f2) (floatOfInt .f32 (wrap64 ((wrap64 (x1_1 + 1)) + 1))) != some .eq) = true
              · rw [if_pos c7] at H
                have c7b0 : (FloatKind.f32.format.order ((rd_T46 l0 x5_1).f2) (floatOfInt .f32 (wrap64 ((wrap64 (x1_1 + 1)) + 1))) != some .eq) = true := c7
                (try (have c7b1 : decide (FloatKind.f32.format.order ((rd_T46 l0 x5_1).f2) (floatOfInt .f32 (wrap64 ((wrap64 (x1_1 + 1)) + 1))) = some .eq) = false := by simpa using c7))
                (try (have c7b2 : (FloatKind.f32.format.order ((rd_T46 l0 x5_1).f2) (floatOfInt .f32 (wrap64 ((wrap64 (x1_1 + 1)) + 1))) == some .eq) = false := by simpa using c7))
                (try (have c7b3 : ¬ (FloatKind.f32.format.order ((rd_T46 l0 x5_1).f2) (floatOfInt .f32 (wrap64 ((wrap64 (x1_1 + 1)) + 1))) = some .eq) := by simpa using c7))
                clear c7
                obtain rfl := Option.some.inj H
                have p107 : 0 ≤ (x5_1 : Int) := of_decide_eq_true (by first | (with_reducible assumption) | assumption)
                have q107 : x5_1 < (l0.length : Int) := of_decide_eq_true (by first | (with_reducible assumption) | assumption)
                obtain ⟨ad107, e107, hx107_0, hx107_1, hx107_2⟩ := at_T46 HR0.out x5_1 p107 q107
                cases e107
                replace p107 := eq_true p107
                replace q107 := eq_true q107
                have p108 : 0 ≤ (x5_1 : Int) := of_decide_eq_true (by first | (with_reducible assumption) | assumption)
                have q108 : x5_1 < (l0.length : Int) := of_decide_eq_true (by first | (with_reducible assumption) | assumption)
                obtain ⟨ad108, e108, hx108_0, hx108_1, hx108_2⟩ := at_T46 HR0.out x5_1 p108 q108
                obtain rfl : ad107 = ad108 := (by injection e108)
                replace p108 := eq_true p108
                replace q108 := eq_true q108
                have p109 : 0 ≤ (x5_1 : Int) := of_decide_eq_true (by first | (with_reducible assumption) | assumption)
                have q109 : x5_1 < (l0.length : Int) := of_decide_eq_true (by first | (with_reducible assumption) | assumption)
                obtain ⟨ad109, e109, hx109_0, hx109_1, hx109_2⟩ := at_T46 HR0.out x5_1 p109 q109
                obtain rfl : ad107 = ad109 := (by injection e109)
                replace p109 := eq_true p109
                replace q109 := eq_true q109
                go_wp2
                go_ret
                exact ⟨by first | rfl | (simp; done) | (simp [*]; done), by repeat (first | exact Drawn0.refl _ | apply Drawn0.step)⟩
              · rw [if_neg c7] at H
                have c7b0 : (FloatKind.f32.format.order ((rd_T46 l0 x5_1).f2) (floatOfInt .f32 (wrap64 ((wrap64 (x1_1 + 1)) + 1))) != some .eq) = false := by simpa using c7
                (try (have c7b1 : decide (FloatKind.f32.format.order ((rd_T46 l0 x5_1).f2) (floatOfInt .f32 (wrap64 ((wrap64 (x1_1 + 1)) + 1))) = some .eq) = true := by simpa using c7))
                (try (have c7b2 : (FloatKind.f32.format.order ((rd_T46 l0 x5_1).f2) (floatOfInt .f32 (wrap64 ((wrap64 (x1_1 + 1)) + 1))) == some .eq) = true := by simpa using c7))
                clear c7
                have H' := Aside0.mk H
                clear H
                have p107 : 0 ≤ (x5_1 : Int) := of_decide_eq_true (by first | (with_reducible assumption) | assumption)
                have q107 : x5_1 < (l0.length : Int) := of_decide_eq_true (by first | (with_reducible assumption) | assumption)
                obtain ⟨ad107, e107, hx107_0, hx107_1, hx107_2⟩ := at_T46 HR0.out x5_1 p107 q107
                cases e107
                replace p107 := eq_true p107
                replace q107 := eq_true q107
                have p108 : 0 ≤ (x5_1 : Int) := of_decide_eq_true (by first | (with_reducible assumption) | assumption)
                have q108 : x5_1 < (l0.length : Int) := of_decide_eq_true (by first | (with_reducible assumption) | assumption)
                obtain ⟨ad108, e108, hx108_0, hx108_1, hx108_2⟩ := at_T46 HR0.out x5_1 p108 q108
                obtain rfl : ad107 = ad108 := (by injection e108)
                replace p108 := eq_true p108
                replace q108 := eq_true q108
                have p109 : 0 ≤ (x5_1 : Int) := of_decide_eq_true (by first | (with_reducible assumption) | assumption)
                have q109 : x5_1 < (l0.length : Int) := of_decide_eq_true (by first | (with_reducible assumption) | assumption)
                obtain ⟨ad109, e109, hx109_0, hx109_1, hx109_2⟩ := at_T46 HR0.out x5_1 p109 q109
                obtain rfl : ad107 = ad109 := (by injection e109)
                replace p109 := eq_true p109
                replace q109 := eq_true q109
                go_wp2
                go_roundg k1
                case measure => have := HK1.out; omega
                case rel => exact ⟨(wrap64 ((wrap64 ((wrap64 (x1_1 + 1)) + 1)) + 1)), (wrap64 (x5_1 + 1)), (by first | rfl | (simp; done) | (simp [*]; done)), (by first | rfl | (simp; done) | (simp [*]; done)), H', ⟨by have := HK1.out; omega⟩, by repeat (first | exact Drawn0.refl _ | apply Drawn0.step)⟩
        · rw [if_neg c4] at H
          exact absurd H (by simp)
      · rw [if_neg c3] at H
        have c3b0 : decide (x5_1 < (l0.length : Int)) = false := decide_eq_false c3
        clear c3
        obtain rfl := Option.some.inj H
        go_wp2
        go_ret
        exact ⟨by first | rfl | (simp; done) | (simp [*]; done), by repeat (first | exact Drawn0.refl _ | apply Drawn0.step)⟩
end Go.Proofs.Ytffofpiejcolfaa.L5
end
section
set_option linter.unusedVariables false
set_option linter.unusedSimpArgs false
namespace Go.Proofs.Ytffofpiejcolfaa
open Go.RowKit Go.Proofs.YtffofpiejcolfaaW.PrintWords Go.Proofs.YtffofpiejcolfaaW.PrintLast Go.Proofs.YtffofpiejcolfaaW.PrintMore
attribute [local go_sem] max2_int min2_int max_two min_two max_three min_three max_four min_four
namespace XM4
open XF XL XC L0 L3
theorem cell_of_block {w w' : World} {g o : Nat} (h : w'.heap[g]? = w.heap[g]?) : w'.cell? ⟨g, o, none⟩ = w.cell? ⟨g, o, none⟩ := by
  unfold World.cell?
  rw [h]
theorem frozen_of_block {w w' : World} {g o : Nat} (h : w'.heap[g]? = w.heap[g]?) : w'.frozen? ⟨g, o, none⟩ = w.frozen? ⟨g, o, none⟩ := by
  unfold World.frozen?
  rw [h]
def markTs (k : Nat) : List S31 → Int → Option (Int × List S31)
  | [], a => some (a, [])
  | t :: r, a => (L5.laws_markVectorS.f k t.f0 a).bind fun p => (markTs k r (wrap64 (p.1 + 1))).bind fun q => some (q.1, ⟨p.2, floatOfInt .f32 p.1⟩ :: q.2)
def markThreadS.f (k : Nat) (l0 : List S31) (a1 : Int) : Option (Int × List S31) := markTs k l0 a1
theorem mark_cons {k : Nat} {t : S31} {r : List S31} {a q : Int} {r' : List S31} (h : markTs k (t :: r) a = some (q, r')) : ∃ m l' r2, L5.laws_markVectorS.f k t.f0 a = some (m, l') ∧ markTs k r (wrap64 (m + 1)) = some (q, r2) ∧ r' = ⟨l', floatOfInt .f32 m⟩ :: r2 := by
  unfold markTs at h
  obtain ⟨⟨m, l'⟩, h1, h2⟩ := Option.bind_eq_some_iff.1 h
  obtain ⟨⟨q2, r2⟩, h3, h4⟩ := Option.bind_eq_some_iff.1 h2
  have h5 := Option.some.inj h4
  simp only [Prod.mk.injEq] at h5
  obtain ⟨rfl, rfl⟩ := h5
  exact ⟨m, l', r2, h1, h3, rfl⟩
set_option maxHeartbeats 4000000 in
set_option maxRecDepth 100000 in
theorem markThreadS.calls (k : Nat) (P0_ : Nat → Prop) (u9000_ : Value) (l0 : List S31) (a1 : Int) (r1 : Int) (r2 : List S31) (w0 w : World) (hB : Below w0.heap.size w0 w) (ho0 : Kd.S k31 31 w w0.heap.size P0_ u9000_ l0) (h : markThreadS.f k l0 a1 = some (r1, r2)) :
    Calls Try.prog 36 #[u9000_, .int .i64 a1] w fun e w' => e = .returned (.int .i64 r1) ∧ Kd.S k31 31 w' w0.heap.size (fun k_ => (P0_ k_ ∨ w.heap.size ≤ k_)) u9000_ r2 ∧ Below w0.heap.size w0 w' ∧ Kept w w' (fun k_ => P0_ k_) := by
  obtain ⟨A, c, rfl⟩ := Kd.S_slice ho0
  have hmx : l0.length ≤ 9223372036854775807 := Kd.C_max (Kd.S_reads' ho0).2.2
  have HS := Kd.S_mono (ok' := fun k_ => (P0_ k_ ∨ w.heap.size ≤ k_)) ho0 (fun _ hk => .inl hk)
  have hw0 := hB.size
  go_enter Try.func36, Try.ntmps36
  go_wp2
  go_loopg [1, 5] l0.length (fun kq v1 v5 w' => ∃ (i : Nat) (a : Int) (dn rs rt : List S31), v1 = .int .i64 a ∧ v5 = .int .i64 (i : Int) ∧ Aside0 (i + kq = l0.length ∧ dn.length = i ∧ dn.length + rs.length = l0.length) ∧ Aside0 (markTs k rs a = some (r1, rt) ∧ r2 = dn ++ rt) ∧ Aside0 (Kd.S k31 31 w' w0.heap.size (fun k_ => (P0_ k_ ∨ w.heap.size ≤ k_)) (.slice A l0.length c) (dn ++ rs)) ∧ Aside0 (Below w0.heap.size w0 w') ∧ Aside0 (Kept w w' (fun k_ => P0_ k_)))
  case atStart => exact ⟨0, a1, [], l0, r2, rfl, rfl, ⟨by simp⟩, ⟨h, rfl⟩, ⟨HS⟩, ⟨hB⟩, ⟨Kept.refl _ _⟩⟩
  case round =>
    clear HS ho0 hB h
    obtain ⟨i, a, dn, rs, rt, rfl, rfl, HI, HM, HO, HB, HK⟩ := hrel
    obtain ⟨hi1, hi2, hi3⟩ := HI.out
    obtain ⟨hm1, hm2⟩ := HM.out
    cases gk with
    | zero =>
      have hc : decide ((i : Int) < (l0.length : Int)) = false := by simp; omega
      obtain rfl : rs = [] := List.eq_nil_of_length_eq_zero (by omega)
      unfold markTs at hm1
      have h5 := Option.some.inj hm1
      simp only [Prod.mk.injEq] at h5
      obtain ⟨rfl, rfl⟩ := h5
      subst hm2
      go_wp2
      go_ret
      exact ⟨rfl, by simpa using HO.out, HB.out, HK.out⟩
    | succ k1 =>
      have hil : i < l0.length := by omega
      have hc : decide ((i : Int) < (l0.length : Int)) = true := by simp; omega
      have hwi : wrap64 ((i : Int) + 1) = ((i + 1 : Nat) : Int) := by unfold wrap64; omega
      have hilI : (i : Int) < (l0.length : Int) := by omega
      obtain ⟨x, rs', rfl⟩ : ∃ x rs', rs = x :: rs' := by
        cases rs with
        | nil => simp at hi3; omega
        | cons x r => exact ⟨x, r, rfl⟩
      obtain ⟨m, l', rt', hv, hr', hrt⟩ := mark_cons hm1
      clear hm1
      obtain ⟨g, cap, hu, hg0, hgl, cl, hgc⟩ := Kd.S_form HO.out (by rw [List.length_append]; simp; omega)
      injection hu with hu1 hu2 hu3
      subst hu1 hu3
      clear hu2
      obtain ⟨oki, ce, hcl, hM, hcc, hfr, hoki, hH⟩ := Kd.S_elem HO.out z31 (i : Int) (by omega) (by omega)
      have hx : (dn ++ x :: rs').getD (i : Int).toNat z31 = x := by
        rw [Int.toNat_natCast, List.getD_eq_getElem?_getD, List.getElem?_append_right (by omega), hi2, Nat.sub_self]
        rfl
      rw [hx] at hM
      obtain ⟨v0, rfl, hR0⟩ := k31_openM hM
      have hz0 : wr.cell? ⟨g, i * 2, none⟩ = some v0 := by
        have := hcc 0 _ rfl
        rw [Int.toNat_natCast, show (k31).sz = 2 from rfl, Nat.add_zero] at this
        exact this
      have hz1 : wr.cell? ⟨g, i * 2 + 1, none⟩ = some (.float .f32 x.f1) := by
        have := hcc 1 _ rfl
        rw [Int.toNat_natCast, show (k31).sz = 2 from rfl] at this
        exact this
      have hf1 : wr.frozen? ⟨g, i * 2 + 1, none⟩ = false := by
        have := hfr 1
        rw [Int.toNat_natCast, show (k31).sz = 2 from rfl] at this
        exact this
      have HH := Aside0.mk (Kd.H_widen hH)
      have HOK := Aside0.mk hoki
      have HR0 := Aside0.mk hR0
      have HGL := Aside0.mk hgl
      have HGC := Aside0.mk hgc
      obtain ⟨A2, c2, e2⟩ := Kd.R_slice hR0
      subst e2
      clear hcl hM hcc hfr hoki hH hR0 hgc
      obtain ⟨wo, rfl⟩ : ∃ wo, wo = wr := ⟨_, rfl⟩
      go_wp2_with (first | (go_at_call 88; refine (L5.laws_markVectorS.calls k oki (.slice A2 x.f0.length c2) x.f0 a m l' w0 _ HB.out HR0.out hv).mono ?_; rintro e w1 ⟨rfl, hr1, hb1, hk1⟩; have hgk := fun h => (HOK.out g h).2 rfl; have hz1' := (show w1.cell? ⟨g, i * 2 + 1, none⟩ = some (.float .f32 x.f1) from (cell_of_block (hk1.2 g HGL.out hgk)).trans hz1); have hf1' := (show w1.frozen? ⟨g, i * 2 + 1, none⟩ = false from (frozen_of_block (hk1.2 g HGL.out hgk)).trans hf1); clear hz1 hf1 hz0))
      go_roundg k1
      case measure => omega
      case rel =>
        have hP : ∀ k_, wo.heap.size ≤ k_ → w.heap.size ≤ k_ := fun k_ h => Nat.le_trans HK.out.1 h
        refine ⟨i + 1, wrap64 (m + 1), dn ++ [⟨l', floatOfInt .f32 m⟩], rs', rt', rfl, rfl, ⟨by omega, by simp; omega, by simp at hi3 ⊢; omega⟩, ⟨hr', by rw [hm2, hrt]; simp⟩, ⟨?_⟩, ⟨below_set hb1 hg0⟩, ⟨?_⟩⟩
        · have h1 := Kd.H_step HH.out (w1 := w1) (fun k_ _ hn hlt => hk1.2 k_ hlt (fun h => hn (.inl h)))
          obtain ⟨h2, h3⟩ := Kd.H_seg h1 (by omega) (by omega) (seg := [.float .f32 (floatOfInt .f32 m)]) (j := 1) (by show 1 + 1 ≤ 2; decide) (by simp; rfl)
          have h4 := Kd.H_back h2 (x' := (⟨l', floatOfInt .f32 m⟩ : S31)) (okp := fun k_ => oki k_ ∨ wo.heap.size ≤ k_) (k31_mkM _ _ _ (⟨l', floatOfInt .f32 m⟩ : S31) (Kd.R_far (p := ⟨g, (i : Int).toNat * 2 + 1, none⟩) hr1 (fun k_ hk => by
            rcases hk with hk | hk
            · exact (HOK.out k_ hk).2
            · have := HGL.out
              show k_ ≠ g
              omega) _)) (fun k_ hk => hk.elim (fun h => .inl h) (fun h => .inr ⟨.inr (hP k_ h), h⟩))
          have e : (dn ++ x :: rs').set (i : Int).toNat (⟨l', floatOfInt .f32 m⟩ : S31) = (dn ++ [⟨l', floatOfInt .f32 m⟩]) ++ rs' := by
            rw [Int.toNat_natCast, List.set_append_right _ _ (by omega), hi2, Nat.sub_self]
            simp
          rw [e] at h4
          exact h4
        · have hgP : ¬ ¬ (P0_ g ∨ w.heap.size ≤ g) := fun hn => hn (HO.out |> fun h => (Kd.S_R h).1 g rfl)
          refine ⟨Nat.le_trans HK.out.1 (Nat.le_trans hk1.1 (by simp)), fun j hj hn => ?_⟩
          have hjg : j ≠ g := by
            rintro rfl
            refine hgP (fun h => h.elim hn (fun h => by omega))
          have e1 : (w1.setCell ⟨g, i * 2 + 1, none⟩ (.float .f32 (floatOfInt .f32 m))).heap[j]? = w1.heap[j]? := Below.heap_setCell w1 _ _ j hjg
          rw [e1, hk1.2 j (Nat.lt_of_lt_of_le hj HK.out.1) (fun h => (HOK.out j h).1.elim hn (fun h => by omega))]
          exact HK.out.2 j hj hn
end XM4
end Go.Proofs.Ytffofpiejcolfaa
end
section
set_option linter.unusedVariables false
set_option linter.unusedSimpArgs false
namespace Go.Proofs.Ytffofpiejcolfaa
open Go.RowKit Go.Proofs.YtffofpiejcolfaaW.PrintWords Go.Proofs.YtffofpiejcolfaaW.PrintLast Go.Proofs.YtffofpiejcolfaaW.PrintMore
attribute [local go_sem] max2_int min2_int max_two min_two max_three min_three max_four min_four
namespace XLaw
open XM4 XF XL XC XY XE XN XK XG XV L0 L3
set_option maxHeartbeats 4000000 in
set_option maxRecDepth 100000 in
theorem lawStep.calls (k : Nat) (A0 : Option Addr) (c0 : Nat) (l0 : List S25) (a1 a2 : Nat) (L R R' L' : List S31) (rb : Bool) (t m0 m1 : Int) (w : World) (hr0 : Kd.C k25 w A0 l0.length l0) (hc0 : l0.length ≤ c0) (hsz : L3.laws_szThreadS.f k l0 1048576 = some t)
    (hrest : t < 0 ∨ (0 ≤ t ∧ L3.laws_toThreadS.f k l0 = some L ∧ L4.spec_StepThreads.f k L a1 a2 = some (R, rb) ∧ L4.impl_StepThreads.f k L a1 a2 = some (R, rb) ∧ L3.laws_eqThreadS.f k R R = some true ∧ L3.laws_eqThreadS.f k L L = some true ∧ XM4.markThreadS.f k L 1 = some (m0, L') ∧ 0 ≤ m0 ∧ XM4.markThreadS.f k R 1 = some (m1, R') ∧ 0 ≤ m1 ∧ L4.laws_heldThreadS.f k R' 1 = some m1)) :
    Calls Try.prog 9 #[.slice A0 l0.length c0, .float .f32 a1, .float .f32 a2] w fun e w' => e = .returned (.bool true) ∧ Below w.heap.size w w' := by
  have HC := Aside0.mk hr0
  clear hr0
  by_cases ht : t < 0
  · have hd : decide (t < 0) = true := decide_eq_true ht
    go_enter Try.func9, Try.ntmps9
    go_wp2_with (first | (go_at_call 21; ((with_reducible refine (L3.laws_szThreadS.calls k A0 c0 l0 1048576 t _ HC.out hc0 hsz).mono ?_); rintro e w1 ⟨rfl, hb⟩; have HB1 := Aside0.mk hb; clear hb)))
    go_ret
    exact ⟨rfl, HB1.out⟩
  · obtain ⟨_, hto, hsp, him, heR, heL, hm0, hp0, hm1, hp1, hh⟩ := hrest.resolve_left ht
    have hd : decide (t < 0) = false := decide_eq_false ht
    have hd0 : decide (m0 < 0) = false := decide_eq_false (by omega)
    have hd1 : decide (m1 < 0) = false := decide_eq_false (by omega)
    have hle0 : ∀ x y : World, True := fun _ _ => trivial
    cases rb <;>
    · go_enter Try.func9, Try.ntmps9
      go_wp2_with (first | (go_at_call 37; have _m := HQ15; clear _m; (have hcall := L4.laws_heldThreadS.calls k A4 c4 R' 1 m1 w15 (Kd.S_reads' HV15.out).2.2 (by rw [← HRL.out]; exact (Kd.S_reads' HV15.out).2.1) hh; rw [← HRL.out] at hcall; (with_reducible refine hcall.mono ?_); clear hcall; rintro e wd ⟨rfl, hb⟩; obtain ⟨ne, rfl⟩ := hb; have HQ16 := Aside0.mk (pw_below_drewN HQ15.out ne))) | (go_at_call 27; have _m := HQ14; clear _m; ((with_reducible refine (L3.laws_eqThreadS.calls k A7 c7 R A2 c2 R true _ (Kd.S_reads' HS7.out).2.2 (Kd.S_reads' HS7.out).2.1 (Kd.C_below (Kd.S_reads' HS2.out).2.2 HQ14.out) (Kd.S_reads' HS2.out).2.1 heR).mono ?_); rintro e w15 ⟨rfl, hb⟩; have HV15 := Aside0.mk (Kd.S_below HV14.out hb); have HQ15 := Aside0.mk (below_step HQ14.out hb); clear hb)) | (go_at_call 35; have _m := HQ13; clear _m; ((with_reducible refine (L4.impl_StepThreads.calls k A6 c6 L a1 a2 R _ _ (Kd.S_reads' HS6.out).2.2 (Kd.S_reads' HS6.out).2.1 him).mono ?_); rintro e w14 ⟨v7, rfl, ho7, hb⟩; have HV14 := Aside0.mk (Kd.S_below HV13.out hb); have HQ14 := Aside0.mk (below_step HQ13.out hb); clear hb; obtain ⟨A7, c7, e7⟩ := Kd.S_slice ho7; subst e7; have HS7 := Aside0.mk ho7; clear ho7; skip)) | (go_at_call 23; have _m := HQ12; clear _m; ((with_reducible refine (L3.laws_toThreadS.calls k A0 c0 l0 L _ (Kd.C_below HC.out (below_step HB3.out HQ12.out)) hc0 hto).mono ?_); rintro e w13 ⟨v6, rfl, ho6, hb⟩; have HV13 := Aside0.mk (Kd.S_below HV12.out hb); have HQ13 := Aside0.mk (below_step HQ12.out hb); clear hb; obtain ⟨A6, c6, e6⟩ := Kd.S_slice ho6; subst e6; have HS6 := Aside0.mk ho6; clear ho6; skip)) | (go_at_call 37; have _m := HQ11; clear _m; (have hcall := L4.laws_heldThreadS.calls k A4 c4 R' 1 m1 w11 (Kd.S_reads' HV11.out).2.2 (by rw [← HRL.out]; exact (Kd.S_reads' HV11.out).2.1) hh; rw [← HRL.out] at hcall; (with_reducible refine hcall.mono ?_); clear hcall; rintro e wd ⟨rfl, hb⟩; obtain ⟨nd, rfl⟩ := hb; have HQ12 := Aside0.mk (pw_below_drewN HQ11.out nd); have HV12 := Aside0.mk (Kd.S_drewN HV11.out nd); clear HV11)) | (go_at_call 36; have _m := HQ10; clear _m; ((with_reducible refine (XM4.markThreadS.calls k (fun k_ => w4.heap.size ≤ k_) (.slice A4 R.length c4) R 1 m1 R' w3 _ HQ10.out HV10.out hm1).mono ?_); rintro e w11 ⟨rfl, hs4, hb, hk⟩; have HQ11 := Aside0.mk hb; have HV11 := Aside0.mk hs4; have HRL := Aside0.mk (Kd.S_reads' HV11.out).1; clear hb hk hs4)) | (go_at_call 27; have _m := HQ9; clear _m; ((with_reducible refine (L3.laws_eqThreadS.calls k A4 c4 R A2 c2 R true _ (Kd.S_reads' HV9.out).2.2 (Kd.S_reads' HV9.out).2.1 (Kd.C_below (Kd.S_reads' HS2.out).2.2 HQ9.out) (Kd.S_reads' HS2.out).2.1 heR).mono ?_); rintro e w10 ⟨rfl, hb⟩; have HV10 := Aside0.mk (Kd.S_lower (Kd.S_mono (Kd.S_below HV9.out hb) (fun k_ h => h.2.1)) HQ4.out.size); have HQ10 := Aside0.mk (below_step HQ9.out hb); clear hb)) | (go_at_call 36; have _m := HQ8; clear _m; ((with_reducible refine (XM4.markThreadS.calls k (fun k_ => True ∧ k_ < w4.heap.size) (.slice A3 L.length c3) L 1 m0 L' w3 _ HQ8.out (Kd.S_below HP3.out HT8.out) hm0).mono ?_); rintro e w9 ⟨rfl, hs3, hb, hk⟩; have HQ9 := Aside0.mk hb; have HV9 := Aside0.mk (Kd.S_step (Kd.S_bound (Kd.S_below HS4.out HT8.out)) (w1 := w9) (fun k_ h1 h2 => hk.2 k_ h2 (fun h3 => by have := h1.2.1; have := h3.2; omega))); clear hb hk hs3 HT8 HT7 HT6 HT5)) | (go_at_call 27; have _m := HQ7; clear _m; ((with_reducible refine (L3.laws_eqThreadS.calls k A3 c3 L A5 c5 L true _ (Kd.S_reads' (Kd.S_below HP3.out HT7.out)).2.2 (Kd.S_reads' HS3.out).2.1 (Kd.S_reads' HS5.out).2.2 (Kd.S_reads' HS5.out).2.1 heL).mono ?_); rintro e w8 ⟨rfl, hb⟩; have HT8 := Aside0.mk (below_step HT7.out hb); have HQ8 := Aside0.mk (below_step HQ7.out hb); clear hb)) | (go_at_call 23; have _m := HQ6; clear _m; ((with_reducible refine (L3.laws_toThreadS.calls k A0 c0 l0 L _ (Kd.C_below HC.out (below_step HB3.out HQ6.out)) hc0 hto).mono ?_); rintro e w7 ⟨v5, rfl, ho5, hb⟩; have HT7 := Aside0.mk (below_step HT6.out hb); have HQ7 := Aside0.mk (below_step HQ6.out hb); clear hb; obtain ⟨A5, c5, e5⟩ := Kd.S_slice ho5; subst e5; have HS5 := Aside0.mk ho5; clear ho5; skip)) | (go_at_call 27; have _m := HQ5; clear _m; ((with_reducible refine (L3.laws_eqThreadS.calls k A4 c4 R A2 c2 R true _ (Kd.S_reads' HS4.out).2.2 (Kd.S_reads' HS4.out).2.1 (Kd.C_below (Kd.S_reads' HS2.out).2.2 HQ5.out) (Kd.S_reads' HS2.out).2.1 heR).mono ?_); rintro e w6 ⟨rfl, hb⟩; have HT6 := Aside0.mk (below_step HT5.out hb); have HQ6 := Aside0.mk (below_step HQ5.out hb); clear hb)) | (go_at_call 35; have _m := HQ4; clear _m; ((with_reducible refine (L4.impl_StepThreads.calls k A3 c3 L a1 a2 R _ _ (Kd.S_reads' HS3.out).2.2 (Kd.S_reads' HS3.out).2.1 him).mono ?_); rintro e w5 ⟨v4, rfl, ho4, hb⟩; have HQ5 := Aside0.mk (below_step HQ4.out hb); have HP3 := Aside0.mk (Kd.S_old HS3.out hb); clear hb; obtain ⟨A4, c4, e4⟩ := Kd.S_slice ho4; subst e4; have HS4 := Aside0.mk ho4; clear ho4; have HT5 := Aside0.mk (Below.refl w5.heap.size w5))) | (go_at_call 23; have _m := HB3; clear _m; ((with_reducible refine (L3.laws_toThreadS.calls k A0 c0 l0 L _ (Kd.C_below HC.out HB3.out) hc0 hto).mono ?_); rintro e w4 ⟨v3, rfl, ho3, hb⟩; have HQ4 := Aside0.mk (below_step HQ3.out hb); clear hb; obtain ⟨A3, c3, e3⟩ := Kd.S_slice ho3; subst e3; have HS3 := Aside0.mk ho3; clear ho3; skip)) | (go_at_call 34; have _m := HB2; clear _m; ((with_reducible refine (L4.spec_StepThreads.calls k A1 c1 L a1 a2 R _ _ (Kd.S_reads' HS1.out).2.2 (Kd.S_reads' HS1.out).2.1 hsp).mono ?_); rintro e w3 ⟨v2, rfl, ho2, hb⟩; have HB3 := Aside0.mk (below_step HB2.out hb); clear hb; obtain ⟨A2, c2, e2⟩ := Kd.S_slice ho2; subst e2; have HS2 := Aside0.mk ho2; clear ho2; have HQ3 := Aside0.mk (Below.refl w3.heap.size w3))) | (go_at_call 23; have _m := HB1; clear _m; ((with_reducible refine (L3.laws_toThreadS.calls k A0 c0 l0 L _ (Kd.C_below HC.out HB1.out) hc0 hto).mono ?_); rintro e w2 ⟨v1, rfl, ho1, hb⟩; have HB2 := Aside0.mk (below_step HB1.out hb); clear hb; obtain ⟨A1, c1, e1⟩ := Kd.S_slice ho1; subst e1; have HS1 := Aside0.mk ho1; clear ho1; skip)) | (go_at_call 21; ((with_reducible refine (L3.laws_szThreadS.calls k A0 c0 l0 1048576 t _ HC.out hc0 hsz).mono ?_); rintro e w1 ⟨rfl, hb⟩; have HB1 := Aside0.mk hb; clear hb)))
      go_ret
      exact ⟨by first | rfl | (simp; done), below_step HB3.out HQ16.out⟩
end XLaw
end Go.Proofs.Ytffofpiejcolfaa
end
section
set_option linter.unusedVariables false
set_option linter.unusedSimpArgs false
namespace Go.Proofs.Ytffofpiejcolfaa.PL3
open Go.RowKit Go.Proofs.Ytffofpiejcolfaa Go.Proofs.YtffofpiejcolfaaW.PrintWords Go.Proofs.YtffofpiejcolfaaW.PrintLast Go.Proofs.YtffofpiejcolfaaW.PrintMore
open XF XL XC XT XN XE XK L0 L3
theorem wrap_id {i : Int} (h0 : -9223372036854775808 ≤ i) (h1 : i ≤ 9223372036854775807) : wrap64 i = i := by unfold wrap64; omega
theorem w1 (n : Nat) (h : n < 9223372036854775807) : wrap64 ((n : Int) + 1) = ((n + 1 : Nat) : Int) := by unfold wrap64; omega
def to46 (v : S44) : S46 := ⟨v.f0, v.f1, v.f2⟩
theorem toV_l0 : ∀ (rest pre : List S44) (k : Nat), rest.length < k → pre.length + rest.length ≤ 1073741824 →
    L3.laws_toVectorS.l0 k (pre ++ rest) (pre.map to46 ++ List.replicate rest.length z46) (pre.length : Int) = some ((pre ++ rest).map to46) := by
  intro rest
  induction rest with
  | nil =>
    intro pre k hk hp
    obtain ⟨k, rfl⟩ : ∃ m, k = m + 1 := ⟨k - 1, by omega⟩
    simp only [L3.laws_toVectorS.l0]
    rw [if_neg (by simp)]
    simp
  | cons L rest ih =>
    intro pre k hk hp
    simp only [List.length_cons] at hk hp
    obtain ⟨k, rfl⟩ : ∃ m, k = m + 1 := ⟨k - 1, by omega⟩
    have hrd : rd_T44 (pre ++ L :: rest) (pre.length : Int) = L := by simp [rd_T44]
    simp only [L3.laws_toVectorS.l0, L3.laws_toVector.f, Option.bind_some]
    rw [if_pos (by simp; omega), if_pos (by omega), if_pos (by simp; omega), hrd, w1 pre.length (by omega)]
    have e : pre ++ L :: rest = (pre ++ [L]) ++ rest := by simp
    have e2 : pre.length + 1 = (pre ++ [L]).length := by simp
    have e3 : (pre.map to46 ++ List.replicate (L :: rest).length z46).set (pre.length : Int).toNat (⟨L.f0, L.f1, L.f2⟩ : S46) = (pre ++ [L]).map to46 ++ List.replicate rest.length z46 := by
      simp only [Int.toNat_natCast, List.length_cons, List.replicate_succ]
      rw [List.set_append_right _ _ (by simp)]
      simp [to46]
    rw [e3, e, e2]
    exact ih (pre ++ [L]) k (by omega) (by simp; omega)
theorem toT_f (l : List S44) (a k : Nat) (hk : l.length < k) (hlen : l.length ≤ 1073741824) : L3.laws_toThread.f k l a = some (l.map to46, a) := by
  unfold L3.laws_toThread.f L3.laws_toVectorS.f
  rw [if_pos (by omega), if_pos (by simp; omega), Int.toNat_natCast]
  have := toV_l0 l [] k hk (by simp; omega)
  simp only [List.map_nil, List.nil_append, List.length_nil] at this
  rw [show ((0 : Nat) : Int) = 0 from rfl] at this
  rw [this]
  rfl
theorem eqV_l0 : ∀ (rest pre : List S46) (k : Nat), rest.length < k → pre.length + rest.length ≤ 1073741824 → L0.laws_eqVectorS.l0 k (pre ++ rest) (pre ++ rest) (pre.length : Int) = some true := by
  intro rest
  induction rest with
  | nil =>
    intro pre k hk hp
    obtain ⟨k, rfl⟩ : ∃ m, k = m + 1 := ⟨k - 1, by omega⟩
    simp only [L0.laws_eqVectorS.l0]
    rw [if_neg (by simp)]
  | cons L rest ih =>
    intro pre k hk hp
    simp only [List.length_cons] at hk hp
    obtain ⟨k, rfl⟩ : ∃ m, k = m + 1 := ⟨k - 1, by omega⟩
    have hrd : rd_T46 (pre ++ L :: rest) (pre.length : Int) = L := by simp [rd_T46]
    simp only [L0.laws_eqVectorS.l0, XL.eqVector.f, hrd, sfc_self]
    have e : pre ++ L :: rest = (pre ++ [L]) ++ rest := by simp
    have e2 : pre.length + 1 = (pre ++ [L]).length := by simp
    have hlt : (pre.length : Int) < (((pre ++ L :: rest).length : Nat) : Int) := by simp; omega
    rw [if_pos hlt, if_pos (by omega), if_pos hlt]
    simp only [Option.bind_some]
    rw [if_pos (by rfl), w1 pre.length (by omega), e, e2]
    exact ih (pre ++ [L]) k (by omega) (by simp; omega)
theorem eqT_f (l : List S46) (a : Nat) (h : l.length ≤ 1000000000) : XT.eqThread.f l a l a = some true := by
  unfold XT.eqThread.f L0.laws_eqVectorS.f
  rw [if_pos rfl]
  have := eqV_l0 l [] (l.length + 1) (by omega) (by simp; omega)
  simp only [List.nil_append, List.length_nil] at this
  rw [show ((0 : Nat) : Int) = 0 from rfl] at this
  rw [this]
  simp only [Option.bind_some, sfc_self]
  rfl
def to31 (t : S25) : S31 := ⟨t.f0.map to46, t.f1⟩
def totP : List S25 → Nat
  | [] => 0
  | t :: r => t.f0.length + totP r
theorem szT (l : List S44) (a : Nat) (left : Nat) (hl : l.length ≤ 9223372036854775807) (hle : left ≤ 1048576) : ∃ t, L3.laws_szThread.f l a left = some t ∧ (t < 0 ∨ (l.length ≤ left ∧ t = ((left - l.length : Nat) : Int))) := by
  unfold L3.laws_szThread.f L3.laws_szVectorS.f
  rw [wrap_id (i := (left : Int) - (l.length : Int)) (by omega) (by omega)]
  by_cases h : (left : Int) - (l.length : Int) < 0
  · rw [if_pos h]
    simp only [Option.bind_some]
    rw [if_pos (by decide)]
    exact ⟨_, rfl, .inl (by decide)⟩
  · rw [if_neg h]
    simp only [Option.bind_some]
    rw [if_neg h]
    exact ⟨_, rfl, .inr ⟨by omega, by omega⟩⟩
theorem szTs_l0 : ∀ (rest pre : List S25) (left k : Nat), left ≤ 1048576 → (∀ t ∈ rest, t.f0.length ≤ 9223372036854775807) → rest.length < k → pre.length + rest.length ≤ 1073741824 →
    ∃ t : Int, L3.laws_szThreadS.l0 k (pre ++ rest) (left : Int) (pre.length : Int) = some t ∧ (t < 0 ∨ totP rest ≤ left) := by
  intro rest
  induction rest with
  | nil =>
    intro pre left k hl hs hk hp
    obtain ⟨k, rfl⟩ : ∃ m, k = m + 1 := ⟨k - 1, by omega⟩
    simp only [L3.laws_szThreadS.l0]
    rw [if_neg (by simp)]
    exact ⟨_, rfl, .inr (by simp [totP])⟩
  | cons L rest ih =>
    intro pre left k hl hs hk hp
    simp only [List.length_cons] at hk hp
    obtain ⟨k, rfl⟩ : ∃ m, k = m + 1 := ⟨k - 1, by omega⟩
    have hrd : rd_T25 (pre ++ L :: rest) (pre.length : Int) = L := by simp [rd_T25]
    obtain ⟨t, ht, h2⟩ := szT L.f0 L.f1 left (hs L (by simp)) hl
    simp only [L3.laws_szThreadS.l0]
    rw [if_pos (by simp; omega), if_pos (by omega), hrd, ht]
    simp only [Option.bind_some]
    by_cases h : t < 0
    · rw [if_pos h]
      exact ⟨_, rfl, .inl (by decide)⟩
    · rw [if_neg h, w1 pre.length (by omega)]
      obtain ⟨h3, rfl⟩ := h2.resolve_left h
      have e : pre ++ L :: rest = (pre ++ [L]) ++ rest := by simp
      have e2 : pre.length + 1 = (pre ++ [L]).length := by simp
      rw [e, e2]
      obtain ⟨t, ht, h2⟩ := ih (pre ++ [L]) (left - L.f0.length) k (by omega) (fun s hx => hs s (by simp [hx])) (by omega) (by simp; omega)
      exact ⟨t, ht, h2.imp id (fun x => by simp only [totP]; omega)⟩
theorem szTs_f (ls : List S25) (k : Nat) (hk : 2000000 < k) (hlen : ls.length ≤ 9223372036854775807) (hs : ∀ t ∈ ls, t.f0.length ≤ 9223372036854775807) :
    ∃ t : Int, L3.laws_szThreadS.f k ls 1048576 = some t ∧ (t < 0 ∨ (ls.length ≤ 1048576 ∧ totP ls ≤ 1048576)) := by
  unfold L3.laws_szThreadS.f
  rw [wrap_id (i := 1048576 - (ls.length : Int)) (by omega) (by omega)]
  by_cases h : 1048576 - (ls.length : Int) < 0
  · rw [if_pos h]
    exact ⟨_, rfl, .inl (by decide)⟩
  · rw [if_neg h]
    have e3 : 1048576 - (ls.length : Int) = ((1048576 - ls.length : Nat) : Int) := by omega
    rw [e3]
    obtain ⟨t, ht, h2⟩ := szTs_l0 ls [] (1048576 - ls.length) k (by omega) hs (by omega) (by simp; omega)
    exact ⟨t, ht, h2.imp id (fun x => ⟨by omega, by omega⟩)⟩
theorem toTs_l0 : ∀ (rest pre : List S25) (k : Nat), rest.length + totP rest + 2 < k → pre.length + rest.length ≤ 1073741824 → totP rest ≤ 1073741824 →
    L3.laws_toThreadS.l0 k (pre ++ rest) (pre.map to31 ++ List.replicate rest.length z31) (pre.length : Int) = some ((pre ++ rest).map to31) := by
  intro rest
  induction rest with
  | nil =>
    intro pre k hk hp _
    obtain ⟨k, rfl⟩ : ∃ m, k = m + 1 := ⟨k - 1, by omega⟩
    simp only [L3.laws_toThreadS.l0]
    rw [if_neg (by simp)]
    simp
  | cons L rest ih =>
    intro pre k hk hp ht
    simp only [List.length_cons, totP] at hk hp ht
    obtain ⟨k, rfl⟩ : ∃ m, k = m + 1 := ⟨k - 1, by omega⟩
    have hrd : rd_T25 (pre ++ L :: rest) (pre.length : Int) = L := by simp [rd_T25]
    simp only [L3.laws_toThreadS.l0]
    rw [if_pos (by simp; omega), if_pos (by omega), hrd, toT_f L.f0 L.f1 k (by omega) (by omega)]
    simp only [Option.bind_some]
    rw [if_pos (by simp; omega), w1 pre.length (by omega)]
    have e : pre ++ L :: rest = (pre ++ [L]) ++ rest := by simp
    have e2 : pre.length + 1 = (pre ++ [L]).length := by simp
    have e3 : (pre.map to31 ++ List.replicate (L :: rest).length z31).set (pre.length : Int).toNat (⟨L.f0.map to46, L.f1⟩ : S31) = (pre ++ [L]).map to31 ++ List.replicate rest.length z31 := by
      simp only [Int.toNat_natCast, List.length_cons, List.replicate_succ]
      rw [List.set_append_right _ _ (by simp)]
      simp [to31]
    rw [e3, e, e2]
    exact ih (pre ++ [L]) k (by omega) (by simp; omega) (by omega)
theorem toTs_f (ls : List S25) (k : Nat) (hk : ls.length + totP ls + 2 < k) (h1 : ls.length ≤ 1073741824) (h2 : totP ls ≤ 1073741824) : L3.laws_toThreadS.f k ls = some (ls.map to31) := by
  unfold L3.laws_toThreadS.f
  rw [if_pos (by omega), if_pos (by simp; omega), Int.toNat_natCast]
  have := toTs_l0 ls [] k hk (by simp; omega) h2
  simp only [List.map_nil, List.nil_append, List.length_nil] at this
  exact this
theorem eqTs_l0 : ∀ (rest pre : List S31) (k : Nat), rest.length < k → pre.length + rest.length ≤ 1073741824 → (∀ t ∈ rest, t.f0.length ≤ 1000000000) → L3.laws_eqThreadS.l0 k (pre ++ rest) (pre ++ rest) (pre.length : Int) = some true := by
  intro rest
  induction rest with
  | nil =>
    intro pre k hk hp _
    obtain ⟨k, rfl⟩ : ∃ m, k = m + 1 := ⟨k - 1, by omega⟩
    simp only [L3.laws_eqThreadS.l0]
    rw [if_neg (by simp)]
  | cons L rest ih =>
    intro pre k hk hp hs
    simp only [List.length_cons] at hk hp
    obtain ⟨k, rfl⟩ : ∃ m, k = m + 1 := ⟨k - 1, by omega⟩
    have hrd : rd_T31 (pre ++ L :: rest) (pre.length : Int) = L := by simp [rd_T31]
    have hlt : (pre.length : Int) < (((pre ++ L :: rest).length : Nat) : Int) := by simp; omega
    simp only [L3.laws_eqThreadS.l0, hrd]
    rw [if_pos hlt, if_pos (by omega), if_pos hlt, eqT_f L.f0 L.f1 (hs L (by simp))]
    simp only [Option.bind_some]
    have e : pre ++ L :: rest = (pre ++ [L]) ++ rest := by simp
    have e2 : pre.length + 1 = (pre ++ [L]).length := by simp
    rw [if_pos trivial, w1 pre.length (by omega), e, e2]
    exact ih (pre ++ [L]) k (by omega) (by simp; omega) (fun t h => hs t (by simp [h]))
theorem tot_mem : ∀ (ls : List S25) (t : S25), t ∈ ls → t.f0.length ≤ totP ls
  | [], _, h => by simp at h
  | x :: r, t, h => by
    simp only [totP]
    rcases List.mem_cons.1 h with rfl | h
    · omega
    · have := tot_mem r t h; omega
theorem eqTs_f (ls : List S25) (K : Nat) (h1 : ls.length + 1 < K) (h2 : ls.length ≤ 1048576) (h3 : totP ls ≤ 1048576) : L3.laws_eqThreadS.f K (ls.map to31) (ls.map to31) = some true := by
  unfold L3.laws_eqThreadS.f
  rw [if_pos rfl]
  have := eqTs_l0 (ls.map to31) [] K (by simp; omega) (by simp; omega) (fun t ht => by
    obtain ⟨u, hu, rfl⟩ := List.mem_map.1 ht
    have := tot_mem ls u hu
    simp [to31]
    omega)
  simp only [List.nil_append, List.length_nil] at this
  exact this
end Go.Proofs.Ytffofpiejcolfaa.PL3
end
section
set_option linter.unusedVariables false
set_option linter.unusedSimpArgs false
namespace Go.Proofs.Ytffofpiejcolfaa.XH
open Go.RowKit Go.Proofs.Ytffofpiejcolfaa Go.Proofs.YtffofpiejcolfaaW.PrintWords
open XF XL XN XE XK XG L0
theorem log2_shift {m : Nat} (h : m ≠ 0) (k : Nat) : (m * 2 ^ k).log2 = m.log2 + k := by
  have h2 : m * 2 ^ k ≠ 0 := Nat.mul_ne_zero h (Nat.pos_iff_ne_zero.1 (Nat.two_pow_pos k))
  refine Nat.le_antisymm ?_ ?_
  · have : (m * 2 ^ k).log2 < m.log2 + k + 1 := (Nat.log2_lt h2).2 (by
      have := @Nat.lt_log2_self m
      calc m * 2 ^ k < 2 ^ (m.log2 + 1) * 2 ^ k := Nat.mul_lt_mul_of_pos_right this (Nat.two_pow_pos k)
        _ = 2 ^ (m.log2 + k + 1) := by rw [← Nat.pow_add]; congr 1; omega)
    omega
  · exact (Nat.le_log2 h2).2 (by
      rw [Nat.pow_add]
      exact Nat.mul_le_mul_right _ (Nat.log2_self_le h))
theorem cut_shift (neg : Bool) {m : Nat} (h : m ≠ 0) (k b : Nat) : Ieee.Toward.even.cut neg (m * 2 ^ k) (b + k) = Ieee.Toward.even.cut neg m b := by
  unfold Ieee.Toward.cut
  simp only [Nat.one_shiftLeft]
  rw [log2_shift h]
  have e : min (b + k) (m.log2 + k + 2) = min b (m.log2 + 2) + k := by omega
  rw [e, Nat.pow_add]
  have p := Nat.two_pow_pos k
  rw [Nat.mul_div_mul_right _ _ p, Nat.mul_mod_mul_right]
  generalize 2 ^ min b (m.log2 + 2) = g
  have c1 : (g * 2 ^ k < 2 * (m % g * 2 ^ k)) = (g < 2 * (m % g)) := by
    rw [← Nat.mul_assoc]
    exact propext (Nat.mul_lt_mul_right p)
  have c2 : (g * 2 ^ k == 2 * (m % g * 2 ^ k)) = (g == 2 * (m % g)) := by
    rw [← Nat.mul_assoc]
    rw [Bool.eq_iff_iff, beq_iff_eq, beq_iff_eq]
    exact ⟨fun hc => Nat.eq_of_mul_eq_mul_right p hc, fun hc => congrArg (· * 2 ^ k) hc⟩
  simp only [c1, c2]
theorem cut_zero' (neg : Bool) (n : Nat) : Ieee.Toward.even.cut neg n 0 = n := XF.cut_zero neg n
theorem cut_exact (neg : Bool) {m : Nat} (h : m ≠ 0) (k b : Nat) (hb : b ≤ k) : Ieee.Toward.even.cut neg (m * 2 ^ k) b = m * 2 ^ (k - b) := by
  have e : m * 2 ^ k = (m * 2 ^ (k - b)) * 2 ^ b := by rw [Nat.mul_assoc, ← Nat.pow_add]; congr 2; omega
  have h2 : m * 2 ^ (k - b) ≠ 0 := Nat.mul_ne_zero h (Nat.pos_iff_ne_zero.1 (Nat.two_pow_pos _))
  have := cut_shift neg h2 b 0
  rw [Nat.zero_add, cut_zero'] at this
  rw [e, this]
theorem nearest_shift (f : Ieee.Format) (neg : Bool) (m k : Nat) (p : Int) : f.nearest neg (m * 2 ^ k) p = f.nearest neg m (p + k) := by
  by_cases h : m = 0
  · subst h
    simp [Ieee.Format.nearest]
  · have h2 : m * 2 ^ k ≠ 0 := Nat.mul_ne_zero h (Nat.pos_iff_ne_zero.1 (Nat.two_pow_pos k))
    unfold Ieee.Format.nearest
    rw [if_neg h2, if_neg h, log2_shift h]
    have e : p + ((m.log2 + k : Nat) : Int) - f.fractionBits = p + k + (m.log2 : Int) - f.fractionBits := by omega
    rw [e]
    generalize max (p + k + (m.log2 : Int) - f.fractionBits) f.leastPlace = last
    have key : Ieee.Toward.even.cut neg ((m * 2 ^ k) <<< (p - last).toNat) (last - p).toNat = Ieee.Toward.even.cut neg (m <<< (p + k - last).toNat) (last - (p + k)).toNat := by
      rw [Nat.shiftLeft_eq, Nat.shiftLeft_eq]
      rcases Int.le_total last p with c | c
      · have a1 : (last - p).toNat = 0 := by omega
        have a2 : (last - (p + k)).toNat = 0 := by omega
        have a3 : (p + k - last).toNat = k + (p - last).toNat := by omega
        rw [a1, a2, a3, cut_zero', cut_zero', Nat.pow_add, Nat.mul_assoc]
      · have a1 : (p - last).toNat = 0 := by omega
        rw [a1, Nat.pow_zero, Nat.mul_one]
        rcases Int.le_total last (p + k) with c2 | c2
        · have a2 : (last - (p + k)).toNat = 0 := by omega
          have a3 : (p + k - last).toNat = k - (last - p).toNat := by omega
          rw [a2, a3, cut_zero', cut_exact neg h _ _ (by omega)]
        · have a2 : (p + k - last).toNat = 0 := by omega
          have a3 : (last - p).toNat = (last - (p + k)).toNat + k := by omega
          rw [a2, a3, Nat.pow_zero, Nat.mul_one, cut_shift neg h]
    simp only [key]
theorem nearest_zero (f : Ieee.Format) (neg : Bool) (p : Int) : f.nearest neg 0 p = f.word neg 0 := by
  unfold Ieee.Format.nearest
  rw [if_pos rfl]
theorem half_r : FloatKind.f32.format.read 1056964608 = .number false 8388608 (-24) := by decide
theorem two_r : FloatKind.f32.format.read 1073741824 = .number false 8388608 (-22) := by decide
theorem half_eq {t : Nat} (h : Num t) : ∃ r, floatBits .mul .f32 1056964608 t = some r ∧ floatBits .quo .f32 t 1073741824 = some r := by
  obtain ⟨s, m, e, ht⟩ := h
  have hm := (read32_b ht).1
  have f23 : FloatKind.f32.format.fractionBits + 2 = 25 := by decide
  unfold floatBits Ieee.Format.mul Ieee.Format.div
  rw [half_r, two_r, ht]
  simp only [Ieee.Datum.product, Ieee.Datum.quotient, f23]
  rw [if_neg (by decide)]
  simp only [Option.map_some, Ieee.Format.write, Bool.false_bne, Bool.bne_false, Bool.xor_false, Bool.false_xor]
  refine ⟨_, rfl, congrArg some ?_⟩
  by_cases h0 : m = 0
  · subst h0
    rw [Nat.zero_shiftLeft, Nat.mul_zero]
    show FloatKind.f32.format.nearest s 0 _ = FloatKind.f32.format.nearest s 0 _
    rw [nearest_zero, nearest_zero]
  · have hl : m.log2 ≤ 23 := by
      have := (Nat.log2_lt h0).2 (show m < 2 ^ 24 by simpa using hm)
      omega
    have e1 : Nat.log2 8388608 = 23 := by decide
    rw [e1]
    obtain ⟨q, hq⟩ : ∃ q, 25 + 23 - m.log2 = q + 23 := ⟨25 - m.log2, by omega⟩
    rw [hq, Nat.shiftLeft_eq]
    have e2 : m * 2 ^ (q + 23) = m * 2 ^ q * 8388608 := by rw [Nat.pow_add, ← Nat.mul_assoc]
    rw [e2, Nat.mul_div_cancel _ (by decide), Nat.mul_mod_left]
    have e3 : 2 * (m * 2 ^ q) + ((0 : Nat) != 0).toNat = m * 2 ^ (q + 1) := by
      rw [Nat.pow_succ]
      simp
      rw [Nat.mul_comm 2, Nat.mul_assoc]
    have e4 : 8388608 * m = m * 2 ^ 23 := Nat.mul_comm _ _
    rw [e3, e4, nearest_shift, nearest_shift]
    have e5 : e - -22 - ((q + 23 : Nat) : Int) - 1 + ((q + 1 : Nat) : Int) = -24 + e + ((23 : Nat) : Int) := by omega
    rw [e5]
theorem mul_nn {a b : Nat} (ha : Num a) (hb : Num b) : isn .f32 (ar .mul a b) = false := by
  obtain ⟨s, m, e, ha⟩ := ha
  obtain ⟨t, n, i, hb⟩ := hb
  unfold ar floatBits Ieee.Format.mul
  rw [ha, hb]
  simp only [Ieee.Datum.product, Option.map_some, Option.getD_some]
  exact Is_n (write32 (.inl ⟨_, _, rfl⟩))
theorem add_nn' {a b : Nat} (ha : Num a) (hb : isn .f32 b = false) : isn .f32 (ar .add a b) = false := by
  obtain ⟨s, m, e, ha⟩ := ha
  unfold isn at hb
  unfold ar floatBits Ieee.Format.add
  rw [ha]
  cases hr : FloatKind.f32.format.read b with
  | number t n i =>
    simp only [Ieee.Datum.sum, Option.map_some, Option.getD_some]
    exact Is_n (write32 (.inl ⟨_, _, rfl⟩))
  | infinity t =>
    simp only [Ieee.Datum.sum, Option.map_some, Option.getD_some]
    exact Is_n (write32 (.inr rfl))
  | nan t f => rw [hr] at hb; cases hb
theorem near32h (neg : Bool) (m : Nat) (e : Int) (h : m ≠ 0 → (m.log2 : Int) + e ≤ 126) : ∃ m' e', FloatKind.f32.format.read (FloatKind.f32.format.nearest neg m e) = .number neg m' e' := by
  have key : ∀ r : Nat, r ≤ 2139095039 → ∃ m' e', FloatKind.f32.format.read (FloatKind.f32.format.word neg r) = .number neg m' e' := by
    intro r hr
    unfold Ieee.Format.read Ieee.Format.word
    simp only [XN.f32s, XN.f32i, XN.f32b, XN.f32l]
    have e1 : (if neg = true then 2147483648 + r else r) % 2147483648 = r := by cases neg <;> simp <;> omega
    have e2 : ((if neg = true then 2147483648 + r else r) / 2147483648 % 2 == 1) = neg := by
      cases neg
      · have : r / 2147483648 = 0 := Nat.div_eq_of_lt (by omega)
        simp [this]
      · have : (2147483648 + r) / 2147483648 = 1 := by omega
        simp [this]
    simp only [e1, e2]
    split
    · exact ⟨_, _, rfl⟩
    · rw [if_pos (by omega)]
      exact ⟨_, _, rfl⟩
  unfold Ieee.Format.nearest
  split
  · exact key 0 (Nat.zero_le _)
  · rename_i hm
    have hX := h hm
    refine key _ (Nat.le_trans (Nat.min_le_left _ _) ?_)
    have hk := kept_le neg m e (max (e + (m.log2 : Int) - (FloatKind.f32.format.fractionBits : Nat)) FloatKind.f32.format.leastPlace) FloatKind.f32.format.fractionBits (Int.le_max_left _ _)
    simp only [XN.f32b, XN.f32l, XN.f32f] at hk ⊢
    generalize Ieee.Toward.even.cut neg _ _ = K at hk ⊢
    have : (2 : Nat) ^ (23 + 1) = 16777216 := by decide
    omega
theorem fin_of_num {x : Nat} (h : Num x) : fin x = true := by
  obtain ⟨s, m, e, hx⟩ := h
  unfold fin floatBits Ieee.Format.sub
  rw [hx]
  have h0 : Ieee.signed s m (e - min e e).toNat + Ieee.signed (!s) m (e - min e e).toNat = 0 := by
    cases s <;> simp [Ieee.signed] <;> omega
  simp only [Ieee.Datum.opposite, Ieee.Datum.sum, Option.map_some, h0, if_true, Ieee.Format.write, Int.natAbs_zero, nearest_zero]
  cases s <;> decide
theorem half_fin {t : Nat} (h : fin t = true) : fok .mul .f32 1056964608 t = true ∧ fok .quo .f32 t 1073741824 = true ∧ fop .quo .f32 t 1073741824 = fop .mul .f32 1056964608 t ∧ fin (fop .mul .f32 1056964608 t) = true := by
  obtain ⟨r, h1, h2⟩ := half_eq (num_of_fin h)
  refine ⟨(fok_of h1).1, (fok_of h2).1, by rw [(fok_of h1).2, (fok_of h2).2], ?_⟩
  rw [(fok_of h1).2]
  refine fin_of_num ?_
  obtain ⟨s, m, e, ht⟩ := num_of_fin h
  have hb := read32_b ht
  unfold floatBits Ieee.Format.mul at h1
  rw [half_r, ht] at h1
  simp only [Ieee.Datum.product, Option.map_some, Ieee.Format.write] at h1
  have hr := Option.some.inj h1
  have e4 : 8388608 * m = m * 2 ^ 23 := Nat.mul_comm _ _
  rw [e4, nearest_shift] at hr
  rw [← hr]
  obtain ⟨m', e', h3⟩ := near32h (false ^^ s) m (-24 + e + (23 : Nat)) (fun h0 => by
    have := (Nat.log2_lt h0).2 (show m < 2 ^ 24 by simpa using hb.1)
    omega)
  exact ⟨_, m', e', h3⟩
end Go.Proofs.Ytffofpiejcolfaa.XH
end
section
set_option linter.unusedVariables false
set_option linter.unusedSimpArgs false
namespace Go.Proofs.Ytffofpiejcolfaa.PRun
open Go.RowKit Go.Proofs.Ytffofpiejcolfaa Go.Proofs.YtffofpiejcolfaaW.PrintWords
open XF XL XC XY XN XE XK XG XV XW XM XH L0 L3 PL3
theorem are_spec {L : List S31} (h : are L = true) : L.length ≤ 4 ∧ ∀ t ∈ L, 3 ≤ t.f0.length ∧ t.f0.length ≤ 32 ∧ (∀ v ∈ t.f0, vfin v = true) ∧ fin t.f1 = true := by
  unfold are at h
  simp only [Bool.and_eq_true, Bool.not_eq_true', List.any_eq_false, decide_eq_true_eq] at h
  refine ⟨h.1, fun t ht => ?_⟩
  have h2 : isThread t.f0 t.f1 = true := by simpa [tis] using h.2 t ht
  unfold isThread at h2
  simp only [Bool.and_eq_true, Bool.not_eq_true', List.any_eq_false, decide_eq_true_eq] at h2
  exact ⟨h2.1, h2.2.1, fun v hv => by simpa using h2.2.2.1 v hv, h2.2.2.2⟩
def mvP (by_ : List S31) (core tick : Nat) (v p : S46) : Option S46 := if vfin (allV p core by_) = true then some (opV .add v (mulV (allV p core by_) tick)) else none
def mvPts (by_ : List S31) (core tick : Nat) : List S46 → List S46 → Option (List S46)
  | v :: l, p :: q => (mvP by_ core tick v p).bind fun x => (mvPts by_ core tick l q).bind fun r => some (x :: r)
  | _, _ => some []
def mvTs (by_ : List S31) (core tick : Nat) : List S31 → List S31 → Option (List S31)
  | t :: l, b :: q => (mvPts by_ core tick t.f0 b.f0).bind fun x => (mvTs by_ core tick l q).bind fun r => some (⟨x, t.f1⟩ :: r)
  | _, _ => some []
theorem Num_of {x : Nat} (h : fin x = true) : Num x := num_of_fin h
theorem flow_f {by_ : List S31} {p : S46} (core : Nat) (h1 : are by_ = true) (h2 : vfin p = true) : threadFlow.f by_ p.f0 p.f1 p.f2 core = some ((allV p core by_).f0, (allV p core by_).f1, (allV p core by_).f2) := by
  unfold threadFlow.f
  rw [if_pos h1, if_pos (show vfin ⟨p.f0, p.f1, p.f2⟩ = true from h2)]
theorem vparts {v : S46} (h : vfin v = true) : Num v.f0 ∧ Num v.f1 ∧ Num v.f2 := by
  unfold vfin at h
  simp only [Bool.and_eq_true] at h
  exact ⟨Num_of h.1, Num_of h.2.1, Num_of h.2.2⟩
theorem nn_mul {v : S46} {t : Nat} (h : vfin v = true) (ht : fin t = true) : nn3 (mulV v t) = true := by
  obtain ⟨a, b, c⟩ := vparts h
  unfold nn3 mulV
  simp only [mul_nn a (Num_of ht), mul_nn b (Num_of ht), mul_nn c (Num_of ht)]
  rfl
theorem nn_add {v m : S46} (h : vfin v = true) (hm : nn3 m = true) : nn3 (opV .add v m) = true := by
  obtain ⟨a, b, c⟩ := vparts h
  unfold nn3 at hm
  simp only [Bool.and_eq_true, Bool.not_eq_true'] at hm
  unfold nn3 opV
  simp only [add_nn' a hm.1, add_nn' b hm.2.1, add_nn' c hm.2.2]
  rfl
theorem scale_f {v : S46} {t : Nat} (h : vfin v = true) (ht : fin t = true) : scaleI.f v.f0 v.f1 v.f2 t = some ((mulV v t).f0, (mulV v t).f1, (mulV v t).f2) := by
  unfold scaleI.f ex3
  rw [if_pos (show nn3 (mulV ⟨v.f0, v.f1, v.f2⟩ t) = true from nn_mul h ht)]
theorem add_f {v m : S46} (h : vfin v = true) (hm : nn3 m = true) : addI.f v.f0 v.f1 v.f2 m.f0 m.f1 m.f2 = some ((opV .add v m).f0, (opV .add v m).f1, (opV .add v m).f2) := by
  unfold addI.f ex3
  rw [if_pos (show nn3 (opV .add ⟨v.f0, v.f1, v.f2⟩ ⟨m.f0, m.f1, m.f2⟩) = true from nn_add h hm)]
theorem mvPts_len {by_ : List S31} {core tick : Nat} : ∀ {l q r : List S46}, l.length = q.length → mvPts by_ core tick l q = some r → r.length = l.length
  | [], q, r, _, h => by
    unfold mvPts at h
    rw [← Option.some.inj h]
  | v :: l, [], r, hl, h => by simp at hl
  | v :: l, p :: q, r, hl, h => by
    unfold mvPts at h
    obtain ⟨x, h1, h2⟩ := Option.bind_eq_some_iff.1 h
    obtain ⟨r2, h3, h4⟩ := Option.bind_eq_some_iff.1 h2
    rw [← Option.some.inj h4]
    simp only [List.length_cons]
    rw [mvPts_len (by simpa using hl) h3]
def lens (l : List S31) : List Nat := l.map fun t => t.f0.length
theorem mvTs_lens {by_ : List S31} {core tick : Nat} : ∀ {l q r : List S31}, lens l = lens q → mvTs by_ core tick l q = some r → lens r = lens l
  | [], q, r, _, h => by
    unfold mvTs at h
    rw [← Option.some.inj h]
  | t :: l, [], r, hl, h => by simp [lens] at hl
  | t :: l, b :: q, r, hl, h => by
    unfold mvTs at h
    obtain ⟨x, h1, h2⟩ := Option.bind_eq_some_iff.1 h
    obtain ⟨r2, h3, h4⟩ := Option.bind_eq_some_iff.1 h2
    simp only [lens, List.map_cons, List.cons.injEq] at hl
    rw [← Option.some.inj h4]
    have := mvTs_lens (l := l) (q := q) hl.2 h3
    simp only [lens] at this
    simp only [lens, List.map_cons, mvPts_len hl.1 h1, this]
section impl
variable {by_ L : List S31} {core tick : Nat}
theorem impl_l1 (hby : are by_ = true) (hl : L.length ≤ 4) (htick : fin tick = true) (t b : S31) (i : Nat) (ht : rd_T31 L (i : Int) = t) (hb : rd_T31 by_ (i : Int) = b) (hiL : i < L.length) (hib : i < by_.length) (acc0 : List S31) (h0 : acc0.length ≤ 4) (hlen : t.f0.length ≤ 32) (hlb : b.f0.length = t.f0.length)
    (hv : ∀ v ∈ t.f0, vfin v = true) (hp : ∀ v ∈ b.f0, vfin v = true) :
    ∀ (rest restp pre prep acc : List S46) (k : Nat), t.f0 = pre ++ rest → b.f0 = prep ++ restp → pre.length = prep.length → acc.length = pre.length →
      L4.impl_movedThreads.l1 (k + rest.length + 1) by_ by_ core tick acc0 (i : Int) acc L (L.length : Int) (i : Int) t.f0 (t.f0.length : Int) (pre.length : Int) t.f0 t.f1 =
        match mvPts by_ core tick rest restp with
        | none => some ([], false)
        | some q => L4.impl_movedThreads.l0 k by_ by_ core tick (acc0 ++ [⟨acc ++ q, t.f1⟩]) L (L.length : Int) (((i + 1 : Nat)) : Int) := by
  intro rest
  induction rest with
  | nil =>
    intro restp pre prep acc k h1 h2 h3 h4
    rw [List.append_nil] at h1
    simp only [List.length_nil, Nat.add_zero, L4.impl_movedThreads.l1]
    rw [if_neg (by rw [h1]; simp), if_pos (by omega), w1 i (by omega)]
    simp [mvPts]
  | cons v rest ih =>
    intro restp pre prep acc k h1 h2 h3 h4
    cases restp with
    | nil =>
      rw [List.append_nil] at h2
      have : t.f0.length = pre.length + rest.length + 1 := by rw [h1]; simp; omega
      rw [h2] at hlb
      omega
    | cons p restp =>
      have hlt : t.f0.length = pre.length + rest.length + 1 := by rw [h1]; simp; omega
      have hrd1 : rd_T46 t.f0 (pre.length : Int) = v := by rw [h1]; simp [rd_T46]
      have hrd2 : rd_T46 b.f0 (pre.length : Int) = p := by rw [h2, h3]; simp [rd_T46]
      have hvv := hv v (by rw [h1]; simp)
      have hpp := hp p (by rw [h2]; simp)
      simp only [List.length_cons, L4.impl_movedThreads.l1, hb, hrd1, hrd2]
      rw [if_pos (by omega), if_pos (by omega), if_pos (by omega), if_pos (by omega), if_pos (by omega), if_pos (by omega), flow_f core hby hpp]
      simp only [Option.bind_some]
      rw [show XC.finiteVector.f (allV p core by_).f0 (allV p core by_).f1 (allV p core by_).f2 = some (vfin (allV p core by_)) from rfl]
      simp only [Option.bind_some, mvPts, mvP]
      cases hf : vfin (allV p core by_) with
      | false => rw [if_neg (by decide), if_neg (by decide)]; rfl
      | true =>
        rw [if_pos rfl, if_pos rfl, scale_f hf htick]
        simp only [Option.bind_some]
        rw [add_f hvv (nn_mul hf htick)]
        simp only [Option.bind_some]
        rw [if_pos (by omega), w1 pre.length (by omega)]
        have e2 : pre.length + 1 = (pre ++ [v]).length := by simp
        have e3 : k + (rest.length + 1) = k + rest.length + 1 := by omega
        have := ih restp (pre ++ [v]) (prep ++ [p]) (acc ++ [opV .add v (mulV (allV p core by_) tick)]) k (by rw [h1]; simp) (by rw [h2]; simp) (by simp [h3]) (by simp [h4])
        rw [e2, e3, show (⟨(opV .add v (mulV (allV p core by_) tick)).f0, (opV .add v (mulV (allV p core by_) tick)).f1, (opV .add v (mulV (allV p core by_) tick)).f2⟩ : S46) = opV .add v (mulV (allV p core by_) tick) from rfl, this]
        cases mvPts by_ core tick rest restp with
        | none => rfl
        | some q => simp
def cost : List S31 → Nat
  | [] => 0
  | t :: l => t.f0.length + 2 + cost l
theorem impl_l0 (hby : are by_ = true) (hL : are L = true) (htick : fin tick = true) :
    ∀ (rest restb pre preb acc : List S31) (k : Nat), L = pre ++ rest → by_ = preb ++ restb → pre.length = preb.length → lens rest = lens restb → acc.length = pre.length → cost rest < k →
      L4.impl_movedThreads.l0 k by_ by_ core tick acc L (L.length : Int) (pre.length : Int) =
        match mvTs by_ core tick rest restb with
        | none => some ([], false)
        | some q => some (acc ++ q, are (acc ++ q)) := by
  obtain ⟨hl4, hts⟩ := are_spec hL
  obtain ⟨hb4, hbs⟩ := are_spec hby
  intro rest
  induction rest with
  | nil =>
    intro restb pre preb acc k h1 h2 h3 h4 h5 hk
    obtain ⟨k, rfl⟩ : ∃ m, k = m + 1 := ⟨k - 1, by simp [cost] at hk; omega⟩
    rw [List.append_nil] at h1
    simp only [L4.impl_movedThreads.l0]
    rw [if_neg (by rw [h1]; simp)]
    simp [mvTs, AreThreads.f]
  | cons t rest ih =>
    intro restb pre preb acc k h1 h2 h3 h4 h5 hk
    cases restb with
    | nil => simp [lens] at h4
    | cons b restb =>
      simp only [lens, List.map_cons, List.cons.injEq] at h4
      have hll : L.length = pre.length + rest.length + 1 := by rw [h1]; simp; omega
      have hbl : by_.length = preb.length + restb.length + 1 := by rw [h2]; simp; omega
      have hrd1 : rd_T31 L (pre.length : Int) = t := by rw [h1]; simp [rd_T31]
      have hrd2 : rd_T31 by_ (pre.length : Int) = b := by rw [h2, h3]; simp [rd_T31]
      obtain ⟨_, ht2, ht3, _⟩ := hts t (by rw [h1]; simp)
      obtain ⟨_, hb2, hb3, _⟩ := hbs b (by rw [h2]; simp)
      simp only [cost] at hk
      obtain ⟨m, rfl⟩ : ∃ m, k = m + t.f0.length + 1 + 1 := ⟨k - t.f0.length - 2, by omega⟩
      simp only [L4.impl_movedThreads.l0, hrd1]
      rw [if_pos (by omega), if_pos (by omega), if_pos (by omega)]
      have := impl_l1 (core := core) hby hl4 htick t b pre.length hrd1 hrd2 (by omega) (by omega) acc (by omega) ht2 h4.1.symm ht3 hb3 t.f0 b.f0 [] [] [] m rfl rfl rfl rfl
      simp only [List.length_nil, List.nil_append] at this
      rw [show ((0 : Nat) : Int) = 0 from rfl] at this
      rw [this]
      simp only [mvTs]
      cases hm : mvPts by_ core tick t.f0 b.f0 with
      | none => rfl
      | some q =>
        simp only [Option.bind_some]
        have e2 : pre.length + 1 = (pre ++ [t]).length := by simp
        rw [e2, ih restb (pre ++ [t]) (preb ++ [b]) (acc ++ [(⟨q, t.f1⟩ : S31)]) m (by rw [h1]; simp) (by rw [h2]; simp) (by simp [h3]) h4.2 (by simp [h5]) (by omega)]
        cases mvTs by_ core tick rest restb with
        | none => rfl
        | some r => simp
theorem cost_le {l : List S31} (h : are l = true) : cost l ≤ 136 := by
  obtain ⟨h4, hs⟩ := are_spec h
  have : ∀ l : List S31, (∀ t ∈ l, t.f0.length ≤ 32) → cost l ≤ 34 * l.length := by
    intro l
    induction l with
    | nil => intro _; simp [cost]
    | cons t l ih =>
      intro h
      have h1 := h t (by simp)
      have h2 := ih (fun s hs => h s (by simp [hs]))
      simp only [cost, List.length_cons]
      omega
  have := this l (fun t ht => (hs t ht).2.1)
  omega
theorem impl_moved (hby : are by_ = true) (hL : are L = true) (htick : fin tick = true) (hs : lens L = lens by_) (k : Nat) (hk : 200 ≤ k) :
    L4.impl_movedThreads.f k L by_ by_ core tick = match mvTs by_ core tick L by_ with
        | none => some ([], false)
        | some q => some (q, are q) := by
  unfold L4.impl_movedThreads.f
  have := impl_l0 (core := core) hby hL htick L by_ [] [] [] k rfl rfl rfl hs rfl (by have := cost_le hL; omega)
  simp only [List.length_nil, List.nil_append] at this
  exact this
end impl
section spec
variable {by_ : List S31} {core tick : Nat}
theorem spec_l1 (hby : are by_ = true) (htick : fin tick = true) (b : S31) (i : Nat) (hb : rd_T31 by_ (i : Int) = b) (hib : i < by_.length) (sp : Nat) (dn lt : List S31) (hdn : dn.length = i) (hd : dn.length + lt.length ≤ 100) (hlb : b.f0.length ≤ 32)
    (hp : ∀ v ∈ b.f0, vfin v = true) :
    ∀ (rest restp dp prep : List S46) (k : Nat), b.f0 = prep ++ restp → dp.length = prep.length → rest.length = restp.length → (∀ v ∈ rest, vfin v = true) →
      L4.spec_l06Moved.l1 (k + rest.length + 1) by_ core tick (dn ++ (⟨dp ++ rest, sp⟩ : S31) :: lt) (i : Int) (dp.length : Int) =
        match mvPts by_ core tick rest restp with
        | none => some ([], false)
        | some q => L4.spec_l06Moved.l0 k by_ core tick (dn ++ (⟨dp ++ q, sp⟩ : S31) :: lt) (((i + 1 : Nat)) : Int) := by
  intro rest
  induction rest with
  | nil =>
    intro restp dp prep k h2 h3 h4 hv
    have hrd : rd_T31 (dn ++ (⟨dp ++ [], sp⟩ : S31) :: lt) (i : Int) = ⟨dp ++ [], sp⟩ := by rw [← hdn]; simp [rd_T31]
    simp only [List.length_nil, Nat.add_zero, L4.spec_l06Moved.l1, hrd]
    rw [if_pos (by omega), if_pos (by simp; omega), if_neg (by simp), w1 i (by omega)]
    simp [mvPts]
  | cons v rest ih =>
    intro restp dp prep k h2 h3 h4 hv
    cases restp with
    | nil => simp at h4
    | cons p restp =>
      have hrd : rd_T31 (dn ++ (⟨dp ++ v :: rest, sp⟩ : S31) :: lt) (i : Int) = ⟨dp ++ v :: rest, sp⟩ := by rw [← hdn]; simp [rd_T31]
      have hbl : b.f0.length = prep.length + restp.length + 1 := by rw [h2]; simp; omega
      have hrd1 : rd_T46 (dp ++ v :: rest) (dp.length : Int) = v := by simp [rd_T46]
      have hrd2 : rd_T46 b.f0 (dp.length : Int) = p := by rw [h2, h3]; simp [rd_T46]
      have hvv := hv v (by simp)
      have hpp := hp p (by rw [h2]; simp)
      obtain ⟨K, hK⟩ : ∃ K, K = k + rest.length + 1 := ⟨_, rfl⟩
      rw [show k + (v :: rest).length + 1 = K + 1 by simp; omega]
      simp only [L4.spec_l06Moved.l1, hrd, hb, hrd1, hrd2]
      rw [if_pos (by omega), if_pos (by simp; omega), if_pos (by simp; omega), if_pos (by omega), if_pos (by omega), if_pos (by omega)]
      rw [show XM.l06Flow.f by_ p.f0 p.f1 p.f2 core = some ((allV p core by_).f0, (allV p core by_).f1, (allV p core by_).f2) from flow_f core hby hpp]
      simp only [Option.bind_some]
      rw [show L0.spec_l01VFinite.f (allV p core by_).f0 (allV p core by_).f1 (allV p core by_).f2 = some (vfin (allV p core by_)) from vf (allV p core by_)]
      simp only [Option.bind_some, mvPts, mvP]
      cases hf : vfin (allV p core by_) with
      | false => rw [if_neg (by decide), if_neg (by decide)]; rfl
      | true =>
        rw [if_pos rfl, if_pos rfl, show XM.scaleS.f (allV p core by_).f0 (allV p core by_).f1 (allV p core by_).f2 tick = _ from scale_f hf htick]
        simp only [Option.bind_some]
        rw [show XM.addS.f v.f0 v.f1 v.f2 (mulV (allV p core by_) tick).f0 (mulV (allV p core by_) tick).f1 (mulV (allV p core by_) tick).f2 = _ from add_f hvv (nn_mul hf htick)]
        simp only [Option.bind_some]
        rw [show (⟨(opV .add v (mulV (allV p core by_) tick)).f0, (opV .add v (mulV (allV p core by_) tick)).f1, (opV .add v (mulV (allV p core by_) tick)).f2⟩ : S46) = opV .add v (mulV (allV p core by_) tick) from rfl]
        generalize opV .add v (mulV (allV p core by_) tick) = x
        rw [w1 dp.length (by omega)]
        have e0 : (dp ++ v :: rest).set (dp.length : Int).toNat x = (dp ++ [x]) ++ rest := by
          rw [Int.toNat_natCast, List.set_append_right _ _ (Nat.le_refl _), Nat.sub_self]
          simp
        have e1 : (dn ++ (⟨dp ++ v :: rest, sp⟩ : S31) :: lt).set (i : Int).toNat (⟨(dp ++ [x]) ++ rest, sp⟩ : S31) = dn ++ (⟨(dp ++ [x]) ++ rest, sp⟩ : S31) :: lt := by
          rw [Int.toNat_natCast, List.set_append_right _ _ (by omega), hdn, Nat.sub_self]
          rfl
        have e2 : dp.length + 1 = (dp ++ [x]).length := by simp
        rw [e0, e1, e2, hK, ih restp (dp ++ [x]) (prep ++ [p]) k (by rw [h2]; simp) (by simp [h3]) (by simpa using h4) (fun w hw => hv w (by simp [hw]))]
        cases mvPts by_ core tick rest restp with
        | none => rfl
        | some q => simp
theorem spec_l0 (hby : are by_ = true) (htick : fin tick = true) :
    ∀ (rest restb dn preb : List S31) (k : Nat), by_ = preb ++ restb → dn.length = preb.length → lens rest = lens restb → (∀ t ∈ rest, ∀ v ∈ t.f0, vfin v = true) → cost rest < k →
      L4.spec_l06Moved.l0 k by_ core tick (dn ++ rest) (dn.length : Int) =
        match mvTs by_ core tick rest restb with
        | none => some ([], false)
        | some q => if are (dn ++ q) = true then some (dn ++ q, true) else some ([], false) := by
  obtain ⟨hb4, hbs⟩ := are_spec hby
  intro rest
  induction rest with
  | nil =>
    intro restb dn preb k h2 h3 h4 hv hk
    obtain ⟨k, rfl⟩ : ∃ m, k = m + 1 := ⟨k - 1, by simp [cost] at hk; omega⟩
    simp only [L4.spec_l06Moved.l0]
    rw [if_neg (by simp)]
    simp [mvTs, l06Are.f]
  | cons t rest ih =>
    intro restb dn preb k h2 h3 h4 hv hk
    cases restb with
    | nil => simp [lens] at h4
    | cons b restb =>
      have h4' : lens rest = lens restb := by
        simp only [lens, List.map_cons, List.cons.injEq] at h4 ⊢
        exact h4.2
      simp only [lens, List.map_cons, List.cons.injEq] at h4
      have hbl : by_.length = preb.length + restb.length + 1 := by rw [h2]; simp; omega
      have hrl : rest.length = restb.length := by
        have := congrArg List.length h4'
        simpa [lens] using this
      have hrd2 : rd_T31 by_ (dn.length : Int) = b := by rw [h2, h3]; simp [rd_T31]
      obtain ⟨_, hb2, hb3, _⟩ := hbs b (by rw [h2]; simp)
      simp only [cost] at hk
      obtain ⟨m, rfl⟩ : ∃ m, k = m + t.f0.length + 1 + 1 := ⟨k - t.f0.length - 2, by omega⟩
      simp only [L4.spec_l06Moved.l0]
      rw [if_pos (by simp; omega)]
      have := spec_l1 (core := core) hby htick b dn.length hrd2 (by omega) t.f1 dn rest rfl (by omega) hb2 hb3 t.f0 b.f0 [] [] m rfl rfl h4.1 (hv t (by simp))
      simp only [List.length_nil, List.nil_append] at this
      rw [show ((0 : Nat) : Int) = 0 from rfl] at this
      rw [show (⟨t.f0, t.f1⟩ : S31) = t from rfl] at this
      rw [this]
      simp only [mvTs]
      cases hm : mvPts by_ core tick t.f0 b.f0 with
      | none => rfl
      | some q =>
        simp only [Option.bind_some]
        have e2 : dn.length + 1 = (dn ++ [(⟨q, t.f1⟩ : S31)]).length := by simp
        have e3 : dn ++ (⟨q, t.f1⟩ : S31) :: rest = (dn ++ [(⟨q, t.f1⟩ : S31)]) ++ rest := by simp
        rw [e2, e3, ih restb (dn ++ [(⟨q, t.f1⟩ : S31)]) (preb ++ [b]) m (by rw [h2]; simp) (by simp [h3]) h4' (fun s hs => hv s (by simp [hs])) (by omega)]
        cases mvTs by_ core tick rest restb with
        | none => rfl
        | some r => simp
theorem owns_f {L : List S31} (hL : are L = true) : XM.l06Owns.f L = some L := by
  obtain ⟨h4, hs⟩ := are_spec hL
  unfold XM.l06Owns.f
  rw [if_pos ?_]
  rw [Bool.and_eq_true, decide_eq_true_eq, List.all_eq_true]
  exact ⟨by omega, fun t ht => by have := (hs t ht).2.1; rw [decide_eq_true_eq]; omega⟩
theorem spec_moved {L : List S31} (hby : are by_ = true) (hL : are L = true) (htick : fin tick = true) (hs : lens L = lens by_) (k : Nat) (hk : 200 ≤ k) :
    L4.spec_l06Moved.f k L by_ core tick = match mvTs by_ core tick L by_ with
        | none => some ([], false)
        | some q => if are q = true then some (q, true) else some ([], false) := by
  unfold L4.spec_l06Moved.f
  rw [owns_f hL]
  simp only [Option.bind_some]
  have := spec_l0 (core := core) hby htick L by_ [] [] k rfl rfl hs (fun t ht => ((are_spec hL).2 t ht).2.2.1) (by have := cost_le hL; omega)
  simp only [List.length_nil, List.nil_append] at this
  exact this
end spec
end Go.Proofs.Ytffofpiejcolfaa.PRun
end
section
set_option linter.unusedVariables false
set_option linter.unusedSimpArgs false
namespace Go.Proofs.Ytffofpiejcolfaa.PRun
open Go.RowKit Go.Proofs.Ytffofpiejcolfaa Go.Proofs.YtffofpiejcolfaaW.PrintWords
open XF XL XC XY XN XE XK XG XV XW XM XH L0 L3 PL3
def half (tick : Nat) : Nat := fop .mul .f32 1056964608 tick
def stepV (core tick : Nat) (L : List S31) : Option (List S31) :=
  (mvTs L core (half tick) L L).bind fun h => if are h = true then (mvTs h core tick L h).bind fun q => if are q = true then some q else none else none
theorem step_are {core tick : Nat} {L q : List S31} (h : stepV core tick L = some q) : are q = true := by
  unfold stepV at h
  obtain ⟨x, h1, h2⟩ := Option.bind_eq_some_iff.1 h
  cases e : are x with
  | false => rw [e, if_neg (by decide)] at h2; cases h2
  | true =>
    rw [e, if_pos rfl] at h2
    obtain ⟨y, h3, h4⟩ := Option.bind_eq_some_iff.1 h2
    cases e2 : are y with
    | false => rw [e2, if_neg (by decide)] at h4; cases h4
    | true => rw [e2, if_pos rfl] at h4; rw [← Option.some.inj h4]; exact e2
theorem impl_step {core tick : Nat} {L : List S31} (hL : are L = true) (ht : fin tick = true) (k : Nat) (hk : 200 ≤ k) :
    ∃ r, L4.impl_stepThreads.f k L core tick = some (r, (stepV core tick L).isSome) ∧ ∀ q, stepV core tick L = some q → r = q := by
  obtain ⟨_, f2, f3, f4⟩ := half_fin ht
  unfold L4.impl_stepThreads.f stepV
  rw [if_pos f2, f3, impl_moved hL hL f4 rfl k hk]
  rw [show fop .mul .f32 1056964608 tick = half tick from rfl]
  cases hm : mvTs L core (half tick) L L with
  | none => exact ⟨[], by simp, by simp⟩
  | some h =>
    simp only [Option.bind_some]
    cases e : are h with
    | false => exact ⟨[], by simp, by simp⟩
    | true =>
      rw [if_pos rfl, if_pos rfl, impl_moved e hL ht (mvTs_lens rfl hm).symm k hk]
      cases mvTs h core tick L h with
      | none => exact ⟨[], by simp, by simp⟩
      | some q =>
        refine ⟨q, ?_, ?_⟩
        · cases e9 : are q <;> simp [e9]
        · intro p hp
          cases e2 : are q with
          | false => rw [Option.bind_some, e2, if_neg (by decide)] at hp; cases hp
          | true => rw [Option.bind_some, e2, if_pos rfl] at hp; exact Option.some.inj hp
theorem spec_step {core tick : Nat} {L : List S31} (hL : are L = true) (ht : fin tick = true) (k : Nat) (hk : 200 ≤ k) :
    L4.spec_l06Step.f k L core tick = match stepV core tick L with | none => some ([], false) | some q => some (q, true) := by
  obtain ⟨f1, _, _, f4⟩ := half_fin ht
  unfold L4.spec_l06Step.f stepV
  rw [if_pos f1, spec_moved hL hL f4 rfl k hk]
  show (match mvTs L core (half tick) L L with | none => some ([], false) | some q => if are q = true then some (q, true) else some ([], false)).bind _ = _
  cases hm : mvTs L core (half tick) L L with
  | none => simp
  | some h =>
    simp only [Option.bind_some]
    cases e : are h with
    | false => simp
    | true =>
      simp only [if_true, Option.bind_some]
      rw [spec_moved e hL ht (mvTs_lens rfl hm).symm k hk]
      cases mvTs h core tick L h with
      | none => simp
      | some q => cases e2 : are q <;> simp [e2]
def runV (core tick : Nat) : Nat → List S31 → Option (List S31)
  | 0, L => some L
  | n + 1, L => (stepV core tick L).bind (runV core tick n)
theorem run_are {core tick : Nat} : ∀ {n : Nat} {L q : List S31}, are L = true → runV core tick n L = some q → are q = true
  | 0, L, q, h, e => by rw [← Option.some.inj e]; exact h
  | n + 1, L, q, h, e => by
    unfold runV at e
    obtain ⟨x, h1, h2⟩ := Option.bind_eq_some_iff.1 e
    exact run_are (step_are h1) h2
theorem impl_run {core tick : Nat} (ht : fin tick = true) (steps : Int) (hs : steps ≤ 1000) : ∀ (n : Nat) (L : List S31) (k : Nat) (j : Int), are L = true → 0 ≤ j → steps = j + n → 300 + n ≤ k →
    L4.impl_RunThreads.l0 k core tick L steps j = match runV core tick n L with | none => some ([], false) | some q => some (q, true)
  | 0, L, k, j, hL, hj, he, hk => by
    obtain ⟨k, rfl⟩ : ∃ m, k = m + 1 := ⟨k - 1, by omega⟩
    simp only [L4.impl_RunThreads.l0]
    rw [if_neg (by omega)]
    rfl
  | n + 1, L, k, j, hL, hj, he, hk => by
    obtain ⟨k, rfl⟩ : ∃ m, k = m + 1 := ⟨k - 1, by omega⟩
    obtain ⟨r, h1, h2⟩ := impl_step (core := core) hL ht k (by omega)
    simp only [L4.impl_RunThreads.l0]
    rw [if_pos (by omega), h1]
    simp only [Option.bind_some, runV]
    cases e : stepV core tick L with
    | none => simp
    | some q =>
      have := h2 q e
      subst this
      rw [show (some r : Option (List S31)).isSome = true from rfl, if_pos rfl, wrap_id (i := j + 1) (by omega) (by omega)]
      exact impl_run ht steps hs n r k (j + 1) (step_are e) (by omega) (by omega) (by omega)
theorem clone_l0 {L : List S31} (hL : are L = true) : ∀ (rest pre : List S31) (k : Nat), L = pre ++ rest → rest.length < k → L4.impl_cloneThreads.l0 k pre L (L.length : Int) (pre.length : Int) = some L := by
  obtain ⟨h4, hs⟩ := are_spec hL
  intro rest
  induction rest with
  | nil =>
    intro pre k hp hk
    obtain ⟨k, rfl⟩ : ∃ m, k = m + 1 := ⟨k - 1, by omega⟩
    rw [List.append_nil] at hp
    simp only [L4.impl_cloneThreads.l0]
    rw [if_neg (by rw [hp]; simp), hp]
  | cons t rest ih =>
    intro pre k hp hk
    simp only [List.length_cons] at hk
    obtain ⟨k, rfl⟩ : ∃ m, k = m + 1 := ⟨k - 1, by omega⟩
    have hll : L.length = pre.length + rest.length + 1 := by rw [hp]; simp; omega
    have hrd : rd_T31 L (pre.length : Int) = t := by rw [hp]; simp [rd_T31]
    have ht := (hs t (by rw [hp]; simp)).2.1
    simp only [L4.impl_cloneThreads.l0, hrd]
    rw [if_pos (by omega), if_pos (by omega), if_pos (by omega)]
    unfold clone.f
    rw [if_pos (by omega)]
    simp only [Option.bind_some]
    rw [if_pos (by omega), w1 pre.length (by omega), show (⟨t.f0, t.f1⟩ : S31) = t from rfl]
    have e2 : pre.length + 1 = (pre ++ [t]).length := by simp
    rw [e2]
    exact ih (pre ++ [t]) k (by rw [hp]; simp) (by omega)
theorem clone_f {L : List S31} (hL : are L = true) (k : Nat) (hk : 100 ≤ k) : L4.impl_cloneThreads.f k L = some L := by
  unfold L4.impl_cloneThreads.f
  have := (are_spec hL).1
  exact clone_l0 hL L [] k rfl (by omega)
def runR (L : List S31) (core tick : Nat) (steps : Int) : List S31 × Bool :=
  if are L = true then (if level core = true then (if fin tick = true then (if 0 ≤ steps ∧ steps ≤ 32 then (match runV core tick steps.toNat L with | none => ([], false) | some q => (q, true)) else ([], false)) else ([], false)) else ([], false)) else ([], false)
theorem level_f (core : Nat) : levelOk.f [core] = some (level core) := by
  unfold levelOk.f level
  simp
theorem in_f (n : Int) : L4.impl_in.f n 0 32 = some (decide (0 ≤ n ∧ n ≤ 32)) := by
  unfold L4.impl_in.f
  by_cases c : n ≥ 0
  · rw [if_pos c]
    by_cases d : n ≤ 32
    · simp [d]; omega
    · simp [d]
  · rw [if_neg c]
    have : ¬ (0 ≤ n ∧ n ≤ 32) := by omega
    simp [this]
theorem impl_R (L : List S31) (core tick : Nat) (steps : Int) (k : Nat) (hk : 2000 ≤ k) : L4.impl_RunThreads.f k L core tick steps = some (runR L core tick steps) := by
  obtain ⟨k, rfl⟩ : ∃ m, k = m + 1 := ⟨k - 1, by omega⟩
  have hj : ∀ s, L4.impl_RunThreads.j0 (k + 1) L core tick s true = some ([], false) := fun s => by simp only [L4.impl_RunThreads.j0]; rw [if_pos trivial]
  unfold L4.impl_RunThreads.f runR AreThreads.f XL.IsFinite.f
  simp only [Option.bind_some]
  rw [level_f, in_f]
  simp only [Option.bind_some]
  cases e1 : are L with
  | false => rw [if_neg (by decide), if_neg (by decide)]; exact hj _
  | true =>
    rw [if_pos rfl, if_pos rfl]
    cases e2 : level core with
    | false => rw [if_neg (by decide), if_neg (by decide)]; exact hj _
    | true =>
      rw [if_pos rfl, if_pos rfl]
      cases e3 : fin tick with
      | false => rw [if_neg (by decide), if_neg (by decide)]; exact hj _
      | true =>
        rw [if_pos rfl, if_pos rfl]
        by_cases c : 0 ≤ steps ∧ steps ≤ 32
        · rw [if_pos c, decide_eq_true c]
          simp only [Bool.not_true, L4.impl_RunThreads.j0]
          rw [if_neg (by decide), clone_f e1 k (by omega)]
          simp only [Option.bind_some]
          rw [impl_run e3 steps (by omega) steps.toNat L k 0 e1 (by omega) (by omega) (by omega)]
          cases runV core tick steps.toNat L <;> rfl
        · rw [if_neg c, decide_eq_false c]
          exact hj _
theorem can_f (L : List S31) (core tick : Nat) : L4.spec_l06Can.f L core tick = some (if are L = true then (if level core = true then fin tick else false) else false) := by
  unfold L4.spec_l06Can.f l06Are.f l02Least.f XL.l01Finite.f
  simp only [Option.bind_some]
  cases are L <;> cases level core <;> simp
theorem impl_S (L : List S31) (core tick : Nat) (k : Nat) (hk : 2000 ≤ k) : L4.impl_StepThreads.f k L core tick = some (runR L core tick 1) := by
  unfold L4.impl_StepThreads.f
  rw [impl_R L core tick 1 k hk]
  rfl
theorem spec_S (L : List S31) (core tick : Nat) (k : Nat) (hk : 2000 ≤ k) : L4.spec_StepThreads.f k L core tick = some (runR L core tick 1) := by
  unfold L4.spec_StepThreads.f runR
  rw [can_f]
  simp only [Option.bind_some]
  cases e1 : are L with
  | false => simp only [Bool.false_eq_true, if_false]
  | true =>
    rw [if_pos rfl, if_pos rfl]
    cases e2 : level core with
    | false => simp only [Bool.false_eq_true, if_false]
    | true =>
      rw [if_pos rfl, if_pos rfl]
      cases e3 : fin tick with
      | false => rw [if_neg (by decide), if_neg (by decide)]
      | true =>
        rw [if_pos rfl, if_pos rfl, if_pos (by decide), spec_step e1 e3 k (by omega)]
        show _ = some (match (stepV core tick L).bind some with | none => ([], false) | some q => (q, true))
        cases stepV core tick L <;> rfl
theorem runR_small (L : List S31) (core tick : Nat) (steps : Int) : (runR L core tick steps).1.length ≤ 4 ∧ ∀ t ∈ (runR L core tick steps).1, t.f0.length ≤ 32 := by
  have h0 : ([] : List S31).length ≤ 4 ∧ ∀ t ∈ ([] : List S31), t.f0.length ≤ 32 := by simp
  unfold runR
  cases e1 : are L with
  | false => rw [if_neg (by decide)]; exact h0
  | true =>
    rw [if_pos rfl]
    split
    · split
      · split
        · cases hr : runV core tick steps.toNat L with
          | none => exact h0
          | some q =>
            obtain ⟨h4, hs⟩ := are_spec (run_are e1 hr)
            exact ⟨h4, fun t ht => (hs t ht).2.1⟩
        · exact h0
      · exact h0
    · exact h0
end Go.Proofs.Ytffofpiejcolfaa.PRun
end
section
set_option linter.unusedVariables false
set_option linter.unusedSimpArgs false
namespace Go.Proofs.Ytffofpiejcolfaa.PMark
open Go.RowKit Go.Proofs.Ytffofpiejcolfaa Go.Proofs.YtffofpiejcolfaaW.PrintWords
open XF XL XC XY XN XE XK XG XV XM4 XH L0 L3 PL3
def fl (x : Nat) : Nat := floatOfInt .f32 (x : Int)
def mkd : Nat → Nat → List S46
  | 0, _ => []
  | n + 1, x => ⟨fl x, fl (x + 1), fl (x + 2)⟩ :: mkd n (x + 3)
theorem fl_ord (x : Nat) : FloatKind.f32.format.order (fl x) (fl x) = some .eq := order_self (Is_n (near32 _ _ _))
theorem mark_l0 : ∀ (rest pre : List S46) (x k : Nat), rest.length < k → pre.length + rest.length ≤ 1000000000 → x + 3 * rest.length ≤ 100000000000 →
    L5.laws_markVectorS.l0 k (pre ++ rest) (x : Int) (pre.length : Int) = some (((x + 3 * rest.length : Nat) : Int), pre ++ mkd rest.length x) := by
  intro rest
  induction rest with
  | nil =>
    intro pre x k hk hp hx
    obtain ⟨k, rfl⟩ : ∃ m, k = m + 1 := ⟨k - 1, by omega⟩
    simp only [L5.laws_markVectorS.l0]
    rw [if_neg (by simp)]
    simp [mkd]
  | cons L rest ih =>
    intro pre x k hk hp hx
    simp only [List.length_cons] at hk hp hx
    obtain ⟨k, rfl⟩ : ∃ m, k = m + 1 := ⟨k - 1, by omega⟩
    have hlt : (pre.length : Int) < (((pre ++ L :: rest).length : Nat) : Int) := by simp; omega
    have hset (u v : S46) : (pre ++ u :: rest).set (pre.length : Int).toNat v = pre ++ v :: rest := by
      rw [Int.toNat_natCast, List.set_append_right _ _ (Nat.le_refl _), Nat.sub_self]
      rfl
    have hrd (u : S46) : rd_T46 (pre ++ u :: rest) (pre.length : Int) = u := by simp [rd_T46]
    simp only [L5.laws_markVectorS.l0, Option.bind_some, hset, hrd]
    rw [if_pos hlt, if_pos (by omega), w1 x (by omega), w1 (x + 1) (by omega), w1 (x + 1 + 1) (by omega), w1 pre.length (by omega)]
    have e (u : S46) : pre ++ u :: rest = (pre ++ [u]) ++ rest := by simp
    have e2 (u : S46) : pre.length + 1 = (pre ++ [u]).length := by simp
    rw [e, e2 (⟨floatOfInt .f32 (x : Int), floatOfInt .f32 ((x + 1 : Nat) : Int), floatOfInt .f32 ((x + 1 + 1 : Nat) : Int)⟩ : S46)]
    rw [ih _ (x + 3) k (by omega) (by simp; omega) (by omega)]
    simp only [List.length_cons, mkd, fl]
    congr 1
    rw [List.append_assoc, show x + 3 + 3 * rest.length = x + 3 * (rest.length + 1) by omega]
    rfl
theorem markV_f (l : List S46) (x k : Nat) (hk : l.length < k) (hl : l.length ≤ 1000000000) (hx : x + 3 * l.length ≤ 100000000000) : L5.laws_markVectorS.f k l (x : Int) = some (((x + 3 * l.length : Nat) : Int), mkd l.length x) := by
  unfold L5.laws_markVectorS.f
  have := mark_l0 l [] x k hk (by simp; omega) hx
  simp only [List.nil_append, List.length_nil] at this
  exact this
theorem held_l0 : ∀ (n x : Nat) (pre : List S46) (k : Nat), n < k → pre.length + n ≤ 1000000000 → x + 3 * n ≤ 100000000000 →
    L4.laws_heldVectorS.l0 k (pre ++ mkd n x) (x : Int) (pre.length : Int) = some ((x + 3 * n : Nat) : Int) := by
  intro n
  induction n with
  | zero =>
    intro x pre k hk hp hx
    obtain ⟨k, rfl⟩ : ∃ m, k = m + 1 := ⟨k - 1, by omega⟩
    simp only [L4.laws_heldVectorS.l0]
    rw [if_neg (by simp [mkd])]
    rfl
  | succ n ih =>
    intro x pre k hk hp hx
    obtain ⟨k, rfl⟩ : ∃ m, k = m + 1 := ⟨k - 1, by omega⟩
    have hlt : (pre.length : Int) < (((pre ++ mkd (n + 1) x).length : Nat) : Int) := by simp [mkd]; omega
    have hrd : rd_T46 (pre ++ mkd (n + 1) x) (pre.length : Int) = ⟨fl x, fl (x + 1), fl (x + 2)⟩ := by simp [rd_T46, mkd]
    have h0 := fl_ord x
    have h1 := fl_ord (x + 1)
    have h2 := fl_ord (x + 2)
    simp only [L4.laws_heldVectorS.l0, hrd]
    rw [if_pos hlt, if_pos (by omega), w1 x (by omega), w1 (x + 1) (by omega), w1 (x + 1 + 1) (by omega), w1 pre.length (by omega)]
    rw [show floatOfInt .f32 (x : Int) = fl x from rfl, show floatOfInt .f32 ((x + 1 : Nat) : Int) = fl (x + 1) from rfl, show floatOfInt .f32 ((x + 1 + 1 : Nat) : Int) = fl (x + 2) from rfl, h0, h1, h2]
    rw [if_neg (by decide), if_neg (by decide), if_neg (by decide)]
    have e : pre ++ mkd (n + 1) x = (pre ++ [⟨fl x, fl (x + 1), fl (x + 2)⟩]) ++ mkd n (x + 3) := by simp [mkd]
    have e2 : pre.length + 1 = (pre ++ [(⟨fl x, fl (x + 1), fl (x + 2)⟩ : S46)]).length := by simp
    rw [e, e2]
    have := ih (x + 3) (pre ++ [⟨fl x, fl (x + 1), fl (x + 2)⟩]) k (by omega) (by simp; omega) (by omega)
    refine Eq.trans this ?_
    rw [show x + 3 + 3 * n = x + 3 * (n + 1) by omega]
theorem heldV_f (n x k : Nat) (hk : n < k) (hl : n ≤ 1000000000) (hx : x + 3 * n ≤ 100000000000) : L4.laws_heldVectorS.f k (mkd n x) (x : Int) = some ((x + 3 * n : Nat) : Int) := by
  unfold L4.laws_heldVectorS.f
  have := held_l0 n x [] k hk (by simp; omega) hx
  simp only [List.nil_append, List.length_nil] at this
  exact this
def mkT : List S31 → Nat → List S31
  | [], _ => []
  | t :: r, x => ⟨mkd t.f0.length x, fl (x + 3 * t.f0.length)⟩ :: mkT r (x + 3 * t.f0.length + 1)
def endT : List S31 → Nat → Nat
  | [], x => x
  | t :: r, x => endT r (x + 3 * t.f0.length + 1)
def tot : List S31 → Nat
  | [] => 0
  | t :: r => t.f0.length + tot r
theorem markT_f (k : Nat) : ∀ (l : List S31) (x : Nat), tot l < k → tot l ≤ 100000000 → l.length ≤ 100000000 → x + 3 * tot l + l.length ≤ 10000000000 → markTs k l (x : Int) = some ((endT l x : Int), mkT l x)
  | [], x, _, _, _, _ => rfl
  | t :: r, x, hk, h1, h2, h3 => by
    simp only [tot, List.length_cons] at hk h1 h2 h3
    unfold markTs
    rw [markV_f t.f0 x k (by omega) (by omega) (by omega)]
    simp only [Option.bind_some]
    rw [w1 _ (by omega), markT_f k r (x + 3 * t.f0.length + 1) (by omega) (by omega) (by omega) (by omega)]
    rfl
theorem heldT_l0 : ∀ (l pre : List S31) (x k : Nat), l.length + tot l + 1 < k → pre.length + l.length ≤ 100000000 → tot l ≤ 100000000 → x + 3 * tot l + l.length ≤ 10000000000 →
    L4.laws_heldThreadS.l0 k (pre ++ mkT l x) (x : Int) (pre.length : Int) = some (endT l x : Int) := by
  intro l
  induction l with
  | nil =>
    intro pre x k hk hp h1 h2
    obtain ⟨k, rfl⟩ : ∃ m, k = m + 1 := ⟨k - 1, by omega⟩
    simp only [L4.laws_heldThreadS.l0]
    rw [if_neg (by simp [mkT])]
    rfl
  | cons t r ih =>
    intro pre x k hk hp h1 h2
    simp only [tot, List.length_cons] at hk hp h1 h2
    obtain ⟨k, rfl⟩ : ∃ m, k = m + 1 := ⟨k - 1, by omega⟩
    have hrd : rd_T31 (pre ++ mkT (t :: r) x) (pre.length : Int) = ⟨mkd t.f0.length x, fl (x + 3 * t.f0.length)⟩ := by simp [rd_T31, mkT]
    simp only [L4.laws_heldThreadS.l0, hrd]
    rw [if_pos (by simp [mkT]; omega), if_pos (by omega), heldV_f t.f0.length x k (by omega) (by omega) (by omega)]
    simp only [Option.bind_some]
    rw [if_neg (by omega), show floatOfInt .f32 ((x + 3 * t.f0.length : Nat) : Int) = fl (x + 3 * t.f0.length) from rfl, fl_ord, if_neg (by decide), w1 _ (by omega), w1 pre.length (by omega)]
    have e : pre ++ mkT (t :: r) x = (pre ++ [⟨mkd t.f0.length x, fl (x + 3 * t.f0.length)⟩]) ++ mkT r (x + 3 * t.f0.length + 1) := by simp [mkT]
    have e2 : pre.length + 1 = (pre ++ [(⟨mkd t.f0.length x, fl (x + 3 * t.f0.length)⟩ : S31)]).length := by simp
    rw [e, e2]
    exact ih _ (x + 3 * t.f0.length + 1) k (by omega) (by simp; omega) (by omega) (by omega)
theorem heldT_f (l : List S31) (k : Nat) (hk : l.length + tot l + 1 < k) (hp : l.length ≤ 100000000) (h1 : tot l ≤ 100000000) : L4.laws_heldThreadS.f k (mkT l 1) 1 = some (endT l 1 : Int) := by
  unfold L4.laws_heldThreadS.f
  have := heldT_l0 l [] 1 k hk (by simp; omega) h1 (by omega)
  simp only [List.nil_append, List.length_nil] at this
  exact this
end Go.Proofs.Ytffofpiejcolfaa.PMark
end
section
set_option linter.unusedVariables false
set_option linter.unusedSimpArgs false
namespace Go.Proofs.Ytffofpiejcolfaa.PureStep
open Go.RowKit Go.Proofs.Ytffofpiejcolfaa Go.Proofs.YtffofpiejcolfaaW.PrintWords
open XF XL XC XY XN XE XK XG XV XM4 XH L0 L3 PL3 PRun PMark
theorem tot_map : ∀ ls : List S25, tot (ls.map to31) = totP ls
  | [] => rfl
  | t :: r => by simp only [List.map_cons, tot, totP, tot_map r, to31, List.length_map]
theorem tot_small : ∀ l : List S31, (∀ t ∈ l, t.f0.length ≤ 32) → tot l ≤ 32 * l.length
  | [], _ => by simp [tot]
  | t :: r, h => by
    have h1 := h t (by simp)
    have h2 := tot_small r (fun s hs => h s (by simp [hs]))
    simp only [tot, List.length_cons]
    omega
theorem eqR (l : List S31) (K : Nat) (hk : 10 < K) (h : l.length ≤ 4) (hs : ∀ t ∈ l, t.f0.length ≤ 32) : L3.laws_eqThreadS.f K l l = some true := by
  unfold L3.laws_eqThreadS.f
  rw [if_pos rfl]
  have := eqTs_l0 l [] K (by omega) (by simp; omega) (fun t ht => by have := hs t ht; omega)
  simp only [List.nil_append, List.length_nil] at this
  exact this
theorem law (ls : List S25) (core tick : Nat) (hlen : ls.length ≤ 9223372036854775807) (hs : ∀ t ∈ ls, t.f0.length ≤ 9223372036854775807) :
    ∃ (k : Nat) (L R R' L' : List S31) (rb : Bool) (t m0 m1 : Int), L3.laws_szThreadS.f k ls 1048576 = some t ∧
      (t < 0 ∨ (0 ≤ t ∧ L3.laws_toThreadS.f k ls = some L ∧ L4.spec_StepThreads.f k L core tick = some (R, rb) ∧ L4.impl_StepThreads.f k L core tick = some (R, rb) ∧ L3.laws_eqThreadS.f k R R = some true ∧ L3.laws_eqThreadS.f k L L = some true ∧ XM4.markThreadS.f k L 1 = some (m0, L') ∧ 0 ≤ m0 ∧ XM4.markThreadS.f k R 1 = some (m1, R') ∧ 0 ≤ m1 ∧ L4.laws_heldThreadS.f k R' 1 = some m1)) := by
  obtain ⟨K, hK⟩ : ∃ K : Nat, 20000000 < K := ⟨20000001, by omega⟩
  obtain ⟨t, ht, h2⟩ := szTs_f ls K (by omega) hlen hs
  obtain ⟨hR4, hRs⟩ := runR_small (ls.map to31) core tick 1
  have hRt := tot_small _ hRs
  refine ⟨K, ls.map to31, (runR (ls.map to31) core tick 1).1, mkT (runR (ls.map to31) core tick 1).1 1, mkT (ls.map to31) 1, (runR (ls.map to31) core tick 1).2, t, (endT (ls.map to31) 1 : Int), (endT (runR (ls.map to31) core tick 1).1 1 : Int), ht, ?_⟩
  by_cases h0 : t < 0
  · exact .inl h0
  · obtain ⟨hl, htp⟩ := h2.resolve_left h0
    have e1 := tot_map ls
    have e2 : (ls.map to31).length = ls.length := by simp
    refine .inr ⟨by omega, toTs_f ls K (by omega) (by omega) (by omega), spec_S _ core tick K (by omega), impl_S _ core tick K (by omega), eqR _ K (by omega) hR4 hRs, eqTs_f ls K (by omega) (by omega) (by omega), ?_, by omega, ?_, by omega, ?_⟩
    · exact markT_f K _ 1 (by omega) (by omega) (by omega) (by omega)
    · exact markT_f K _ 1 (by omega) (by omega) (by omega) (by omega)
    · exact heldT_f _ K (by omega) (by omega) (by omega)
end Go.Proofs.Ytffofpiejcolfaa.PureStep
end
