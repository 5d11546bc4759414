/- Words, walks and plain laws that a claim of this seat needs, one text after the other (part 4). -/
import Derived.Test.YtcgaccdiomcglaaBN3
set_option linter.unusedVariables false
set_option linter.unusedSimpArgs false
section
namespace Go.Proofs.Ytcgaccdiomcglaa.N0
open Go.Proofs.Ytcgaccdiomcglaa.S0
open Go.RowKit Go.Proofs.YtcgaccdiomcglaaW.PrintWords Go.Proofs.YtcgaccdiomcglaaW.PrintLast Go.Proofs.YtcgaccdiomcglaaW.PrintMore
attribute [local go_sem] max2_int min2_int max_two min_two max_three min_three max_four min_four
set_option linter.unusedVariables false
set_option linter.unusedSimpArgs false
attribute [local go_sem high] binOp_fge binOp_fle
def laws_r8Long.f (l0 : List Int) (l1 : List Int) : Option (Bool) := if (l0.length : Int) > 48 then (some true) else (some (decide ((l1.length : Int) > 48)))
set_option maxHeartbeats 8000000 in
set_option maxRecDepth 100000 in
theorem laws_r8Long.calls (A0 : Option Addr) (c0 : Nat) (l0 : List Int) (A1 : Option Addr) (c1 : Nat) (l1 : List Int) (r : Bool) (w : World) (hr0 : Kd.C (Kd.int .u8) w A0 l0.length l0) (hc0 : l0.length ≤ c0) (hr1 : Kd.C (Kd.int .u8) w A1 l1.length l1) (hc1 : l1.length ≤ c1) (h : laws_r8Long.f l0 l1 = some r) :
    Calls Try.prog 7 #[.slice A0 l0.length c0, .slice A1 l1.length c1] w fun e w' => e = .returned (.bool r) ∧ Drawn0 w w' := by
  have HR0 := Aside0.mk hr0; have HC0 := Aside0.mk hc0; clear hr0 hc0; have HR1 := Aside0.mk hr1; have HC1 := Aside0.mk hc1; clear hr1 hc1; have H : (if (l0.length : Int) > 48 then (some true) else (some (decide ((l1.length : Int) > 48)))) = some r := h; clear h; by_cases c3 : (l0.length : Int) > 48
  · rw [if_pos c3] at H
    have c3b0 : decide (48 < (l0.length : Int)) = true := decide_eq_true c3; have c3b1 : decide (48 < l0.length) = true := decide_eq_true (by omega); clear c3; obtain rfl := Option.some.inj H; go_enter Try.func7, Try.ntmps7; go_wp2; go_ret; exact ⟨by first | rfl | (simp; done) | (simp [*]; done), by repeat (first | exact Drawn0.refl _ | apply Drawn0.step)⟩
  · rw [if_neg c3] at H
    have c3b0 : decide (48 < (l0.length : Int)) = false := decide_eq_false c3; have c3b1 : decide (48 < l0.length) = false := decide_eq_false (by omega); clear c3; obtain rfl := Option.some.inj H; go_enter Try.func7, Try.ntmps7; go_wp2; go_ret; exact ⟨by first | rfl | (simp; done) | (simp [*]; done), by repeat (first | exact Drawn0.refl _ | apply Drawn0.step)⟩
def impl_stepOk.f (k : Nat) (l0 : List (S46)) (a1 : Nat) (a2 : Nat) : Option (Bool) := (S0.impl_AreWhirls.f k l0).bind fun t169 => (if t169 = true then ((XW.levelOk.f (([a1] : List Nat))).bind fun t173 => (if t173 = true then ((XL.IsFinite.f a2).bind fun t174 => (some t174)) else (some false))) else (some false))
set_option maxHeartbeats 8000000 in
set_option maxRecDepth 100000 in
theorem impl_stepOk.calls (k : Nat) (A0 : Option Addr) (c0 : Nat) (l0 : List (S46)) (a1 : Nat) (a2 : Nat) (r : Bool) (w : World) (hr0 : Kd.C k46 w A0 l0.length l0) (hc0 : l0.length ≤ c0) (h : impl_stepOk.f k l0 a1 a2 = some r) :
    Calls Try.prog 99 #[.slice A0 l0.length c0, .float .f32 a1, .float .f32 a2] w fun e w' => e = .returned (.bool r) ∧ Below w.heap.size w w' := by
  have HR0 := Aside0.mk hr0; have HC0 := Aside0.mk hc0; clear hr0 hc0; have HB := AS (Below.refl w.heap.size w); have H : ((S0.impl_AreWhirls.f k l0).bind fun t169 => (if t169 = true then ((XW.levelOk.f (([a1] : List Nat))).bind fun t173 => (if t173 = true then ((XL.IsFinite.f a2).bind fun t174 => (some t174)) else (some false))) else (some false))) = some r := h; clear h; replace H := Option.bind_eq_some_iff.mp H; obtain ⟨t169, A40, H⟩ := H; replace H : (if t169 = true then ((XW.levelOk.f (([a1] : List Nat))).bind fun t173 => (if t173 = true then ((XL.IsFinite.f a2).bind fun t174 => (some t174)) else (some false))) else (some false)) = some r := H; have A4 := Aside0.mk A40; clear A40; by_cases c5 : t169 = true
  · subst c5
    have H1 : ((XW.levelOk.f (([a1] : List Nat))).bind fun t173 => (if t173 = true then ((XL.IsFinite.f a2).bind fun t174 => (some t174)) else (some false))) = some r := (by rw [if_pos rfl] at H; exact H); clear H; have H := H1; clear H1; obtain ⟨y170, hy170⟩ : ∃ y_ : List Nat, y_ = (([a1] : List Nat)) := ⟨_, rfl⟩; replace H : ((XW.levelOk.f y170).bind fun t173 => (if t173 = true then ((XL.IsFinite.f a2).bind fun t174 => (some t174)) else (some false))) = some r := (by first | (rw [hy170]; with_reducible exact H) | (have H2_ := (Option.bind_some _ _).symm.trans H; rw [hy170]; with_reducible exact H2_) | (have H2_ := (Option.bind_some _ _).symm.trans H; with_reducible exact H2_) | with_reducible exact H | (rw [hy170]; exact H) | exact H); have Ny170 := Aside0.mk hy170; clear hy170; replace H := Option.bind_eq_some_iff.mp H; obtain ⟨t173, A60, H⟩ := H; replace H : (if t173 = true then ((XL.IsFinite.f a2).bind fun t174 => (some t174)) else (some false)) = some r := H; have A6 := Aside0.mk A60; clear A60; by_cases c7 : t173 = true
    · subst c7
      have H1 : ((XL.IsFinite.f a2).bind fun t174 => (some t174)) = some r := (by rw [if_pos rfl] at H; exact H); clear H; have H := H1; clear H1; replace H := Option.bind_eq_some_iff.mp H; obtain ⟨t174, A80, H⟩ := H; replace H : (some t174) = some r := H; have A8 := Aside0.mk A80; clear A80; obtain rfl := Option.some.inj H; go_enter Try.func99, Try.ntmps99; go_wp2_with (first | ((with_reducible refine gate_callee (f := 82) rfl ?_); refine goesM 8 Try.func82 #[.slice A0 l0.length c0] ?_; (with_reducible refine (S0.impl_AreWhirls.calls k _ _ l0 true _ ?side1 ?side2 A4.out).mono ?_); (case side1 => exact CS HR0.out); (case side2 => exact HC0.out); rintro e w9 ⟨rfl, hb⟩; refine ⟨_, rfl, ?_⟩; replace HB := BB HB hb; (try clear hb); (try clear hb2); (try clear hk); (try clear hi)) | ((with_reducible refine gate_dst (N := 11) rfl ?_); (try (refine gate_guard (by rfl) ?_; dsimp only)); refine Kd.R_lit (Kd.float .f32) _ 27 ?hg (N := 11) ?hd (xs := ([a1] : List Nat)) (inner := [.float .f32 a1]) (ok := fun _ => True) (okp := fun _ => True) ?hr ?hp (fun _ hk => hk) trivial (Below.refl _ _) (Nat.le_refl _) (by simp) ?_; (case hd => rfl); (case hg => rfl); (case hr => first | (go_simp; done) | (go_simp; rfl)); (case hp => exact (Reps.one (show Kd.M (Kd.float .f32) _ _ _ a1 [.float .f32 a1] from rfl) (Reps.none _ _))); intro v171 w10 ho11 hb hg_ hnew_; clear hg_ hnew_; (first | rw [← Ny170.out] at ho11 | (simp only [Int.reduceToNat] at ho11; rw [← Ny170.out] at ho11)); have HO172 := AS (Kd.R_lower ho11 (below_size (BW HB))); replace HB := BB HB hb; clear hb ho11; obtain ⟨Ao12, co12, eo12⟩ := Kd.R_slice HO172.out; subst eo12) | (go_at_call 83; (with_reducible refine (XW.levelOk.calls _ _ y170 true _ ?side1 ?side2 A6.out).mono ?_); (case side1 => repeat (first | exact (Kd.R_reads' HO172.out).2.2 | (with_reducible refine Kd.C_alloc ?_ _) | (with_reducible refine Kd.C_drewN ?_ _) | (with_reducible refine Kd.C_drew ?_))); (case side2 => exact (Kd.R_reads' HO172.out).2.1); rintro e w13 ⟨rfl, hb⟩; replace HO172 := RB HO172 hb; replace HB := BB HB hb; (try clear hb); (try clear hb2); (try clear hk); (try clear hi)) | (go_at_call 72; (with_reducible refine (XL.IsFinite.calls a2 t174 _ A8.out).mono ?_); rintro e w' ⟨rfl, ⟨nd, rfl⟩⟩)); go_ret; exact ⟨by first | rfl | (simp [errW_none, errW_some] <;> rfl) | (simp [*, errW_none, errW_some] <;> rfl), BW HB⟩
    · replace c7 := Bool.eq_false_iff.mpr c7
      subst c7; have H1 : (some false) = some r := (by rw [if_neg (show ¬ (false = true) by decide)] at H; exact H); clear H; have H := H1; clear H1; obtain rfl := Option.some.inj H; go_enter Try.func99, Try.ntmps99; go_wp2_with (first | ((with_reducible refine gate_callee (f := 82) rfl ?_); refine goesM 8 Try.func82 #[.slice A0 l0.length c0] ?_; (with_reducible refine (S0.impl_AreWhirls.calls k _ _ l0 true _ ?side1 ?side2 A4.out).mono ?_); (case side1 => exact CS HR0.out); (case side2 => exact HC0.out); rintro e w14 ⟨rfl, hb⟩; refine ⟨_, rfl, ?_⟩; replace HB := BB HB hb; (try clear hb); (try clear hb2); (try clear hk); (try clear hi)) | ((with_reducible refine gate_dst (N := 11) rfl ?_); (try (refine gate_guard (by rfl) ?_; dsimp only)); refine Kd.R_lit (Kd.float .f32) _ 27 ?hg (N := 11) ?hd (xs := ([a1] : List Nat)) (inner := [.float .f32 a1]) (ok := fun _ => True) (okp := fun _ => True) ?hr ?hp (fun _ hk => hk) trivial (Below.refl _ _) (Nat.le_refl _) (by simp) ?_; (case hd => rfl); (case hg => rfl); (case hr => first | (go_simp; done) | (go_simp; rfl)); (case hp => exact (Reps.one (show Kd.M (Kd.float .f32) _ _ _ a1 [.float .f32 a1] from rfl) (Reps.none _ _))); intro v171 w15 ho16 hb hg_ hnew_; clear hg_ hnew_; (first | rw [← Ny170.out] at ho16 | (simp only [Int.reduceToNat] at ho16; rw [← Ny170.out] at ho16)); have HO172 := AS (Kd.R_lower ho16 (below_size (BW HB))); replace HB := BB HB hb; clear hb ho16; obtain ⟨Ao17, co17, eo17⟩ := Kd.R_slice HO172.out; subst eo17) | (go_at_call 83; (with_reducible refine (XW.levelOk.calls _ _ y170 false _ ?side1 ?side2 A6.out).mono ?_); (case side1 => repeat (first | exact (Kd.R_reads' HO172.out).2.2 | (with_reducible refine Kd.C_alloc ?_ _) | (with_reducible refine Kd.C_drewN ?_ _) | (with_reducible refine Kd.C_drew ?_))); (case side2 => exact (Kd.R_reads' HO172.out).2.1); rintro e w18 ⟨rfl, hb⟩; replace HO172 := RB HO172 hb; replace HB := BB HB hb; (try clear hb); (try clear hb2); (try clear hk); (try clear hi))); go_ret; exact ⟨by first | rfl | (simp [errW_none, errW_some] <;> rfl) | (simp [*, errW_none, errW_some] <;> rfl), BW HB⟩
  · replace c5 := Bool.eq_false_iff.mpr c5
    subst c5; have H1 : (some false) = some r := (by rw [if_neg (show ¬ (false = true) by decide)] at H; exact H); clear H; have H := H1; clear H1; obtain rfl := Option.some.inj H; go_enter Try.func99, Try.ntmps99; go_wp2_with (first | ((with_reducible refine gate_callee (f := 82) rfl ?_); refine goesM 8 Try.func82 #[.slice A0 l0.length c0] ?_; (with_reducible refine (S0.impl_AreWhirls.calls k _ _ l0 false _ ?side1 ?side2 A4.out).mono ?_); (case side1 => exact CS HR0.out); (case side2 => exact HC0.out); rintro e w19 ⟨rfl, hb⟩; refine ⟨_, rfl, ?_⟩; replace HB := BB HB hb; (try clear hb); (try clear hb2); (try clear hk); (try clear hi))); go_ret; exact ⟨by first | rfl | (simp [errW_none, errW_some] <;> rfl) | (simp [*, errW_none, errW_some] <;> rfl), BW HB⟩
def impl_PowerOf.f (a0 : (Nat × Nat)) : Option (Nat) := (S0.impl_power.f a0).bind fun t175 => (if cok .f64 t175 .f32 = true then (some (cvt .f64 t175 .f32)) else (none))
set_option maxHeartbeats 8000000 in
set_option maxRecDepth 100000 in
theorem impl_PowerOf.calls (a0 : (Nat × Nat)) (r : Nat) (w : World) (h : impl_PowerOf.f a0 = some r) :
    Calls Try.prog 139 #[.complex .f32 a0.1 a0.2] w fun e w' => e = .returned (.float .f32 r) ∧ Below w.heap.size w w' := by
  have HB := AS (Below.refl w.heap.size w); have H : ((S0.impl_power.f a0).bind fun t175 => (if cok .f64 t175 .f32 = true then (some (cvt .f64 t175 .f32)) else (none))) = some r := h; clear h; replace H := Option.bind_eq_some_iff.mp H; obtain ⟨t175, A20, H⟩ := H; replace H : (if cok .f64 t175 .f32 = true then (some (cvt .f64 t175 .f32)) else (none)) = some r := H; have A2 := Aside0.mk A20; clear A20; by_cases c3 : cok .f64 t175 .f32 = true
  · rw [if_pos c3] at H
    have c3b0 := eq_true c3; have c3b1 : decide (cok .f64 t175 .f32 = true) = true := decide_eq_true c3; clear c3; obtain rfl := Option.some.inj H; go_enter Try.func139, Try.ntmps139; go_wp2_with (first | ((with_reducible refine gate_callee (f := 71) rfl ?_); refine goesM 4 Try.func71 #[.complex .f32 a0.1 a0.2] ?_; (with_reducible refine (S0.impl_power.calls a0 t175 _ A2.out).mono ?_); rintro e w4 ⟨rfl, hb⟩; refine ⟨_, rfl, ?_⟩; replace HB := BB HB hb; (try clear hb); (try clear hb2); (try clear hk); (try clear hi))); go_ret; exact ⟨by first | rfl | (simp [errW_none, errW_some] <;> rfl) | (simp [*, errW_none, errW_some] <;> rfl), BW HB⟩
  · rw [if_neg c3] at H
    exact absurd H (by simp)
def impl_ConjugateOf.f (a0 : (Nat × Nat)) : Option ((Nat × Nat)) := some ((a0.1, Op.negFloat .f32 a0.2) : Nat × Nat)
set_option maxHeartbeats 8000000 in
set_option maxRecDepth 100000 in
theorem impl_ConjugateOf.calls (a0 : (Nat × Nat)) (r : (Nat × Nat)) (w : World) (h : impl_ConjugateOf.f a0 = some r) :
    Calls Try.prog 18 #[.complex .f32 a0.1 a0.2] w fun e w' => e = .returned (.complex .f32 r.1 r.2) ∧ Below w.heap.size w w' := by
  have HB := AS (Below.refl w.heap.size w); have H : (some ((a0.1, Op.negFloat .f32 a0.2) : Nat × Nat)) = some r := h; clear h; obtain rfl := Option.some.inj H; go_enter Try.func18, Try.ntmps18; go_wp2; go_ret; exact ⟨by first | rfl | (simp [errW_none, errW_some] <;> rfl) | (simp [*, errW_none, errW_some] <;> rfl), BW HB⟩
def impl_QuotientOf.f (a0 : (Nat × Nat)) (a1 : (Nat × Nat)) : Option ((Nat × Nat)) := (S0.impl_wide.f a0).bind fun bt176 => ((impl_ConjugateOf.f a1).bind fun t178 => ((S0.impl_wide.f t178).bind fun bt179 => ((S0.impl_power.f a1).bind fun t181 => (if fok .mul .f64 bt176.1 bt179.1 = true then (if fok .mul .f64 bt176.2 bt179.2 = true then (if fok .sub .f64 (fop .mul .f64 bt176.1 bt179.1) (fop .mul .f64 bt176.2 bt179.2) = true then (if fok .mul .f64 bt176.1 bt179.2 = true then (if fok .mul .f64 bt176.2 bt179.1 = true then (if fok .add .f64 (fop .mul .f64 bt176.1 bt179.2) (fop .mul .f64 bt176.2 bt179.1) = true then (if fok .quo .f64 (fop .sub .f64 (fop .mul .f64 bt176.1 bt179.1) (fop .mul .f64 bt176.2 bt179.2)) t181 = true then (if cok .f64 (fop .quo .f64 (fop .sub .f64 (fop .mul .f64 bt176.1 bt179.1) (fop .mul .f64 bt176.2 bt179.2)) t181) .f32 = true then (if fok .quo .f64 (fop .add .f64 (fop .mul .f64 bt176.1 bt179.2) (fop .mul .f64 bt176.2 bt179.1)) t181 = true then (if cok .f64 (fop .quo .f64 (fop .add .f64 (fop .mul .f64 bt176.1 bt179.2) (fop .mul .f64 bt176.2 bt179.1)) t181) .f32 = true then (some ((cvt .f64 (fop .quo .f64 (fop .sub .f64 (fop .mul .f64 bt176.1 bt179.1) (fop .mul .f64 bt176.2 bt179.2)) t181) .f32, cvt .f64 (fop .quo .f64 (fop .add .f64 (fop .mul .f64 bt176.1 bt179.2) (fop .mul .f64 bt176.2 bt179.1)) t181) .f32) : Nat × Nat)) else (none)) else (none)) else (none)) else (none)) else (none)) else (none)) else (none)) else (none)) else (none)) else (none)))))
set_option maxHeartbeats 8000000 in
set_option maxRecDepth 100000 in
theorem impl_QuotientOf.calls (a0 : (Nat × Nat)) (a1 : (Nat × Nat)) (r : (Nat × Nat)) (w : World) (h : impl_QuotientOf.f a0 a1 = some r) :
    Calls Try.prog 89 #[.complex .f32 a0.1 a0.2, .complex .f32 a1.1 a1.2] w fun e w' => e = .returned (.complex .f32 r.1 r.2) ∧ Below w.heap.size w w' := by
  have HB := AS (Below.refl w.heap.size w); have H : ((S0.impl_wide.f a0).bind fun bt176 => ((impl_ConjugateOf.f a1).bind fun t178 => ((S0.impl_wide.f t178).bind fun bt179 => ((S0.impl_power.f a1).bind fun t181 => (if fok .mul .f64 bt176.1 bt179.1 = true then (if fok .mul .f64 bt176.2 bt179.2 = true then (if fok .sub .f64 (fop .mul .f64 bt176.1 bt179.1) (fop .mul .f64 bt176.2 bt179.2) = true then (if fok .mul .f64 bt176.1 bt179.2 = true then (if fok .mul .f64 bt176.2 bt179.1 = true then (if fok .add .f64 (fop .mul .f64 bt176.1 bt179.2) (fop .mul .f64 bt176.2 bt179.1) = true then (if fok .quo .f64 (fop .sub .f64 (fop .mul .f64 bt176.1 bt179.1) (fop .mul .f64 bt176.2 bt179.2)) t181 = true then (if cok .f64 (fop .quo .f64 (fop .sub .f64 (fop .mul .f64 bt176.1 bt179.1) (fop .mul .f64 bt176.2 bt179.2)) t181) .f32 = true then (if fok .quo .f64 (fop .add .f64 (fop .mul .f64 bt176.1 bt179.2) (fop .mul .f64 bt176.2 bt179.1)) t181 = true then (if cok .f64 (fop .quo .f64 (fop .add .f64 (fop .mul .f64 bt176.1 bt179.2) (fop .mul .f64 bt176.2 bt179.1)) t181) .f32 = true then (some ((cvt .f64 (fop .quo .f64 (fop .sub .f64 (fop .mul .f64 bt176.1 bt179.1) (fop .mul .f64 bt176.2 bt179.2)) t181) .f32, cvt .f64 (fop .quo .f64 (fop .add .f64 (fop .mul .f64 bt176.1 bt179.2) (fop .mul .f64 bt176.2 bt179.1)) t181) .f32) : Nat × Nat)) else (none)) else (none)) else (none)) else (none)) else (none)) else (none)) else (none)) else (none)) else (none)) else (none)))))) = some r := h; clear h; replace H := Option.bind_eq_some_iff.mp H; obtain ⟨⟨t176, t177⟩, A30, H⟩ := H; (try dsimp only at H); have A3 := Aside0.mk A30; clear A30; replace H := Option.bind_eq_some_iff.mp H; obtain ⟨t178, A40, H⟩ := H; (try dsimp only at H); have A4 := Aside0.mk A40; clear A40; replace H := Option.bind_eq_some_iff.mp H; obtain ⟨⟨t179, t180⟩, A50, H⟩ := H; (try dsimp only at H); have A5 := Aside0.mk A50; clear A50; replace H := Option.bind_eq_some_iff.mp H; obtain ⟨t181, A60, H⟩ := H; (try dsimp only at H); have A6 := Aside0.mk A60; clear A60; by_cases c7 : fok .mul .f64 t176 t179 = true
  · rw [if_pos c7] at H
    have c7b0 := eq_true c7; have c7b1 : decide (fok .mul .f64 t176 t179 = true) = true := decide_eq_true c7; clear c7; by_cases c8 : fok .mul .f64 t177 t180 = true
    · rw [if_pos c8] at H
      have c8b0 := eq_true c8; have c8b1 : decide (fok .mul .f64 t177 t180 = true) = true := decide_eq_true c8; clear c8; by_cases c9 : fok .sub .f64 (fop .mul .f64 t176 t179) (fop .mul .f64 t177 t180) = true
      · rw [if_pos c9] at H
        have c9b0 := eq_true c9; have c9b1 : decide (fok .sub .f64 (fop .mul .f64 t176 t179) (fop .mul .f64 t177 t180) = true) = true := decide_eq_true c9; clear c9; by_cases c10 : fok .mul .f64 t176 t180 = true
        · rw [if_pos c10] at H
          have c10b0 := eq_true c10; have c10b1 : decide (fok .mul .f64 t176 t180 = true) = true := decide_eq_true c10; clear c10; by_cases c11 : fok .mul .f64 t177 t179 = true
          · rw [if_pos c11] at H
            have c11b0 := eq_true c11; have c11b1 : decide (fok .mul .f64 t177 t179 = true) = true := decide_eq_true c11; clear c11; by_cases c12 : fok .add .f64 (fop .mul .f64 t176 t180) (fop .mul .f64 t177 t179) = true
            · rw [if_pos c12] at H
              have c12b0 := eq_true c12; have c12b1 : decide (fok .add .f64 (fop .mul .f64 t176 t180) (fop .mul .f64 t177 t179) = true) = true := decide_eq_true c12; clear c12; by_cases c13 : fok .quo .f64 (fop .sub .f64 (fop .mul .f64 t176 t179) (fop .mul .f64 t177 t180)) t181 = true
              · rw [if_pos c13] at H
                have c13b0 := eq_true c13; have c13b1 : decide (fok .quo .f64 (fop .sub .f64 (fop .mul .f64 t176 t179) (fop .mul .f64 t177 t180)) t181 = true) = true := decide_eq_true c13; clear c13; by_cases c14 : cok .f64 (fop .quo .f64 (fop .sub .f64 (fop .mul .f64 t176 t179) (fop .mul .f64 t177 t180)) t181) .f32 = true
                · rw [if_pos c14] at H
                  have c14b0 := eq_true c14; have c14b1 : decide (cok .f64 (fop .quo .f64 (fop .sub .f64 (fop .mul .f64 t176 t179) (fop .mul .f64 t177 t180)) t181) .f32 = true) = true := decide_eq_true c14; clear c14; by_cases c15 : fok .quo .f64 (fop .add .f64 (fop .mul .f64 t176 t180) (fop .mul .f64 t177 t179)) t181 = true
                  · rw [if_pos c15] at H
                    have c15b0 := eq_true c15; have c15b1 : decide (fok .quo .f64 (fop .add .f64 (fop .mul .f64 t176 t180) (fop .mul .f64 t177 t179)) t181 = true) = true := decide_eq_true c15; clear c15; by_cases c16 : cok .f64 (fop .quo .f64 (fop .add .f64 (fop .mul .f64 t176 t180) (fop .mul .f64 t177 t179)) t181) .f32 = true
                    · rw [if_pos c16] at H
                      have c16b0 := eq_true c16; have c16b1 : decide (cok .f64 (fop .quo .f64 (fop .add .f64 (fop .mul .f64 t176 t180) (fop .mul .f64 t177 t179)) t181) .f32 = true) = true := decide_eq_true c16; clear c16; obtain rfl := Option.some.inj H; go_enter Try.func89, Try.ntmps89; go_wp2_with (first | ((with_reducible refine gate_callee (f := 79) rfl ?_); refine goesM 14 Try.func79 #[.complex .f32 a0.1 a0.2] ?_; (with_reducible refine (S0.impl_wide.calls a0 t176 t177 _ A3.out).mono ?_); rintro e w17 ⟨rfl, hb⟩; refine ⟨_, rfl, ?_⟩; replace HB := BB HB hb; (try clear hb); (try clear hb2); (try clear hk); (try clear hi)) | ((with_reducible refine gate_callee (f := 18) rfl ?_); refine goesM 19 Try.func18 #[.complex .f32 a1.1 a1.2] ?_; (with_reducible refine (impl_ConjugateOf.calls a1 t178 _ A4.out).mono ?_); rintro e w18 ⟨rfl, hb⟩; refine ⟨_, rfl, ?_⟩; replace HB := BB HB hb; (try clear hb); (try clear hb2); (try clear hk); (try clear hi)) | ((with_reducible refine gate_callee (f := 79) rfl ?_); refine goesM 20 Try.func79 #[.complex .f32 t178.1 t178.2] ?_; (with_reducible refine (S0.impl_wide.calls t178 t179 t180 _ A5.out).mono ?_); rintro e w19 ⟨rfl, hb⟩; refine ⟨_, rfl, ?_⟩; replace HB := BB HB hb; (try clear hb); (try clear hb2); (try clear hk); (try clear hi)) | ((with_reducible refine gate_callee (f := 71) rfl ?_); refine goesM 24 Try.func71 #[.complex .f32 a1.1 a1.2] ?_; (with_reducible refine (S0.impl_power.calls a1 t181 _ A6.out).mono ?_); rintro e w20 ⟨rfl, hb⟩; refine ⟨_, rfl, ?_⟩; replace HB := BB HB hb; (try clear hb); (try clear hb2); (try clear hk); (try clear hi))); go_ret; exact ⟨by first | rfl | (simp [errW_none, errW_some] <;> rfl) | (simp [*, errW_none, errW_some] <;> rfl), BW HB⟩
                    · rw [if_neg c16] at H
                      exact absurd H (by simp)
                  · rw [if_neg c15] at H
                    exact absurd H (by simp)
                · rw [if_neg c14] at H
                  exact absurd H (by simp)
              · rw [if_neg c13] at H
                exact absurd H (by simp)
            · rw [if_neg c12] at H
              exact absurd H (by simp)
          · rw [if_neg c11] at H
            exact absurd H (by simp)
        · rw [if_neg c10] at H
          exact absurd H (by simp)
      · rw [if_neg c9] at H
        exact absurd H (by simp)
    · rw [if_neg c8] at H
      exact absurd H (by simp)
  · rw [if_neg c7] at H
    exact absurd H (by simp)
end Go.Proofs.Ytcgaccdiomcglaa.N0
end
section
set_option linter.unusedVariables false
set_option linter.unusedSimpArgs false
namespace Go.Proofs.Ytcgaccdiomcglaa
open Go.RowKit Go.Proofs.YtcgaccdiomcglaaW.PrintWords Go.Proofs.YtcgaccdiomcglaaW.PrintLast Go.Proofs.YtcgaccdiomcglaaW.PrintMore
attribute [local go_sem] max2_int min2_int max_two min_two max_three min_three max_four min_four
attribute [local go_sem high] binOp_fge binOp_fle
namespace XO
open XF XL
def near.f (a : Nat × Nat) (p : Nat × Nat) (c : Nat) : Option ((Nat × Nat) × Nat) := if fok .sub .f32 p.1 a.1 = true then (if fok .sub .f32 p.2 a.2 = true then ((N0.impl_PowerOf.f (fop .sub .f32 p.1 a.1, fop .sub .f32 p.2 a.2)).bind fun t => if fok .mul .f32 c c = true then (if fok .add .f32 t (fop .mul .f32 c c) = true then some ((fop .sub .f32 p.1 a.1, fop .sub .f32 p.2 a.2), fop .add .f32 t (fop .mul .f32 c c)) else none) else none) else none) else none
set_option maxHeartbeats 8000000 in
set_option maxRecDepth 100000 in
theorem near.calls (ad : Addr) (a : Nat × Nat) (p : Nat × Nat) (c : Nat) (d : Nat × Nat) (q : Nat) (w : World) (h0 : w.cell? ad = some (.complex .f32 a.1 a.2)) (h : near.f a p c = some (d, q)) :
    Calls Try.prog 67 #[.pointer (some ad), .complex .f32 p.1 p.2, .float .f32 c] w fun e w' => e = .returned (.tuple #[.complex .f32 d.1 d.2, .float .f32 q]) ∧ Below w.heap.size w w' := by
  unfold near.f at h
  by_cases k1 : fok .sub .f32 p.1 a.1 = true
  case neg => rw [if_neg k1] at h; cases h
  rw [if_pos k1] at h
  by_cases k2 : fok .sub .f32 p.2 a.2 = true
  case neg => rw [if_neg k2] at h; cases h
  rw [if_pos k2] at h
  obtain ⟨t, A1_, h⟩ := Option.bind_eq_some_iff.mp h
  have A1 := AS A1_
  clear A1_
  by_cases k3 : fok .mul .f32 c c = true
  case neg => rw [if_neg k3] at h; cases h
  rw [if_pos k3] at h
  by_cases k4 : fok .add .f32 t (fop .mul .f32 c c) = true
  case neg => rw [if_neg k4] at h; cases h
  rw [if_pos k4] at h
  simp only [Option.some.injEq, Prod.mk.injEq] at h
  obtain ⟨rfl, rfl⟩ := h
  have k1b0 := eq_true k1
  have k2b0 := eq_true k2
  have k3b0 := eq_true k3
  have k4b0 := eq_true k4
  have HB := AS (Below.refl w.heap.size w)
  obtain ⟨b, o, s⟩ := ad
  go_enter Try.func67, Try.ntmps67
  go_wp2_with (first | (go_at_call 139; (with_reducible refine (N0.impl_PowerOf.calls (fop .sub .f32 p.1 a.1, fop .sub .f32 p.2 a.2) t _ A1.out).mono ?_); rintro e w8 ⟨rfl, hb⟩; replace HB := BB HB hb; clear hb))
  go_ret2
  exact ⟨by first | rfl | (simp [*]; done), BW HB⟩
def gives.f (a : Nat × Nat) (sp : Nat) (p : Nat × Nat) (c : Nat) : Option (Nat × Nat) := (near.f a p c).bind fun t => if (FloatKind.f32.format.order t.2 0 == some .gt) = true then (if fok .mul .f32 1086918619 t.2 = true then (if fok .quo .f32 sp (fop .mul .f32 1086918619 t.2) = true then (if fok .mul .f32 t.1.2 (fop .quo .f32 sp (fop .mul .f32 1086918619 t.2)) = true then (if fok .mul .f32 t.1.1 (fop .quo .f32 sp (fop .mul .f32 1086918619 t.2)) = true then some (Op.negFloat .f32 (fop .mul .f32 t.1.2 (fop .quo .f32 sp (fop .mul .f32 1086918619 t.2))), fop .mul .f32 t.1.1 (fop .quo .f32 sp (fop .mul .f32 1086918619 t.2))) else none) else none) else none) else none) else some (0, 0)
set_option maxHeartbeats 8000000 in
set_option maxRecDepth 100000 in
theorem gives.calls (ad : Addr) (a : Nat × Nat) (sp : Nat) (p : Nat × Nat) (c : Nat) (r : Nat × Nat) (w : World) (h0 : w.cell? ad = some (.complex .f32 a.1 a.2)) (h1 : w.cell? ⟨ad.block, ad.off + 1, none⟩ = some (.float .f32 sp)) (h : gives.f a sp p c = some r) :
    Calls Try.prog 143 #[.pointer (some ad), .complex .f32 p.1 p.2, .float .f32 c] w fun e w' => e = .returned (.complex .f32 r.1 r.2) ∧ Below w.heap.size w w' := by
  unfold gives.f at h
  obtain ⟨⟨d, q⟩, A1_, h⟩ := Option.bind_eq_some_iff.mp h
  have A1 := AS A1_
  clear A1_
  dsimp only at h
  have HB := AS (Below.refl w.heap.size w)
  have H0 := AS h0
  have H1 := AS h1
  clear h0 h1
  obtain ⟨b, o, s⟩ := ad
  by_cases k0 : (FloatKind.f32.format.order q 0 == some .gt) = true
  case neg =>
    rw [if_neg k0] at h
    obtain rfl := Option.some.inj h
    have k0b0 := Bool.eq_false_iff.mpr k0
    go_enter Try.func143, Try.ntmps143
    go_wp2_with (first | (go_at_call 67; (with_reducible refine (near.calls _ a p c d q _ H0.out A1.out).mono ?_); rintro e w8 ⟨rfl, hb⟩; replace HB := BB HB hb; clear hb))
    go_ret
    exact ⟨by first | rfl | (simp [*]; done), BW HB⟩
  rw [if_pos k0] at h
  by_cases k1 : fok .mul .f32 1086918619 q = true
  case neg => rw [if_neg k1] at h; cases h
  rw [if_pos k1] at h
  by_cases k2 : fok .quo .f32 sp (fop .mul .f32 1086918619 q) = true
  case neg => rw [if_neg k2] at h; cases h
  rw [if_pos k2] at h
  by_cases k3 : fok .mul .f32 d.2 (fop .quo .f32 sp (fop .mul .f32 1086918619 q)) = true
  case neg => rw [if_neg k3] at h; cases h
  rw [if_pos k3] at h
  by_cases k4 : fok .mul .f32 d.1 (fop .quo .f32 sp (fop .mul .f32 1086918619 q)) = true
  case neg => rw [if_neg k4] at h; cases h
  rw [if_pos k4] at h
  obtain rfl := Option.some.inj h
  have k0b0 := k0
  have k1b0 := eq_true k1
  have k2b0 := eq_true k2
  have k3b0 := eq_true k3
  have k4b0 := eq_true k4
  go_enter Try.func143, Try.ntmps143
  go_wp2_with (first | (go_at_call 67; (with_reducible refine (near.calls _ a p c d q _ H0.out A1.out).mono ?_); rintro e w8 ⟨rfl, hb⟩; have hq1 : w8.cell? ⟨b, o + 1, none⟩ = some (.float .f32 sp) := (hb.cell (World.block_lt_of_cell? _ _ H1.out)).trans H1.out; replace HB := BB HB hb; clear hb))
  go_ret
  exact ⟨by first | rfl | (simp [*]; done), BW HB⟩
def flow.l0 : Nat → List S0.S46 → (Nat × Nat) → Nat → Int → (Nat × Nat) → Int → Option (Nat × Nat)
  | 0, _, _, _, _, _, _ => none
  | k + 1, l, p, c, but, sum, i => if i < (l.length : Int) then (if 0 ≤ i then ((near.f (S0.rd_T46 l i).f0 p c).bind fun t => if i = but then flow.l0 k l p c but sum (wrap64 (i + 1)) else if (FloatKind.f32.format.order t.2 0 == some .gt) = true then ((gives.f (S0.rd_T46 l i).f0 (S0.rd_T46 l i).f1 p c).bind fun g => if fok .add .f32 sum.1 g.1 = true then (if fok .add .f32 sum.2 g.2 = true then flow.l0 k l p c but (fop .add .f32 sum.1 g.1, fop .add .f32 sum.2 g.2) (wrap64 (i + 1)) else none) else none) else flow.l0 k l p c but sum (wrap64 (i + 1))) else none) else some sum
def flow.f (k : Nat) (l0 : List S0.S46) (a1 : Nat × Nat) (a2 : Nat) (a3 : Int) : Option (Nat × Nat) := flow.l0 k l0 a1 a2 a3 (0, 0) 0
theorem flow.mono_l : ∀ k, ∀ y0 y1 y2 y3 y4 y5, LeO (flow.l0 k y0 y1 y2 y3 y4 y5) (flow.l0 (k + 1) y0 y1 y2 y3 y4 y5)
  | 0 => fun _ _ _ _ _ _ r h => by simp [flow.l0] at h
  | k + 1 => by
    have ih0 := flow.mono_l k
    intro y0 y1 y2 y3 y4 y5
    unfold flow.l0
    repeat' first
      | (with_reducible exact ih0 _ _ _ _ _ _)
      | (with_reducible exact LeO.refl _)
      | (with_reducible exact LeO.none _)
      | (with_reducible refine LeO.ite ?_ ?_)
      | (with_reducible refine LeO.bind ?_ (fun _ => ?_))
theorem flow.mono : ∀ a0 a1 a2 a3 k, LeO (flow.f k a0 a1 a2 a3) (flow.f (k + 1) a0 a1 a2 a3) := fun a0 a1 a2 a3 k => flow.mono_l k _ _ _ _ _ _
set_option maxHeartbeats 8000000 in
set_option maxRecDepth 100000 in
theorem flow.calls (k : Nat) (A0 : Option Addr) (c0 : Nat) (l0 : List S0.S46) (a1 : Nat × Nat) (a2 : Nat) (a3 : Int) (r : Nat × Nat) (w : World) (hr0 : Kd.C S0.k46 w A0 l0.length l0) (hc0 : l0.length ≤ c0) (h : flow.f k l0 a1 a2 a3 = some r) :
    Calls Try.prog 66 #[.slice A0 l0.length c0, .complex .f32 a1.1 a1.2, .float .f32 a2, .int .i64 a3] w fun e w' => e = .returned (.complex .f32 r.1 r.2) ∧ Below w.heap.size w w' := by
  have HR0 := AS hr0
  clear hr0
  have H' := AS h
  clear h
  unfold flow.f at H'
  go_enter Try.func66, Try.ntmps66
  go_wp2
  go_loopg [9, 15] k (fun kq v9 v15 w' => ∃ (s : Nat × Nat) (i : Int), v9 = .complex .f32 s.1 s.2 ∧ v15 = .int .i64 i ∧ Aside0 (flow.l0 kq l0 a1 a2 a3 s i = some r) ∧ Aside0 (Below w.heap.size w w'))
  case atStart => exact ⟨(0, 0), 0, rfl, rfl, H', ⟨Below.refl _ _⟩⟩
  case round =>
    obtain ⟨s, i, rfl, rfl, HX, HB⟩ := hrel
    have hx := HX.out
    clear HX
    cases gk with
    | zero => cases hx
    | succ k1 =>
      unfold flow.l0 at hx
      by_cases c1 : i < (l0.length : Int)
      case neg =>
        rw [if_neg c1] at hx
        obtain rfl := Option.some.inj hx
        have hc : decide (i < (l0.length : Int)) = false := decide_eq_false c1
        go_wp2
        go_ret
        exact ⟨rfl, BW HB⟩
      rw [if_pos c1] at hx
      by_cases c2 : 0 ≤ i
      case neg => rw [if_neg c2] at hx; cases hx
      rw [if_pos c2] at hx
      obtain ⟨⟨d, q⟩, A1_, hx⟩ := Option.bind_eq_some_iff.mp hx
      have A1 := AS A1_
      clear A1_
      dsimp only at hx
      obtain ⟨ad, ead, hz0, hz1⟩ := S0.at_T46 HR0.out i c2 c1
      cases ead
      have HZ0 := AS hz0
      have HZ1 := AS hz1
      clear hz0 hz1
      have hc : decide (i < (l0.length : Int)) = true := decide_eq_true c1
      have p0b := eq_true c2
      have q0b := eq_true c1
      by_cases c3 : i = a3
      · rw [if_pos c3] at hx
        subst c3
        have H2 := AS hx
        clear hx
        go_wp2_with (first | (go_at_call 67; (with_reducible refine (near.calls _ _ a1 a2 d q _ ((HB.out.cell (World.block_lt_of_cell? _ _ HZ0.out)).trans HZ0.out) A1.out).mono ?_); rintro e w8 ⟨rfl, hb⟩; replace HB := BB HB hb; clear hb))
        go_roundg k1
        case measure => omega
        case rel => exact ⟨_, _, rfl, rfl, H2, HB⟩
      rw [if_neg c3] at hx
      have c3b := eq_false c3
      by_cases c4 : (FloatKind.f32.format.order q 0 == some .gt) = true
      · rw [if_pos c4] at hx
        obtain ⟨g, A2_, hx⟩ := Option.bind_eq_some_iff.mp hx
        have A2 := AS A2_
        clear A2_
        by_cases c5 : fok .add .f32 s.1 g.1 = true
        case neg => rw [if_neg c5] at hx; cases hx
        rw [if_pos c5] at hx
        by_cases c6 : fok .add .f32 s.2 g.2 = true
        case neg => rw [if_neg c6] at hx; cases hx
        rw [if_pos c6] at hx
        have H2 := AS hx
        clear hx
        have c5b := eq_true c5
        have c6b := eq_true c6
        go_wp2_with (first | (go_at_call 67; (with_reducible refine (near.calls _ _ a1 a2 d q _ ((HB.out.cell (World.block_lt_of_cell? _ _ HZ0.out)).trans HZ0.out) A1.out).mono ?_); rintro e w8 ⟨rfl, hb⟩; replace HB := BB HB hb; clear hb) | (go_at_call 143; (with_reducible refine (gives.calls _ _ _ a1 a2 g _ ((HB.out.cell (World.block_lt_of_cell? _ _ HZ0.out)).trans HZ0.out) ((HB.out.cell (World.block_lt_of_cell? _ _ HZ1.out)).trans HZ1.out) A2.out).mono ?_); rintro e w9 ⟨rfl, hb⟩; replace HB := BB HB hb; clear hb))
        go_roundg k1
        case measure => omega
        case rel => exact ⟨_, _, rfl, rfl, H2, HB⟩
      · rw [if_neg c4] at hx
        have H2 := AS hx
        clear hx
        have c4b := Bool.eq_false_iff.mpr c4
        go_wp2_with (first | (go_at_call 67; (with_reducible refine (near.calls _ _ a1 a2 d q _ ((HB.out.cell (World.block_lt_of_cell? _ _ HZ0.out)).trans HZ0.out) A1.out).mono ?_); rintro e w8 ⟨rfl, hb⟩; replace HB := BB HB hb; clear hb))
        go_roundg k1
        case measure => omega
        case rel => exact ⟨_, _, rfl, rfl, H2, HB⟩
end XO
end Go.Proofs.Ytcgaccdiomcglaa
end
section
set_option linter.unusedVariables false
set_option linter.unusedSimpArgs false
namespace Go.Proofs.Ytcgaccdiomcglaa
open Go.RowKit Go.Proofs.YtcgaccdiomcglaaW.PrintWords Go.Proofs.YtcgaccdiomcglaaW.PrintLast Go.Proofs.YtcgaccdiomcglaaW.PrintMore
attribute [local go_sem] max2_int min2_int max_two min_two max_three min_three max_four min_four
namespace XK2
theorem eql_nil (P : Program) (w : World) (t e : TypeId) (a : Option Addr) (l c : Nat) (h : P.underlying t = some (.slice e)) : (binOp .eql t (.slice a l c) (.slice none 0 0)).run P w = .ok (.bool a.isNone) w := by
  simp [binOp, run_equal_slice_nil w t e a l c h]
def cloneW.f (l0 : List S0.S46) : Option (List S0.S46) := if l0.length < 11728124029610 then some l0 else none
theorem cloneW_info : (Try.prog.info? 46).map (fun i => (i.zero, i.size, i.bytes)) = some (some (.agg #[.complex .f32 0 0, .float .f32 0]), 2, 12) := by kernel_rfl
set_option maxHeartbeats 4000000 in
set_option maxRecDepth 100000 in
theorem cloneW.calls (A0 : Option Addr) (c0 : Nat) (l0 r : List S0.S46) (w : World) (hr0 : Kd.C S0.k46 w A0 l0.length l0) (hc0 : l0.length ≤ c0) (h : cloneW.f l0 = some r) :
    Calls Try.prog 87 #[.slice A0 l0.length c0] w fun e w' => ∃ v0_ : Value, e = .returned (v0_) ∧ Kd.R S0.k46 46 w' w.heap.size (fun _ => True) v0_ r ∧ Below w.heap.size w w' := by
  have hlen : l0.length < 11728124029610 ∧ l0 = r := by
    unfold cloneW.f at h
    by_cases c : l0.length < 11728124029610
    · rw [if_pos c] at h
      exact ⟨c, Option.some.inj h⟩
    · rw [if_neg c] at h
      cases h
  obtain ⟨hlen, rfl⟩ := hlen
  have he := eql_nil Try.prog w 24 46 A0 l0.length c0 Try.underlying24
  cases A0 with
  | none =>
    have hz : l0 = [] := by
      rcases Nat.eq_zero_or_pos l0.length with h0 | h0
      · exact List.eq_nil_of_length_eq_zero h0
      · obtain ⟨ad, h, _⟩ := hr0.2.2 h0
        cases h
    subst hz
    replace he : (binOp .eql 24 (.slice none 0 c0) (.slice none 0 0)).run Try.prog w = .ok (.bool true) w := he
    go_enter Try.func87, Try.ntmps87
    go_wp2
    go_ret
    exact ⟨_, rfl, Kd.R_nil _ _ _ _ _, Below.refl _ _⟩
  | some ad =>
    replace he : (binOp .eql 24 (.slice (some ad) l0.length c0) (.slice none 0 0)).run Try.prog w = .ok (.bool false) w := he
    go_enter Try.func87, Try.ntmps87
    go_wp2_with (first | ((with_reducible refine gate_dst (N := 5) rfl ?_); refine Kd.R_lit S0.k46 _ 46 ?hg (N := 5) ?hd (xs := ([] : List S0.S46)) (inner := []) (ok := fun _ => True) (okp := fun _ => True) ?hr ?hp (fun _ hk => hk) trivial (Below.refl _ _) (Nat.le_refl _) (by simp) ?_; (case hd => rfl); (case hg => rfl); (case hr => first | (go_simp; done) | (go_simp; rfl)); (case hp => exact (Reps.none _ _)); intro v1 w1 ho1 hb1 hg_ hnew_; clear hg_ hnew_) | ((with_reducible refine gate_dst (N := 7) rfl ?_); refine Kd.R_append_rows S0.k46 (Rr := S0.k46.K w1) (w0 := w) w.heap.size rfl (.tmp 5) (.tmp 6) 24 46 (.agg #[.complex .f32 0 0, .float .f32 0]) 12 rfl Try.underlying24 cloneW_info rfl (by decide) (by decide) v1 [] l0 (some ad) l0.length c0 (fun _ => True) (fun _ => False) rfl rfl ho1 (Kd.C_below hr0 hb1) ?hKM (fun _ h => h.elim) (fun _ _ => trivial) hb1 hb1.size ?hl ?_; (case hKM => intro x cs hx; obtain rfl := S0.k46_open hx; exact S0.k46_mkM _ _ _ x); (case hl => simp; omega); intro v2 w2 ho2 hb2 _ _))
    go_ret
    exact ⟨_, rfl, ho2, hb2⟩
end XK2
end Go.Proofs.Ytcgaccdiomcglaa
end
section
namespace Go.Proofs.Ytcgaccdiomcglaa.N1
open Go.Proofs.Ytcgaccdiomcglaa.S0 Go.Proofs.Ytcgaccdiomcglaa.N0
open Go.RowKit Go.Proofs.YtcgaccdiomcglaaW.PrintWords Go.Proofs.YtcgaccdiomcglaaW.PrintLast Go.Proofs.YtcgaccdiomcglaaW.PrintMore
attribute [local go_sem] max2_int min2_int max_two min_two max_three min_three max_four min_four
set_option linter.unusedVariables false
set_option linter.unusedSimpArgs false
attribute [local go_sem high] binOp_fge binOp_fle
def errW : Option Int → Value
  | none => .nilIface
  | some c => .iface 0 (.int .i64 c)
theorem errW_none : errW none = .nilIface := rfl
theorem errW_some (c : Int) : errW (some c) = .iface 0 (.int .i64 c) := rfl
theorem info26 : (Try.prog.info? 26).map (fun i => (i.zero, i.size, i.bytes)) = some (some (.complex .f32 0 0), 1, 8) := by kernel_rfl
theorem info46 : (Try.prog.info? 46).map (fun i => (i.zero, i.size, i.bytes)) = some (some (.agg #[(.complex .f32 0 0), (.float .f32 0)]), 2, 12) := by kernel_rfl
end Go.Proofs.Ytcgaccdiomcglaa.N1
end
section
namespace Go.Proofs.Ytcgaccdiomcglaa.N1
open Go.Proofs.Ytcgaccdiomcglaa.S0 Go.Proofs.Ytcgaccdiomcglaa.N0
open Go.RowKit Go.Proofs.YtcgaccdiomcglaaW.PrintWords Go.Proofs.YtcgaccdiomcglaaW.PrintLast Go.Proofs.YtcgaccdiomcglaaW.PrintMore
attribute [local go_sem] max2_int min2_int max_two min_two max_three min_three max_four min_four
set_option linter.unusedVariables false
set_option linter.unusedSimpArgs false
attribute [local go_sem high] binOp_fge binOp_fle
def impl_flows.l0 : Nat → List (S46) → Nat → List (Nat × Nat) → List (S46) → Int → Int → Option (List (Nat × Nat))
  | 0, _, _, _, _, _, _ => none
  | k + 1, x0, x1, x5, x9, x10, x11 => if x11 < x10 then (if 0 ≤ x11 then (if x11 < (x9.length : Int) then ((XO.flow.f k x0 ((rd_T46 x9 x11).f0) x1 x11).bind fun t106 => (if x5.length < 17592186044416 then (impl_flows.l0 k x0 x1 (x5 ++ [t106]) x9 x10 (wrap64 (x11 + 1))) else (none))) else (none)) else (none)) else (some x5)
def impl_flows.f (k : Nat) (l0 : List (S46)) (a1 : Nat) : Option (List (Nat × Nat)) := impl_flows.l0 k l0 a1 (([] : List (Nat × Nat))) l0 (l0.length : Int) 0
theorem impl_flows.mono_l : ∀ k, (∀ y0 y1 y2 y3 y4 y5, LeO (impl_flows.l0 k y0 y1 y2 y3 y4 y5) (impl_flows.l0 (k + 1) y0 y1 y2 y3 y4 y5))
  | 0 => fun _ _ _ _ _ _ r h => by simp [impl_flows.l0] at h
  | k + 1 => by
    have ih0 := impl_flows.mono_l k
    · intro y0 y1 y2 y3 y4 y5
      unfold impl_flows.l0; repeat' first
      | (with_reducible exact ih0 _ _ _ _ _ _)
      | (with_reducible exact XO.flow.mono _ _ _ _ _)
      | (with_reducible exact LeO.refl _)
      | (with_reducible exact LeO.none _)
      | (with_reducible refine LeO.ite ?_ ?_)
      | (with_reducible refine LeO.bind ?_ (fun _ => ?_))
      | exact ih0 _ _ _ _ _ _
      | exact XO.flow.mono _ _ _ _ _
      | exact LeO.none _
      | refine LeO.ite ?_ ?_
      | refine LeO.bind ?_ (fun _ => ?_)
theorem impl_flows.mono : ∀ a0 a1 k, LeO (impl_flows.f k a0 a1) (impl_flows.f (k + 1) a0 a1) := by
  intro a0 a1 k; have ih0 := impl_flows.mono_l k; unfold impl_flows.f
  repeat' first
      | (with_reducible exact ih0 _ _ _ _ _ _)
      | (with_reducible exact XO.flow.mono _ _ _ _ _)
      | (with_reducible exact LeO.refl _)
      | (with_reducible exact LeO.none _)
      | (with_reducible refine LeO.ite ?_ ?_)
      | (with_reducible refine LeO.bind ?_ (fun _ => ?_))
      | exact ih0 _ _ _ _ _ _
      | exact XO.flow.mono _ _ _ _ _
      | exact LeO.none _
      | refine LeO.ite ?_ ?_
      | refine LeO.bind ?_ (fun _ => ?_)
set_option maxHeartbeats 8000000 in
set_option maxRecDepth 100000 in
theorem impl_flows.calls (k : Nat) (A0 : Option Addr) (c0 : Nat) (l0 : List (S46)) (a1 : Nat) (r : List (Nat × Nat)) (w : World) (hr0 : Kd.C k46 w A0 l0.length l0) (hc0 : l0.length ≤ c0) (h : impl_flows.f k l0 a1 = some r) :
    Calls Try.prog 84 #[.slice A0 l0.length c0, .float .f32 a1] w fun e w' => ∃ v0_ : Value, e = .returned (v0_) ∧ Kd.R (Kd.complex .f32) 26 w' w.heap.size (fun _ => True) v0_ r ∧ Below w.heap.size w w' := by
  have hu46 := Try.underlying46; have HR0 := Aside0.mk hr0; have HC0 := Aside0.mk hc0; clear hr0 hc0; have HB := AS (Below.refl w.heap.size w); have H : (impl_flows.l0 k l0 a1 (([] : List (Nat × Nat))) l0 (l0.length : Int) 0) = some r := h; clear h; obtain ⟨y101, hy101⟩ : ∃ y_ : List (Nat × Nat), y_ = (([] : List (Nat × Nat))) := ⟨_, rfl⟩; replace H : (impl_flows.l0 k l0 a1 y101 l0 (l0.length : Int) 0) = some r := (by first | (rw [hy101]; with_reducible exact H) | (have H2_ := (Option.bind_some _ _).symm.trans H; rw [hy101]; with_reducible exact H2_) | (have H2_ := (Option.bind_some _ _).symm.trans H; with_reducible exact H2_) | with_reducible exact H | (rw [hy101]; exact H) | exact H); have Ny101 := Aside0.mk hy101; clear hy101; have H' := Aside0.mk H; clear H; go_enter Try.func84, Try.ntmps84; go_wp2_with (first | ((with_reducible refine gate_dst (N := 8) rfl ?_); refine Kd.R_lit (Kd.complex .f32) _ 26 ?hg (N := 8) ?hd (xs := ([] : List (Nat × Nat))) (inner := []) (ok := fun _ => True) (okp := fun _ => True) ?hr ?hp (fun _ hk => hk) trivial (Below.refl _ _) (Nat.le_refl _) (by simp) ?_; (case hd => rfl); (case hg => rfl); (case hr => first | (go_simp; done) | (go_simp; rfl)); (case hp => exact (Reps.none _ _)); intro v102 w3 ho4 hb hg_ hnew_; clear hg_ hnew_; (first | rw [← Ny101.out] at ho4 | (simp only [Int.reduceToNat] at ho4; rw [← Ny101.out] at ho4)); have HO103 := AS (Kd.R_lower ho4 (below_size (BW HB))); replace HB := BB HB hb; clear hb ho4)); go_loopg [5, 11] k (fun kq v5 v11 w' => ∃ (x5_1 : List (Nat × Nat)) (x11_1 : Int), v11 = .int .i64 x11_1 ∧ Aside0 (impl_flows.l0 kq l0 a1 x5_1 l0 (l0.length : Int) x11_1 = some r) ∧ Aside0 (kq ≤ k) ∧ Aside0 (Kd.R (Kd.complex .f32) 26 w' w.heap.size (fun _ => True) v5 x5_1) ∧ Aside0 (Below w.heap.size w w'))
  case atStart => exact ⟨(y101), (0), (by first | rfl | (simp; done) | (simp [*]; done)), H', ⟨Nat.le_refl _⟩, ⟨RS HO103.out⟩, ⟨BW HB⟩⟩
  case round =>
    clear H'; (try clear p2); obtain ⟨x5_1, x11_1, rfl, HA, HK1, HO_5, HB⟩ := hrel; cases gk with
    | zero => exact absurd HA.out (by simp [impl_flows.l0])
    | succ k1 =>
      have H := HA.out; clear HA; simp only [impl_flows.l0] at H; by_cases c5 : x11_1 < (l0.length : Int)
      · rw [if_pos c5] at H
        have c5b0 : decide (x11_1 < (l0.length : Int)) = true := decide_eq_true c5; clear c5; by_cases c6 : 0 ≤ x11_1
        · rw [if_pos c6] at H
          have c6b0 : decide (0 ≤ x11_1) = true := decide_eq_true c6; clear c6; by_cases c7 : x11_1 < (l0.length : Int)
          · rw [if_pos c7] at H
            have c7b0 : decide (x11_1 < (l0.length : Int)) = true := decide_eq_true c7; clear c7; replace H := Option.bind_eq_some_iff.mp H; obtain ⟨t106, A80, H⟩ := H; replace H : (if x5_1.length < 17592186044416 then (impl_flows.l0 k1 l0 a1 (x5_1 ++ [t106]) l0 (l0.length : Int) (wrap64 (x11_1 + 1))) else (none)) = some r := H; have A8 := Aside0.mk A80; clear A80; by_cases c9 : x5_1.length < 17592186044416
            · rw [if_pos c9] at H
              have LMc9 := Aside0.mk c9; clear c9; obtain ⟨y107, hy107⟩ : ∃ y_ : List (Nat × Nat), y_ = (x5_1 ++ [t106]) := ⟨_, rfl⟩; replace H : (impl_flows.l0 k1 l0 a1 y107 l0 (l0.length : Int) (wrap64 (x11_1 + 1))) = some r := (by first | (rw [hy107]; with_reducible exact H) | (have H2_ := (Option.bind_some _ _).symm.trans H; rw [hy107]; with_reducible exact H2_) | (have H2_ := (Option.bind_some _ _).symm.trans H; with_reducible exact H2_) | with_reducible exact H | (rw [hy107]; exact H) | exact H); have Ny107 := Aside0.mk hy107; clear hy107; have H' := Aside0.mk H; clear H; have p104 : 0 ≤ (x11_1 : Int) := of_decide_eq_true (by first | (with_reducible assumption) | assumption); have q104 : x11_1 < (l0.length : Int) := of_decide_eq_true (by first | (with_reducible assumption) | assumption); obtain ⟨ad104, e104, hx104_0, hx104_1⟩ := at_T46 HR0.out x11_1 p104 q104; cases e104; replace hx104_0 := (HB.out.cell (World.block_lt_of_cell? w _ hx104_0)).trans hx104_0; replace hx104_1 := (HB.out.cell (World.block_lt_of_cell? w _ hx104_1)).trans hx104_1; replace p104 := eq_true p104; replace q104 := eq_true q104; go_wp2_with (first | ((with_reducible refine gate_dst (N := 7) rfl ?_); refine box_event ?hg (N := 7) ?hd (cs := #[.complex .f32 ((0, 0) : Nat × Nat).1 ((0, 0) : Nat × Nat).2, .float .f32 0]) (t := 46) ?hr ?_; (case hd => rfl); (case hg => rfl); (case hr => first | (go_simp; done) | (go_simp; rfl)); intro gb105 hg w10 hbox hb; have BK105 := AS (hbox); have GW105 := BG HB hg; have GE105 := BG HB hg; replace HO_5 := RB HO_5 hb; replace HB := BB HB hb; clear hb hbox hg; have hcz11_0 : w10.cell? ⟨gb105, 0, none⟩ = some (.complex .f32 ((0, 0) : Nat × Nat).1 ((0, 0) : Nat × Nat).2) := (blk_cell BK105.out 0).trans rfl; have hcz11_1 : w10.cell? ⟨gb105, 1, none⟩ = some (.float .f32 0) := (blk_cell BK105.out 1).trans rfl; have hfz11_0 := blk_frozen BK105.out 0; have hfz11_1 := blk_frozen BK105.out 1) | ((with_reducible refine gate_store (t := 46) (p := 7) rfl ?_); refine store_event (t := 46) (p := 7) (v := ?vo_w12) (w1 := ((w10.setCell ⟨gb105, 0, none⟩ (.complex .f32 ((rd_T46 l0 x11_1).f0).1 ((rd_T46 l0 x11_1).f0).2)).setCell ⟨gb105, 1, none⟩ (.float .f32 ((rd_T46 l0 x11_1).f1)))) ?hg ?ho ?hn ?hr ?_; (case ho => rfl); (case hg => rfl); (case hn => rfl); (case hr => first | (go_simp; done) | (go_simp; rfl)); intro w12 hw; have n0_ : Aside0 (Kd.R (Kd.complex .f32) 26 w12 w.heap.size (fun _ => True) u5 x5_1) := ⟨(by rw [hw]; exact (RS (Kd.R_mono (Kd.R_far (p := ⟨gb105, 1, none⟩) (Kd.R_far (p := ⟨gb105, 0, none⟩) (Kd.R_types HO_5.out BK105.out (by decide)) (fun _ hk => hk.2) (.complex .f32 ((rd_T46 l0 x11_1).f0).1 ((rd_T46 l0 x11_1).f0).2)) (fun _ hk => hk.2) (.float .f32 ((rd_T46 l0 x11_1).f1))) (fun _ hk => trivial))))⟩; have n1_ : Aside0 (w12.heap[gb105]? = some (.cells #[.complex .f32 ((rd_T46 l0 x11_1).f0).1 ((rd_T46 l0 x11_1).f0).2, .float .f32 ((rd_T46 l0 x11_1).f1)] 46 (0, 0))) := ⟨(by rw [hw]; exact (by (with_reducible repeat (first | refine blk_drewN ?_ _ | refine blk_drew ?_ | refine blk_alloc ?_ _)); refine blk_put (cs := #[.complex .f32 ((rd_T46 l0 x11_1).f0).1 ((rd_T46 l0 x11_1).f0).2, .float .f32 0]) ?_ 1 _ rfl; (with_reducible repeat (first | refine blk_drewN ?_ _ | refine blk_drew ?_ | refine blk_alloc ?_ _)); refine blk_put (cs := #[.complex .f32 ((0, 0) : Nat × Nat).1 ((0, 0) : Nat × Nat).2, .float .f32 0]) ?_ 0 _ rfl; (with_reducible repeat (first | refine blk_drewN ?_ _ | refine blk_drew ?_ | refine blk_alloc ?_ _)); exact BK105.out))⟩; have n2_ : Aside0 (Below w.heap.size w w12) := ⟨(by rw [hw]; exact (BW HB))⟩; replace HO_5 := n0_; replace BK105 := n1_; replace HB := n2_; clear hw; clear n0_ n1_ n2_; have hcz13_0 : w12.cell? ⟨gb105, 0, none⟩ = some (.complex .f32 ((rd_T46 l0 x11_1).f0).1 ((rd_T46 l0 x11_1).f0).2) := (blk_cell BK105.out 0).trans rfl; have hcz13_1 : w12.cell? ⟨gb105, 1, none⟩ = some (.float .f32 ((rd_T46 l0 x11_1).f1)) := (blk_cell BK105.out 1).trans rfl; have hfz13_0 := blk_frozen BK105.out 0; have hfz13_1 := blk_frozen BK105.out 1) | ((with_reducible refine gate_callee (f := 66) rfl ?_); refine goesM 22 Try.func66 #[.slice (some ad104) l0.length c0, .complex .f32 ((rd_T46 l0 x11_1).f0).1 ((rd_T46 l0 x11_1).f0).2, .float .f32 a1, .int .i64 x11_1] ?_; (with_reducible refine (XO.flow.calls k1 _ _ l0 ((rd_T46 l0 x11_1).f0) a1 x11_1 t106 _ ?side1 ?side2 A8.out).mono ?_); (case side1 => exact CS (Kd.C_below HR0.out HB.out)); (case side2 => exact HC0.out); rintro e w14 ⟨rfl, hb⟩; refine ⟨_, rfl, ?_⟩; replace HO_5 := RB HO_5 hb; replace BK105 := KB BK105 hb; replace HB := BB HB hb; (try clear hb); (try clear hb2); (try clear hk); (try clear hi)) | ((with_reducible refine gate_builtin (b := .append) (xs := #[.tmp 16, .tmp 23]) rfl ?_); at_builtin; refine Kd.R_append (Kd.complex .f32) (w0 := w) w.heap.size rfl (.tmp 16) (.tmp 23) 42 26 (.complex .f32 0 0) 8 rfl Try.underlying42 info26 rfl (by decide) (by omega) u5 x5_1 t106 [.complex .f32 t106.1 t106.2] (fun _ => True) (fun _ => False) rfl rfl ?aP (fun _ hk => hk.elim) ?aF ?aO ?aB ?aS ?aL ?_; (case aP => exact rfl); (case aB => exact (BW HB)); (case aF => exact (fun _ _ => trivial)); (case aO => exact (RS HO_5.out)); (case aS => exact (below_size (BW HB))); (case aL => have := LMc9.out; omega); intro v108 w15 ho hb hg hat; rw [← Ny107.out] at ho; have n0_ := AS (blk_grown (g := gb105) (o := .cells #[.complex .f32 ((rd_T46 l0 x11_1).f0).1 ((rd_T46 l0 x11_1).f0).2, .float .f32 ((rd_T46 l0 x11_1).f1)] 46 (0, 0)) (KS BK105.out) hg (Kd.R_ne HO_5.out BK105.out (by decide))); have n1_ := AS (hb); have HO109 := AS (ho); replace BK105 := n0_; replace HB := n1_; clear HO_5; clear n0_ n1_; clear ho hb hg hat)); go_roundg k1
              case measure => have := HK1.out; omega
              case rel => exact ⟨(y107), (wrap64 (x11_1 + 1)), (by first | rfl | (simp; done) | (simp [*]; done)), H', ⟨by have := HK1.out; omega⟩, ⟨RS HO109.out⟩, ⟨BW HB⟩⟩
            · rw [if_neg c9] at H
              exact absurd H (by simp)
          · rw [if_neg c7] at H
            exact absurd H (by simp)
        · rw [if_neg c6] at H
          exact absurd H (by simp)
      · rw [if_neg c5] at H
        have c5b0 : decide (x11_1 < (l0.length : Int)) = false := decide_eq_false c5; clear c5; obtain rfl := Option.some.inj H; go_wp2; go_ret; exact ⟨_, by first | rfl | (simp [errW_none, errW_some] <;> rfl) | (simp [*, errW_none, errW_some] <;> rfl), by (with_reducible repeat (first | apply Kd.R_alloc | apply Kd.R_drewN | apply Kd.R_drew)); exact HO_5.out, BW HB⟩
def impl_moved.l0 : Nat → List (Nat × Nat) → Nat → List (S46) → List (S46) → Int → Int → Option ((List (S46)) × Bool)
  | 0, _, _, _, _, _, _ => none
  | k + 1, x1, x2, x8, x12, x13, x14 => if x14 < x13 then (if 0 ≤ x14 then (if x14 < (x12.length : Int) then (if x14 < (x1.length : Int) then ((N0.impl_ScaleComplex.f (rdOf ((0, 0) : Nat × Nat) x1 x14) x2).bind fun t116 => (if fok .add .f32 ((rd_T46 x12 x14).f0).1 t116.1 = true then (if fok .add .f32 ((rd_T46 x12 x14).f0).2 t116.2 = true then (if x8.length < 11728124029610 then (impl_moved.l0 k x1 x2 (x8 ++ [(⟨((fop .add .f32 ((rd_T46 x12 x14).f0).1 t116.1, fop .add .f32 ((rd_T46 x12 x14).f0).2 t116.2) : Nat × Nat), (rd_T46 x12 x14).f1⟩ : S46)]) x12 x13 (wrap64 (x14 + 1))) else (none)) else (none)) else (none))) else (none)) else (none)) else (none)) else ((S0.impl_finiteAll.f k x1).bind fun t120 => (if t120 = true then ((S0.impl_finiteWhirls.f k x8).bind fun t121 => (some (x8, t121))) else (some (x8, false))))
def impl_moved.f (k : Nat) (l0 : List (S46)) (l1 : List (Nat × Nat)) (a2 : Nat) : Option ((List (S46)) × Bool) := impl_moved.l0 k l1 a2 (([] : List (S46))) l0 (l0.length : Int) 0
theorem impl_moved.mono_l : ∀ k, (∀ y0 y1 y2 y3 y4 y5, LeO (impl_moved.l0 k y0 y1 y2 y3 y4 y5) (impl_moved.l0 (k + 1) y0 y1 y2 y3 y4 y5))
  | 0 => fun _ _ _ _ _ _ r h => by simp [impl_moved.l0] at h
  | k + 1 => by
    have ih0 := impl_moved.mono_l k
    · intro y0 y1 y2 y3 y4 y5
      unfold impl_moved.l0; repeat' first
      | (with_reducible exact ih0 _ _ _ _ _ _)
      | (with_reducible exact S0.impl_finiteAll.mono _ _)
      | (with_reducible exact S0.impl_finiteWhirls.mono _ _)
      | (with_reducible exact LeO.refl _)
      | (with_reducible exact LeO.none _)
      | (with_reducible refine LeO.ite ?_ ?_)
      | (with_reducible refine LeO.bind ?_ (fun _ => ?_))
      | exact ih0 _ _ _ _ _ _
      | exact S0.impl_finiteAll.mono _ _
      | exact S0.impl_finiteWhirls.mono _ _
      | exact LeO.none _
      | refine LeO.ite ?_ ?_
      | refine LeO.bind ?_ (fun _ => ?_)
theorem impl_moved.mono : ∀ a0 a1 a2 k, LeO (impl_moved.f k a0 a1 a2) (impl_moved.f (k + 1) a0 a1 a2) := by
  intro a0 a1 a2 k; have ih0 := impl_moved.mono_l k; unfold impl_moved.f
  repeat' first
      | (with_reducible exact ih0 _ _ _ _ _ _)
      | (with_reducible exact S0.impl_finiteAll.mono _ _)
      | (with_reducible exact S0.impl_finiteWhirls.mono _ _)
      | (with_reducible exact LeO.refl _)
      | (with_reducible exact LeO.none _)
      | (with_reducible refine LeO.ite ?_ ?_)
      | (with_reducible refine LeO.bind ?_ (fun _ => ?_))
      | exact ih0 _ _ _ _ _ _
      | exact S0.impl_finiteAll.mono _ _
      | exact S0.impl_finiteWhirls.mono _ _
      | exact LeO.none _
      | refine LeO.ite ?_ ?_
      | refine LeO.bind ?_ (fun _ => ?_)
def impl_moved.T5 : Bool × List (List Nat × List Nat) := (true, [([], []), ([], []), ([1], [1]), ([], []), ([], []), ([3, 4], [3, 4]), ([5], [5]), ([], []), ([6, 7], [6, 7]), ([2, 8], [2, 8]), ([], []), ([10], [10]), ([9, 11], [9, 11]), ([12], [12]), ([0, 13, 8], [0, 13]), ([14, 14, 0, 1, 2, 3, 4, 5, 6, 7, 8, 9, 10, 11, 12, 13, 14], [0, 14])])
def impl_moved.B5 : List Nat := [0, 0, 2, 0, 0, 24, 56, 0, 248, 510, 0, 1024, 4094, 8190, 16383, 32767]
theorem impl_moved.tab5 : rtab .any (opsOf Try.f171 5) = impl_moved.T5 := by kernel_rfl
theorem impl_moved.bits5 : waitsOk impl_moved.T5.2 impl_moved.B5 = true := by kernel_rfl
set_option maxHeartbeats 8000000 in
set_option maxRecDepth 100000 in
theorem impl_moved.calls (k : Nat) (A0 : Option Addr) (c0 : Nat) (l0 : List (S46)) (A1 : Option Addr) (c1 : Nat) (l1 : List (Nat × Nat)) (a2 : Nat) (r1 : List (S46)) (r2 : Bool) (w : World) (hr0 : Kd.C k46 w A0 l0.length l0) (hc0 : l0.length ≤ c0) (hr1 : Kd.C (Kd.complex .f32) w A1 l1.length l1) (hc1 : l1.length ≤ c1) (h : impl_moved.f k l0 l1 a2 = some (r1, r2)) :
    Calls Try.prog 171 #[.slice A0 l0.length c0, .slice A1 l1.length c1, .float .f32 a2] w fun e w' => ∃ v0_ : Value, e = .returned (.tuple #[v0_, .bool r2]) ∧ Kd.R k46 46 w' w.heap.size (fun _ => True) v0_ r1 ∧ Below w.heap.size w w' := by
  have hu46 := Try.underlying46; have HR0 := Aside0.mk hr0; have HC0 := Aside0.mk hc0; clear hr0 hc0; have HR1 := Aside0.mk hr1; have HC1 := Aside0.mk hc1; clear hr1 hc1; have HB := AS (Below.refl w.heap.size w); have H : (impl_moved.l0 k l1 a2 (([] : List (S46))) l0 (l0.length : Int) 0) = some (r1, r2) := h; clear h; obtain ⟨y110, hy110⟩ : ∃ y_ : List (S46), y_ = (([] : List (S46))) := ⟨_, rfl⟩; replace H : (impl_moved.l0 k l1 a2 y110 l0 (l0.length : Int) 0) = some (r1, r2) := (by first | (rw [hy110]; with_reducible exact H) | (have H2_ := (Option.bind_some _ _).symm.trans H; rw [hy110]; with_reducible exact H2_) | (have H2_ := (Option.bind_some _ _).symm.trans H; with_reducible exact H2_) | with_reducible exact H | (rw [hy110]; exact H) | exact H); have Ny110 := Aside0.mk hy110; clear hy110; have H' := Aside0.mk H; clear H; go_enter Try.func171, Try.ntmps171; go_wp2_with (first | ((with_reducible refine gate_dst (N := 11) rfl ?_); refine Kd.R_lit k46 _ 46 ?hg (N := 11) ?hd (xs := ([] : List (S46))) (inner := []) (ok := fun _ => True) (okp := fun _ => True) ?hr ?hp (fun _ hk => hk) trivial (Below.refl _ _) (Nat.le_refl _) (by simp) ?_; (case hd => rfl); (case hg => rfl); (case hr => first | (go_simp; done) | (go_simp; rfl)); (case hp => exact (Reps.none _ _)); intro v111 w4 ho5 hb hg_ hnew_; clear hg_ hnew_; (first | rw [← Ny110.out] at ho5 | (simp only [Int.reduceToNat] at ho5; rw [← Ny110.out] at ho5)); have HO112 := AS (Kd.R_lower ho5 (below_size (BW HB))); replace HB := BB HB hb; clear hb ho5)); go_loopg [8, 14] k (fun kq v8 v14 w' => ∃ (x8_1 : List (S46)) (x14_1 : Int), v14 = .int .i64 x14_1 ∧ Aside0 (impl_moved.l0 kq l1 a2 x8_1 l0 (l0.length : Int) x14_1 = some (r1, r2)) ∧ Aside0 (kq ≤ k) ∧ Aside0 (Kd.R k46 46 w' w.heap.size (fun _ => True) v8 x8_1) ∧ Aside0 (Below w.heap.size w w'))
  case atStart => exact ⟨(y110), (0), (by first | rfl | (simp; done) | (simp [*]; done)), H', ⟨Nat.le_refl _⟩, ⟨RS HO112.out⟩, ⟨BW HB⟩⟩
  case round =>
    clear H'; (try clear c1); (try clear p2); obtain ⟨x8_1, x14_1, rfl, HA, HK1, HO_8, HB⟩ := hrel; cases gk with
    | zero => exact absurd HA.out (by simp [impl_moved.l0])
    | succ k1 =>
      have H := HA.out; clear HA; simp only [impl_moved.l0] at H; by_cases c6 : x14_1 < (l0.length : Int)
      · rw [if_pos c6] at H
        have c6b0 : decide (x14_1 < (l0.length : Int)) = true := decide_eq_true c6; clear c6; by_cases c7 : 0 ≤ x14_1
        · rw [if_pos c7] at H
          have c7b0 : decide (0 ≤ x14_1) = true := decide_eq_true c7; clear c7; by_cases c8 : x14_1 < (l0.length : Int)
          · rw [if_pos c8] at H
            have c8b0 : decide (x14_1 < (l0.length : Int)) = true := decide_eq_true c8; clear c8; by_cases c9 : x14_1 < (l1.length : Int)
            · rw [if_pos c9] at H
              have c9b0 : decide (x14_1 < (l1.length : Int)) = true := decide_eq_true c9; clear c9; replace H := Option.bind_eq_some_iff.mp H; obtain ⟨t116, A100, H⟩ := H; (try dsimp only at H); have A10 := Aside0.mk A100; clear A100; by_cases c11 : fok .add .f32 ((rd_T46 l0 x14_1).f0).1 t116.1 = true
              · rw [if_pos c11] at H
                have c11b0 := eq_true c11; have c11b1 : decide (fok .add .f32 ((rd_T46 l0 x14_1).f0).1 t116.1 = true) = true := decide_eq_true c11; clear c11; by_cases c12 : fok .add .f32 ((rd_T46 l0 x14_1).f0).2 t116.2 = true
                · rw [if_pos c12] at H
                  have c12b0 := eq_true c12; have c12b1 : decide (fok .add .f32 ((rd_T46 l0 x14_1).f0).2 t116.2 = true) = true := decide_eq_true c12; clear c12; by_cases c13 : x8_1.length < 11728124029610
                  · rw [if_pos c13] at H
                    have LMc13 := Aside0.mk c13; clear c13; obtain ⟨y117, hy117⟩ : ∃ y_ : List (S46), y_ = (x8_1 ++ [(⟨((fop .add .f32 ((rd_T46 l0 x14_1).f0).1 t116.1, fop .add .f32 ((rd_T46 l0 x14_1).f0).2 t116.2) : Nat × Nat), (rd_T46 l0 x14_1).f1⟩ : S46)]) := ⟨_, rfl⟩; replace H : (impl_moved.l0 k1 l1 a2 y117 l0 (l0.length : Int) (wrap64 (x14_1 + 1))) = some (r1, r2) := (by first | (rw [hy117]; with_reducible exact H) | (have H2_ := (Option.bind_some _ _).symm.trans H; rw [hy117]; with_reducible exact H2_) | (have H2_ := (Option.bind_some _ _).symm.trans H; with_reducible exact H2_) | with_reducible exact H | (rw [hy117]; exact H) | exact H); have Ny117 := Aside0.mk hy117; clear hy117; have H' := Aside0.mk H; clear H; have p113 : 0 ≤ (x14_1 : Int) := of_decide_eq_true (by first | (with_reducible assumption) | assumption); have q113 : x14_1 < (l0.length : Int) := of_decide_eq_true (by first | (with_reducible assumption) | assumption); obtain ⟨ad113, e113, hx113_0, hx113_1⟩ := at_T46 HR0.out x14_1 p113 q113; cases e113; replace hx113_0 := (HB.out.cell (World.block_lt_of_cell? w _ hx113_0)).trans hx113_0; replace hx113_1 := (HB.out.cell (World.block_lt_of_cell? w _ hx113_1)).trans hx113_1; replace p113 := eq_true p113; replace q113 := eq_true q113; (try go_wp2_with (first | ((with_reducible refine gate_dst (N := 10) rfl ?_); refine box_event ?hg (N := 10) ?hd (cs := #[.complex .f32 ((0, 0) : Nat × Nat).1 ((0, 0) : Nat × Nat).2, .float .f32 0]) (t := 46) ?hr ?_; (case hd => rfl); (case hg => rfl); (case hr => first | (go_simp; done) | (go_simp; rfl)); intro gb114 hg w14 hbox hb; have n0_ := AS (Kd.R_below (Kd.R_elderB (RS HO_8.out) gb114 (Nat.le_of_eq hg.symm)) hb); have BK114 := AS (hbox); have GW114 := BG HB hg; have GE114 := BG HB hg; replace HB := BB HB hb; replace HO_8 := n0_; clear n0_; clear hb hbox hg; have hcz15_0 : w14.cell? ⟨gb114, 0, none⟩ = some (.complex .f32 ((0, 0) : Nat × Nat).1 ((0, 0) : Nat × Nat).2) := (blk_cell BK114.out 0).trans rfl; have hcz15_1 : w14.cell? ⟨gb114, 1, none⟩ = some (.float .f32 0) := (blk_cell BK114.out 1).trans rfl; have hfz15_0 := blk_frozen BK114.out 0; have hfz15_1 := blk_frozen BK114.out 1) | ((with_reducible refine gate_store (t := 46) (p := 10) rfl ?_); refine store_event (t := 46) (p := 10) (v := ?vo_w16) (w1 := ((w14.setCell ⟨gb114, 0, none⟩ (.complex .f32 ((rd_T46 l0 x14_1).f0).1 ((rd_T46 l0 x14_1).f0).2)).setCell ⟨gb114, 1, none⟩ (.float .f32 ((rd_T46 l0 x14_1).f1)))) ?hg ?ho ?hn ?hr ?_; (case ho => rfl); (case hg => rfl); (case hn => rfl); (case hr => first | (go_simp; done) | (go_simp; rfl)); intro w16 hw; have n0_ : Aside0 (Kd.R k46 46 w16 w.heap.size (fun k_ => k_ ≠ gb114) u8 x8_1) := ⟨(by rw [hw]; exact (RS (Kd.R_mono (Kd.R_far (p := ⟨gb114, 1, none⟩) (Kd.R_far (p := ⟨gb114, 0, none⟩) (Kd.R_mono HO_8.out (fun k_ hk => (⟨hk, hk.2⟩ : _ ∧ k_ ≠ gb114))) (fun _ hk => hk.2) (.complex .f32 ((rd_T46 l0 x14_1).f0).1 ((rd_T46 l0 x14_1).f0).2)) (fun _ hk => hk.2) (.float .f32 ((rd_T46 l0 x14_1).f1))) (fun _ hk => hk.1.2))))⟩; have n1_ : Aside0 (w16.heap[gb114]? = some (.cells #[.complex .f32 ((rd_T46 l0 x14_1).f0).1 ((rd_T46 l0 x14_1).f0).2, .float .f32 ((rd_T46 l0 x14_1).f1)] 46 (0, 0))) := ⟨(by rw [hw]; exact (by (with_reducible repeat (first | refine blk_drewN ?_ _ | refine blk_drew ?_ | refine blk_alloc ?_ _)); refine blk_put (cs := #[.complex .f32 ((rd_T46 l0 x14_1).f0).1 ((rd_T46 l0 x14_1).f0).2, .float .f32 0]) ?_ 1 _ rfl; (with_reducible repeat (first | refine blk_drewN ?_ _ | refine blk_drew ?_ | refine blk_alloc ?_ _)); refine blk_put (cs := #[.complex .f32 ((0, 0) : Nat × Nat).1 ((0, 0) : Nat × Nat).2, .float .f32 0]) ?_ 0 _ rfl; (with_reducible repeat (first | refine blk_drewN ?_ _ | refine blk_drew ?_ | refine blk_alloc ?_ _)); exact BK114.out))⟩; have n2_ : Aside0 (Below w.heap.size w w16) := ⟨(by rw [hw]; exact (BW HB))⟩; replace HO_8 := n0_; replace BK114 := n1_; replace HB := n2_; clear hw; clear n0_ n1_ n2_))); have n0_ := AS (Kd.R_drew HO_8.out); have n1_ := AS (blk_drew BK114.out); have n2_ := AS (below_drew1 HB.out); replace HO_8 := n0_; replace BK114 := n1_; replace HB := n2_; clear n0_ n1_ n2_; have p115 : 0 ≤ (x14_1 : Int) := of_decide_eq_true (by first | (with_reducible assumption) | assumption); have q115 : x14_1 < (l1.length : Int) := of_decide_eq_true (by first | (with_reducible assumption) | assumption); obtain ⟨ad115, e115, hx115_0⟩ := Kd.at_complex HR1.out x14_1 p115 q115; have hw115_0 := hx115_0; cases e115; replace hx115_0 := (HB.out.cell (World.block_lt_of_cell? w _ hx115_0)).trans hx115_0; replace p115 := eq_true p115; replace q115 := eq_true q115; refine start_ (n := 16) (S := fun w' => w'.cell? ⟨gb114, 0, none⟩ = some (.complex .f32 ((rd_T46 l0 x14_1).f0).1 ((rd_T46 l0 x14_1).f0).2) ∧ w'.cell? ⟨gb114, 1, none⟩ = some (.float .f32 ((rd_T46 l0 x14_1).f1)) ∧ w'.cell? (ad115.add (x14_1).toNat) = some (.complex .f32 (rdOf ((0, 0) : Nat × Nat) l1 x14_1).1 (rdOf ((0, 0) : Nat × Nat) l1 x14_1).2)) (ds := []) #[false, false, false, false, false, false, false, false, false, false, false, false, false, false, false, false] (by kernel_rfl) rfl rfl ⟨(blk_cell BK114.out 0).trans rfl, (blk_cell BK114.out 1).trans rfl, ((HB.out.cell (World.block_lt_of_cell? w _ hw115_0)).trans hw115_0)⟩ (fun hHeld => ?_); refine with_tabW impl_moved.tab5 impl_moved.bits5 (fun HT_ HW_ => ?_); generalize w16.drew = w17 at HO_8 BK114 HB hx115_0 hHeld ⊢; refine pureT 0 19 HT_.out ?_; refine pureT 1 20 HT_.out ?_; refine pureT 3 22 HT_.out ?_; refine pureT 4 23 HT_.out ?_; refine pureT 5 24 HT_.out ?_; refine pureT 7 26 HT_.out ?_; refine pureT 10 29 HT_.out ?_; refine takeS (i := 2) (N := some 21) (v := ?_) (a' := ?_) rfl rfl (take_ofW HT_.out HW_.out (by kernel_rfl)) (fun _ _ _ h => h) (Or.inl ⟨by rfl, ?_⟩) hHeld ?_ ?_; rotate_left; (· rintro w' ⟨s0, s1, s2⟩; go_simp; with_reducible rfl); rotate_left; (· simp only [Act.put, List.setIfInBounds_toArray, List.set_cons_zero, List.set_cons_succ, i64_w, i32_w]; rfl); refine takeS (i := 6) (N := some 25) (v := ?_) (a' := ?_) rfl rfl (take_ofW HT_.out HW_.out (by kernel_rfl)) (fun _ _ _ h => h) (Or.inl ⟨by rfl, ?_⟩) hHeld ?_ ?_; rotate_left; (· rintro w' ⟨s0, s1, s2⟩; go_simp; with_reducible rfl); rotate_left; (· simp only [Act.put, List.setIfInBounds_toArray, List.set_cons_zero, List.set_cons_succ, i64_w, i32_w]; rfl); refine takeS (i := 11) (N := some 30) (v := ?_) (a' := ?_) rfl rfl (take_ofW HT_.out HW_.out (by kernel_rfl)) (fun _ _ _ h => h) (Or.inl ⟨by rfl, ?_⟩) hHeld ?_ ?_; rotate_left; (· rintro w' ⟨s0, s1, s2⟩; go_simp; with_reducible rfl); rotate_left; (· simp only [Act.put, List.setIfInBounds_toArray, List.set_cons_zero, List.set_cons_succ, i64_w, i32_w]; rfl); refine one_ (i := 8) (N := some 27) #[true, true, true, true, true, true, true, true, true, false, true, true, false, false, false, false] rfl rfl (one_of HT_.out (by kernel_rfl)) (by decide) (fun K hK => ?_); refine goes_ Try.func90 (by kernel_rfl) rfl #[.complex .f32 (rdOf ((0, 0) : Nat × Nat) l1 x14_1).1 (rdOf ((0, 0) : Nat × Nat) l1 x14_1).2, .float .f32 a2] (by rfl) rfl rfl (by (try simp only [List.map_toArray, List.map_cons, List.map_nil]); first | done | rfl | (simp only [List.length_drop, List.length_take]; rfl)) ?_; (with_reducible refine (N0.impl_ScaleComplex.calls (rdOf ((0, 0) : Nat × Nat) l1 x14_1) a2 t116 _ A10.out).mono ?_); rintro e w18 ⟨rfl, hb⟩; refine ⟨_, rfl, ?_⟩; replace HO_8 := RB HO_8 hb; replace BK114 := KB BK114 hb; replace HB := BB HB hb; (try clear hb); (try clear hb2); (try clear hk); (try clear hi); refine hK.out _ _ ⟨(blk_cell BK114.out 0).trans rfl, (blk_cell BK114.out 1).trans rfl, ((HB.out.cell (World.block_lt_of_cell? w _ hw115_0)).trans hw115_0)⟩ (fun hHeld => ?_); clear hK K; refine norm_ (a' := ?_) ?_ ?_; rotate_left
                    · show Act.put _ (some 27) _ = _
                      simp only [Act.put, List.setIfInBounds_toArray, List.set_cons_zero, List.set_cons_succ, i64_w, i32_w]; rfl
                    refine pureT 9 28 HT_.out ?_; refine pureT 12 31 HT_.out ?_; refine one_ (i := 13) (N := some 32) #[true, true, true, true, true, true, true, true, true, true, true, true, true, true, false, false] rfl rfl (one_of HT_.out (by kernel_rfl)) (by decide) (fun K hK => ?_); refine value_ (w1 := ?_) (v := ?_) (by rfl) rfl ?_ ?_; rotate_left 2
                    · go_simp
                      constructor
                      · rfl
                      · rfl
                    refine hK.out _ _ ⟨(blk_cell (blk_alloc BK114.out _) 0).trans rfl, (blk_cell (blk_alloc BK114.out _) 1).trans rfl, (World.cell?_alloc_lt _ _ _ (World.block_lt_of_cell? _ _ (((HB.out.cell (World.block_lt_of_cell? w _ hw115_0)).trans hw115_0)))).trans (((HB.out.cell (World.block_lt_of_cell? w _ hw115_0)).trans hw115_0))⟩ (fun hHeld => ?_); clear hK K; refine norm_ (a' := ?_) ?_ ?_; rotate_left
                    · show Act.put _ (some 32) _ = _
                      simp only [Act.put, List.setIfInBounds_toArray, List.set_cons_zero, List.set_cons_succ, i64_w, i32_w]; rfl
                    refine one_ (i := 14) (N := some 33) #[true, true, true, true, true, true, true, true, true, true, true, true, true, true, true, false] rfl rfl (one_of HT_.out (by kernel_rfl)) (by decide) (fun K hK => ?_); refine Kd.R_append_step k46 (w0 := w) w.heap.size (by rfl) (.tmp 19) (.tmp 32) 24 46 (.agg #[(.complex .f32 0 0), (.float .f32 0)]) 12 rfl Try.underlying24 info46 rfl (by decide) (by omega) u8 x8_1 (⟨((fop .add .f32 ((rd_T46 l0 x14_1).f0).1 t116.1, fop .add .f32 ((rd_T46 l0 x14_1).f0).2 t116.2) : Nat × Nat), (rd_T46 l0 x14_1).f1⟩ : S46) [.complex .f32 ((fop .add .f32 ((rd_T46 l0 x14_1).f0).1 t116.1, fop .add .f32 ((rd_T46 l0 x14_1).f0).2 t116.2) : Nat × Nat).1 ((fop .add .f32 ((rd_T46 l0 x14_1).f0).1 t116.1, fop .add .f32 ((rd_T46 l0 x14_1).f0).2 t116.2) : Nat × Nat).2, .float .f32 ((rd_T46 l0 x14_1).f1)] (fun k_ => k_ ≠ gb114) (fun _ => False) rfl rfl ?aP (fun _ hk => hk.elim) ?aF ?aO ?aB ?aS ?aL ?_; (case aP => exact k46_mkM _ _ _ (⟨((fop .add .f32 ((rd_T46 l0 x14_1).f0).1 t116.1, fop .add .f32 ((rd_T46 l0 x14_1).f0).2 t116.2) : Nat × Nat), (rd_T46 l0 x14_1).f1⟩ : S46)); (case aB => exact (BW HB)); (case aF => exact (fun k_ hk => Kd.freshB (g := gb114) (o := .cells #[.complex .f32 ((rd_T46 l0 x14_1).f0).1 ((rd_T46 l0 x14_1).f0).2, .float .f32 ((rd_T46 l0 x14_1).f1)] 46 (0, 0)) (KS BK114.out) k_ hk)); (case aO => exact (RS HO_8.out)); (case aS => exact (below_size (BW HB))); (case aL => have := LMc13.out; omega); intro v118 w19 ho hb hg hat; rw [← Ny117.out] at ho; have n0_ := AS (blk_grown (g := gb114) (o := .cells #[.complex .f32 ((rd_T46 l0 x14_1).f0).1 ((rd_T46 l0 x14_1).f0).2, .float .f32 ((rd_T46 l0 x14_1).f1)] 46 (0, 0)) (KS BK114.out) hg (Kd.R_away HO_8.out (fun _ hk => hk))); have n1_ := AS (hb); have HO119 := AS (ho); replace BK114 := n0_; replace HB := n1_; clear HO_8; clear n0_ n1_; clear ho hb hg hat; refine hK.out _ _ ⟨(blk_cell BK114.out 0).trans rfl, (blk_cell BK114.out 1).trans rfl, ((HB.out.cell (World.block_lt_of_cell? w _ hw115_0)).trans hw115_0)⟩ (fun hHeld => ?_); clear hK K; refine norm_ (a' := ?_) ?_ ?_; rotate_left
                    · show Act.put _ (some 33) _ = _
                      simp only [Act.put, List.setIfInBounds_toArray, List.set_cons_zero, List.set_cons_succ, i64_w, i32_w]; rfl
                    refine pureT 15 8 HT_.out ?_; refine done_ (done_of HT_.out (by kernel_rfl)) ?_; (try go_wp2); go_roundg k1
                    case measure => have := HK1.out; omega
                    case rel => exact ⟨(y117), (wrap64 (x14_1 + 1)), (by first | rfl | (simp; done) | (simp [*]; done)), H', ⟨by have := HK1.out; omega⟩, ⟨by (with_reducible repeat (first | apply Kd.R_alloc | apply Kd.R_drewN | apply Kd.R_drew)); exact Kd.R_mono HO119.out (fun _ hk => trivial)⟩, ⟨BW HB⟩⟩
                  · rw [if_neg c13] at H
                    exact absurd H (by simp)
                · rw [if_neg c12] at H
                  exact absurd H (by simp)
              · rw [if_neg c11] at H
                exact absurd H (by simp)
            · rw [if_neg c9] at H
              exact absurd H (by simp)
          · rw [if_neg c8] at H
            exact absurd H (by simp)
        · rw [if_neg c7] at H
          exact absurd H (by simp)
      · rw [if_neg c6] at H
        have c6b0 : decide (x14_1 < (l0.length : Int)) = false := decide_eq_false c6; clear c6; replace H := Option.bind_eq_some_iff.mp H; obtain ⟨t120, A200, H⟩ := H; replace H : (if t120 = true then ((S0.impl_finiteWhirls.f k1 x8_1).bind fun t121 => (some (x8_1, t121))) else (some (x8_1, false))) = some (r1, r2) := H; have A20 := Aside0.mk A200; clear A200; by_cases c21 : t120 = true
        · subst c21
          have H1 : ((S0.impl_finiteWhirls.f k1 x8_1).bind fun t121 => (some (x8_1, t121))) = some (r1, r2) := (by rw [if_pos rfl] at H; exact H); clear H; have H := H1; clear H1; replace H := Option.bind_eq_some_iff.mp H; obtain ⟨t121, A220, H⟩ := H; replace H : (some (x8_1, t121)) = some (r1, r2) := H; have A22 := Aside0.mk A220; clear A220; simp only [Option.some.injEq, Prod.mk.injEq] at H; obtain ⟨rfl, rfl⟩ := H; go_wp2_with (first | ((with_reducible refine gate_callee (f := 85) rfl ?_); refine goesM 37 Try.func85 #[.slice A1 l1.length c1] ?_; (with_reducible refine (S0.impl_finiteAll.calls k1 _ _ l1 true _ ?side1 ?side2 A20.out).mono ?_); (case side1 => exact CS (Kd.C_below HR1.out HB.out)); (case side2 => exact HC1.out); rintro e w23 ⟨rfl, hb⟩; refine ⟨_, rfl, ?_⟩; replace HO_8 := RB HO_8 hb; replace HB := BB HB hb; (try clear hb); (try clear hb2); (try clear hk); (try clear hi); obtain ⟨Ao24, co24, eo24⟩ := Kd.R_slice HO_8.out; subst eo24) | (go_at_call 152; (with_reducible refine (S0.impl_finiteWhirls.calls k1 _ _ x8_1 t121 _ ?side1 ?side2 A22.out).mono ?_); (case side1 => repeat (first | exact (Kd.R_reads' HO_8.out).2.2 | (with_reducible refine Kd.C_alloc ?_ _) | (with_reducible refine Kd.C_drewN ?_ _) | (with_reducible refine Kd.C_drew ?_))); (case side2 => exact (Kd.R_reads' HO_8.out).2.1); rintro e w25 ⟨rfl, hb⟩; replace HO_8 := RB HO_8 hb; replace HB := BB HB hb; (try clear hb); (try clear hb2); (try clear hk); (try clear hi))); go_ret2; exact ⟨_, by first | rfl | (simp [errW_none, errW_some] <;> rfl) | (simp [*, errW_none, errW_some] <;> rfl), by (with_reducible repeat (first | apply Kd.R_alloc | apply Kd.R_drewN | apply Kd.R_drew)); exact HO_8.out, BW HB⟩
        · replace c21 := Bool.eq_false_iff.mpr c21
          subst c21; have H1 : (some (x8_1, false)) = some (r1, r2) := (by rw [if_neg (show ¬ (false = true) by decide)] at H; exact H); clear H; have H := H1; clear H1; simp only [Option.some.injEq, Prod.mk.injEq] at H; obtain ⟨rfl, rfl⟩ := H; go_wp2_with (first | ((with_reducible refine gate_callee (f := 85) rfl ?_); refine goesM 37 Try.func85 #[.slice A1 l1.length c1] ?_; (with_reducible refine (S0.impl_finiteAll.calls k1 _ _ l1 false _ ?side1 ?side2 A20.out).mono ?_); (case side1 => exact CS (Kd.C_below HR1.out HB.out)); (case side2 => exact HC1.out); rintro e w26 ⟨rfl, hb⟩; refine ⟨_, rfl, ?_⟩; replace HO_8 := RB HO_8 hb; replace HB := BB HB hb; (try clear hb); (try clear hb2); (try clear hk); (try clear hi))); go_ret2; exact ⟨_, by first | rfl | (simp [errW_none, errW_some] <;> rfl) | (simp [*, errW_none, errW_some] <;> rfl), by (with_reducible repeat (first | apply Kd.R_alloc | apply Kd.R_drewN | apply Kd.R_drew)); exact HO_8.out, BW HB⟩
def impl_step.f (k : Nat) (l0 : List (S46)) (a1 : Nat) (a2 : Nat) : Option ((List (S46)) × Bool) := (impl_flows.f k l0 a1).bind fun t122 => (if fok .quo .f32 a2 1073741824 = true then ((impl_moved.f k l0 t122 (fop .quo .f32 a2 1073741824)).bind fun bt125 => (if bt125.2 = true then ((impl_flows.f k bt125.1 a1).bind fun t129 => ((impl_moved.f k l0 t129 a2).bind fun bt132 => (some (bt132.1, bt132.2)))) else (some (([] : List (S46)), false)))) else (none))
theorem impl_step.mono : ∀ a0 a1 a2 k, LeO (impl_step.f k a0 a1 a2) (impl_step.f (k + 1) a0 a1 a2) := by
  intro a0 a1 a2 k; unfold impl_step.f
  repeat' first
      | (with_reducible exact impl_flows.mono _ _ _)
      | (with_reducible exact impl_moved.mono _ _ _ _)
      | (with_reducible exact LeO.refl _)
      | (with_reducible exact LeO.none _)
      | (with_reducible refine LeO.ite ?_ ?_)
      | (with_reducible refine LeO.bind ?_ (fun _ => ?_))
      | exact impl_flows.mono _ _ _
      | exact impl_moved.mono _ _ _ _
      | exact LeO.none _
      | refine LeO.ite ?_ ?_
      | refine LeO.bind ?_ (fun _ => ?_)
set_option maxHeartbeats 8000000 in
set_option maxRecDepth 100000 in
theorem impl_step.calls (k : Nat) (A0 : Option Addr) (c0 : Nat) (l0 : List (S46)) (a1 : Nat) (a2 : Nat) (r1 : List (S46)) (r2 : Bool) (w : World) (hr0 : Kd.C k46 w A0 l0.length l0) (hc0 : l0.length ≤ c0) (h : impl_step.f k l0 a1 a2 = some (r1, r2)) :
    Calls Try.prog 133 #[.slice A0 l0.length c0, .float .f32 a1, .float .f32 a2] w fun e w' => ∃ v0_ : Value, e = .returned (.tuple #[v0_, .bool r2]) ∧ Kd.R k46 46 w' w.heap.size (fun _ => True) v0_ r1 ∧ Below w.heap.size w w' := by
  have HR0 := Aside0.mk hr0; have HC0 := Aside0.mk hc0; clear hr0 hc0; have HB := AS (Below.refl w.heap.size w); have H : ((impl_flows.f k l0 a1).bind fun t122 => (if fok .quo .f32 a2 1073741824 = true then ((impl_moved.f k l0 t122 (fop .quo .f32 a2 1073741824)).bind fun bt125 => (if bt125.2 = true then ((impl_flows.f k bt125.1 a1).bind fun t129 => ((impl_moved.f k l0 t129 a2).bind fun bt132 => (some (bt132.1, bt132.2)))) else (some (([] : List (S46)), false)))) else (none))) = some (r1, r2) := h; clear h; replace H := Option.bind_eq_some_iff.mp H; obtain ⟨t122, A40, H⟩ := H; (try dsimp only at H); have A4 := Aside0.mk A40; clear A40; by_cases c5 : fok .quo .f32 a2 1073741824 = true
  · rw [if_pos c5] at H
    have c5b0 := eq_true c5; have c5b1 : decide (fok .quo .f32 a2 1073741824 = true) = true := decide_eq_true c5; clear c5; replace H := Option.bind_eq_some_iff.mp H; obtain ⟨⟨t125, t126⟩, A60, H⟩ := H; replace H : (if t126 = true then ((impl_flows.f k t125 a1).bind fun t129 => ((impl_moved.f k l0 t129 a2).bind fun bt132 => (some (bt132.1, bt132.2)))) else (some (([] : List (S46)), false))) = some (r1, r2) := H; have A6 := Aside0.mk A60; clear A60; by_cases c7 : t126 = true
    · subst c7
      have H1 : ((impl_flows.f k t125 a1).bind fun t129 => ((impl_moved.f k l0 t129 a2).bind fun bt132 => (some (bt132.1, bt132.2)))) = some (r1, r2) := (by rw [if_pos rfl] at H; exact H); clear H; have H := H1; clear H1; replace H := Option.bind_eq_some_iff.mp H; obtain ⟨t129, A80, H⟩ := H; replace H : ((impl_moved.f k l0 t129 a2).bind fun bt132 => (some (bt132.1, bt132.2))) = some (r1, r2) := H; have A8 := Aside0.mk A80; clear A80; replace H := Option.bind_eq_some_iff.mp H; obtain ⟨⟨t132, t133⟩, A90, H⟩ := H; replace H : (some (t132, t133)) = some (r1, r2) := H; have A9 := Aside0.mk A90; clear A90; simp only [Option.some.injEq, Prod.mk.injEq] at H; obtain ⟨rfl, rfl⟩ := H; go_enter Try.func133, Try.ntmps133; go_wp2_with (first | ((with_reducible refine gate_callee (f := 84) rfl ?_); refine goesM 14 Try.func84 #[.slice A0 l0.length c0, .float .f32 a1] ?_; (with_reducible refine (impl_flows.calls k _ _ l0 a1 t122 _ ?side1 ?side2 A4.out).mono ?_); (case side1 => exact CS HR0.out); (case side2 => exact HC0.out); rintro e w10 ⟨v123, rfl, ho0, hb⟩; refine ⟨_, rfl, ?_⟩; have HO124 := AS (Kd.R_lower ho0 (below_size (BW HB))); replace HB := BB HB hb; (try clear hb); (try clear hb2); (try clear hk); (try clear hi); (try clear ho0); obtain ⟨Ao11, co11, eo11⟩ := Kd.R_slice HO124.out; subst eo11) | ((with_reducible refine gate_callee (f := 171) rfl ?_); refine goesM 17 Try.func171 #[.slice A0 l0.length c0, .slice Ao11 t122.length co11, .float .f32 (fop .quo .f32 a2 1073741824)] ?_; (with_reducible refine (impl_moved.calls k _ _ l0 _ _ t122 (fop .quo .f32 a2 1073741824) t125 true _ ?side1 ?side2 ?side3 ?side4 A6.out).mono ?_); (case side1 => exact CS (Kd.C_below HR0.out HB.out)); (case side2 => exact HC0.out); (case side3 => repeat (first | exact (Kd.R_reads' HO124.out).2.2 | (with_reducible refine Kd.C_alloc ?_ _) | (with_reducible refine Kd.C_drewN ?_ _) | (with_reducible refine Kd.C_drew ?_))); (case side4 => exact (Kd.R_reads' HO124.out).2.1); rintro e w12 ⟨v127, rfl, ho0, hb⟩; refine ⟨_, rfl, ?_⟩; have HO128 := AS (Kd.R_lower ho0 (below_size (BW HB))); replace HO124 := RB HO124 hb; replace HB := BB HB hb; (try clear hb); (try clear hb2); (try clear hk); (try clear hi); (try clear ho0); obtain ⟨Ao13, co13, eo13⟩ := Kd.R_slice HO128.out; subst eo13) | ((with_reducible refine gate_callee (f := 84) rfl ?_); refine goesM 25 Try.func84 #[.slice Ao13 t125.length co13, .float .f32 a1] ?_; (with_reducible refine (impl_flows.calls k _ _ t125 a1 t129 _ ?side1 ?side2 A8.out).mono ?_); (case side1 => repeat (first | exact (Kd.R_reads' HO128.out).2.2 | (with_reducible refine Kd.C_alloc ?_ _) | (with_reducible refine Kd.C_drewN ?_ _) | (with_reducible refine Kd.C_drew ?_))); (case side2 => exact (Kd.R_reads' HO128.out).2.1); rintro e w14 ⟨v130, rfl, ho0, hb⟩; refine ⟨_, rfl, ?_⟩; have n0_ := AS (Kd.R_elder' (RS HO124.out) (Kd.R_base ho0) hb); have HO131 := AS (Kd.R_lower (Kd.R_new' ho0 (Kd.R_lt (RS HO124.out))) (below_size (BW HB))); replace HO128 := RB HO128 hb; replace HB := BB HB hb; replace HO124 := n0_; clear n0_; (try clear hb); (try clear hb2); (try clear hk); (try clear hi); (try clear ho0); obtain ⟨Ao15, co15, eo15⟩ := Kd.R_slice HO131.out; subst eo15) | ((with_reducible refine gate_callee (f := 171) rfl ?_); refine goesM 27 Try.func171 #[.slice A0 l0.length c0, .slice Ao15 t129.length co15, .float .f32 a2] ?_; (with_reducible refine (impl_moved.calls k _ _ l0 _ _ t129 a2 t132 t133 _ ?side1 ?side2 ?side3 ?side4 A9.out).mono ?_); (case side1 => exact CS (Kd.C_below HR0.out HB.out)); (case side2 => exact HC0.out); (case side3 => repeat (first | exact (Kd.R_reads' HO131.out).2.2 | (with_reducible refine Kd.C_alloc ?_ _) | (with_reducible refine Kd.C_drewN ?_ _) | (with_reducible refine Kd.C_drew ?_))); (case side4 => exact (Kd.R_reads' HO131.out).2.1); rintro e w16 ⟨v134, rfl, ho0, hb⟩; refine ⟨_, rfl, ?_⟩; have n1_ := AS (Kd.R_elder' (RS HO128.out) (Kd.R_base ho0) hb); have HO135 := AS (Kd.R_lower (Kd.R_new' ho0 (Kd.R_lt (RS HO128.out))) (below_size (BW HB))); replace HO124 := RB HO124 hb; replace HO131 := RB HO131 hb; replace HB := BB HB hb; replace HO128 := n1_; clear n1_; (try clear hb); (try clear hb2); (try clear hk); (try clear hi); (try clear ho0))); go_ret2; exact ⟨_, by first | rfl | (simp [errW_none, errW_some] <;> rfl) | (simp [*, errW_none, errW_some] <;> rfl), by (with_reducible repeat (first | apply Kd.R_alloc | apply Kd.R_drewN | apply Kd.R_drew)); exact Kd.R_mono HO135.out (fun _ hk => trivial), BW HB⟩
    · replace c7 := Bool.eq_false_iff.mpr c7
      subst c7; have H1 : (some (([] : List (S46)), false)) = some (r1, r2) := (by rw [if_neg (show ¬ (false = true) by decide)] at H; exact H); clear H; have H := H1; clear H1; simp only [Option.some.injEq, Prod.mk.injEq] at H; obtain ⟨rfl, rfl⟩ := H; go_enter Try.func133, Try.ntmps133; go_wp2_with (first | ((with_reducible refine gate_callee (f := 84) rfl ?_); refine goesM 14 Try.func84 #[.slice A0 l0.length c0, .float .f32 a1] ?_; (with_reducible refine (impl_flows.calls k _ _ l0 a1 t122 _ ?side1 ?side2 A4.out).mono ?_); (case side1 => exact CS HR0.out); (case side2 => exact HC0.out); rintro e w17 ⟨v123, rfl, ho0, hb⟩; refine ⟨_, rfl, ?_⟩; have HO124 := AS (Kd.R_lower ho0 (below_size (BW HB))); replace HB := BB HB hb; (try clear hb); (try clear hb2); (try clear hk); (try clear hi); (try clear ho0); obtain ⟨Ao18, co18, eo18⟩ := Kd.R_slice HO124.out; subst eo18) | ((with_reducible refine gate_callee (f := 171) rfl ?_); refine goesM 17 Try.func171 #[.slice A0 l0.length c0, .slice Ao18 t122.length co18, .float .f32 (fop .quo .f32 a2 1073741824)] ?_; (with_reducible refine (impl_moved.calls k _ _ l0 _ _ t122 (fop .quo .f32 a2 1073741824) t125 false _ ?side1 ?side2 ?side3 ?side4 A6.out).mono ?_); (case side1 => exact CS (Kd.C_below HR0.out HB.out)); (case side2 => exact HC0.out); (case side3 => repeat (first | exact (Kd.R_reads' HO124.out).2.2 | (with_reducible refine Kd.C_alloc ?_ _) | (with_reducible refine Kd.C_drewN ?_ _) | (with_reducible refine Kd.C_drew ?_))); (case side4 => exact (Kd.R_reads' HO124.out).2.1); rintro e w19 ⟨v127, rfl, ho0, hb⟩; refine ⟨_, rfl, ?_⟩; have HO128 := AS (Kd.R_lower ho0 (below_size (BW HB))); replace HO124 := RB HO124 hb; replace HB := BB HB hb; (try clear hb); (try clear hb2); (try clear hk); (try clear hi); (try clear ho0))); go_ret2; exact ⟨_, by first | rfl | (simp [errW_none, errW_some] <;> rfl) | (simp [*, errW_none, errW_some] <;> rfl), by first | exact Kd.R_nil _ _ _ _ _ | exact Kd.N_nil _ _ _ _ _ | exact Kd.V_nil _ _ _ _ _ | exact Kd.Q_nil _ _ _ _ _ | exact Kd.S_nil _ _ _ _ _, BW HB⟩
  · rw [if_neg c5] at H
    exact absurd H (by simp)
def impl_steps.l0 : Nat → Nat → Nat → Int → List (S46) → Bool → Int → Option ((List (S46)) × Bool)
  | 0, _, _, _, _, _, _ => none
  | k + 1, x1, x2, x3, x10, x11, x12 => if x12 < x3 then (if x11 = true then ((impl_step.f k x10 x1 x2).bind fun bt139 => (impl_steps.l0 k x1 x2 x3 bt139.1 bt139.2 (wrap64 (x12 + 1)))) else (some (x10, x11))) else (some (x10, x11))
def impl_steps.f (k : Nat) (l0 : List (S46)) (a1 : Nat) (a2 : Nat) (a3 : Int) : Option ((List (S46)) × Bool) := (XK2.cloneW.f l0).bind fun t136 => (impl_steps.l0 k a1 a2 a3 t136 true 0)
theorem impl_steps.mono_l : ∀ k, (∀ y0 y1 y2 y3 y4 y5, LeO (impl_steps.l0 k y0 y1 y2 y3 y4 y5) (impl_steps.l0 (k + 1) y0 y1 y2 y3 y4 y5))
  | 0 => fun _ _ _ _ _ _ r h => by simp [impl_steps.l0] at h
  | k + 1 => by
    have ih0 := impl_steps.mono_l k
    · intro y0 y1 y2 y3 y4 y5
      unfold impl_steps.l0; repeat' first
      | (with_reducible exact ih0 _ _ _ _ _ _)
      | (with_reducible exact impl_step.mono _ _ _ _)
      | (with_reducible exact LeO.refl _)
      | (with_reducible exact LeO.none _)
      | (with_reducible refine LeO.ite ?_ ?_)
      | (with_reducible refine LeO.bind ?_ (fun _ => ?_))
      | exact ih0 _ _ _ _ _ _
      | exact impl_step.mono _ _ _ _
      | exact LeO.none _
      | refine LeO.ite ?_ ?_
      | refine LeO.bind ?_ (fun _ => ?_)
theorem impl_steps.mono : ∀ a0 a1 a2 a3 k, LeO (impl_steps.f k a0 a1 a2 a3) (impl_steps.f (k + 1) a0 a1 a2 a3) := by
  intro a0 a1 a2 a3 k; have ih0 := impl_steps.mono_l k; unfold impl_steps.f
  repeat' first
      | (with_reducible exact ih0 _ _ _ _ _ _)
      | (with_reducible exact impl_step.mono _ _ _ _)
      | (with_reducible exact LeO.refl _)
      | (with_reducible exact LeO.none _)
      | (with_reducible refine LeO.ite ?_ ?_)
      | (with_reducible refine LeO.bind ?_ (fun _ => ?_))
      | exact ih0 _ _ _ _ _ _
      | exact impl_step.mono _ _ _ _
      | exact LeO.none _
      | refine LeO.ite ?_ ?_
      | refine LeO.bind ?_ (fun _ => ?_)
set_option maxHeartbeats 8000000 in
set_option maxRecDepth 100000 in
theorem impl_steps.calls (k : Nat) (A0 : Option Addr) (c0 : Nat) (l0 : List (S46)) (a1 : Nat) (a2 : Nat) (a3 : Int) (r1 : List (S46)) (r2 : Bool) (w : World) (hr0 : Kd.C k46 w A0 l0.length l0) (hc0 : l0.length ≤ c0) (h : impl_steps.f k l0 a1 a2 a3 = some (r1, r2)) :
    Calls Try.prog 100 #[.slice A0 l0.length c0, .float .f32 a1, .float .f32 a2, .int .i64 a3] w fun e w' => ∃ v0_ : Value, e = .returned (.tuple #[v0_, .bool r2]) ∧ Kd.R k46 46 w' w.heap.size (fun _ => True) v0_ r1 ∧ Below w.heap.size w w' := by
  have HR0 := Aside0.mk hr0; have HC0 := Aside0.mk hc0; clear hr0 hc0; have HB := AS (Below.refl w.heap.size w); have H : ((XK2.cloneW.f l0).bind fun t136 => (impl_steps.l0 k a1 a2 a3 t136 true 0)) = some (r1, r2) := h; clear h; replace H := Option.bind_eq_some_iff.mp H; obtain ⟨t136, A50, H⟩ := H; replace H : (impl_steps.l0 k a1 a2 a3 t136 true 0) = some (r1, r2) := H; have A5 := Aside0.mk A50; clear A50; have H' := Aside0.mk H; clear H; go_enter Try.func100, Try.ntmps100; go_wp2_with (first | ((with_reducible refine gate_callee (f := 87) rfl ?_); refine goesM 14 Try.func87 #[.slice A0 l0.length c0] ?_; (with_reducible refine (XK2.cloneW.calls _ _ l0 t136 _ ?side1 ?side2 A5.out).mono ?_); (case side1 => exact CS HR0.out); (case side2 => exact HC0.out); rintro e w6 ⟨v137, rfl, ho0, hb⟩; refine ⟨_, rfl, ?_⟩; have HO138 := AS (Kd.R_lower ho0 (below_size (BW HB))); replace HB := BB HB hb; (try clear hb); (try clear hb2); (try clear hk); (try clear hi); (try clear ho0))); go_loopg [10, 11, 12] k (fun kq v10 v11 v12 w' => ∃ (x10_1 : List (S46)) (x11_1 : Bool) (x12_1 : Int), v11 = .bool x11_1 ∧ v12 = .int .i64 x12_1 ∧ Aside0 (impl_steps.l0 kq a1 a2 a3 x10_1 x11_1 x12_1 = some (r1, r2)) ∧ Aside0 (kq ≤ k) ∧ Aside0 (Kd.R k46 46 w' w.heap.size (fun _ => True) v10 x10_1) ∧ Aside0 (Below w.heap.size w w'))
  case atStart => exact ⟨(t136), (true), (0), (by first | rfl | (simp; done) | (simp [*]; done)), (by first | rfl | (simp; done) | (simp [*]; done)), H', ⟨Nat.le_refl _⟩, ⟨RS HO138.out⟩, ⟨BW HB⟩⟩
  case round =>
    clear H'; (try clear c1); (try clear p2); obtain ⟨x10_1, x11_1, x12_1, rfl, rfl, HA, HK1, HO_10, HB⟩ := hrel; cases gk with
    | zero => exact absurd HA.out (by simp [impl_steps.l0])
    | succ k1 =>
      have H := HA.out; clear HA; simp only [impl_steps.l0] at H; by_cases c7 : x12_1 < a3
      · rw [if_pos c7] at H
        have c7b0 : decide (x12_1 < a3) = true := decide_eq_true c7; clear c7; by_cases c8 : x11_1 = true
        · subst c8
          have H1 : ((impl_step.f k1 x10_1 a1 a2).bind fun bt139 => (impl_steps.l0 k1 a1 a2 a3 bt139.1 bt139.2 (wrap64 (x12_1 + 1)))) = some (r1, r2) := (by rw [if_pos rfl] at H; exact H); clear H; have H := H1; clear H1; replace H := Option.bind_eq_some_iff.mp H; obtain ⟨⟨t139, t140⟩, A90, H⟩ := H; replace H : (impl_steps.l0 k1 a1 a2 a3 t139 t140 (wrap64 (x12_1 + 1))) = some (r1, r2) := H; have A9 := Aside0.mk A90; clear A90; have H' := Aside0.mk H; clear H; obtain ⟨Ao10, co10, eo10⟩ := Kd.R_slice HO_10.out; subst eo10; go_wp2_with (first | ((with_reducible refine gate_callee (f := 133) rfl ?_); refine goesM 27 Try.func133 #[.slice Ao10 x10_1.length co10, .float .f32 a1, .float .f32 a2] ?_; (with_reducible refine (impl_step.calls k1 _ _ x10_1 a1 a2 t139 t140 _ ?side1 ?side2 A9.out).mono ?_); (case side1 => repeat (first | exact (Kd.R_reads' HO_10.out).2.2 | (with_reducible refine Kd.C_alloc ?_ _) | (with_reducible refine Kd.C_drewN ?_ _) | (with_reducible refine Kd.C_drew ?_))); (case side2 => exact (Kd.R_reads' HO_10.out).2.1); rintro e w11 ⟨v141, rfl, ho0, hb⟩; refine ⟨_, rfl, ?_⟩; have n0_ := AS (Kd.R_elder' (RS HO_10.out) (Kd.R_base ho0) hb); have HO142 := AS (Kd.R_lower (Kd.R_new' ho0 (Kd.R_lt (RS HO_10.out))) (below_size (BW HB))); replace HB := BB HB hb; replace HO_10 := n0_; clear n0_; (try clear hb); (try clear hb2); (try clear hk); (try clear hi); (try clear ho0))); go_roundg k1
          case measure => have := HK1.out; omega
          case rel => exact ⟨(t139), (t140), (wrap64 (x12_1 + 1)), (by first | rfl | (simp; done) | (simp [*]; done)), (by first | rfl | (simp; done) | (simp [*]; done)), H', ⟨by have := HK1.out; omega⟩, ⟨by (with_reducible repeat (first | apply Kd.R_alloc | apply Kd.R_drewN | apply Kd.R_drew)); exact Kd.R_mono HO142.out (fun _ hk => trivial)⟩, ⟨BW HB⟩⟩
        · replace c8 := Bool.eq_false_iff.mpr c8
          subst c8; have H1 : (some (x10_1, false)) = some (r1, r2) := (by rw [if_neg (show ¬ (false = true) by decide)] at H; exact H); clear H; have H := H1; clear H1; simp only [Option.some.injEq, Prod.mk.injEq] at H; obtain ⟨rfl, rfl⟩ := H; go_wp2; go_ret2; exact ⟨_, by first | rfl | (simp [errW_none, errW_some] <;> rfl) | (simp [*, errW_none, errW_some] <;> rfl), by (with_reducible repeat (first | apply Kd.R_alloc | apply Kd.R_drewN | apply Kd.R_drew)); exact HO_10.out, BW HB⟩
      · rw [if_neg c7] at H
        have c7b0 : decide (x12_1 < a3) = false := decide_eq_false c7; clear c7; simp only [Option.some.injEq, Prod.mk.injEq] at H; obtain ⟨rfl, rfl⟩ := H; go_wp2; go_ret2; exact ⟨_, by first | rfl | (simp [errW_none, errW_some] <;> rfl) | (simp [*, errW_none, errW_some] <;> rfl), by (with_reducible repeat (first | apply Kd.R_alloc | apply Kd.R_drewN | apply Kd.R_drew)); exact HO_10.out, BW HB⟩
def impl_RunWhirls.j0 : Nat → List (S46) → Nat → Nat → Int → Bool → Option ((List (S46)) × Bool)
  | 0, _, _, _, _, _ => none
  | k + 1, x0, x1, x2, x3, x21 => if x21 = true then (some (([] : List (S46)), false)) else ((impl_steps.f k x0 x1 x2 x3).bind fun bt145 => (if bt145.2 = true then (some (bt145.1, true)) else (some (([] : List (S46)), false))))
def impl_RunWhirls.f (k : Nat) (l0 : List (S46)) (a1 : Nat) (a2 : Nat) (a3 : Int) : Option ((List (S46)) × Bool) := (N0.impl_stepOk.f k l0 a1 a2).bind fun t143 => (if t143 = true then ((S0.impl_in.f a3 0 128).bind fun t144 => (impl_RunWhirls.j0 k l0 a1 a2 a3 (!t144))) else (impl_RunWhirls.j0 k l0 a1 a2 a3 true))
set_option maxHeartbeats 8000000 in
set_option maxRecDepth 100000 in
theorem impl_RunWhirls.calls (k : Nat) (A0 : Option Addr) (c0 : Nat) (l0 : List (S46)) (a1 : Nat) (a2 : Nat) (a3 : Int) (r1 : List (S46)) (r2 : Bool) (w : World) (hr0 : Kd.C k46 w A0 l0.length l0) (hc0 : l0.length ≤ c0) (h : impl_RunWhirls.f k l0 a1 a2 a3 = some (r1, r2)) :
    Calls Try.prog 28 #[.slice A0 l0.length c0, .float .f32 a1, .float .f32 a2, .int .i64 a3] w fun e w' => ∃ v0_ : Value, e = .returned (.tuple #[v0_, .bool r2]) ∧ Kd.R k46 46 w' w.heap.size (fun _ => True) v0_ r1 ∧ Below w.heap.size w w' := by
  have HR0 := Aside0.mk hr0; have HC0 := Aside0.mk hc0; clear hr0 hc0; have HB := AS (Below.refl w.heap.size w); have H : ((N0.impl_stepOk.f k l0 a1 a2).bind fun t143 => (if t143 = true then ((S0.impl_in.f a3 0 128).bind fun t144 => (impl_RunWhirls.j0 k l0 a1 a2 a3 (!t144))) else (impl_RunWhirls.j0 k l0 a1 a2 a3 true))) = some (r1, r2) := h; clear h; have HC5 := Aside0.mk H; clear H; go_enter Try.func28, Try.ntmps28; (go_upto_region 1 with (fail)); go_cut [21] (fun v21 wc => ∃ (kq : Nat) (x21_4 : Bool), v21 = .bool x21_4 ∧ Aside0 (impl_RunWhirls.j0 kq l0 a1 a2 a3 x21_4 = some (r1, r2)) ∧ Aside0 (kq ≤ k) ∧ Aside0 (Below w.heap.size w wc))
  case first =>
    have H := HC5.out; clear HC5; replace H := Option.bind_eq_some_iff.mp H; obtain ⟨t143, A60, H⟩ := H; replace H : (if t143 = true then ((S0.impl_in.f a3 0 128).bind fun t144 => (impl_RunWhirls.j0 k l0 a1 a2 a3 (!t144))) else (impl_RunWhirls.j0 k l0 a1 a2 a3 true)) = some (r1, r2) := H; have A6 := Aside0.mk A60; clear A60; by_cases c7 : t143 = true
    · subst c7
      have H1 : ((S0.impl_in.f a3 0 128).bind fun t144 => (impl_RunWhirls.j0 k l0 a1 a2 a3 (!t144))) = some (r1, r2) := (by rw [if_pos rfl] at H; exact H); clear H; have H := H1; clear H1; replace H := Option.bind_eq_some_iff.mp H; obtain ⟨t144, A80, H⟩ := H; replace H : (impl_RunWhirls.j0 k l0 a1 a2 a3 (!t144)) = some (r1, r2) := H; have A8 := Aside0.mk A80; clear A80; have H' := Aside0.mk H; clear H; go_wp2_with (first | ((with_reducible refine gate_callee (f := 99) rfl ?_); refine goesM 15 Try.func99 #[.slice A0 l0.length c0, .float .f32 a1, .float .f32 a2] ?_; (with_reducible refine (N0.impl_stepOk.calls k _ _ l0 a1 a2 true _ ?side1 ?side2 A6.out).mono ?_); (case side1 => exact CS (Kd.C_below HR0.out HB.out)); (case side2 => exact HC0.out); rintro e w9 ⟨rfl, hb⟩; refine ⟨_, rfl, ?_⟩; replace HB := BB HB hb; (try clear hb); (try clear hb2); (try clear hk); (try clear hi)) | (go_at_call 101; (with_reducible refine (S0.impl_in.calls a3 0 128 t144 _ A8.out).mono ?_); rintro e w' ⟨rfl, ⟨nd, rfl⟩⟩)); go_meet
      case rel => exact ⟨_, (!t144), (by first | rfl | (simp; done) | (simp [*]; done)), H', ⟨by first | omega | exact Nat.le_refl _⟩, ⟨BW HB⟩⟩
    · replace c7 := Bool.eq_false_iff.mpr c7
      subst c7; have H1 : (impl_RunWhirls.j0 k l0 a1 a2 a3 true) = some (r1, r2) := (by rw [if_neg (show ¬ (false = true) by decide)] at H; exact H); clear H; have H := H1; clear H1; have H' := Aside0.mk H; clear H; go_wp2_with (first | ((with_reducible refine gate_callee (f := 99) rfl ?_); refine goesM 15 Try.func99 #[.slice A0 l0.length c0, .float .f32 a1, .float .f32 a2] ?_; (with_reducible refine (N0.impl_stepOk.calls k _ _ l0 a1 a2 false _ ?side1 ?side2 A6.out).mono ?_); (case side1 => exact CS (Kd.C_below HR0.out HB.out)); (case side2 => exact HC0.out); rintro e w10 ⟨rfl, hb⟩; refine ⟨_, rfl, ?_⟩; replace HB := BB HB hb; (try clear hb); (try clear hb2); (try clear hk); (try clear hi))); go_meet
      case rel => exact ⟨_, (true), (by first | rfl | (simp; done) | (simp [*]; done)), H', ⟨by first | omega | exact Nat.le_refl _⟩, ⟨BW HB⟩⟩
  case rest =>
    clear HC5; (try clear c2); (try clear p2); (try clear c7); (try clear c9); obtain ⟨kq, x21_4, rfl, HA, HJ4, HB⟩ := hcut; cases kq with
    | zero => exact absurd HA.out (by simp [impl_RunWhirls.j0])
    | succ kj4 =>
      have H := HA.out; clear HA; simp only [impl_RunWhirls.j0] at H; by_cases c11 : x21_4 = true
      · subst c11
        have H1 : (some (([] : List (S46)), false)) = some (r1, r2) := (by rw [if_pos rfl] at H; exact H); clear H; have H := H1; clear H1; simp only [Option.some.injEq, Prod.mk.injEq] at H; obtain ⟨rfl, rfl⟩ := H; go_wp2; go_ret2; exact ⟨_, by first | rfl | (simp [errW_none, errW_some] <;> rfl) | (simp [*, errW_none, errW_some] <;> rfl), by first | exact Kd.R_nil _ _ _ _ _ | exact Kd.N_nil _ _ _ _ _ | exact Kd.V_nil _ _ _ _ _ | exact Kd.Q_nil _ _ _ _ _ | exact Kd.S_nil _ _ _ _ _, BW HB⟩
      · replace c11 := Bool.eq_false_iff.mpr c11
        subst c11; have H1 : ((impl_steps.f kj4 l0 a1 a2 a3).bind fun bt145 => (if bt145.2 = true then (some (bt145.1, true)) else (some (([] : List (S46)), false)))) = some (r1, r2) := (by rw [if_neg (show ¬ (false = true) by decide)] at H; exact H); clear H; have H := H1; clear H1; replace H := Option.bind_eq_some_iff.mp H; obtain ⟨⟨t145, t146⟩, A120, H⟩ := H; replace H : (if t146 = true then (some (t145, true)) else (some (([] : List (S46)), false))) = some (r1, r2) := H; have A12 := Aside0.mk A120; clear A120; by_cases c13 : t146 = true
        · subst c13
          have H1 : (some (t145, true)) = some (r1, r2) := (by rw [if_pos rfl] at H; exact H); clear H; have H := H1; clear H1; simp only [Option.some.injEq, Prod.mk.injEq] at H; obtain ⟨rfl, rfl⟩ := H; go_wp2_with (first | ((with_reducible refine gate_callee (f := 100) rfl ?_); refine goesM 27 Try.func100 #[.slice A0 l0.length c0, .float .f32 a1, .float .f32 a2, .int .i64 a3] ?_; (with_reducible refine (impl_steps.calls kj4 _ _ l0 a1 a2 a3 t145 true _ ?side1 ?side2 A12.out).mono ?_); (case side1 => exact CS (Kd.C_below HR0.out HB.out)); (case side2 => exact HC0.out); rintro e w14 ⟨v147, rfl, ho0, hb⟩; refine ⟨_, rfl, ?_⟩; have HO148 := AS (Kd.R_lower ho0 (below_size (BW HB))); replace HB := BB HB hb; (try clear hb); (try clear hb2); (try clear hk); (try clear hi); (try clear ho0))); go_ret2; exact ⟨_, by first | rfl | (simp [errW_none, errW_some] <;> rfl) | (simp [*, errW_none, errW_some] <;> rfl), by (with_reducible repeat (first | apply Kd.R_alloc | apply Kd.R_drewN | apply Kd.R_drew)); exact HO148.out, BW HB⟩
        · replace c13 := Bool.eq_false_iff.mpr c13
          subst c13; have H1 : (some (([] : List (S46)), false)) = some (r1, r2) := (by rw [if_neg (show ¬ (false = true) by decide)] at H; exact H); clear H; have H := H1; clear H1; simp only [Option.some.injEq, Prod.mk.injEq] at H; obtain ⟨rfl, rfl⟩ := H; go_wp2_with (first | ((with_reducible refine gate_callee (f := 100) rfl ?_); refine goesM 27 Try.func100 #[.slice A0 l0.length c0, .float .f32 a1, .float .f32 a2, .int .i64 a3] ?_; (with_reducible refine (impl_steps.calls kj4 _ _ l0 a1 a2 a3 t145 false _ ?side1 ?side2 A12.out).mono ?_); (case side1 => exact CS (Kd.C_below HR0.out HB.out)); (case side2 => exact HC0.out); rintro e w15 ⟨v147, rfl, ho0, hb⟩; refine ⟨_, rfl, ?_⟩; have HO148 := AS (Kd.R_lower ho0 (below_size (BW HB))); replace HB := BB HB hb; (try clear hb); (try clear hb2); (try clear hk); (try clear hi); (try clear ho0))); go_ret2; exact ⟨_, by first | rfl | (simp [errW_none, errW_some] <;> rfl) | (simp [*, errW_none, errW_some] <;> rfl), by first | exact Kd.R_nil _ _ _ _ _ | exact Kd.N_nil _ _ _ _ _ | exact Kd.V_nil _ _ _ _ _ | exact Kd.Q_nil _ _ _ _ _ | exact Kd.S_nil _ _ _ _ _, BW HB⟩
end Go.Proofs.Ytcgaccdiomcglaa.N1
end
section
namespace Go.Proofs.Ytcgaccdiomcglaa.N1
open Go.Proofs.Ytcgaccdiomcglaa.S0 Go.Proofs.Ytcgaccdiomcglaa.N0
open Go.RowKit Go.Proofs.YtcgaccdiomcglaaW.PrintWords Go.Proofs.YtcgaccdiomcglaaW.PrintLast Go.Proofs.YtcgaccdiomcglaaW.PrintMore
attribute [local go_sem] max2_int min2_int max_two min_two max_three min_three max_four min_four
set_option linter.unusedVariables false
set_option linter.unusedSimpArgs false
attribute [local go_sem high] binOp_fge binOp_fle
end Go.Proofs.Ytcgaccdiomcglaa.N1
end
section
set_option linter.unusedVariables false
set_option linter.unusedSimpArgs false
namespace Go.Proofs.Ytcgaccdiomcglaa
open Go.RowKit Go.Proofs.YtcgaccdiomcglaaW.PrintWords Go.Proofs.YtcgaccdiomcglaaW.PrintLast Ieee
namespace QA
open FR PU XL
def B (M : Rat) (x : Nat) : Prop := ∃ v, Fk .f32 x v ∧ -M ≤ v ∧ v ≤ M
theorem B.mono {M K : Rat} {x : Nat} (h : B M x) (hk : M ≤ K) : B K x := by
  obtain ⟨v, h1, h2, h3⟩ := h
  exact ⟨v, h1, by grind, by grind⟩
theorem p13 : (2 : Rat) ^ (15 : Int) = 32768 := by decide +kernel
theorem h13 : hu single 15 ≤ 1 / 1000 := by decide +kernel
theorem q13 : 2 * hu single 15 ≤ 1 / 500 := by decide +kernel
theorem B_add {M K : Rat} {x y : Nat} (hx : B M x) (hy : B K y) (h : M + K ≤ 32000) : fok .add .f32 x y = true ∧ B (M + K + 1 / 1000) (fop .add .f32 x y) := by
  obtain ⟨a, a1, a2, a3⟩ := hx
  obtain ⟨b, b1, b2, b3⟩ := hy
  obtain ⟨r, c, h1, h2, h3, -⟩ := add_val (f := single) (.inl rfl) a1 b1 (J := 15) (bound (M := M + K) (K := 0) p13 (by grind) (by grind) (by grind)) (by decide)
  obtain ⟨g1, g2⟩ := fok_of (op := .add) (k := .f32) h1
  have := h13
  unfold Nr at h3
  rw [g2]
  exact ⟨g1, c, h2, by grind, by grind⟩
theorem B_sub {M K : Rat} {x y : Nat} (hx : B M x) (hy : B K y) (h : M + K ≤ 32000) : fok .sub .f32 x y = true ∧ B (M + K + 1 / 1000) (fop .sub .f32 x y) := by
  obtain ⟨a, a1, a2, a3⟩ := hx
  obtain ⟨b, b1, b2, b3⟩ := hy
  obtain ⟨r, c, h1, h2, h3, -⟩ := sub_val (f := single) (.inl rfl) a1 b1 (J := 15) (bound (M := M + K) (K := 0) p13 (by grind) (by grind) (by grind)) (by decide)
  obtain ⟨g1, g2⟩ := fok_of (op := .sub) (k := .f32) h1
  have := h13
  unfold Nr at h3
  rw [g2]
  exact ⟨g1, c, h2, by grind, by grind⟩
theorem mul_bd {M K a b : Rat} (a2 : -M ≤ a) (a3 : a ≤ M) (b2 : -K ≤ b) (b3 : b ≤ K) : -(M * K) ≤ a * b ∧ a * b ≤ M * K := by
  have hM : 0 ≤ M := by grind
  have hK : 0 ≤ K := by grind
  rcases Rat.le_total (a := 0) (b := a) with c | c
  · have k1 := Rat.mul_le_mul_of_nonneg_left b3 c
    have k2 := Rat.mul_le_mul_of_nonneg_left b2 c
    have k3 := Rat.mul_le_mul_of_nonneg_right a3 hK
    constructor <;> grind
  · have c' : 0 ≤ -a := by grind
    have k1 := Rat.mul_le_mul_of_nonneg_left b3 c'
    have k2 := Rat.mul_le_mul_of_nonneg_left b2 c'
    have k3 := Rat.mul_le_mul_of_nonneg_right (show -a ≤ M by grind) hK
    constructor <;> grind
theorem B_mul {M K : Rat} {x y : Nat} (hx : B M x) (hy : B K y) (h : M * K ≤ 32000) : fok .mul .f32 x y = true ∧ B (M * K + 1 / 1000) (fop .mul .f32 x y) := by
  obtain ⟨a, a1, a2, a3⟩ := hx
  obtain ⟨b, b1, b2, b3⟩ := hy
  obtain ⟨m1, m2⟩ := mul_bd a2 a3 b2 b3
  obtain ⟨r, c, h1, h2, h3, -⟩ := mul_val (f := single) (.inl rfl) a1 b1 (J := 15) (bound (M := M * K) (K := 0) p13 m1 m2 (by grind)) (by decide)
  obtain ⟨g1, g2⟩ := fok_of (op := .mul) (k := .f32) h1
  have := h13
  unfold Nr at h3
  rw [g2]
  exact ⟨g1, c, h2, by grind, by grind⟩
theorem B_quo {M : Rat} {x y : Nat} {d : Rat} (hx : B M x) (hy : Fk .f32 y d) (hd : 1 ≤ d) (h : M ≤ 32000 * d) : fok .quo .f32 x y = true ∧ B (M / d + 1 / 500) (fop .quo .f32 x y) := by
  obtain ⟨a, a1, a2, a3⟩ := hx
  have d0 : 0 < d := by grind
  have dn : d ≠ 0 := by grind
  obtain ⟨q, hq⟩ : ∃ q, q = a / d := ⟨_, rfl⟩
  have e : q * d = a := by rw [hq]; exact Rat.div_mul_cancel dn
  obtain ⟨K, hK⟩ : ∃ K, K = M / d := ⟨_, rfl⟩
  have eK : K * d = M := by rw [hK]; exact Rat.div_mul_cancel dn
  have b1 : q ≤ K := Rat.le_of_mul_le_mul_right (by rw [e, eK]; exact a3) d0
  have b2 : -K ≤ q := Rat.le_of_mul_le_mul_right (by rw [e, Rat.neg_mul, eK]; exact a2) d0
  have b3 : K ≤ 32000 := Rat.le_of_mul_le_mul_right (by rw [eK]; exact h) d0
  obtain ⟨r, c, h1, h2, h3, -⟩ := quo_val (f := single) (.inl rfl) a1 hy dn e (J := 15) (bound (M := K) (K := 0) p13 b2 b1 (by grind)) (by decide)
  obtain ⟨g1, g2⟩ := fok_of (op := .quo) (k := .f32) h1
  have := q13
  unfold Nr at h3
  rw [g2, ← hK]
  exact ⟨g1, c, h2, by grind, by grind⟩
theorem B.fin {M : Rat} {x : Nat} (h : B M x) : ∃ v, Fk .f32 x v := by
  obtain ⟨v, h1, -⟩ := h
  exact ⟨v, h1⟩
theorem finWh_loop {l : List S0.S46} (h : ∀ p ∈ l, FinC p.f0 ∧ Fin p.f1) (hl : l.length ≤ 50) : ∀ (r i m : Nat), i + r = l.length → S0.impl_Whirl_188.l0 (r + 1 + m) l (l.length : Int) (i : Int) = some (-1) := by
  intro r
  induction r with
  | zero =>
    intro i m hi
    rw [show 0 + 1 + m = m + 1 by omega]
    unfold S0.impl_Whirl_188.l0
    rw [if_neg (by omega)]
  | succ r ih =>
    intro i m hi
    rw [show r + 1 + 1 + m = (r + 1 + m) + 1 by omega]
    unfold S0.impl_Whirl_188.l0
    have e : S0.rd_T46 l (i : Int) = l[i] := by
      unfold S0.rd_T46
      rw [Int.toNat_natCast, List.getD_eq_getElem?_getD, List.getElem?_eq_getElem (by omega)]
      rfl
    have hp := h _ (List.getElem_mem (show i < l.length by omega))
    rw [if_pos (by omega), if_pos (by omega), if_pos (by omega), e]
    unfold S0.impl_finiteWhirls_1.f XW.IsFiniteComplex.f XW.cfin XL.IsFinite.f
    rw [fin_of' hp.1.1, fin_of' hp.1.2, fin_of' hp.2]
    simp only [Option.bind_some, Bool.and_self, Bool.not_true, Bool.false_eq_true, if_false, if_true]
    rw [w64 (by omega) (by omega)]
    exact ih (i + 1) m (by omega)
theorem B_neg {M : Rat} {x : Nat} (h : B M x) : B M (Op.negFloat .f32 x) := by
  obtain ⟨v, h1, h2, h3⟩ := h
  exact ⟨-v, neg_val h1, by grind, by grind⟩
theorem hd23 : hu double 23 ≤ 1 / 1000000000 := by decide +kernel
theorem hd24 : hu double 24 ≤ 1 / 1000000000 := by decide +kernel
theorem p23 : (2 : Rat) ^ (23 : Int) = 8388608 := by decide +kernel
theorem p24 : (2 : Rat) ^ (24 : Int) = 16777216 := by decide +kernel
theorem p27 : (2 : Rat) ^ (27 : Int) = 134217728 := by decide +kernel
theorem p0 : (2 : Rat) ^ (0 : Int) = 1 := by decide +kernel
theorem p1 : (2 : Rat) ^ (1 : Int) = 2 := by decide +kernel
theorem p3 : (2 : Rat) ^ (3 : Int) = 8 := by decide +kernel
theorem hs0 : hu single 0 ≤ 1 / 1000000 := by decide +kernel
theorem hs1 : hu single 1 ≤ 1 / 1000000 := by decide +kernel
theorem hs3 : hu single 3 ≤ 1 / 1000000 := by decide +kernel
theorem hs24 : hu single 24 ≤ 1 / 2 := by decide +kernel
theorem hs25 : hu single 25 ≤ 1 := by decide +kernel
theorem p25 : (2 : Rat) ^ (25 : Int) = 33554432 := by decide +kernel
theorem hs27 : hu single 27 ≤ 4 := by decide +kernel
theorem sq_bd {M a : Rat} (h1 : -M ≤ a) (h2 : a ≤ M) : 0 ≤ a * a ∧ a * a ≤ M * M := by
  have := mul_bd h1 h2 h1 h2
  refine ⟨?_, this.2⟩
  rcases Rat.le_total (a := 0) (b := a) with h | h
  · exact Rat.mul_nonneg h h
  · have := Rat.mul_nonneg (a := -a) (b := -a) (by grind) (by grind)
    grind
theorem pow_of {M : Rat} {x y : Nat} (hx : B M x) (hy : B M y) (h0 : 0 ≤ M) (hM : M ≤ 2100) : Ret (N0.impl_PowerOf.f (x, y)) (fun t => ∃ v, Fk .f32 t v ∧ -(1 / 100000) ≤ v ∧ v ≤ 10000000) := by
  obtain ⟨a, a1, a2, a3⟩ := hx
  obtain ⟨b, b1, b2, b3⟩ := hy
  obtain ⟨w1, w2⟩ := wide a1
  obtain ⟨u1, u2⟩ := wide b1
  have s1 := sq_bd (show -2100 ≤ a by grind) (show a ≤ 2100 by grind)
  have s2 := sq_bd (show -2100 ≤ b by grind) (show b ≤ 2100 by grind)
  have e23 := hd23
  have e24 := hd24
  obtain ⟨r1, c1, d1, d2, d3, -⟩ := mul_val (f := double) (.inr rfl) w2 w2 (J := 23) (by unfold Bd; rw [p23]; constructor <;> grind) (by decide)
  obtain ⟨r2, c2, f1, f2, f3, -⟩ := mul_val (f := double) (.inr rfl) u2 u2 (J := 23) (by unfold Bd; rw [p23]; constructor <;> grind) (by decide)
  unfold Nr at d3 f3
  obtain ⟨r3, c3, g1, g2, g3, -⟩ := add_val (f := double) (.inr rfl) d2 f2 (J := 24) (by unfold Bd; rw [p24]; constructor <;> grind) (by decide)
  unfold Nr at g3
  obtain ⟨i1, i2⟩ := fok_of (op := .mul) (k := .f64) d1
  obtain ⟨j1, j2⟩ := fok_of (op := .mul) (k := .f64) f1
  obtain ⟨k1, k2⟩ := fok_of (op := .add) (k := .f64) g1
  unfold N0.impl_PowerOf.f S0.impl_power.f S0.impl_wide.f
  dsimp only
  rw [if_pos w1, if_pos u1]
  simp only [Option.bind_some]
  rw [if_pos i1, if_pos j1, i2, j2, if_pos k1, k2]
  simp only [Option.bind_some]
  have q0 := hs0
  have q24 := hs24
  by_cases c : c3 < 1
  · obtain ⟨r4, c4, l1, l2, l3, -⟩ := narrow_val g2 (J := 0) (by unfold Bd; rw [p0]; constructor <;> grind) (by decide)
    unfold Nr at l3
    unfold cok cvt
    rw [l1]
    exact ⟨_, rfl, c4, l2, by grind, by grind⟩
  · obtain ⟨r4, c4, l1, l2, l3, -⟩ := narrow_val g2 (J := 24) (by unfold Bd; rw [p24]; constructor <;> grind) (by decide)
    unfold Nr at l3
    unfold cok cvt
    rw [l1]
    exact ⟨_, rfl, c4, l2, by grind, by grind⟩
theorem f_half : Fk .f32 1056964608 (1 / 2 : Rat) := ⟨false, 8388608, -24, by decide, by decide +kernel⟩
theorem core_sq : fok .mul .f32 1056964608 1056964608 = true ∧ Fk .f32 (fop .mul .f32 1056964608 1056964608) (1 / 4 : Rat) := by
  obtain ⟨r, c, h1, h2, -, h4⟩ := mul_val (f := single) (.inl rfl) f_half f_half (J := 1) (by unfold Bd; rw [p1]; constructor <;> grind) (by decide)
  have := h4 ⟨1, -2, by decide +kernel, by decide, by decide⟩
  obtain ⟨g1, g2⟩ := fok_of (op := .mul) (k := .f32) h1
  rw [g2]
  exact ⟨g1, by rw [this] at h2; rwa [show (1 / 4 : Rat) = 1 / 2 * (1 / 2) by decide +kernel]⟩
theorem near_of {P : Rat} {a p : Nat × Nat} (h1 : B P a.1) (h2 : B P a.2) (h3 : B P p.1) (h4 : B P p.2) (h0 : 0 ≤ P) (hP : P ≤ 1000) :
    Ret (XO.near.f a p 1056964608) (fun t => B (2 * P + 1 / 1000) t.1.1 ∧ B (2 * P + 1 / 1000) t.1.2 ∧ ∃ q, Fk .f32 t.2 q ∧ 24 / 100 ≤ q ∧ q ≤ 20000000) := by
  obtain ⟨a1, a2⟩ := B_sub h3 h1 (by grind)
  obtain ⟨b1, b2⟩ := B_sub h4 h2 (by grind)
  unfold XO.near.f
  rw [if_pos a1, if_pos b1]
  replace a2 := a2.mono (K := 2 * P + 1 / 1000) (by grind)
  replace b2 := b2.mono (K := 2 * P + 1 / 1000) (by grind)
  refine (pow_of a2 b2 (by grind) (by grind)).bind fun t ⟨v, v1, v2, v3⟩ => ?_
  obtain ⟨c1, c2⟩ := core_sq
  rw [if_pos c1]
  have q1 := hs1
  have q25 := hs25
  by_cases c : v ≤ 1
  · obtain ⟨r, z, d1, d2, d3, -⟩ := add_val (f := single) (.inl rfl) v1 c2 (J := 1) (by unfold Bd; rw [p1]; constructor <;> grind) (by decide)
    obtain ⟨g1, g2⟩ := fok_of (op := .add) (k := .f32) d1
    unfold Nr at d3
    rw [if_pos g1, g2]
    exact Ret.of ⟨a2, b2, z, d2, by grind, by grind⟩
  · obtain ⟨r, z, d1, d2, d3, -⟩ := add_val (f := single) (.inl rfl) v1 c2 (J := 24) (by unfold Bd; rw [p24]; constructor <;> grind) (by decide)
    obtain ⟨g1, g2⟩ := fok_of (op := .add) (k := .f32) d1
    have q24 := hs24
    unfold Nr at d3
    rw [if_pos g1, g2]
    exact Ret.of ⟨a2, b2, z, d2, by grind, by grind⟩
def pi2 : Rat := (13176795 : Rat) * (2 : Rat) ^ (-21 : Int)
theorem f_pi2 : Fk .f32 1086918619 pi2 := ⟨false, 13176795, -21, by decide, by decide +kernel⟩
theorem pi2_b : 628 / 100 ≤ pi2 ∧ pi2 ≤ 63 / 10 := by unfold pi2; decide +kernel
theorem times_pi {x : Nat} {q : Rat} (h : Fk .f32 x q) (h1 : 24 / 100 ≤ q) (h2 : q ≤ 20000000) : fok .mul .f32 1086918619 x = true ∧ ∃ z, Fk .f32 (fop .mul .f32 1086918619 x) z ∧ 3 / 2 ≤ z := by
  obtain ⟨b1, b2⟩ := pi2_b
  have m1 := Rat.mul_le_mul_of_nonneg_right (c := q) b1 (by grind)
  have m2 := Rat.mul_le_mul_of_nonneg_right (c := q) b2 (by grind)
  have q3 := hs3
  have q27 := hs27
  by_cases c : q ≤ 1
  · obtain ⟨r, z, d1, d2, d3, -⟩ := mul_val (f := single) (.inl rfl) f_pi2 h (J := 3) (by unfold Bd; rw [p3]; constructor <;> grind) (by decide)
    obtain ⟨g1, g2⟩ := fok_of (op := .mul) (k := .f32) d1
    unfold Nr at d3
    rw [g2]
    exact ⟨g1, z, d2, by grind⟩
  · obtain ⟨r, z, d1, d2, d3, -⟩ := mul_val (f := single) (.inl rfl) f_pi2 h (J := 27) (by unfold Bd; rw [p27]; constructor <;> grind) (by decide)
    obtain ⟨g1, g2⟩ := fok_of (op := .mul) (k := .f32) d1
    unfold Nr at d3
    rw [g2]
    exact ⟨g1, z, d2, by grind⟩
def TT (P : Rat) : Rat := (2 * P + 1 / 1000) * (27 / 10) + 1 / 1000
theorem gives_of {P : Rat} {a p : Nat × Nat} {sp : Nat} (h1 : B P a.1) (h2 : B P a.2) (h3 : B P p.1) (h4 : B P p.2) (hs : B 4 sp) (h0 : 0 ≤ P) (hP : P ≤ 1000) :
    Ret (XO.gives.f a sp p 1056964608) (fun t => B (TT P) t.1 ∧ B (TT P) t.2) := by
  unfold XO.gives.f
  refine (near_of h1 h2 h3 h4 h0 hP).bind fun t ⟨t1, t2, q, q1, q2, q3⟩ => ?_
  rw [if_pos ((gt_iff q1 f_zero).2 (by grind))]
  obtain ⟨m1, z, z1, z2⟩ := times_pi q1 q2 q3
  obtain ⟨d1, d2⟩ := B_quo hs z1 (by grind) (by grind)
  have e : 4 / z ≤ 8 / 3 := by
    have zn : z ≠ 0 := by grind
    refine Rat.le_of_mul_le_mul_right (c := z) ?_ (by grind)
    rw [Rat.div_mul_cancel zn]
    grind
  replace d2 := d2.mono (K := 27 / 10) (by grind)
  have k1 : (2 * P + 1 / 1000) * (27 / 10) ≤ 32000 := by grind
  obtain ⟨x1, x2⟩ := B_mul t2 d2 k1
  obtain ⟨y1, y2⟩ := B_mul t1 d2 k1
  rw [if_pos m1, if_pos d1, if_pos x1, if_pos y1]
  exact Ret.of ⟨B_neg x2, y2⟩
def BW (P : Rat) (w : S0.S46) : Prop := B P w.f0.1 ∧ B P w.f0.2 ∧ B 4 w.f1
theorem rdW {l : List S0.S46} {i : Nat} (h : i < l.length) : S0.rd_T46 l (i : Int) = l[i] := by
  unfold S0.rd_T46
  rw [Int.toNat_natCast, List.getD_eq_getElem?_getD, List.getElem?_eq_getElem h]
  rfl
def cnt (b i : Nat) : Nat := if b < i then i - 1 else i
theorem zeroB (M : Rat) (h : 0 ≤ M) : B M 0 := ⟨0, f_zero, by grind, h⟩
theorem flow_loop {P : Rat} {l : List S0.S46} (hl : l.length = 4) (h : ∀ w ∈ l, BW P w) {p : Nat × Nat} (p1 : B P p.1) (p2 : B P p.2) (h0 : 0 ≤ P) (hP : P ≤ 1000) {b : Nat} (hb : b < 4) :
    ∀ (r i m : Nat) (s : Nat × Nat), i + r = 4 → B ((cnt b i : Rat) * (TT P + 1 / 1000)) s.1 → B ((cnt b i : Rat) * (TT P + 1 / 1000)) s.2 → Ret (XO.flow.l0 (r + 1 + m) l p 1056964608 (b : Int) s (i : Int)) (fun t => B (3 * (TT P + 1 / 1000)) t.1 ∧ B (3 * (TT P + 1 / 1000)) t.2) := by
  have hT : 0 ≤ TT P ∧ TT P ≤ 5404 := by unfold TT; constructor <;> grind
  intro r
  induction r with
  | zero =>
    intro i m s hi s1 s2
    rw [show 0 + 1 + m = m + 1 by omega]
    unfold XO.flow.l0
    rw [if_neg (by omega)]
    have : cnt b i = 3 := by unfold cnt; split <;> omega
    rw [this] at s1 s2
    exact Ret.of ⟨s1, s2⟩
  | succ r ih =>
    intro i m s hi s1 s2
    rw [show r + 1 + 1 + m = (r + 1 + m) + 1 by omega]
    unfold XO.flow.l0
    obtain ⟨w1, w2, w3⟩ := h _ (List.getElem_mem (show i < l.length by omega))
    rw [if_pos (by omega), if_pos (by omega), rdW (by omega)]
    refine (near_of w1 w2 p1 p2 h0 hP).bind fun t ⟨t1, t2, q, q1, q2, q3⟩ => ?_
    rw [w64 (by omega) (by omega)]
    by_cases c : (i : Int) = (b : Int)
    · rw [if_pos c]
      have : cnt b (i + 1) = cnt b i := by unfold cnt; split <;> split <;> omega
      exact ih (i + 1) m s (by omega) (by rw [this]; exact s1) (by rw [this]; exact s2)
    · rw [if_neg c, if_pos ((gt_iff q1 f_zero).2 (by grind))]
      refine (gives_of w1 w2 p1 p2 w3 h0 hP).bind fun g ⟨g1, g2⟩ => ?_
      have e : cnt b (i + 1) = cnt b i + 1 := by unfold cnt; split <;> split <;> omega
      have c3 : cnt b i ≤ 3 := by unfold cnt; split <;> omega
      have c4 := le_rat c3
      rw [show ((3 : Nat) : Rat) = 3 from rfl] at c4
      have c5 := Rat.mul_le_mul_of_nonneg_right (c := TT P + 1 / 1000) c4 (by grind)
      obtain ⟨x1, x2⟩ := B_add s1 g1 (by grind)
      obtain ⟨y1, y2⟩ := B_add s2 g2 (by grind)
      rw [if_pos x1, if_pos y1]
      have e2 : ((cnt b (i + 1) : Nat) : Rat) * (TT P + 1 / 1000) = (cnt b i : Rat) * (TT P + 1 / 1000) + TT P + 1 / 1000 := by
        rw [e, show ((cnt b i + 1 : Nat) : Rat) = (cnt b i : Rat) + 1 by push_cast; rfl]
        grind
      exact ih (i + 1) m _ (by omega) (by rw [e2]; exact x2) (by rw [e2]; exact y2)
def FF (P : Rat) : Rat := 3 * (TT P + 1 / 1000)
theorem flow_of {P : Rat} {l : List S0.S46} (hl : l.length = 4) (h : ∀ w ∈ l, BW P w) {p : Nat × Nat} (p1 : B P p.1) (p2 : B P p.2) (h0 : 0 ≤ P) (hP : P ≤ 1000) {b : Nat} (hb : b < 4) {k : Nat} (hk : 10 ≤ k) :
    Ret (XO.flow.f k l p 1056964608 (b : Int)) (fun t => B (FF P) t.1 ∧ B (FF P) t.2) := by
  unfold XO.flow.f
  have hT : 0 ≤ TT P := by unfold TT; grind
  have z : B ((cnt b 0 : Rat) * (TT P + 1 / 1000)) 0 := by
    have : cnt b 0 = 0 := by unfold cnt; rw [if_neg (by omega)]
    rw [this]
    exact zeroB _ (by rw [show ((0 : Nat) : Rat) = 0 from rfl, Rat.zero_mul]; exact Rat.le_refl)
  have := flow_loop hl h p1 p2 h0 hP hb 4 0 (k - 5) (0, 0) rfl z z
  rwa [show 4 + 1 + (k - 5) = k by omega] at this
theorem flows_loop {P : Rat} {l : List S0.S46} (hl : l.length = 4) (h : ∀ w ∈ l, BW P w) (h0 : 0 ≤ P) (hP : P ≤ 1000) :
    ∀ (r i m : Nat) (acc : List (Nat × Nat)), 10 ≤ m → i + r = 4 → acc.length = i → (∀ x ∈ acc, B (FF P) x.1 ∧ B (FF P) x.2) → Ret (N1.impl_flows.l0 (r + 1 + m) l 1056964608 acc l (l.length : Int) (i : Int)) (fun t => t.length = 4 ∧ ∀ x ∈ t, B (FF P) x.1 ∧ B (FF P) x.2) := by
  intro r
  induction r with
  | zero =>
    intro i m acc hm hi ha hg
    rw [show 0 + 1 + m = m + 1 by omega]
    unfold N1.impl_flows.l0
    rw [if_neg (by omega)]
    exact Ret.of ⟨by omega, hg⟩
  | succ r ih =>
    intro i m acc hm hi ha hg
    rw [show r + 1 + 1 + m = (r + 1 + m) + 1 by omega]
    unfold N1.impl_flows.l0
    obtain ⟨w1, w2, w3⟩ := h _ (List.getElem_mem (show i < l.length by omega))
    rw [if_pos (by omega), if_pos (by omega), if_pos (by omega), rdW (by omega)]
    refine (flow_of hl h w1 w2 h0 hP (b := i) (by omega) (by omega)).bind fun t ht => ?_
    rw [if_pos (by omega), w64 (by omega) (by omega)]
    refine ih (i + 1) m _ hm (by omega) (by simp [ha]) ?_
    intro x hx
    rcases List.mem_append.1 hx with hx | hx
    · exact hg x hx
    · obtain rfl := List.mem_singleton.1 hx
      exact ht
theorem flows_of {P : Rat} {l : List S0.S46} (hl : l.length = 4) (h : ∀ w ∈ l, BW P w) (h0 : 0 ≤ P) (hP : P ≤ 1000) {k : Nat} (hk : 20 ≤ k) :
    Ret (N1.impl_flows.f k l 1056964608) (fun t => t.length = 4 ∧ ∀ x ∈ t, B (FF P) x.1 ∧ B (FF P) x.2) := by
  unfold N1.impl_flows.f
  have := flows_loop hl h h0 hP 4 0 (k - 5) [] (by omega) rfl rfl (by intro x hx; cases hx)
  rw [hl]
  rw [hl] at this
  rwa [show 4 + 1 + (k - 5) = k by omega] at this
theorem BW.fin {P : Rat} {w : S0.S46} (h : BW P w) : FinC w.f0 ∧ Fin w.f1 := ⟨⟨h.1.fin, h.2.1.fin⟩, h.2.2.fin⟩
theorem finWh_of {l : List S0.S46} (h : ∀ p ∈ l, FinC p.f0 ∧ Fin p.f1) (hl : l.length ≤ 20) {k : Nat} (hk : 60 ≤ k) : S0.impl_finiteWhirls.f k l = some true := by
  unfold S0.impl_finiteWhirls.f S0.impl_Whirl_178.f S0.impl_Whirl_188.f
  have h6 := finWh_loop h (by omega) l.length 0 (k - (l.length + 1)) (by omega)
  rw [show l.length + 1 + (k - (l.length + 1)) = k by omega, show ((0 : Nat) : Int) = 0 from rfl] at h6
  rw [h6]
  rfl
theorem moved_loop {P F τ : Rat} {t : Nat} (ht : Fk .f32 t τ) (t0 : 0 ≤ τ) (hF : 0 ≤ F) (hFt : F * τ ≤ 20000) {l : List S0.S46} (hl : l.length = 4) (h : ∀ w ∈ l, BW P w) (h0 : 0 ≤ P) (hP : P ≤ 1000) {fl : List (Nat × Nat)} (hf : fl.length = 4) (hfl : ∀ x ∈ fl, B F x.1 ∧ B F x.2) :
    ∀ (r i m : Nat) (acc : List S0.S46), 60 ≤ m → i + r = 4 → acc.length = i → (∀ w ∈ acc, BW (P + F * τ + 1 / 500) w) → Ret (N1.impl_moved.l0 (r + 1 + m) fl t acc l (l.length : Int) (i : Int)) (fun q => q.2 = true ∧ q.1.length = 4 ∧ ∀ w ∈ q.1, BW (P + F * τ + 1 / 500) w) := by
  intro r
  induction r with
  | zero =>
    intro i m acc hm hi ha hg
    rw [show 0 + 1 + m = m + 1 by omega]
    unfold N1.impl_moved.l0
    rw [if_neg (by omega), finAll_of (fun p hp => ⟨(hfl p hp).1.fin, (hfl p hp).2.fin⟩) (by omega) hm]
    simp only [Option.bind_some, if_true]
    rw [finWh_of (fun p hp => (hg p hp).fin) (by omega) hm]
    exact Ret.of ⟨rfl, (by show acc.length = 4; omega), hg⟩
  | succ r ih =>
    intro i m acc hm hi ha hg
    rw [show r + 1 + 1 + m = (r + 1 + m) + 1 by omega]
    unfold N1.impl_moved.l0
    obtain ⟨w1, w2, w3⟩ := h _ (List.getElem_mem (show i < l.length by omega))
    obtain ⟨f1, f2⟩ := hfl _ (List.getElem_mem (show i < fl.length by omega))
    rw [if_pos (by omega), if_pos (by omega), if_pos (by omega), if_pos (by omega), rdW (by omega), rdC_lt (by omega)]
    have bt : B τ t := ⟨τ, ht, by grind, Rat.le_refl⟩
    obtain ⟨x1, x2⟩ := B_mul f1 bt (by grind)
    obtain ⟨y1, y2⟩ := B_mul f2 bt (by grind)
    unfold N0.impl_ScaleComplex.f
    rw [if_pos x1, if_pos y1]
    simp only [Option.bind_some]
    obtain ⟨a1, a2⟩ := B_add w1 x2 (by grind)
    obtain ⟨b1, b2⟩ := B_add w2 y2 (by grind)
    rw [if_pos a1, if_pos b1, if_pos (by omega), w64 (by omega) (by omega)]
    refine ih (i + 1) m _ hm (by omega) (by simp [ha]) ?_
    intro x hx
    rcases List.mem_append.1 hx with hx | hx
    · exact hg x hx
    · obtain rfl := List.mem_singleton.1 hx
      exact ⟨a2.mono (by grind), b2.mono (by grind), w3⟩
theorem moved_of {P F τ : Rat} {t : Nat} (ht : Fk .f32 t τ) (t0 : 0 ≤ τ) (hF : 0 ≤ F) (hFt : F * τ ≤ 20000) {l : List S0.S46} (hl : l.length = 4) (h : ∀ w ∈ l, BW P w) (h0 : 0 ≤ P) (hP : P ≤ 1000) {fl : List (Nat × Nat)} (hf : fl.length = 4) (hfl : ∀ x ∈ fl, B F x.1 ∧ B F x.2) {k : Nat} (hk : 70 ≤ k) :
    Ret (N1.impl_moved.f k l fl t) (fun q => q.2 = true ∧ q.1.length = 4 ∧ ∀ w ∈ q.1, BW (P + F * τ + 1 / 500) w) := by
  unfold N1.impl_moved.f
  have := moved_loop ht t0 hF hFt hl h h0 hP hf hfl 4 0 (k - 5) [] (by omega) rfl rfl (by intro x hx; cases hx)
  rwa [show 4 + 1 + (k - 5) = k by omega] at this
def MID (τ P : Rat) : Rat := P + FF P * (τ / 2) + 1 / 500
def ST (τ P : Rat) : Rat := P + FF (MID τ P) * τ + 1 / 500
theorem halved {t j : Nat} (hj : j ≤ 20) (ht : Fk .f32 t ((2 : Rat) ^ (-(j : Int)))) : fok .quo .f32 t 1073741824 = true ∧ Fk .f32 (fop .quo .f32 t 1073741824) ((2 : Rat) ^ (-(j : Int)) / 2) := by
  have e : (2 : Rat) ^ (-(j : Int)) / 2 * 2 = (2 : Rat) ^ (-(j : Int)) := Rat.div_mul_cancel (by decide)
  have e1 : (2 : Rat) ^ (-(j : Int)) ≤ 1 := by
    have := pw_mono (show -(j : Int) ≤ 0 by omega)
    rwa [p0] at this
  have e0 := pw_pos (-(j : Int))
  obtain ⟨r, c, h1, h2, -, h4⟩ := quo_val (f := single) (.inl rfl) ht two_ (by decide) e (J := 1) (by unfold Bd; rw [p1]; constructor <;> grind) (by decide)
  have := h4 ⟨1, -(j : Int) - 1, by
    rw [show -(j : Int) - 1 = -(j : Int) + (-1) by omega, pw_add, show (2 : Rat) ^ (-1 : Int) = 1 / 2 by decide +kernel, show ((1 : Int) : Rat) = 1 from rfl]
    grind, by decide, by have : single.leastPlace = -149 := by decide
                         omega⟩
  subst this
  obtain ⟨g1, g2⟩ := fok_of (op := .quo) (k := .f32) h1
  rw [g2]
  exact ⟨g1, h2⟩
theorem FF_b {P : Rat} (h0 : 0 ≤ P) (hP : P ≤ 1000) : 0 ≤ FF P ∧ FF P ≤ 16300 := by
  unfold FF TT
  constructor <;> grind
theorem step_of {P τ : Rat} {t j : Nat} (hj : j ≤ 20) (hτ : τ = (2 : Rat) ^ (-(j : Int))) (ht : Fk .f32 t τ) {l : List S0.S46} (hl : l.length = 4) (h : ∀ w ∈ l, BW P w) (h0 : 0 ≤ P) (hM : MID τ P ≤ 1000) {k : Nat} (hk : 70 ≤ k) :
    Ret (N1.impl_step.f k l 1056964608 t) (fun q => q.2 = true ∧ q.1.length = 4 ∧ ∀ w ∈ q.1, BW (ST τ P) w) := by
  have e1 : τ ≤ 1 := by
    have := pw_mono (show -(j : Int) ≤ 0 by omega)
    rw [p0] at this
    rwa [hτ]
  have e0 : 0 < τ := by rw [hτ]; exact pw_pos _
  have f0 : 0 ≤ FF P := by unfold FF TT; grind
  have g0 : 0 ≤ FF P * (τ / 2) := Rat.mul_nonneg f0 (by grind)
  have hP : P ≤ 1000 := by unfold MID at hM; grind
  have f1 := (FF_b h0 hP).2
  have g1 := Rat.mul_le_mul_of_nonneg_left (c := FF P) (show τ / 2 ≤ 1 by grind) f0
  unfold N1.impl_step.f
  refine (flows_of hl h h0 hP (by omega)).bind fun fl ⟨l1, l2⟩ => ?_
  rw [hτ] at ht
  obtain ⟨d1, d2⟩ := halved hj ht
  rw [← hτ] at d2 ht
  rw [if_pos d1]
  refine (moved_of d2 (by grind) f0 (by grind) hl h h0 hP l1 l2 hk).bind fun q ⟨q1, q2, q3⟩ => ?_
  rw [if_pos q1]
  have hm0 : 0 ≤ MID τ P := by unfold MID; grind
  refine (flows_of q2 q3 hm0 hM (by omega)).bind fun fl2 ⟨m1, m2⟩ => ?_
  obtain ⟨f2, f3⟩ := FF_b hm0 hM
  have g2 := Rat.mul_le_mul_of_nonneg_left (c := FF (MID τ P)) e1 f2
  refine (moved_of ht (Rat.le_of_lt e0) f2 (by grind) hl h h0 hP m1 m2 hk).bind fun z ⟨z1, z2, z3⟩ => ?_
  exact Ret.of ⟨z1, z2, z3⟩
def IT (τ : Rat) : Nat → Rat
  | 0 => 9
  | n + 1 => ST τ (IT τ n)
theorem IT_pos {τ : Rat} (h : 0 ≤ τ) : ∀ n, 0 ≤ IT τ n
  | 0 => by simp only [IT]; decide +kernel
  | n + 1 => by
    have ih := IT_pos h n
    simp only [IT, ST]
    have a : 0 ≤ FF (IT τ n) * (τ / 2) := Rat.mul_nonneg (by unfold FF TT; grind) (by grind)
    have b : 0 ≤ MID τ (IT τ n) := by unfold MID; grind
    have c : 0 ≤ FF (MID τ (IT τ n)) * τ := Rat.mul_nonneg (by unfold FF TT; grind) h
    grind
theorem steps_loop {τ : Rat} {t j m : Nat} (hj : j ≤ 20) (hτ : τ = (2 : Rat) ^ (-(j : Int))) (ht : Fk .f32 t τ) (hm : m ≤ 100) (hI : ∀ n, n < m → MID τ (IT τ n) ≤ 1000) :
    ∀ (r i q : Nat) (l : List S0.S46), 80 ≤ q → i + r = m → l.length = 4 → (∀ w ∈ l, BW (IT τ i) w) → Ret (N1.impl_steps.l0 (r + 1 + q) 1056964608 t (m : Int) l true (i : Int)) (fun z => z.2 = true ∧ z.1.length = 4 ∧ ∀ w ∈ z.1, BW (IT τ m) w) := by
  have e0 : 0 < τ := by rw [hτ]; exact pw_pos _
  intro r
  induction r with
  | zero =>
    intro i q l hq hi hl h
    rw [show 0 + 1 + q = q + 1 by omega]
    unfold N1.impl_steps.l0
    rw [if_neg (by omega)]
    rw [Nat.add_zero] at hi
    subst hi
    exact Ret.of ⟨rfl, hl, h⟩
  | succ r ih =>
    intro i q l hq hi hl h
    rw [show r + 1 + 1 + q = (r + 1 + q) + 1 by omega]
    unfold N1.impl_steps.l0
    rw [if_pos (by omega), if_pos rfl]
    refine (step_of hj hτ ht hl h (IT_pos (Rat.le_of_lt e0) i) (hI i (by omega)) (by omega)).bind fun z ⟨z1, z2, z3⟩ => ?_
    rw [w64 (by omega) (by omega), z1]
    exact ih (i + 1) q z.1 hq (by omega) z2 z3
theorem steps_of {τ : Rat} {t j m : Nat} (hj : j ≤ 20) (hτ : τ = (2 : Rat) ^ (-(j : Int))) (ht : Fk .f32 t τ) (hm : m ≤ 100) (hI : ∀ n, n < m → MID τ (IT τ n) ≤ 1000) {l : List S0.S46} (hl : l.length = 4) (h : ∀ w ∈ l, BW 9 w) {k : Nat} (hk : 200 ≤ k) :
    Ret (N1.impl_steps.f k l 1056964608 t (m : Int)) (fun z => z.2 = true ∧ z.1.length = 4 ∧ ∀ w ∈ z.1, BW (IT τ m) w) := by
  unfold N1.impl_steps.f XK2.cloneW.f
  rw [if_pos (by omega)]
  simp only [Option.bind_some]
  have := steps_loop hj hτ ht hm hI m 0 (k - (m + 1)) l (by omega) (by omega) hl h
  rwa [show m + 1 + (k - (m + 1)) = k by omega] at this
end QA
end Go.Proofs.Ytcgaccdiomcglaa
end
section
namespace Go.Proofs.Ytcgaccdiomcglaa.SB
open Go.Proofs.Ytcgaccdiomcglaa.S0
open Go.RowKit Go.Proofs.YtcgaccdiomcglaaW.PrintWords Go.Proofs.YtcgaccdiomcglaaW.PrintLast Go.Proofs.YtcgaccdiomcglaaW.PrintMore
attribute [local go_sem] max2_int min2_int max_two min_two max_three min_three max_four min_four
set_option linter.unusedVariables false
set_option linter.unusedSimpArgs false
attribute [local go_sem high] binOp_fge binOp_fle
def errW : Option Int → Value
  | none => .nilIface
  | some c => .iface 0 (.int .i64 c)
theorem errW_none : errW none = .nilIface := rfl
theorem errW_some (c : Int) : errW (some c) = .iface 0 (.int .i64 c) := rfl
end Go.Proofs.Ytcgaccdiomcglaa.SB
end
section
namespace Go.Proofs.Ytcgaccdiomcglaa.SB
open Go.Proofs.Ytcgaccdiomcglaa.S0
open Go.RowKit Go.Proofs.YtcgaccdiomcglaaW.PrintWords Go.Proofs.YtcgaccdiomcglaaW.PrintLast Go.Proofs.YtcgaccdiomcglaaW.PrintMore
attribute [local go_sem] max2_int min2_int max_two min_two max_three min_three max_four min_four
set_option linter.unusedVariables false
set_option linter.unusedSimpArgs false
attribute [local go_sem high] binOp_fge binOp_fle
end Go.Proofs.Ytcgaccdiomcglaa.SB
end
