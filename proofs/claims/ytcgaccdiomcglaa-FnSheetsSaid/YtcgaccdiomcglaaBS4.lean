/- Words, walks and plain laws that a claim of this seat needs, one text after the other (part 4). -/
import Derived.Test.YtcgaccdiomcglaaBS3
set_option linter.unusedVariables false
set_option linter.unusedSimpArgs false
section
namespace Go.Proofs.Ytcgaccdiomcglaa.S0
open Go.RowKit Go.Proofs.YtcgaccdiomcglaaW.PrintWords Go.Proofs.YtcgaccdiomcglaaW.PrintLast Go.Proofs.YtcgaccdiomcglaaW.PrintMore
attribute [local go_sem] max2_int min2_int max_two min_two max_three min_three max_four min_four
set_option linter.unusedVariables false
set_option linter.unusedSimpArgs false
attribute [local go_sem high] binOp_fge binOp_fle
def impl_SameComplex.f (a0 : (Nat × Nat)) (a1 : (Nat × Nat)) : Option (Bool) := (XM.SameNumber.f a0.1 a1.1).bind fun t224 => (if t224 = true then ((XM.SameNumber.f a0.2 a1.2).bind fun t225 => (some t225)) else (some false))
set_option maxHeartbeats 8000000 in
set_option maxRecDepth 100000 in
theorem impl_SameComplex.calls (a0 : (Nat × Nat)) (a1 : (Nat × Nat)) (r : Bool) (w : World) (h : impl_SameComplex.f a0 a1 = some r) :
    Calls Try.prog 95 #[.complex .f32 a0.1 a0.2, .complex .f32 a1.1 a1.2] w fun e w' => e = .returned (.bool r) ∧ Below w.heap.size w w' := by
  have HB := AS (Below.refl w.heap.size w); have H : ((XM.SameNumber.f a0.1 a1.1).bind fun t224 => (if t224 = true then ((XM.SameNumber.f a0.2 a1.2).bind fun t225 => (some t225)) else (some false))) = some r := h; clear h; replace H := Option.bind_eq_some_iff.mp H; obtain ⟨t224, A30, H⟩ := H; replace H : (if t224 = true then ((XM.SameNumber.f a0.2 a1.2).bind fun t225 => (some t225)) else (some false)) = some r := H; have A3 := Aside0.mk A30; clear A30; by_cases c4 : t224 = true
  · subst c4
    have H1 : ((XM.SameNumber.f a0.2 a1.2).bind fun t225 => (some t225)) = some r := (by rw [if_pos rfl] at H; exact H); clear H; have H := H1; clear H1; replace H := Option.bind_eq_some_iff.mp H; obtain ⟨t225, A50, H⟩ := H; replace H : (some t225) = some r := H; have A5 := Aside0.mk A50; clear A50; obtain rfl := Option.some.inj H; go_enter Try.func95, Try.ntmps95; go_wp2_with (first | ((with_reducible refine gate_callee (f := 96) rfl ?_); refine goesM 9 Try.func96 #[.float .f32 a0.1, .float .f32 a1.1] ?_; (with_reducible refine (XM.SameNumber.calls a0.1 a1.1 true _ A3.out).mono ?_); rintro e w' ⟨rfl, ⟨nd, rfl⟩⟩; refine ⟨_, rfl, ?_⟩) | (go_at_call 96; (with_reducible refine (XM.SameNumber.calls a0.2 a1.2 t225 _ A5.out).mono ?_); rintro e w' ⟨rfl, ⟨nd, rfl⟩⟩)); go_ret; exact ⟨by first | rfl | (simp [errW_none, errW_some] <;> rfl) | (simp [*, errW_none, errW_some] <;> rfl), BW HB⟩
  · replace c4 := Bool.eq_false_iff.mpr c4
    subst c4; have H1 : (some false) = some r := (by rw [if_neg (show ¬ (false = true) by decide)] at H; exact H); clear H; have H := H1; clear H1; obtain rfl := Option.some.inj H; go_enter Try.func95, Try.ntmps95; go_wp2_with (first | ((with_reducible refine gate_callee (f := 96) rfl ?_); refine goesM 9 Try.func96 #[.float .f32 a0.1, .float .f32 a1.1] ?_; (with_reducible refine (XM.SameNumber.calls a0.1 a1.1 false _ A3.out).mono ?_); rintro e w' ⟨rfl, ⟨nd, rfl⟩⟩; refine ⟨_, rfl, ?_⟩)); go_ret; exact ⟨by first | rfl | (simp [errW_none, errW_some] <;> rfl) | (simp [*, errW_none, errW_some] <;> rfl), BW HB⟩
def slices_EqualFunc_complex64_complex64_complex64_complex64.l0 : Nat → List (Nat × Nat) → List (Nat × Nat) → Int → Int → Option (Bool)
  | 0, _, _, _, _ => none
  | k + 1, x1, x15, x16, x17 => if x17 < x16 then (if 0 ≤ x17 then (if x17 < (x15.length : Int) then (if x17 < (x1.length : Int) then ((impl_SameComplex.f (rdOf ((0, 0) : Nat × Nat) x15 x17) (rdOf ((0, 0) : Nat × Nat) x1 x17)).bind fun t228 => (if t228 = true then (slices_EqualFunc_complex64_complex64_complex64_complex64.l0 k x1 x15 x16 (wrap64 (x17 + 1))) else (some false))) else (none)) else (none)) else (none)) else (some true)
def slices_EqualFunc_complex64_complex64_complex64_complex64.f (k : Nat) (l0 : List (Nat × Nat)) (l1 : List (Nat × Nat))  : Option (Bool) := if (l0.length : Int) = (l1.length : Int) then (slices_EqualFunc_complex64_complex64_complex64_complex64.l0 k l1 l0 (l0.length : Int) 0) else (some false)
set_option maxHeartbeats 8000000 in
set_option maxRecDepth 100000 in
theorem slices_EqualFunc_complex64_complex64_complex64_complex64.calls (k : Nat) (A0 : Option Addr) (c0 : Nat) (l0 : List (Nat × Nat)) (A1 : Option Addr) (c1 : Nat) (l1 : List (Nat × Nat))  (r : Bool) (w : World) (hr0 : Kd.C (Kd.complex .f32) w A0 l0.length l0) (hc0 : l0.length ≤ c0) (hr1 : Kd.C (Kd.complex .f32) w A1 l1.length l1) (hc1 : l1.length ≤ c1) (h : slices_EqualFunc_complex64_complex64_complex64_complex64.f k l0 l1 = some r) :
    Calls Try.prog 163 #[.slice A0 l0.length c0, .slice A1 l1.length c1, .func (.func 95) #[] #[]] w fun e w' => e = .returned (.bool r) ∧ Below w.heap.size w w' := by
  have HR0 := Aside0.mk hr0; have HC0 := Aside0.mk hc0; clear hr0 hc0; have HR1 := Aside0.mk hr1; have HC1 := Aside0.mk hc1; clear hr1 hc1; have HB := AS (Below.refl w.heap.size w); have H : (if (l0.length : Int) = (l1.length : Int) then (slices_EqualFunc_complex64_complex64_complex64_complex64.l0 k l1 l0 (l0.length : Int) 0) else (some false)) = some r := h; clear h; by_cases c4 : (l0.length : Int) = (l1.length : Int)
  · rw [if_pos c4] at H
    have c4b0 : ((l0.length : Int) == (l1.length : Int)) = true := beq_iff_eq.mpr c4; have c4b1 : ((l0.length : Int) != (l1.length : Int)) = false := bne_eq_false_iff_eq.mpr c4; have c4b2 : (l0.length == l1.length) = true := (by first | simpa using c4 | (simp at c4 ⊢; omega)); clear c4; have H' := Aside0.mk H; clear H; go_enter Try.func163, Try.ntmps163; go_wp2; go_loopg [17] k (fun kq v17 w' => ∃ (x17_1 : Int), v17 = .int .i64 x17_1 ∧ Aside0 (slices_EqualFunc_complex64_complex64_complex64_complex64.l0 kq l1 l0 (l0.length : Int) x17_1 = some r) ∧ Aside0 (kq ≤ k) ∧ Aside0 (Below w.heap.size w w'))
    case atStart => exact ⟨(0), (by first | rfl | (simp; done) | (simp [*]; done)), H', ⟨Nat.le_refl _⟩, ⟨BW HB⟩⟩
    case round =>
      clear H'; (try clear c1); (try clear p2); (try clear c4); (try clear c4b0); (try clear c4b1); (try clear c4b2); obtain ⟨x17_1, rfl, HA, HK1, HB⟩ := hrel; cases gk with
      | zero => exact absurd HA.out (by simp [slices_EqualFunc_complex64_complex64_complex64_complex64.l0])
      | succ k1 =>
        have H := HA.out; clear HA; simp only [slices_EqualFunc_complex64_complex64_complex64_complex64.l0] at H; by_cases c5 : x17_1 < (l0.length : Int)
        · rw [if_pos c5] at H
          have c5b0 : decide (x17_1 < (l0.length : Int)) = true := decide_eq_true c5; clear c5; by_cases c6 : 0 ≤ x17_1
          · rw [if_pos c6] at H
            have c6b0 : decide (0 ≤ x17_1) = true := decide_eq_true c6; clear c6; by_cases c7 : x17_1 < (l0.length : Int)
            · rw [if_pos c7] at H
              have c7b0 : decide (x17_1 < (l0.length : Int)) = true := decide_eq_true c7; clear c7; by_cases c8 : x17_1 < (l1.length : Int)
              · rw [if_pos c8] at H
                have c8b0 : decide (x17_1 < (l1.length : Int)) = true := decide_eq_true c8; clear c8; replace H := Option.bind_eq_some_iff.mp H; obtain ⟨t228, A90, H⟩ := H; replace H : (if t228 = true then (slices_EqualFunc_complex64_complex64_complex64_complex64.l0 k1 l1 l0 (l0.length : Int) (wrap64 (x17_1 + 1))) else (some false)) = some r := H; have A9 := Aside0.mk A90; clear A90; by_cases c10 : t228 = true
                · subst c10
                  have H1 : (slices_EqualFunc_complex64_complex64_complex64_complex64.l0 k1 l1 l0 (l0.length : Int) (wrap64 (x17_1 + 1))) = some r := (by rw [if_pos rfl] at H; exact H); clear H; have H := H1; clear H1; have H' := Aside0.mk H; clear H; have p226 : 0 ≤ (x17_1 : Int) := of_decide_eq_true (by first | (with_reducible assumption) | assumption); have q226 : x17_1 < (l0.length : Int) := of_decide_eq_true (by first | (with_reducible assumption) | assumption); obtain ⟨ad226, e226, hx226_0⟩ := Kd.at_complex HR0.out x17_1 p226 q226; cases e226; replace hx226_0 := (HB.out.cell (World.block_lt_of_cell? w _ hx226_0)).trans hx226_0; replace p226 := eq_true p226; replace q226 := eq_true q226; have p227 : 0 ≤ (x17_1 : Int) := of_decide_eq_true (by first | (with_reducible assumption) | assumption); have q227 : x17_1 < (l1.length : Int) := of_decide_eq_true (by first | (with_reducible assumption) | assumption); obtain ⟨ad227, e227, hx227_0⟩ := Kd.at_complex HR1.out x17_1 p227 q227; cases e227; replace hx227_0 := (HB.out.cell (World.block_lt_of_cell? w _ hx227_0)).trans hx227_0; replace p227 := eq_true p227; replace q227 := eq_true q227; go_wp2_with (first | (go_at_call 95; (with_reducible refine (impl_SameComplex.calls (rdOf ((0, 0) : Nat × Nat) l0 x17_1) (rdOf ((0, 0) : Nat × Nat) l1 x17_1) true _ A9.out).mono ?_); rintro e w11 ⟨rfl, hb⟩; replace HB := BB HB hb; (try clear hb); (try clear hb2); (try clear hk); (try clear hi))); go_roundg k1
                  case measure => have := HK1.out; omega
                  case rel => exact ⟨(wrap64 (x17_1 + 1)), (by first | rfl | (simp; done) | (simp [*]; done)), H', ⟨by have := HK1.out; omega⟩, ⟨BW HB⟩⟩
                · replace c10 := Bool.eq_false_iff.mpr c10
                  subst c10; have H1 : (some false) = some r := (by rw [if_neg (show ¬ (false = true) by decide)] at H; exact H); clear H; have H := H1; clear H1; obtain rfl := Option.some.inj H; have p226 : 0 ≤ (x17_1 : Int) := of_decide_eq_true (by first | (with_reducible assumption) | assumption); have q226 : x17_1 < (l0.length : Int) := of_decide_eq_true (by first | (with_reducible assumption) | assumption); obtain ⟨ad226, e226, hx226_0⟩ := Kd.at_complex HR0.out x17_1 p226 q226; cases e226; replace hx226_0 := (HB.out.cell (World.block_lt_of_cell? w _ hx226_0)).trans hx226_0; replace p226 := eq_true p226; replace q226 := eq_true q226; have p227 : 0 ≤ (x17_1 : Int) := of_decide_eq_true (by first | (with_reducible assumption) | assumption); have q227 : x17_1 < (l1.length : Int) := of_decide_eq_true (by first | (with_reducible assumption) | assumption); obtain ⟨ad227, e227, hx227_0⟩ := Kd.at_complex HR1.out x17_1 p227 q227; cases e227; replace hx227_0 := (HB.out.cell (World.block_lt_of_cell? w _ hx227_0)).trans hx227_0; replace p227 := eq_true p227; replace q227 := eq_true q227; go_wp2_with (first | (go_at_call 95; (with_reducible refine (impl_SameComplex.calls (rdOf ((0, 0) : Nat × Nat) l0 x17_1) (rdOf ((0, 0) : Nat × Nat) l1 x17_1) false _ A9.out).mono ?_); rintro e w12 ⟨rfl, hb⟩; replace HB := BB HB hb; (try clear hb); (try clear hb2); (try clear hk); (try clear hi))); go_ret; exact ⟨by first | rfl | (simp [errW_none, errW_some] <;> rfl) | (simp [*, errW_none, errW_some] <;> rfl), BW HB⟩
              · rw [if_neg c8] at H
                exact absurd H (by simp)
            · rw [if_neg c7] at H
              exact absurd H (by simp)
          · rw [if_neg c6] at H
            exact absurd H (by simp)
        · rw [if_neg c5] at H
          have c5b0 : decide (x17_1 < (l0.length : Int)) = false := decide_eq_false c5; clear c5; obtain rfl := Option.some.inj H; go_wp2; go_ret; exact ⟨by first | rfl | (simp [errW_none, errW_some] <;> rfl) | (simp [*, errW_none, errW_some] <;> rfl), BW HB⟩
  · rw [if_neg c4] at H
    have c4b0 : ((l0.length : Int) == (l1.length : Int)) = false := beq_eq_false_iff_ne.mpr c4; have c4b1 : ((l0.length : Int) != (l1.length : Int)) = true := bne_iff_ne.mpr c4; have c4b2 : (l0.length == l1.length) = false := (by first | simpa using c4 | (simp at c4 ⊢; omega)); obtain rfl := Option.some.inj H; go_enter Try.func163, Try.ntmps163; go_wp2; go_ret; exact ⟨by first | rfl | (simp [errW_none, errW_some] <;> rfl) | (simp [*, errW_none, errW_some] <;> rfl), BW HB⟩
def impl_samePoints.f (k : Nat) (l0 : List (Nat × Nat)) (l1 : List (Nat × Nat)) : Option (Bool) := (slices_EqualFunc_complex64_complex64_complex64_complex64.f k l0 l1).bind fun t229 => (some t229)
set_option maxHeartbeats 8000000 in
set_option maxRecDepth 100000 in
theorem impl_samePoints.calls (k : Nat) (A0 : Option Addr) (c0 : Nat) (l0 : List (Nat × Nat)) (A1 : Option Addr) (c1 : Nat) (l1 : List (Nat × Nat)) (r : Bool) (w : World) (hr0 : Kd.C (Kd.complex .f32) w A0 l0.length l0) (hc0 : l0.length ≤ c0) (hr1 : Kd.C (Kd.complex .f32) w A1 l1.length l1) (hc1 : l1.length ≤ c1) (h : impl_samePoints.f k l0 l1 = some r) :
    Calls Try.prog 115 #[.slice A0 l0.length c0, .slice A1 l1.length c1] w fun e w' => e = .returned (.bool r) ∧ Below w.heap.size w w' := by
  have HR0 := Aside0.mk hr0; have HC0 := Aside0.mk hc0; clear hr0 hc0; have HR1 := Aside0.mk hr1; have HC1 := Aside0.mk hc1; clear hr1 hc1; have HB := AS (Below.refl w.heap.size w); have H : ((slices_EqualFunc_complex64_complex64_complex64_complex64.f k l0 l1).bind fun t229 => (some t229)) = some r := h; clear h; replace H := Option.bind_eq_some_iff.mp H; obtain ⟨t229, A30, H⟩ := H; replace H : (some t229) = some r := H; have A3 := Aside0.mk A30; clear A30; obtain rfl := Option.some.inj H; go_enter Try.func115, Try.ntmps115; go_wp2_with (first | ((with_reducible refine gate_callee (f := 163) rfl ?_); refine goesM 7 Try.func163 #[.slice A0 l0.length c0, .slice A1 l1.length c1, .func (.func 95) #[] #[]] ?_; (with_reducible refine (slices_EqualFunc_complex64_complex64_complex64_complex64.calls k _ _ l0 _ _ l1  t229 _ ?side1 ?side2 ?side3 ?side4 A3.out).mono ?_); (case side1 => exact CS HR0.out); (case side2 => exact HC0.out); (case side3 => exact CS HR1.out); (case side4 => exact HC1.out); rintro e w4 ⟨rfl, hb⟩; refine ⟨_, rfl, ?_⟩; replace HB := BB HB hb; (try clear hb); (try clear hb2); (try clear hk); (try clear hi))); go_ret; exact ⟨by first | rfl | (simp [errW_none, errW_some] <;> rfl) | (simp [*, errW_none, errW_some] <;> rfl), BW HB⟩
def slices_EqualFunc_float32_float32_float32_float32.l0 : Nat → List Nat → List Nat → Int → Int → Option (Bool)
  | 0, _, _, _, _ => none
  | k + 1, x1, x15, x16, x17 => if x17 < x16 then (if 0 ≤ x17 then (if x17 < (x15.length : Int) then (if x17 < (x1.length : Int) then ((XM.SameNumber.f (rdOf (0 : Nat) x15 x17) (rdOf (0 : Nat) x1 x17)).bind fun t232 => (if t232 = true then (slices_EqualFunc_float32_float32_float32_float32.l0 k x1 x15 x16 (wrap64 (x17 + 1))) else (some false))) else (none)) else (none)) else (none)) else (some true)
def slices_EqualFunc_float32_float32_float32_float32.f (k : Nat) (l0 : List Nat) (l1 : List Nat)  : Option (Bool) := if (l0.length : Int) = (l1.length : Int) then (slices_EqualFunc_float32_float32_float32_float32.l0 k l1 l0 (l0.length : Int) 0) else (some false)
set_option maxHeartbeats 8000000 in
set_option maxRecDepth 100000 in
theorem slices_EqualFunc_float32_float32_float32_float32.calls (k : Nat) (A0 : Option Addr) (c0 : Nat) (l0 : List Nat) (A1 : Option Addr) (c1 : Nat) (l1 : List Nat)  (r : Bool) (w : World) (hr0 : Kd.C (Kd.float .f32) w A0 l0.length l0) (hc0 : l0.length ≤ c0) (hr1 : Kd.C (Kd.float .f32) w A1 l1.length l1) (hc1 : l1.length ≤ c1) (h : slices_EqualFunc_float32_float32_float32_float32.f k l0 l1 = some r) :
    Calls Try.prog 164 #[.slice A0 l0.length c0, .slice A1 l1.length c1, .func (.func 96) #[] #[]] w fun e w' => e = .returned (.bool r) ∧ Below w.heap.size w w' := by
  have HR0 := Aside0.mk hr0; have HC0 := Aside0.mk hc0; clear hr0 hc0; have HR1 := Aside0.mk hr1; have HC1 := Aside0.mk hc1; clear hr1 hc1; have HB := AS (Below.refl w.heap.size w); have H : (if (l0.length : Int) = (l1.length : Int) then (slices_EqualFunc_float32_float32_float32_float32.l0 k l1 l0 (l0.length : Int) 0) else (some false)) = some r := h; clear h; by_cases c4 : (l0.length : Int) = (l1.length : Int)
  · rw [if_pos c4] at H
    have c4b0 : ((l0.length : Int) == (l1.length : Int)) = true := beq_iff_eq.mpr c4; have c4b1 : ((l0.length : Int) != (l1.length : Int)) = false := bne_eq_false_iff_eq.mpr c4; have c4b2 : (l0.length == l1.length) = true := (by first | simpa using c4 | (simp at c4 ⊢; omega)); clear c4; have H' := Aside0.mk H; clear H; go_enter Try.func164, Try.ntmps164; go_wp2; go_loopg [17] k (fun kq v17 w' => ∃ (x17_1 : Int), v17 = .int .i64 x17_1 ∧ Aside0 (slices_EqualFunc_float32_float32_float32_float32.l0 kq l1 l0 (l0.length : Int) x17_1 = some r) ∧ Aside0 (kq ≤ k) ∧ Aside0 (Below w.heap.size w w'))
    case atStart => exact ⟨(0), (by first | rfl | (simp; done) | (simp [*]; done)), H', ⟨Nat.le_refl _⟩, ⟨BW HB⟩⟩
    case round =>
      clear H'; (try clear c1); (try clear p2); (try clear c4); (try clear c4b0); (try clear c4b1); (try clear c4b2); obtain ⟨x17_1, rfl, HA, HK1, HB⟩ := hrel; cases gk with
      | zero => exact absurd HA.out (by simp [slices_EqualFunc_float32_float32_float32_float32.l0])
      | succ k1 =>
        have H := HA.out; clear HA; simp only [slices_EqualFunc_float32_float32_float32_float32.l0] at H; by_cases c5 : x17_1 < (l0.length : Int)
        · rw [if_pos c5] at H
          have c5b0 : decide (x17_1 < (l0.length : Int)) = true := decide_eq_true c5; clear c5; by_cases c6 : 0 ≤ x17_1
          · rw [if_pos c6] at H
            have c6b0 : decide (0 ≤ x17_1) = true := decide_eq_true c6; clear c6; by_cases c7 : x17_1 < (l0.length : Int)
            · rw [if_pos c7] at H
              have c7b0 : decide (x17_1 < (l0.length : Int)) = true := decide_eq_true c7; clear c7; by_cases c8 : x17_1 < (l1.length : Int)
              · rw [if_pos c8] at H
                have c8b0 : decide (x17_1 < (l1.length : Int)) = true := decide_eq_true c8; clear c8; replace H := Option.bind_eq_some_iff.mp H; obtain ⟨t232, A90, H⟩ := H; replace H : (if t232 = true then (slices_EqualFunc_float32_float32_float32_float32.l0 k1 l1 l0 (l0.length : Int) (wrap64 (x17_1 + 1))) else (some false)) = some r := H; have A9 := Aside0.mk A90; clear A90; by_cases c10 : t232 = true
                · subst c10
                  have H1 : (slices_EqualFunc_float32_float32_float32_float32.l0 k1 l1 l0 (l0.length : Int) (wrap64 (x17_1 + 1))) = some r := (by rw [if_pos rfl] at H; exact H); clear H; have H := H1; clear H1; have H' := Aside0.mk H; clear H; have p230 : 0 ≤ (x17_1 : Int) := of_decide_eq_true (by first | (with_reducible assumption) | assumption); have q230 : x17_1 < (l0.length : Int) := of_decide_eq_true (by first | (with_reducible assumption) | assumption); obtain ⟨ad230, e230, hx230_0⟩ := Kd.at_float HR0.out x17_1 p230 q230; cases e230; replace hx230_0 := (HB.out.cell (World.block_lt_of_cell? w _ hx230_0)).trans hx230_0; replace p230 := eq_true p230; replace q230 := eq_true q230; have p231 : 0 ≤ (x17_1 : Int) := of_decide_eq_true (by first | (with_reducible assumption) | assumption); have q231 : x17_1 < (l1.length : Int) := of_decide_eq_true (by first | (with_reducible assumption) | assumption); obtain ⟨ad231, e231, hx231_0⟩ := Kd.at_float HR1.out x17_1 p231 q231; cases e231; replace hx231_0 := (HB.out.cell (World.block_lt_of_cell? w _ hx231_0)).trans hx231_0; replace p231 := eq_true p231; replace q231 := eq_true q231; go_wp2_with (first | (go_at_call 96; (with_reducible refine (XM.SameNumber.calls (rdOf (0 : Nat) l0 x17_1) (rdOf (0 : Nat) l1 x17_1) true _ A9.out).mono ?_); rintro e w' ⟨rfl, ⟨nd, rfl⟩⟩)); go_roundg k1
                  case measure => have := HK1.out; omega
                  case rel => exact ⟨(wrap64 (x17_1 + 1)), (by first | rfl | (simp; done) | (simp [*]; done)), H', ⟨by have := HK1.out; omega⟩, ⟨BW HB⟩⟩
                · replace c10 := Bool.eq_false_iff.mpr c10
                  subst c10; have H1 : (some false) = some r := (by rw [if_neg (show ¬ (false = true) by decide)] at H; exact H); clear H; have H := H1; clear H1; obtain rfl := Option.some.inj H; have p230 : 0 ≤ (x17_1 : Int) := of_decide_eq_true (by first | (with_reducible assumption) | assumption); have q230 : x17_1 < (l0.length : Int) := of_decide_eq_true (by first | (with_reducible assumption) | assumption); obtain ⟨ad230, e230, hx230_0⟩ := Kd.at_float HR0.out x17_1 p230 q230; cases e230; replace hx230_0 := (HB.out.cell (World.block_lt_of_cell? w _ hx230_0)).trans hx230_0; replace p230 := eq_true p230; replace q230 := eq_true q230; have p231 : 0 ≤ (x17_1 : Int) := of_decide_eq_true (by first | (with_reducible assumption) | assumption); have q231 : x17_1 < (l1.length : Int) := of_decide_eq_true (by first | (with_reducible assumption) | assumption); obtain ⟨ad231, e231, hx231_0⟩ := Kd.at_float HR1.out x17_1 p231 q231; cases e231; replace hx231_0 := (HB.out.cell (World.block_lt_of_cell? w _ hx231_0)).trans hx231_0; replace p231 := eq_true p231; replace q231 := eq_true q231; go_wp2_with (first | (go_at_call 96; (with_reducible refine (XM.SameNumber.calls (rdOf (0 : Nat) l0 x17_1) (rdOf (0 : Nat) l1 x17_1) false _ A9.out).mono ?_); rintro e w' ⟨rfl, ⟨nd, rfl⟩⟩)); go_ret; exact ⟨by first | rfl | (simp [errW_none, errW_some] <;> rfl) | (simp [*, errW_none, errW_some] <;> rfl), BW HB⟩
              · rw [if_neg c8] at H
                exact absurd H (by simp)
            · rw [if_neg c7] at H
              exact absurd H (by simp)
          · rw [if_neg c6] at H
            exact absurd H (by simp)
        · rw [if_neg c5] at H
          have c5b0 : decide (x17_1 < (l0.length : Int)) = false := decide_eq_false c5; clear c5; obtain rfl := Option.some.inj H; go_wp2; go_ret; exact ⟨by first | rfl | (simp [errW_none, errW_some] <;> rfl) | (simp [*, errW_none, errW_some] <;> rfl), BW HB⟩
  · rw [if_neg c4] at H
    have c4b0 : ((l0.length : Int) == (l1.length : Int)) = false := beq_eq_false_iff_ne.mpr c4; have c4b1 : ((l0.length : Int) != (l1.length : Int)) = true := bne_iff_ne.mpr c4; have c4b2 : (l0.length == l1.length) = false := (by first | simpa using c4 | (simp at c4 ⊢; omega)); obtain rfl := Option.some.inj H; go_enter Try.func164, Try.ntmps164; go_wp2; go_ret; exact ⟨by first | rfl | (simp [errW_none, errW_some] <;> rfl) | (simp [*, errW_none, errW_some] <;> rfl), BW HB⟩
def impl_sameList.f (k : Nat) (l0 : List Nat) (l1 : List Nat) : Option (Bool) := (slices_EqualFunc_float32_float32_float32_float32.f k l0 l1).bind fun t233 => (some t233)
set_option maxHeartbeats 8000000 in
set_option maxRecDepth 100000 in
theorem impl_sameList.calls (k : Nat) (A0 : Option Addr) (c0 : Nat) (l0 : List Nat) (A1 : Option Addr) (c1 : Nat) (l1 : List Nat) (r : Bool) (w : World) (hr0 : Kd.C (Kd.float .f32) w A0 l0.length l0) (hc0 : l0.length ≤ c0) (hr1 : Kd.C (Kd.float .f32) w A1 l1.length l1) (hc1 : l1.length ≤ c1) (h : impl_sameList.f k l0 l1 = some r) :
    Calls Try.prog 116 #[.slice A0 l0.length c0, .slice A1 l1.length c1] w fun e w' => e = .returned (.bool r) ∧ Below w.heap.size w w' := by
  have HR0 := Aside0.mk hr0; have HC0 := Aside0.mk hc0; clear hr0 hc0; have HR1 := Aside0.mk hr1; have HC1 := Aside0.mk hc1; clear hr1 hc1; have HB := AS (Below.refl w.heap.size w); have H : ((slices_EqualFunc_float32_float32_float32_float32.f k l0 l1).bind fun t233 => (some t233)) = some r := h; clear h; replace H := Option.bind_eq_some_iff.mp H; obtain ⟨t233, A30, H⟩ := H; replace H : (some t233) = some r := H; have A3 := Aside0.mk A30; clear A30; obtain rfl := Option.some.inj H; go_enter Try.func116, Try.ntmps116; go_wp2_with (first | ((with_reducible refine gate_callee (f := 164) rfl ?_); refine goesM 7 Try.func164 #[.slice A0 l0.length c0, .slice A1 l1.length c1, .func (.func 96) #[] #[]] ?_; (with_reducible refine (slices_EqualFunc_float32_float32_float32_float32.calls k _ _ l0 _ _ l1  t233 _ ?side1 ?side2 ?side3 ?side4 A3.out).mono ?_); (case side1 => exact CS HR0.out); (case side2 => exact HC0.out); (case side3 => exact CS HR1.out); (case side4 => exact HC1.out); rintro e w4 ⟨rfl, hb⟩; refine ⟨_, rfl, ?_⟩; replace HB := BB HB hb; (try clear hb); (try clear hb2); (try clear hk); (try clear hi))); go_ret; exact ⟨by first | rfl | (simp [errW_none, errW_some] <;> rfl) | (simp [*, errW_none, errW_some] <;> rfl), BW HB⟩
def impl_SameSheet.f (k : Nat) (l0_0 : List (Nat × Nat)) (l0_1 : List Nat) (a0_2 : Bool) (l1_0 : List (Nat × Nat)) (l1_1 : List Nat) (a1_2 : Bool) : Option (Bool) := (impl_samePoints.f k l0_0 l1_0).bind fun t236 => (if t236 = true then ((impl_sameList.f k l0_1 l1_1).bind fun t237 => (if t237 = true then (some (a0_2 == a1_2)) else (some false))) else (some false))
set_option maxHeartbeats 8000000 in
set_option maxRecDepth 100000 in
theorem impl_SameSheet.calls (k : Nat) (A0_0 : Option Addr) (c0_0 : Nat) (l0_0 : List (Nat × Nat)) (A0_1 : Option Addr) (c0_1 : Nat) (l0_1 : List Nat) (a0_2 : Bool) (A1_0 : Option Addr) (c1_0 : Nat) (l1_0 : List (Nat × Nat)) (A1_1 : Option Addr) (c1_1 : Nat) (l1_1 : List Nat) (a1_2 : Bool) (r : Bool) (w : World) (hr0_0 : Kd.C (Kd.complex .f32) w A0_0 l0_0.length l0_0) (hc0_0 : l0_0.length ≤ c0_0) (hr0_1 : Kd.C (Kd.float .f32) w A0_1 l0_1.length l0_1) (hc0_1 : l0_1.length ≤ c0_1) (hr1_0 : Kd.C (Kd.complex .f32) w A1_0 l1_0.length l1_0) (hc1_0 : l1_0.length ≤ c1_0) (hr1_1 : Kd.C (Kd.float .f32) w A1_1 l1_1.length l1_1) (hc1_1 : l1_1.length ≤ c1_1) (h : impl_SameSheet.f k l0_0 l0_1 a0_2 l1_0 l1_1 a1_2 = some r) :
    Calls Try.prog 39 #[.agg #[.slice A0_0 l0_0.length c0_0, .slice A0_1 l0_1.length c0_1, .bool a0_2], .agg #[.slice A1_0 l1_0.length c1_0, .slice A1_1 l1_1.length c1_1, .bool a1_2]] w fun e w' => e = .returned (.bool r) ∧ Below w.heap.size w w' := by
  have hu58 := Try.underlying58; have HR0_0 := Aside0.mk hr0_0; have HC0_0 := Aside0.mk hc0_0; clear hr0_0 hc0_0; have HR0_1 := Aside0.mk hr0_1; have HC0_1 := Aside0.mk hc0_1; clear hr0_1 hc0_1; have HR1_0 := Aside0.mk hr1_0; have HC1_0 := Aside0.mk hc1_0; clear hr1_0 hc1_0; have HR1_1 := Aside0.mk hr1_1; have HC1_1 := Aside0.mk hc1_1; clear hr1_1 hc1_1; have HB := AS (Below.refl w.heap.size w); have H : ((impl_samePoints.f k l0_0 l1_0).bind fun t236 => (if t236 = true then ((impl_sameList.f k l0_1 l1_1).bind fun t237 => (if t237 = true then (some (a0_2 == a1_2)) else (some false))) else (some false))) = some r := h; clear h; replace H := Option.bind_eq_some_iff.mp H; obtain ⟨t236, A30, H⟩ := H; replace H : (if t236 = true then ((impl_sameList.f k l0_1 l1_1).bind fun t237 => (if t237 = true then (some (a0_2 == a1_2)) else (some false))) else (some false)) = some r := H; have A3 := Aside0.mk A30; clear A30; by_cases c4 : t236 = true
  · subst c4
    have H1 : ((impl_sameList.f k l0_1 l1_1).bind fun t237 => (if t237 = true then (some (a0_2 == a1_2)) else (some false))) = some r := (by rw [if_pos rfl] at H; exact H); clear H; have H := H1; clear H1; replace H := Option.bind_eq_some_iff.mp H; obtain ⟨t237, A50, H⟩ := H; replace H : (if t237 = true then (some (a0_2 == a1_2)) else (some false)) = some r := H; have A5 := Aside0.mk A50; clear A50; by_cases c6 : t237 = true
    · subst c6
      have H1 : (some (a0_2 == a1_2)) = some r := (by rw [if_pos rfl] at H; exact H); clear H; have H := H1; clear H1; obtain rfl := Option.some.inj H; go_enter Try.func39, Try.ntmps39; go_wp2_with (first | ((with_reducible refine gate_dst (N := 2) rfl ?_); refine box_event ?hg (N := 2) ?hd (cs := #[.slice A0_0 l0_0.length c0_0, .slice A0_1 l0_1.length c0_1, .bool a0_2]) (t := 58) ?hr ?_; (case hd => rfl); (case hg => rfl); (case hr => first | (go_simp; done) | (go_simp; rfl)); intro gb234 hg w7 hbox hb; have BK234 := AS (hbox); have GW234 := BG HB hg; have GE234 := BG HB hg; replace HB := BB HB hb; clear hb hbox hg) | ((with_reducible refine gate_dst (N := 3) rfl ?_); refine box_event ?hg (N := 3) ?hd (cs := #[.slice A1_0 l1_0.length c1_0, .slice A1_1 l1_1.length c1_1, .bool a1_2]) (t := 58) ?hr ?_; (case hd => rfl); (case hg => rfl); (case hr => first | (go_simp; done) | (go_simp; rfl)); intro gb235 hg w8 hbox hb; have BK235 := AS (hbox); have GW235 := BG HB hg; have GE235 := BG HB hg; have NB234_235 := KN BK234 hg; have NB235_234 := KM BK234 hg; replace BK234 := KB BK234 hb; replace HB := BB HB hb; clear hb hbox hg; have hnb9 := NB234_235.out; have hnc9 := NB235_234.out; obtain ⟨hcz10_0, hcz10_1, hcz10_2, hfz10_0, hfz10_1, hfz10_2⟩ := CZ3 BK234; obtain ⟨hcz11_0, hcz11_1, hcz11_2, hfz11_0, hfz11_1, hfz11_2⟩ := CZ3 BK235) | ((with_reducible refine gate_callee (f := 115) rfl ?_); refine goesM 9 Try.func115 #[.slice A0_0 l0_0.length c0_0, .slice A1_0 l1_0.length c1_0] ?_; (with_reducible refine (impl_samePoints.calls k _ _ l0_0 _ _ l1_0 true _ ?side1 ?side2 ?side3 ?side4 A3.out).mono ?_); (case side1 => exact CS (Kd.C_below HR0_0.out HB.out)); (case side2 => exact HC0_0.out); (case side3 => exact CS (Kd.C_below HR1_0.out HB.out)); (case side4 => exact HC1_0.out); rintro e w12 ⟨rfl, hb⟩; refine ⟨_, rfl, ?_⟩; replace BK234 := KB BK234 hb; replace BK235 := KB BK235 hb; replace HB := BB HB hb; (try clear hb); (try clear hb2); (try clear hk); (try clear hi); obtain ⟨hcz13_0, hcz13_1, hcz13_2, hfz13_0, hfz13_1, hfz13_2⟩ := CZ3 BK234; obtain ⟨hcz14_0, hcz14_1, hcz14_2, hfz14_0, hfz14_1, hfz14_2⟩ := CZ3 BK235) | (go_at_call 116; (with_reducible refine (impl_sameList.calls k _ _ l0_1 _ _ l1_1 true _ ?side1 ?side2 ?side3 ?side4 A5.out).mono ?_); (case side1 => exact CS (Kd.C_below HR0_1.out HB.out)); (case side2 => exact HC0_1.out); (case side3 => exact CS (Kd.C_below HR1_1.out HB.out)); (case side4 => exact HC1_1.out); rintro e w15 ⟨rfl, hb⟩; replace BK234 := KB BK234 hb; replace BK235 := KB BK235 hb; replace HB := BB HB hb; (try clear hb); (try clear hb2); (try clear hk); (try clear hi); obtain ⟨hcz16_0, hcz16_1, hcz16_2, hfz16_0, hfz16_1, hfz16_2⟩ := CZ3 BK234; obtain ⟨hcz17_0, hcz17_1, hcz17_2, hfz17_0, hfz17_1, hfz17_2⟩ := CZ3 BK235)); go_ret; exact ⟨by first | rfl | (simp [errW_none, errW_some] <;> rfl) | (simp [*, errW_none, errW_some] <;> rfl), BW HB⟩
    · replace c6 := Bool.eq_false_iff.mpr c6
      subst c6; have H1 : (some false) = some r := (by rw [if_neg (show ¬ (false = true) by decide)] at H; exact H); clear H; have H := H1; clear H1; obtain rfl := Option.some.inj H; go_enter Try.func39, Try.ntmps39; go_wp2_with (first | ((with_reducible refine gate_dst (N := 2) rfl ?_); refine box_event ?hg (N := 2) ?hd (cs := #[.slice A0_0 l0_0.length c0_0, .slice A0_1 l0_1.length c0_1, .bool a0_2]) (t := 58) ?hr ?_; (case hd => rfl); (case hg => rfl); (case hr => first | (go_simp; done) | (go_simp; rfl)); intro gb234 hg w18 hbox hb; have BK234 := AS (hbox); have GW234 := BG HB hg; have GE234 := BG HB hg; replace HB := BB HB hb; clear hb hbox hg) | ((with_reducible refine gate_dst (N := 3) rfl ?_); refine box_event ?hg (N := 3) ?hd (cs := #[.slice A1_0 l1_0.length c1_0, .slice A1_1 l1_1.length c1_1, .bool a1_2]) (t := 58) ?hr ?_; (case hd => rfl); (case hg => rfl); (case hr => first | (go_simp; done) | (go_simp; rfl)); intro gb235 hg w19 hbox hb; have BK235 := AS (hbox); have GW235 := BG HB hg; have GE235 := BG HB hg; have NB234_235 := KN BK234 hg; have NB235_234 := KM BK234 hg; replace BK234 := KB BK234 hb; replace HB := BB HB hb; clear hb hbox hg; have hnb20 := NB234_235.out; have hnc20 := NB235_234.out; obtain ⟨hcz21_0, hcz21_1, hcz21_2, hfz21_0, hfz21_1, hfz21_2⟩ := CZ3 BK234; obtain ⟨hcz22_0, hcz22_1, hcz22_2, hfz22_0, hfz22_1, hfz22_2⟩ := CZ3 BK235) | ((with_reducible refine gate_callee (f := 115) rfl ?_); refine goesM 9 Try.func115 #[.slice A0_0 l0_0.length c0_0, .slice A1_0 l1_0.length c1_0] ?_; (with_reducible refine (impl_samePoints.calls k _ _ l0_0 _ _ l1_0 true _ ?side1 ?side2 ?side3 ?side4 A3.out).mono ?_); (case side1 => exact CS (Kd.C_below HR0_0.out HB.out)); (case side2 => exact HC0_0.out); (case side3 => exact CS (Kd.C_below HR1_0.out HB.out)); (case side4 => exact HC1_0.out); rintro e w23 ⟨rfl, hb⟩; refine ⟨_, rfl, ?_⟩; replace BK234 := KB BK234 hb; replace BK235 := KB BK235 hb; replace HB := BB HB hb; (try clear hb); (try clear hb2); (try clear hk); (try clear hi); obtain ⟨hcz24_0, hcz24_1, hcz24_2, hfz24_0, hfz24_1, hfz24_2⟩ := CZ3 BK234; obtain ⟨hcz25_0, hcz25_1, hcz25_2, hfz25_0, hfz25_1, hfz25_2⟩ := CZ3 BK235) | (go_at_call 116; (with_reducible refine (impl_sameList.calls k _ _ l0_1 _ _ l1_1 false _ ?side1 ?side2 ?side3 ?side4 A5.out).mono ?_); (case side1 => exact CS (Kd.C_below HR0_1.out HB.out)); (case side2 => exact HC0_1.out); (case side3 => exact CS (Kd.C_below HR1_1.out HB.out)); (case side4 => exact HC1_1.out); rintro e w26 ⟨rfl, hb⟩; replace BK234 := KB BK234 hb; replace BK235 := KB BK235 hb; replace HB := BB HB hb; (try clear hb); (try clear hb2); (try clear hk); (try clear hi))); go_ret; exact ⟨by first | rfl | (simp [errW_none, errW_some] <;> rfl) | (simp [*, errW_none, errW_some] <;> rfl), BW HB⟩
  · replace c4 := Bool.eq_false_iff.mpr c4
    subst c4; have H1 : (some false) = some r := (by rw [if_neg (show ¬ (false = true) by decide)] at H; exact H); clear H; have H := H1; clear H1; obtain rfl := Option.some.inj H; go_enter Try.func39, Try.ntmps39; go_wp2_with (first | ((with_reducible refine gate_dst (N := 2) rfl ?_); refine box_event ?hg (N := 2) ?hd (cs := #[.slice A0_0 l0_0.length c0_0, .slice A0_1 l0_1.length c0_1, .bool a0_2]) (t := 58) ?hr ?_; (case hd => rfl); (case hg => rfl); (case hr => first | (go_simp; done) | (go_simp; rfl)); intro gb234 hg w27 hbox hb; have BK234 := AS (hbox); have GW234 := BG HB hg; have GE234 := BG HB hg; replace HB := BB HB hb; clear hb hbox hg) | ((with_reducible refine gate_dst (N := 3) rfl ?_); refine box_event ?hg (N := 3) ?hd (cs := #[.slice A1_0 l1_0.length c1_0, .slice A1_1 l1_1.length c1_1, .bool a1_2]) (t := 58) ?hr ?_; (case hd => rfl); (case hg => rfl); (case hr => first | (go_simp; done) | (go_simp; rfl)); intro gb235 hg w28 hbox hb; have BK235 := AS (hbox); have GW235 := BG HB hg; have GE235 := BG HB hg; have NB234_235 := KN BK234 hg; have NB235_234 := KM BK234 hg; replace BK234 := KB BK234 hb; replace HB := BB HB hb; clear hb hbox hg; have hnb29 := NB234_235.out; have hnc29 := NB235_234.out; obtain ⟨hcz30_0, hcz30_1, hcz30_2, hfz30_0, hfz30_1, hfz30_2⟩ := CZ3 BK234; obtain ⟨hcz31_0, hcz31_1, hcz31_2, hfz31_0, hfz31_1, hfz31_2⟩ := CZ3 BK235) | ((with_reducible refine gate_callee (f := 115) rfl ?_); refine goesM 9 Try.func115 #[.slice A0_0 l0_0.length c0_0, .slice A1_0 l1_0.length c1_0] ?_; (with_reducible refine (impl_samePoints.calls k _ _ l0_0 _ _ l1_0 false _ ?side1 ?side2 ?side3 ?side4 A3.out).mono ?_); (case side1 => exact CS (Kd.C_below HR0_0.out HB.out)); (case side2 => exact HC0_0.out); (case side3 => exact CS (Kd.C_below HR1_0.out HB.out)); (case side4 => exact HC1_0.out); rintro e w32 ⟨rfl, hb⟩; refine ⟨_, rfl, ?_⟩; replace BK234 := KB BK234 hb; replace BK235 := KB BK235 hb; replace HB := BB HB hb; (try clear hb); (try clear hb2); (try clear hk); (try clear hi))); go_ret; exact ⟨by first | rfl | (simp [errW_none, errW_some] <;> rfl) | (simp [*, errW_none, errW_some] <;> rfl), BW HB⟩
def laws_b10Gap.f (a0 : Nat) (a1 : Nat) : Option (Nat) := if (FloatKind.f64.format.order a0 a1 == some .lt) = true then (if fok .sub .f64 a1 a0 = true then (some (fop .sub .f64 a1 a0)) else (none)) else (if fok .sub .f64 a0 a1 = true then (some (fop .sub .f64 a0 a1)) else (none))
set_option maxHeartbeats 8000000 in
set_option maxRecDepth 100000 in
theorem laws_b10Gap.calls (a0 : Nat) (a1 : Nat) (r : Nat) (w : World) (h : laws_b10Gap.f a0 a1 = some r) :
    Calls Try.prog 40 #[.float .f64 a0, .float .f64 a1] w fun e w' => e = .returned (.float .f64 r) ∧ Below w.heap.size w w' := by
  have HB := AS (Below.refl w.heap.size w); have H : (if (FloatKind.f64.format.order a0 a1 == some .lt) = true then (if fok .sub .f64 a1 a0 = true then (some (fop .sub .f64 a1 a0)) else (none)) else (if fok .sub .f64 a0 a1 = true then (some (fop .sub .f64 a0 a1)) else (none))) = some r := h; clear h; by_cases c3 : (FloatKind.f64.format.order a0 a1 == some .lt) = true
  · rw [if_pos c3] at H
    have c3b0 : (FloatKind.f64.format.order a0 a1 == some .lt) = true := c3; (try (have c3b1 : decide (FloatKind.f64.format.order a0 a1 = some .lt) = true := by simpa using c3)); (try (have c3b2 : (FloatKind.f64.format.order a0 a1 == some .lt) = true := by simpa using c3)); clear c3; by_cases c4 : fok .sub .f64 a1 a0 = true
    · rw [if_pos c4] at H
      have c4b0 := eq_true c4; have c4b1 : decide (fok .sub .f64 a1 a0 = true) = true := decide_eq_true c4; clear c4; obtain rfl := Option.some.inj H; go_enter Try.func40, Try.ntmps40; go_wp2; go_ret; exact ⟨by first | rfl | (simp [errW_none, errW_some] <;> rfl) | (simp [*, errW_none, errW_some] <;> rfl), BW HB⟩
    · rw [if_neg c4] at H
      exact absurd H (by simp)
  · rw [if_neg c3] at H
    have c3b0 : (FloatKind.f64.format.order a0 a1 == some .lt) = false := (by simpa using c3); (try (have c3b1 : decide (FloatKind.f64.format.order a0 a1 = some .lt) = false := by simpa using c3)); (try (have c3b2 : (FloatKind.f64.format.order a0 a1 == some .lt) = false := by simpa using c3)); (try (have c3b3 : ¬ (FloatKind.f64.format.order a0 a1 = some .lt) := by simpa using c3)); clear c3; by_cases c5 : fok .sub .f64 a0 a1 = true
    · rw [if_pos c5] at H
      have c5b0 := eq_true c5; have c5b1 : decide (fok .sub .f64 a0 a1 = true) = true := decide_eq_true c5; clear c5; obtain rfl := Option.some.inj H; go_enter Try.func40, Try.ntmps40; go_wp2; go_ret; exact ⟨by first | rfl | (simp [errW_none, errW_some] <;> rfl) | (simp [*, errW_none, errW_some] <;> rfl), BW HB⟩
    · rw [if_neg c5] at H
      exact absurd H (by simp)
def laws_b10At.f (l0 : List Int) (a1 : Int) (a2 : Int) : Option (Int) := if a2 ≤ 1 then (some 0) else (if a1 < (l0.length : Int) then (if 0 ≤ a1 then (if a2 = 0 then (none) else (some (Int.tmod (wrap64 (rd l0 a1)) a2))) else (none)) else (if a2 = 0 then (none) else (some (Int.tmod (wrap64 ((wrap64 (a1 * 37)) + 11)) a2))))
set_option maxHeartbeats 8000000 in
set_option maxRecDepth 100000 in
theorem laws_b10At.calls (A0 : Option Addr) (c0 : Nat) (l0 : List Int) (a1 : Int) (a2 : Int) (r : Int) (w : World) (hr0 : Kd.C (Kd.int .u8) w A0 l0.length l0) (hc0 : l0.length ≤ c0) (h : laws_b10At.f l0 a1 a2 = some r) :
    Calls Try.prog 42 #[.slice A0 l0.length c0, .int .i64 a1, .int .i64 a2] w fun e w' => e = .returned (.int .i64 r) ∧ Below w.heap.size w w' := by
  have HR0 := Aside0.mk hr0; have HC0 := Aside0.mk hc0; clear hr0 hc0; have HB := AS (Below.refl w.heap.size w); have H : (if a2 ≤ 1 then (some 0) else (if a1 < (l0.length : Int) then (if 0 ≤ a1 then (if a2 = 0 then (none) else (some (Int.tmod (wrap64 (rd l0 a1)) a2))) else (none)) else (if a2 = 0 then (none) else (some (Int.tmod (wrap64 ((wrap64 (a1 * 37)) + 11)) a2))))) = some r := h; clear h; by_cases c4 : a2 ≤ 1
  · rw [if_pos c4] at H
    have c4b0 : decide (a2 ≤ 1) = true := decide_eq_true c4; clear c4; obtain rfl := Option.some.inj H; go_enter Try.func42, Try.ntmps42; go_wp2; go_ret; exact ⟨by first | rfl | (simp [errW_none, errW_some] <;> rfl) | (simp [*, errW_none, errW_some] <;> rfl), BW HB⟩
  · rw [if_neg c4] at H
    have c4b0 : decide (a2 ≤ 1) = false := decide_eq_false c4; clear c4; by_cases c5 : a1 < (l0.length : Int)
    · rw [if_pos c5] at H
      have c5b0 : decide (a1 < (l0.length : Int)) = true := decide_eq_true c5; clear c5; by_cases c6 : 0 ≤ a1
      · rw [if_pos c6] at H
        have c6b0 : decide (0 ≤ a1) = true := decide_eq_true c6; clear c6; by_cases c7 : a2 = 0
        · rw [if_pos c7] at H
          exact absurd H (by simp)
        · rw [if_neg c7] at H
          have c7b0 : (a2 == 0) = false := beq_eq_false_iff_ne.mpr c7; have c7b1 : (a2 != 0) = true := bne_iff_ne.mpr c7; obtain rfl := Option.some.inj H; have p238 : 0 ≤ (a1 : Int) := of_decide_eq_true (by first | (with_reducible assumption) | assumption); have q238 : a1 < (l0.length : Int) := of_decide_eq_true (by first | (with_reducible assumption) | assumption); obtain ⟨ad238, e238, hx238_0⟩ := Kd.at_int HR0.out a1 p238 q238; cases e238; replace p238 := eq_true p238; replace q238 := eq_true q238; go_enter Try.func42, Try.ntmps42; go_wp2; go_ret; exact ⟨by first | rfl | (simp [errW_none, errW_some] <;> rfl) | (simp [*, errW_none, errW_some] <;> rfl), BW HB⟩
      · rw [if_neg c6] at H
        exact absurd H (by simp)
    · rw [if_neg c5] at H
      have c5b0 : decide (a1 < (l0.length : Int)) = false := decide_eq_false c5; clear c5; by_cases c8 : a2 = 0
      · rw [if_pos c8] at H
        exact absurd H (by simp)
      · rw [if_neg c8] at H
        have c8b0 : (a2 == 0) = false := beq_eq_false_iff_ne.mpr c8; have c8b1 : (a2 != 0) = true := bne_iff_ne.mpr c8; obtain rfl := Option.some.inj H; go_enter Try.func42, Try.ntmps42; go_wp2; go_ret; exact ⟨by first | rfl | (simp [errW_none, errW_some] <;> rfl) | (simp [*, errW_none, errW_some] <;> rfl), BW HB⟩
def laws_b10Long.f (l0 : List Int) (l1 : List Int) : Option (Bool) := if (l0.length : Int) > 1048576 then (some true) else (some (decide ((l1.length : Int) > 1048576)))
set_option maxHeartbeats 8000000 in
set_option maxRecDepth 100000 in
theorem laws_b10Long.calls (A0 : Option Addr) (c0 : Nat) (l0 : List Int) (A1 : Option Addr) (c1 : Nat) (l1 : List Int) (r : Bool) (w : World) (hr0 : Kd.C (Kd.int .u8) w A0 l0.length l0) (hc0 : l0.length ≤ c0) (hr1 : Kd.C (Kd.int .u8) w A1 l1.length l1) (hc1 : l1.length ≤ c1) (h : laws_b10Long.f l0 l1 = some r) :
    Calls Try.prog 29 #[.slice A0 l0.length c0, .slice A1 l1.length c1] w fun e w' => e = .returned (.bool r) ∧ Drawn0 w w' := by
  have HR0 := Aside0.mk hr0; have HC0 := Aside0.mk hc0; clear hr0 hc0; have HR1 := Aside0.mk hr1; have HC1 := Aside0.mk hc1; clear hr1 hc1; have H : (if (l0.length : Int) > 1048576 then (some true) else (some (decide ((l1.length : Int) > 1048576)))) = some r := h; clear h; by_cases c3 : (l0.length : Int) > 1048576
  · rw [if_pos c3] at H
    have c3b0 : decide (1048576 < (l0.length : Int)) = true := decide_eq_true c3; have c3b1 : decide (1048576 < l0.length) = true := decide_eq_true (by omega); clear c3; obtain rfl := Option.some.inj H; go_enter Try.func29, Try.ntmps29; go_wp2; go_ret; exact ⟨by first | rfl | (simp; done) | (simp [*]; done), by repeat (first | exact Drawn0.refl _ | apply Drawn0.step)⟩
  · rw [if_neg c3] at H
    have c3b0 : decide (1048576 < (l0.length : Int)) = false := decide_eq_false c3; have c3b1 : decide (1048576 < l0.length) = false := decide_eq_false (by omega); clear c3; obtain rfl := Option.some.inj H; go_enter Try.func29, Try.ntmps29; go_wp2; go_ret; exact ⟨by first | rfl | (simp; done) | (simp [*]; done), by repeat (first | exact Drawn0.refl _ | apply Drawn0.step)⟩
def impl_finiteWhirls_1.f (a0_0 : (Nat × Nat)) (a0_1 : Nat) : Option (Bool) := (XW.IsFiniteComplex.f a0_0).bind fun t240 => (if t240 = true then ((XL.IsFinite.f a0_1).bind fun t241 => (some (!t241))) else (some true))
set_option maxHeartbeats 8000000 in
set_option maxRecDepth 100000 in
theorem impl_finiteWhirls_1.calls (a0_0 : (Nat × Nat)) (a0_1 : Nat) (r : Bool) (w : World) (h : impl_finiteWhirls_1.f a0_0 a0_1 = some r) :
    Calls Try.prog 179 #[.agg #[.complex .f32 a0_0.1 a0_0.2, .float .f32 a0_1]] w fun e w' => e = .returned (.bool r) ∧ Below w.heap.size w w' := by
  have hu46 := Try.underlying46; have HB := AS (Below.refl w.heap.size w); have H : ((XW.IsFiniteComplex.f a0_0).bind fun t240 => (if t240 = true then ((XL.IsFinite.f a0_1).bind fun t241 => (some (!t241))) else (some true))) = some r := h; clear h; replace H := Option.bind_eq_some_iff.mp H; obtain ⟨t240, A20, H⟩ := H; replace H : (if t240 = true then ((XL.IsFinite.f a0_1).bind fun t241 => (some (!t241))) else (some true)) = some r := H; have A2 := Aside0.mk A20; clear A20; by_cases c3 : t240 = true
  · subst c3
    have H1 : ((XL.IsFinite.f a0_1).bind fun t241 => (some (!t241))) = some r := (by rw [if_pos rfl] at H; exact H); clear H; have H := H1; clear H1; replace H := Option.bind_eq_some_iff.mp H; obtain ⟨t241, A40, H⟩ := H; replace H : (some (!t241)) = some r := H; have A4 := Aside0.mk A40; clear A40; obtain rfl := Option.some.inj H; go_enter Try.func179, Try.ntmps179; go_wp2_with (first | ((with_reducible refine gate_dst (N := 1) rfl ?_); refine box_event ?hg (N := 1) ?hd (cs := #[.complex .f32 a0_0.1 a0_0.2, .float .f32 a0_1]) (t := 46) ?hr ?_; (case hd => rfl); (case hg => rfl); (case hr => first | (go_simp; done) | (go_simp; rfl)); intro gb239 hg w5 hbox hb; have BK239 := AS (hbox); have GW239 := BG HB hg; have GE239 := BG HB hg; replace HB := BB HB hb; clear hb hbox hg; have hcz6_0 : w5.cell? ⟨gb239, 0, none⟩ = some (.complex .f32 a0_0.1 a0_0.2) := (blk_cell BK239.out 0).trans rfl; have hcz6_1 : w5.cell? ⟨gb239, 1, none⟩ = some (.float .f32 a0_1) := (blk_cell BK239.out 1).trans rfl; have hfz6_0 := blk_frozen BK239.out 0; have hfz6_1 := blk_frozen BK239.out 1) | ((with_reducible refine gate_callee (f := 97) rfl ?_); refine goesM 5 Try.func97 #[.complex .f32 a0_0.1 a0_0.2] ?_; (with_reducible refine (XW.IsFiniteComplex.calls a0_0 true _ A2.out).mono ?_); rintro e w7 ⟨rfl, hb⟩; refine ⟨_, rfl, ?_⟩; replace BK239 := KB BK239 hb; replace HB := BB HB hb; (try clear hb); (try clear hb2); (try clear hk); (try clear hi); have hcz8_0 : w7.cell? ⟨gb239, 0, none⟩ = some (.complex .f32 a0_0.1 a0_0.2) := (blk_cell BK239.out 0).trans rfl; have hcz8_1 : w7.cell? ⟨gb239, 1, none⟩ = some (.float .f32 a0_1) := (blk_cell BK239.out 1).trans rfl; have hfz8_0 := blk_frozen BK239.out 0; have hfz8_1 := blk_frozen BK239.out 1) | (go_at_call 72; (with_reducible refine (XL.IsFinite.calls a0_1 t241 _ A4.out).mono ?_); rintro e w' ⟨rfl, ⟨nd, rfl⟩⟩)); go_ret; exact ⟨by first | rfl | (simp [errW_none, errW_some] <;> rfl) | (simp [*, errW_none, errW_some] <;> rfl), BW HB⟩
  · replace c3 := Bool.eq_false_iff.mpr c3
    subst c3; have H1 : (some true) = some r := (by rw [if_neg (show ¬ (false = true) by decide)] at H; exact H); clear H; have H := H1; clear H1; obtain rfl := Option.some.inj H; go_enter Try.func179, Try.ntmps179; go_wp2_with (first | ((with_reducible refine gate_dst (N := 1) rfl ?_); refine box_event ?hg (N := 1) ?hd (cs := #[.complex .f32 a0_0.1 a0_0.2, .float .f32 a0_1]) (t := 46) ?hr ?_; (case hd => rfl); (case hg => rfl); (case hr => first | (go_simp; done) | (go_simp; rfl)); intro gb239 hg w9 hbox hb; have BK239 := AS (hbox); have GW239 := BG HB hg; have GE239 := BG HB hg; replace HB := BB HB hb; clear hb hbox hg; have hcz10_0 : w9.cell? ⟨gb239, 0, none⟩ = some (.complex .f32 a0_0.1 a0_0.2) := (blk_cell BK239.out 0).trans rfl; have hcz10_1 : w9.cell? ⟨gb239, 1, none⟩ = some (.float .f32 a0_1) := (blk_cell BK239.out 1).trans rfl; have hfz10_0 := blk_frozen BK239.out 0; have hfz10_1 := blk_frozen BK239.out 1) | ((with_reducible refine gate_callee (f := 97) rfl ?_); refine goesM 5 Try.func97 #[.complex .f32 a0_0.1 a0_0.2] ?_; (with_reducible refine (XW.IsFiniteComplex.calls a0_0 false _ A2.out).mono ?_); rintro e w11 ⟨rfl, hb⟩; refine ⟨_, rfl, ?_⟩; replace BK239 := KB BK239 hb; replace HB := BB HB hb; (try clear hb); (try clear hb2); (try clear hk); (try clear hi))); go_ret; exact ⟨by first | rfl | (simp [errW_none, errW_some] <;> rfl) | (simp [*, errW_none, errW_some] <;> rfl), BW HB⟩
def impl_Whirl_188.l0 : Nat → List (S46) → Int → Int → Option (Int)
  | 0, _, _, _ => none
  | k + 1, x0, x7, x8 => if x8 < x7 then (if 0 ≤ x8 then (if x8 < (x0.length : Int) then ((impl_finiteWhirls_1.f ((rd_T46 x0 x8).f0) ((rd_T46 x0 x8).f1)).bind fun t243 => (if t243 = true then (some x8) else (impl_Whirl_188.l0 k x0 x7 (wrap64 (x8 + 1))))) else (none)) else (none)) else (some (-1))
def impl_Whirl_188.f (k : Nat) (l0 : List (S46))  : Option (Int) := impl_Whirl_188.l0 k l0 (l0.length : Int) 0
set_option maxHeartbeats 8000000 in
set_option maxRecDepth 100000 in
theorem impl_Whirl_188.calls (k : Nat) (A0 : Option Addr) (c0 : Nat) (l0 : List (S46))  (r : Int) (w : World) (hr0 : Kd.C k46 w A0 l0.length l0) (hc0 : l0.length ≤ c0) (h : impl_Whirl_188.f k l0 = some r) :
    Calls Try.prog 188 #[.slice A0 l0.length c0, .func (.func 179) #[] #[]] w fun e w' => e = .returned (.int .i64 r) ∧ Below w.heap.size w w' := by
  have hu46 := Try.underlying46; have HR0 := Aside0.mk hr0; have HC0 := Aside0.mk hc0; clear hr0 hc0; have HB := AS (Below.refl w.heap.size w); have H : (impl_Whirl_188.l0 k l0 (l0.length : Int) 0) = some r := h; clear h; have H' := Aside0.mk H; clear H; go_enter Try.func188, Try.ntmps188; go_wp2; go_loopg [8] k (fun kq v8 w' => ∃ (x8_1 : Int), v8 = .int .i64 x8_1 ∧ Aside0 (impl_Whirl_188.l0 kq l0 (l0.length : Int) x8_1 = some r) ∧ Aside0 (kq ≤ k) ∧ Aside0 (Below w.heap.size w w'))
  case atStart => exact ⟨(0), (by first | rfl | (simp; done) | (simp [*]; done)), H', ⟨Nat.le_refl _⟩, ⟨BW HB⟩⟩
  case round =>
    clear H'; (try clear c1); (try clear p2); obtain ⟨x8_1, rfl, HA, HK1, HB⟩ := hrel; cases gk with
    | zero => exact absurd HA.out (by simp [impl_Whirl_188.l0])
    | succ k1 =>
      have H := HA.out; clear HA; simp only [impl_Whirl_188.l0] at H; by_cases c3 : x8_1 < (l0.length : Int)
      · rw [if_pos c3] at H
        have c3b0 : decide (x8_1 < (l0.length : Int)) = true := decide_eq_true c3; clear c3; by_cases c4 : 0 ≤ x8_1
        · rw [if_pos c4] at H
          have c4b0 : decide (0 ≤ x8_1) = true := decide_eq_true c4; clear c4; by_cases c5 : x8_1 < (l0.length : Int)
          · rw [if_pos c5] at H
            have c5b0 : decide (x8_1 < (l0.length : Int)) = true := decide_eq_true c5; clear c5; replace H := Option.bind_eq_some_iff.mp H; obtain ⟨t243, A60, H⟩ := H; replace H : (if t243 = true then (some x8_1) else (impl_Whirl_188.l0 k1 l0 (l0.length : Int) (wrap64 (x8_1 + 1)))) = some r := H; have A6 := Aside0.mk A60; clear A60; by_cases c7 : t243 = true
            · subst c7
              have H1 : (some x8_1) = some r := (by rw [if_pos rfl] at H; exact H); clear H; have H := H1; clear H1; obtain rfl := Option.some.inj H; have p242 : 0 ≤ (x8_1 : Int) := of_decide_eq_true (by first | (with_reducible assumption) | assumption); have q242 : x8_1 < (l0.length : Int) := of_decide_eq_true (by first | (with_reducible assumption) | assumption); obtain ⟨ad242, e242, hx242_0, hx242_1⟩ := at_T46 HR0.out x8_1 p242 q242; cases e242; replace hx242_0 := (HB.out.cell (World.block_lt_of_cell? w _ hx242_0)).trans hx242_0; replace hx242_1 := (HB.out.cell (World.block_lt_of_cell? w _ hx242_1)).trans hx242_1; replace p242 := eq_true p242; replace q242 := eq_true q242; go_wp2_with (first | (go_at_call 179; (with_reducible refine (impl_finiteWhirls_1.calls ((rd_T46 l0 x8_1).f0) ((rd_T46 l0 x8_1).f1) true _ A6.out).mono ?_); rintro e w8 ⟨rfl, hb⟩; replace HB := BB HB hb; (try clear hb); (try clear hb2); (try clear hk); (try clear hi))); go_ret; exact ⟨by first | rfl | (simp [errW_none, errW_some] <;> rfl) | (simp [*, errW_none, errW_some] <;> rfl), BW HB⟩
            · replace c7 := Bool.eq_false_iff.mpr c7
              subst c7; have H1 : (impl_Whirl_188.l0 k1 l0 (l0.length : Int) (wrap64 (x8_1 + 1))) = some r := (by rw [if_neg (show ¬ (false = true) by decide)] at H; exact H); clear H; have H := H1; clear H1; have H' := Aside0.mk H; clear H; have p242 : 0 ≤ (x8_1 : Int) := of_decide_eq_true (by first | (with_reducible assumption) | assumption); have q242 : x8_1 < (l0.length : Int) := of_decide_eq_true (by first | (with_reducible assumption) | assumption); obtain ⟨ad242, e242, hx242_0, hx242_1⟩ := at_T46 HR0.out x8_1 p242 q242; cases e242; replace hx242_0 := (HB.out.cell (World.block_lt_of_cell? w _ hx242_0)).trans hx242_0; replace hx242_1 := (HB.out.cell (World.block_lt_of_cell? w _ hx242_1)).trans hx242_1; replace p242 := eq_true p242; replace q242 := eq_true q242; go_wp2_with (first | (go_at_call 179; (with_reducible refine (impl_finiteWhirls_1.calls ((rd_T46 l0 x8_1).f0) ((rd_T46 l0 x8_1).f1) false _ A6.out).mono ?_); rintro e w9 ⟨rfl, hb⟩; replace HB := BB HB hb; (try clear hb); (try clear hb2); (try clear hk); (try clear hi))); go_roundg k1
              case measure => have := HK1.out; omega
              case rel => exact ⟨(wrap64 (x8_1 + 1)), (by first | rfl | (simp; done) | (simp [*]; done)), H', ⟨by have := HK1.out; omega⟩, ⟨BW HB⟩⟩
          · rw [if_neg c5] at H
            exact absurd H (by simp)
        · rw [if_neg c4] at H
          exact absurd H (by simp)
      · rw [if_neg c3] at H
        have c3b0 : decide (x8_1 < (l0.length : Int)) = false := decide_eq_false c3; clear c3; obtain rfl := Option.some.inj H; go_wp2; go_ret; exact ⟨by first | rfl | (simp [errW_none, errW_some] <;> rfl) | (simp [*, errW_none, errW_some] <;> rfl), BW HB⟩
def impl_Whirl_178.f (k : Nat) (l0 : List (S46))  : Option (Bool) := (impl_Whirl_188.f k l0).bind fun t244 => (some (decide (t244 ≥ 0)))
set_option maxHeartbeats 8000000 in
set_option maxRecDepth 100000 in
theorem impl_Whirl_178.calls (k : Nat) (A0 : Option Addr) (c0 : Nat) (l0 : List (S46))  (r : Bool) (w : World) (hr0 : Kd.C k46 w A0 l0.length l0) (hc0 : l0.length ≤ c0) (h : impl_Whirl_178.f k l0 = some r) :
    Calls Try.prog 178 #[.slice A0 l0.length c0, .func (.func 179) #[] #[]] w fun e w' => e = .returned (.bool r) ∧ Below w.heap.size w w' := by
  have HR0 := Aside0.mk hr0; have HC0 := Aside0.mk hc0; clear hr0 hc0; have HB := AS (Below.refl w.heap.size w); have H : ((impl_Whirl_188.f k l0).bind fun t244 => (some (decide (t244 ≥ 0)))) = some r := h; clear h; replace H := Option.bind_eq_some_iff.mp H; obtain ⟨t244, A30, H⟩ := H; replace H : (some (decide (t244 ≥ 0))) = some r := H; have A3 := Aside0.mk A30; clear A30; obtain rfl := Option.some.inj H; go_enter Try.func178, Try.ntmps178; go_wp2_with (first | ((with_reducible refine gate_callee (f := 188) rfl ?_); refine goesM 7 Try.func188 #[.slice A0 l0.length c0, .func (.func 179) #[] #[]] ?_; (with_reducible refine (impl_Whirl_188.calls k _ _ l0  t244 _ ?side1 ?side2 A3.out).mono ?_); (case side1 => exact CS HR0.out); (case side2 => exact HC0.out); rintro e w4 ⟨rfl, hb⟩; refine ⟨_, rfl, ?_⟩; replace HB := BB HB hb; (try clear hb); (try clear hb2); (try clear hk); (try clear hi))); go_ret; exact ⟨by first | rfl | (simp [errW_none, errW_some] <;> rfl) | (simp [*, errW_none, errW_some] <;> rfl), BW HB⟩
end Go.Proofs.Ytcgaccdiomcglaa.S0
end
section
namespace Go.Proofs.Ytcgaccdiomcglaa.S0
open Go.RowKit Go.Proofs.YtcgaccdiomcglaaW.PrintWords Go.Proofs.YtcgaccdiomcglaaW.PrintLast Go.Proofs.YtcgaccdiomcglaaW.PrintMore
attribute [local go_sem] max2_int min2_int max_two min_two max_three min_three max_four min_four
set_option linter.unusedVariables false
set_option linter.unusedSimpArgs false
attribute [local go_sem high] binOp_fge binOp_fle
def impl_finiteWhirls.f (k : Nat) (l0 : List (S46)) : Option (Bool) := (impl_Whirl_178.f k l0).bind fun t245 => (some (!t245))
set_option maxHeartbeats 8000000 in
set_option maxRecDepth 100000 in
theorem impl_finiteWhirls.calls (k : Nat) (A0 : Option Addr) (c0 : Nat) (l0 : List (S46)) (r : Bool) (w : World) (hr0 : Kd.C k46 w A0 l0.length l0) (hc0 : l0.length ≤ c0) (h : impl_finiteWhirls.f k l0 = some r) :
    Calls Try.prog 152 #[.slice A0 l0.length c0] w fun e w' => e = .returned (.bool r) ∧ Below w.heap.size w w' := by
  have HR0 := Aside0.mk hr0; have HC0 := Aside0.mk hc0; clear hr0 hc0; have HB := AS (Below.refl w.heap.size w); have H : ((impl_Whirl_178.f k l0).bind fun t245 => (some (!t245))) = some r := h; clear h; replace H := Option.bind_eq_some_iff.mp H; obtain ⟨t245, A20, H⟩ := H; replace H : (some (!t245)) = some r := H; have A2 := Aside0.mk A20; clear A20; obtain rfl := Option.some.inj H; go_enter Try.func152, Try.ntmps152; go_wp2_with (first | ((with_reducible refine gate_callee (f := 178) rfl ?_); refine goesM 4 Try.func178 #[.slice A0 l0.length c0, .func (.func 179) #[] #[]] ?_; (with_reducible refine (impl_Whirl_178.calls k _ _ l0  t245 _ ?side1 ?side2 A2.out).mono ?_); (case side1 => exact CS HR0.out); (case side2 => exact HC0.out); rintro e w3 ⟨rfl, hb⟩; refine ⟨_, rfl, ?_⟩; replace HB := BB HB hb; (try clear hb); (try clear hb2); (try clear hk); (try clear hi))); go_ret; exact ⟨by first | rfl | (simp [errW_none, errW_some] <;> rfl) | (simp [*, errW_none, errW_some] <;> rfl), BW HB⟩
def impl_AreWhirls.f (k : Nat) (l0 : List (S46)) : Option (Bool) := if (l0.length : Int) ≤ 32 then ((impl_finiteWhirls.f k l0).bind fun t246 => (some t246)) else (some false)
set_option maxHeartbeats 8000000 in
set_option maxRecDepth 100000 in
theorem impl_AreWhirls.calls (k : Nat) (A0 : Option Addr) (c0 : Nat) (l0 : List (S46)) (r : Bool) (w : World) (hr0 : Kd.C k46 w A0 l0.length l0) (hc0 : l0.length ≤ c0) (h : impl_AreWhirls.f k l0 = some r) :
    Calls Try.prog 82 #[.slice A0 l0.length c0] w fun e w' => e = .returned (.bool r) ∧ Below w.heap.size w w' := by
  have HR0 := Aside0.mk hr0; have HC0 := Aside0.mk hc0; clear hr0 hc0; have HB := AS (Below.refl w.heap.size w); have H : (if (l0.length : Int) ≤ 32 then ((impl_finiteWhirls.f k l0).bind fun t246 => (some t246)) else (some false)) = some r := h; clear h; by_cases c2 : (l0.length : Int) ≤ 32
  · rw [if_pos c2] at H
    have c2b0 : decide ((l0.length : Int) ≤ 32) = true := decide_eq_true c2; have c2b1 : decide (l0.length ≤ 32) = true := decide_eq_true (by omega); clear c2; replace H := Option.bind_eq_some_iff.mp H; obtain ⟨t246, A30, H⟩ := H; replace H : (some t246) = some r := H; have A3 := Aside0.mk A30; clear A30; obtain rfl := Option.some.inj H; go_enter Try.func82, Try.ntmps82; go_wp2_with (first | (go_at_call 152; (with_reducible refine (impl_finiteWhirls.calls k _ _ l0 t246 _ ?side1 ?side2 A3.out).mono ?_); (case side1 => exact CS HR0.out); (case side2 => exact HC0.out); rintro e w4 ⟨rfl, hb⟩; replace HB := BB HB hb; (try clear hb); (try clear hb2); (try clear hk); (try clear hi))); go_ret; exact ⟨by first | rfl | (simp [errW_none, errW_some] <;> rfl) | (simp [*, errW_none, errW_some] <;> rfl), BW HB⟩
  · rw [if_neg c2] at H
    have c2b0 : decide ((l0.length : Int) ≤ 32) = false := decide_eq_false c2; have c2b1 : decide (l0.length ≤ 32) = false := decide_eq_false (by omega); clear c2; obtain rfl := Option.some.inj H; go_enter Try.func82, Try.ntmps82; go_wp2; go_ret; exact ⟨by first | rfl | (simp [errW_none, errW_some] <;> rfl) | (simp [*, errW_none, errW_some] <;> rfl), BW HB⟩
def impl_toldWhirls.f (k : Nat) (l0 : List (S46)) : Option ((List (S46)) × Bool) := (impl_AreWhirls.f k l0).bind fun t247 => (if t247 = true then (some (l0, true)) else (some (([] : List (S46)), false)))
set_option maxHeartbeats 8000000 in
set_option maxRecDepth 100000 in
theorem impl_toldWhirls.calls (k : Nat) (P0_ : Nat → Prop) (u9000_ : Value) (l0 : List (S46)) (r1 : List (S46)) (r2 : Bool) (w0 w : World) (hB : Below w0.heap.size w0 w) (ho0 : Kd.R k46 46 w w0.heap.size P0_ u9000_ l0) (h : impl_toldWhirls.f k l0 = some (r1, r2)) :
    Calls Try.prog 91 #[u9000_] w fun e w' => ∃ v0_ : Value, e = .returned (.tuple #[v0_, .bool r2]) ∧ Kd.R k46 46 w' w0.heap.size (fun k_ => (P0_ k_ ∨ w.heap.size ≤ k_)) v0_ r1 ∧ Below w0.heap.size w0 w' ∧ Kept w w' (fun k_ => P0_ k_) := by
  have HO0 := AS (show Kd.R k46 46 w w0.heap.size (fun k_ => (P0_ k_ ∨ w.heap.size ≤ k_)) u9000_ l0 from Kd.R_mono ho0 (fun k_ hk => (.inl hk))); have HK := AS (Kept.refl w (fun k_ => P0_ k_)); have HW0 := Aside0.mk hB.size; have HB := Aside0.mk hB; clear hB; have H : ((impl_AreWhirls.f k l0).bind fun t247 => (if t247 = true then (some (l0, true)) else (some (([] : List (S46)), false)))) = some (r1, r2) := h; clear h; replace H := Option.bind_eq_some_iff.mp H; obtain ⟨t247, A20, H⟩ := H; replace H : (if t247 = true then (some (l0, true)) else (some (([] : List (S46)), false))) = some (r1, r2) := H; have A2 := Aside0.mk A20; clear A20; by_cases c3 : t247 = true
  · subst c3
    have H1 : (some (l0, true)) = some (r1, r2) := (by rw [if_pos rfl] at H; exact H); clear H; have H := H1; clear H1; simp only [Option.some.injEq, Prod.mk.injEq] at H; obtain ⟨rfl, rfl⟩ := H; obtain ⟨Ao4, co4, eo4⟩ := Kd.R_slice HO0.out; subst eo4; go_enter Try.func91, Try.ntmps91; go_wp2_with (first | ((with_reducible refine gate_callee (f := 82) rfl ?_); refine goesM 5 Try.func82 #[.slice Ao4 l0.length co4] ?_; (with_reducible refine (impl_AreWhirls.calls k _ _ l0 true _ ?side1 ?side2 A2.out).mono ?_); (case side1 => repeat (first | exact (Kd.R_reads' HO0.out).2.2 | (with_reducible refine Kd.C_alloc ?_ _) | (with_reducible refine Kd.C_drewN ?_ _) | (with_reducible refine Kd.C_drew ?_))); (case side2 => exact (Kd.R_reads' HO0.out).2.1); rintro e w5 ⟨rfl, hb⟩; refine ⟨_, rfl, ?_⟩; have n1_ := AS (Kept.below (S := (fun k_ => P0_ k_)) (by repeat (first | (with_reducible first | exact HK.out | apply Kept.alloc | apply Kept.drewN | apply Kept.drew) | exact HK.out)) hb); replace HO0 := RB HO0 hb; replace HB := BB HB hb; replace HK := n1_; clear n1_; (try clear hb); (try clear hb2); (try clear hk); (try clear hi))); go_ret2; exact ⟨_, by first | rfl | (simp [errW_none, errW_some] <;> rfl) | (simp [*, errW_none, errW_some] <;> rfl), by (with_reducible repeat (first | apply Kd.R_alloc | apply Kd.R_drewN | apply Kd.R_drew)); exact HO0.out, BW HB, by repeat (first | (with_reducible first | exact HK.out | apply Kept.alloc | apply Kept.drewN | apply Kept.drew) | exact HK.out)⟩
  · replace c3 := Bool.eq_false_iff.mpr c3
    subst c3; have H1 : (some (([] : List (S46)), false)) = some (r1, r2) := (by rw [if_neg (show ¬ (false = true) by decide)] at H; exact H); clear H; have H := H1; clear H1; simp only [Option.some.injEq, Prod.mk.injEq] at H; obtain ⟨rfl, rfl⟩ := H; obtain ⟨Ao6, co6, eo6⟩ := Kd.R_slice HO0.out; subst eo6; go_enter Try.func91, Try.ntmps91; go_wp2_with (first | ((with_reducible refine gate_callee (f := 82) rfl ?_); refine goesM 5 Try.func82 #[.slice Ao6 l0.length co6] ?_; (with_reducible refine (impl_AreWhirls.calls k _ _ l0 false _ ?side1 ?side2 A2.out).mono ?_); (case side1 => repeat (first | exact (Kd.R_reads' HO0.out).2.2 | (with_reducible refine Kd.C_alloc ?_ _) | (with_reducible refine Kd.C_drewN ?_ _) | (with_reducible refine Kd.C_drew ?_))); (case side2 => exact (Kd.R_reads' HO0.out).2.1); rintro e w7 ⟨rfl, hb⟩; refine ⟨_, rfl, ?_⟩; have n1_ := AS (Kept.below (S := (fun k_ => P0_ k_)) (by repeat (first | (with_reducible first | exact HK.out | apply Kept.alloc | apply Kept.drewN | apply Kept.drew) | exact HK.out)) hb); replace HO0 := RB HO0 hb; replace HB := BB HB hb; replace HK := n1_; clear n1_; (try clear hb); (try clear hb2); (try clear hk); (try clear hi))); go_ret2; exact ⟨_, by first | rfl | (simp [errW_none, errW_some] <;> rfl) | (simp [*, errW_none, errW_some] <;> rfl), by first | exact Kd.R_nil _ _ _ _ _ | exact Kd.N_nil _ _ _ _ _ | exact Kd.V_nil _ _ _ _ _ | exact Kd.Q_nil _ _ _ _ _ | exact Kd.S_nil _ _ _ _ _, BW HB, by repeat (first | (with_reducible first | exact HK.out | apply Kept.alloc | apply Kept.drewN | apply Kept.drew) | exact HK.out)⟩
def impl_Sheet_whirls.l0 : Nat → List (S46) → List (Nat × Nat) → Int → Int → List (Nat × Nat) → List Nat → Bool → Option ((List (S46)))
  | 0, _, _, _, _, _, _, _ => none
  | k + 1, x3, x10, x11, x12, x1000, x1001, x1002 => if x12 < x11 then (if 0 ≤ x12 then (if x12 < (x10.length : Int) then (if x12 < (x1001.length : Int) then (if x3.length < 11728124029610 then (impl_Sheet_whirls.l0 k (x3 ++ [(⟨rdOf ((0, 0) : Nat × Nat) x10 x12, rdOf (0 : Nat) x1001 x12⟩ : S46)]) x10 x11 (wrap64 (x12 + 1)) x1000 x1001 x1002) else (none)) else (none)) else (none)) else (none)) else (some x3)
def impl_Sheet_whirls.f (k : Nat) (l0_0 : List (Nat × Nat)) (l0_1 : List Nat) (a0_2 : Bool) : Option ((List (S46))) := impl_Sheet_whirls.l0 k (([] : List (S46))) l0_0 (l0_0.length : Int) 0 l0_0 l0_1 a0_2
set_option maxHeartbeats 8000000 in
set_option maxRecDepth 100000 in
theorem impl_Sheet_whirls.calls (k : Nat) (g0 : Nat) (A0_0 : Option Addr) (c0_0 : Nat) (l0_0 : List (Nat × Nat)) (A0_1 : Option Addr) (c0_1 : Nat) (l0_1 : List Nat) (a0_2 : Bool) (r : List (S46)) (w : World) (hb0_ : w.heap[g0]? = some (.cells #[.slice A0_0 l0_0.length c0_0, .slice A0_1 l0_1.length c0_1, .bool a0_2] 58 (0, 0))) (hr0_0 : Kd.C (Kd.complex .f32) w A0_0 l0_0.length l0_0) (hc0_0 : l0_0.length ≤ c0_0) (hr0_1 : Kd.C (Kd.float .f32) w A0_1 l0_1.length l0_1) (hc0_1 : l0_1.length ≤ c0_1) (h : impl_Sheet_whirls.f k l0_0 l0_1 a0_2 = some r) :
    Calls Try.prog 125 #[.pointer (some ⟨g0, 0, none⟩)] w fun e w' => ∃ v0_ : Value, e = .returned (v0_) ∧ Kd.R k46 46 w' w.heap.size (fun _ => True) v0_ r ∧ Below w.heap.size w w' := by
  have hu46 := Try.underlying46; have HR0_0 := Aside0.mk hr0_0; have HC0_0 := Aside0.mk hc0_0; clear hr0_0 hc0_0; have HR0_1 := Aside0.mk hr0_1; have HC0_1 := Aside0.mk hc0_1; clear hr0_1 hc0_1; have BK0 := Aside0.mk hb0_; clear hb0_; have HB := AS (Below.refl w.heap.size w); have H : (impl_Sheet_whirls.l0 k (([] : List (S46))) l0_0 (l0_0.length : Int) 0 l0_0 l0_1 a0_2) = some r := h; clear h; obtain ⟨y248, hy248⟩ : ∃ y_ : List (S46), y_ = (([] : List (S46))) := ⟨_, rfl⟩; replace H : (impl_Sheet_whirls.l0 k y248 l0_0 (l0_0.length : Int) 0 l0_0 l0_1 a0_2) = some r := (by first | (rw [hy248]; with_reducible exact H) | (have H2_ := (Option.bind_some _ _).symm.trans H; rw [hy248]; with_reducible exact H2_) | (have H2_ := (Option.bind_some _ _).symm.trans H; with_reducible exact H2_) | with_reducible exact H | (rw [hy248]; exact H) | exact H); have Ny248 := Aside0.mk hy248; clear hy248; have H' := Aside0.mk H; clear H; go_enter Try.func125, Try.ntmps125; go_wp2_with (first | ((with_reducible refine gate_dst (N := 6) rfl ?_); refine Kd.R_lit k46 _ 46 ?hg (N := 6) ?hd (xs := ([] : List (S46))) (inner := []) (ok := fun _ => True) (okp := fun _ => True) ?hr ?hp (fun _ hk => hk) trivial (Below.refl _ _) (Nat.le_refl _) (by simp) ?_; (case hd => rfl); (case hg => rfl); (case hr => first | (go_simp; done) | (go_simp; rfl)); (case hp => exact (Reps.none _ _)); intro v249 w2 ho3 hb hg_ hnew_; clear hg_ hnew_; (first | rw [← Ny248.out] at ho3 | (simp only [Int.reduceToNat] at ho3; rw [← Ny248.out] at ho3)); have HO250 := AS (Kd.R_lower ho3 (below_size (BW HB))); replace BK0 := KB BK0 hb; replace HB := BB HB hb; clear hb ho3; have hcz4_0 : w2.cell? ⟨g0, 0, none⟩ = some (.slice A0_0 l0_0.length c0_0) := (blk_cell BK0.out 0).trans rfl; have hcz4_1 : w2.cell? ⟨g0, 1, none⟩ = some (.slice A0_1 l0_1.length c0_1) := (blk_cell BK0.out 1).trans rfl; have hcz4_2 : w2.cell? ⟨g0, 2, none⟩ = some (.bool a0_2) := (blk_cell BK0.out 2).trans rfl; have hfz4_0 := blk_frozen BK0.out 0; have hfz4_1 := blk_frozen BK0.out 1; have hfz4_2 := blk_frozen BK0.out 2)); go_loopg [3, 12] k (fun kq v3 v12 w' => ∃ (x3_1 : List (S46)) (x12_1 : Int), v12 = .int .i64 x12_1 ∧ Aside0 (impl_Sheet_whirls.l0 kq x3_1 l0_0 (l0_0.length : Int) x12_1 l0_0 l0_1 a0_2 = some r) ∧ Aside0 (kq ≤ k) ∧ Aside0 (Kd.R k46 46 w' w.heap.size (fun _ => True) v3 x3_1) ∧ Aside0 (w'.heap[g0]? = some (.cells #[(.slice A0_0 l0_0.length c0_0), (.slice A0_1 l0_1.length c0_1), .bool a0_2] 58 (0, 0))) ∧ Aside0 (Below w.heap.size w w'))
  case atStart => exact ⟨(y248), (0), (by first | rfl | (simp; done) | (simp [*]; done)), H', ⟨Nat.le_refl _⟩, ⟨RS HO250.out⟩, ⟨KS BK0.out⟩, ⟨BW HB⟩⟩
  case round =>
    clear H'; (try clear c1); (try clear p2); (try clear hcz4_0); (try clear hcz4_1); (try clear hcz4_2); (try clear hfz4_0); (try clear hfz4_1); (try clear hfz4_2); obtain ⟨x3_1, x12_1, rfl, HA, HK1, HO_3, BK0, HB⟩ := hrel; cases gk with
    | zero => exact absurd HA.out (by simp [impl_Sheet_whirls.l0])
    | succ k1 =>
      have H := HA.out; clear HA; simp only [impl_Sheet_whirls.l0] at H; by_cases c5 : x12_1 < (l0_0.length : Int)
      · rw [if_pos c5] at H
        have c5b0 : decide (x12_1 < (l0_0.length : Int)) = true := decide_eq_true c5; clear c5; by_cases c6 : 0 ≤ x12_1
        · rw [if_pos c6] at H
          have c6b0 : decide (0 ≤ x12_1) = true := decide_eq_true c6; clear c6; by_cases c7 : x12_1 < (l0_0.length : Int)
          · rw [if_pos c7] at H
            have c7b0 : decide (x12_1 < (l0_0.length : Int)) = true := decide_eq_true c7; clear c7; by_cases c8 : x12_1 < (l0_1.length : Int)
            · rw [if_pos c8] at H
              have c8b0 : decide (x12_1 < (l0_1.length : Int)) = true := decide_eq_true c8; clear c8; by_cases c9 : x3_1.length < 11728124029610
              · rw [if_pos c9] at H
                have LMc9 := Aside0.mk c9; clear c9; obtain ⟨y253, hy253⟩ : ∃ y_ : List (S46), y_ = (x3_1 ++ [(⟨rdOf ((0, 0) : Nat × Nat) l0_0 x12_1, rdOf (0 : Nat) l0_1 x12_1⟩ : S46)]) := ⟨_, rfl⟩; replace H : (impl_Sheet_whirls.l0 k1 y253 l0_0 (l0_0.length : Int) (wrap64 (x12_1 + 1)) l0_0 l0_1 a0_2) = some r := (by first | (rw [hy253]; with_reducible exact H) | (have H2_ := (Option.bind_some _ _).symm.trans H; rw [hy253]; with_reducible exact H2_) | (have H2_ := (Option.bind_some _ _).symm.trans H; with_reducible exact H2_) | with_reducible exact H | (rw [hy253]; exact H) | exact H); have Ny253 := Aside0.mk hy253; clear hy253; have H' := Aside0.mk H; clear H; have p251 : 0 ≤ (x12_1 : Int) := of_decide_eq_true (by first | (with_reducible assumption) | assumption); have q251 : x12_1 < (l0_0.length : Int) := of_decide_eq_true (by first | (with_reducible assumption) | assumption); obtain ⟨ad251, e251, hx251_0⟩ := Kd.at_complex HR0_0.out x12_1 p251 q251; cases e251; replace hx251_0 := (HB.out.cell (World.block_lt_of_cell? w _ hx251_0)).trans hx251_0; replace p251 := eq_true p251; replace q251 := eq_true q251; have hcz10_0 : wr.cell? ⟨g0, 0, none⟩ = some (.slice (some ad251) l0_0.length c0_0) := (blk_cell BK0.out 0).trans rfl; have hcz10_1 : wr.cell? ⟨g0, 1, none⟩ = some (.slice A0_1 l0_1.length c0_1) := (blk_cell BK0.out 1).trans rfl; have hcz10_2 : wr.cell? ⟨g0, 2, none⟩ = some (.bool a0_2) := (blk_cell BK0.out 2).trans rfl; have hfz10_0 := blk_frozen BK0.out 0; have hfz10_1 := blk_frozen BK0.out 1; have hfz10_2 := blk_frozen BK0.out 2; have p252 : 0 ≤ (x12_1 : Int) := of_decide_eq_true (by first | (with_reducible assumption) | assumption); have q252 : x12_1 < (l0_1.length : Int) := of_decide_eq_true (by first | (with_reducible assumption) | assumption); obtain ⟨ad252, e252, hx252_0⟩ := Kd.at_float HR0_1.out x12_1 p252 q252; cases e252; replace hx252_0 := (HB.out.cell (World.block_lt_of_cell? w _ hx252_0)).trans hx252_0; replace p252 := eq_true p252; replace q252 := eq_true q252; go_wp2_with (first | ((with_reducible refine gate_builtin (b := .append) (xs := #[.tmp 17, .tmp 27]) rfl ?_); at_builtin; refine Kd.R_append k46 (w0 := w) w.heap.size rfl (.tmp 17) (.tmp 27) 24 46 (.agg #[(.complex .f32 0 0), (.float .f32 0)]) 12 rfl Try.underlying24 info46 rfl (by decide) (by omega) u3 x3_1 (⟨rdOf ((0, 0) : Nat × Nat) l0_0 x12_1, rdOf (0 : Nat) l0_1 x12_1⟩ : S46) [.complex .f32 (rdOf ((0, 0) : Nat × Nat) l0_0 x12_1).1 (rdOf ((0, 0) : Nat × Nat) l0_0 x12_1).2, .float .f32 (rdOf (0 : Nat) l0_1 x12_1)] (fun _ => True) (fun _ => False) rfl rfl ?aP (fun _ hk => hk.elim) ?aF ?aO ?aB ?aS ?aL ?_; (case aP => exact k46_mkM _ _ _ (⟨rdOf ((0, 0) : Nat × Nat) l0_0 x12_1, rdOf (0 : Nat) l0_1 x12_1⟩ : S46)); (case aB => exact (BW HB)); (case aF => exact (fun _ _ => trivial)); (case aO => exact (RS HO_3.out)); (case aS => exact (below_size (BW HB))); (case aL => have := LMc9.out; omega); intro v254 w11 ho hb hg hat; rw [← Ny253.out] at ho; have n0_ := AS (blk_grown (g := g0) (o := .cells #[.slice (some ad251) l0_0.length c0_0, .slice (some ad252) l0_1.length c0_1, .bool a0_2] 58 (0, 0)) (KS BK0.out) hg (Kd.R_ne HO_3.out BK0.out (by decide))); have n1_ := AS (hb); have HO255 := AS (ho); replace BK0 := n0_; replace HB := n1_; clear HO_3; clear n0_ n1_; clear ho hb hg hat)); go_roundg k1
                case measure => have := HK1.out; omega
                case rel => exact ⟨(y253), (wrap64 (x12_1 + 1)), (by first | rfl | (simp; done) | (simp [*]; done)), H', ⟨by have := HK1.out; omega⟩, ⟨RS HO255.out⟩, ⟨KS BK0.out⟩, ⟨BW HB⟩⟩
              · rw [if_neg c9] at H
                exact absurd H (by simp)
            · rw [if_neg c8] at H
              exact absurd H (by simp)
          · rw [if_neg c7] at H
            exact absurd H (by simp)
        · rw [if_neg c6] at H
          exact absurd H (by simp)
      · rw [if_neg c5] at H
        have c5b0 : decide (x12_1 < (l0_0.length : Int)) = false := decide_eq_false c5; clear c5; obtain rfl := Option.some.inj H; go_wp2; go_ret; exact ⟨_, by first | rfl | (simp [errW_none, errW_some] <;> rfl) | (simp [*, errW_none, errW_some] <;> rfl), by (with_reducible repeat (first | apply Kd.R_alloc | apply Kd.R_drewN | apply Kd.R_drew)); exact HO_3.out, BW HB⟩
def impl_WhirlsOfSheet.f (k : Nat) (l0_0 : List (Nat × Nat)) (l0_1 : List Nat) (a0_2 : Bool) : Option ((List (S46)) × Bool) := (impl_ValidSheet.f k l0_0 l0_1 a0_2).bind fun t257 => (if t257 = true then ((impl_Sheet_whirls.f k l0_0 l0_1 a0_2).bind fun t258 => ((impl_toldWhirls.f k t258).bind fun bt261 => (some (bt261.1, bt261.2)))) else (some (([] : List (S46)), false)))
set_option maxHeartbeats 8000000 in
set_option maxRecDepth 100000 in
theorem impl_WhirlsOfSheet.calls (k : Nat) (A0_0 : Option Addr) (c0_0 : Nat) (l0_0 : List (Nat × Nat)) (A0_1 : Option Addr) (c0_1 : Nat) (l0_1 : List Nat) (a0_2 : Bool) (r1 : List (S46)) (r2 : Bool) (w : World) (hr0_0 : Kd.C (Kd.complex .f32) w A0_0 l0_0.length l0_0) (hc0_0 : l0_0.length ≤ c0_0) (hr0_1 : Kd.C (Kd.float .f32) w A0_1 l0_1.length l0_1) (hc0_1 : l0_1.length ≤ c0_1) (h : impl_WhirlsOfSheet.f k l0_0 l0_1 a0_2 = some (r1, r2)) :
    Calls Try.prog 45 #[.agg #[.slice A0_0 l0_0.length c0_0, .slice A0_1 l0_1.length c0_1, .bool a0_2]] w fun e w' => ∃ v0_ : Value, e = .returned (.tuple #[v0_, .bool r2]) ∧ Kd.R k46 46 w' w.heap.size (fun _ => True) v0_ r1 ∧ Below w.heap.size w w' := by
  have hu58 := Try.underlying58; have HR0_0 := Aside0.mk hr0_0; have HC0_0 := Aside0.mk hc0_0; clear hr0_0 hc0_0; have HR0_1 := Aside0.mk hr0_1; have HC0_1 := Aside0.mk hc0_1; clear hr0_1 hc0_1; have HB := AS (Below.refl w.heap.size w); have H : ((impl_ValidSheet.f k l0_0 l0_1 a0_2).bind fun t257 => (if t257 = true then ((impl_Sheet_whirls.f k l0_0 l0_1 a0_2).bind fun t258 => ((impl_toldWhirls.f k t258).bind fun bt261 => (some (bt261.1, bt261.2)))) else (some (([] : List (S46)), false)))) = some (r1, r2) := h; clear h; replace H := Option.bind_eq_some_iff.mp H; obtain ⟨t257, A20, H⟩ := H; replace H : (if t257 = true then ((impl_Sheet_whirls.f k l0_0 l0_1 a0_2).bind fun t258 => ((impl_toldWhirls.f k t258).bind fun bt261 => (some (bt261.1, bt261.2)))) else (some (([] : List (S46)), false))) = some (r1, r2) := H; have A2 := Aside0.mk A20; clear A20; by_cases c3 : t257 = true
  · subst c3
    have H1 : ((impl_Sheet_whirls.f k l0_0 l0_1 a0_2).bind fun t258 => ((impl_toldWhirls.f k t258).bind fun bt261 => (some (bt261.1, bt261.2)))) = some (r1, r2) := (by rw [if_pos rfl] at H; exact H); clear H; have H := H1; clear H1; replace H := Option.bind_eq_some_iff.mp H; obtain ⟨t258, A40, H⟩ := H; replace H : ((impl_toldWhirls.f k t258).bind fun bt261 => (some (bt261.1, bt261.2))) = some (r1, r2) := H; have A4 := Aside0.mk A40; clear A40; replace H := Option.bind_eq_some_iff.mp H; obtain ⟨⟨t261, t264⟩, A50, H⟩ := H; replace H : (some (t261, t264)) = some (r1, r2) := H; have A5 := Aside0.mk A50; clear A50; simp only [Option.some.injEq, Prod.mk.injEq] at H; obtain ⟨rfl, rfl⟩ := H; go_enter Try.func45, Try.ntmps45; go_wp2_with (first | ((with_reducible refine gate_dst (N := 1) rfl ?_); refine box_event ?hg (N := 1) ?hd (cs := #[.slice A0_0 l0_0.length c0_0, .slice A0_1 l0_1.length c0_1, .bool a0_2]) (t := 58) ?hr ?_; (case hd => rfl); (case hg => rfl); (case hr => first | (go_simp; done) | (go_simp; rfl)); intro gb256 hg w6 hbox hb; have BK256 := AS (hbox); have GW256 := BG HB hg; have GE256 := BG HB hg; replace HB := BB HB hb; clear hb hbox hg; obtain ⟨hcz7_0, hcz7_1, hcz7_2, hfz7_0, hfz7_1, hfz7_2⟩ := CZ3 BK256) | ((with_reducible refine gate_callee (f := 38) rfl ?_); refine goesM 5 Try.func38 #[.agg #[.slice A0_0 l0_0.length c0_0, .slice A0_1 l0_1.length c0_1, .bool a0_2]] ?_; (with_reducible refine (impl_ValidSheet.calls k _ _ l0_0 _ _ l0_1 a0_2 true _ ?side1 ?side2 ?side3 ?side4 A2.out).mono ?_); (case side1 => exact CS (Kd.C_below HR0_0.out HB.out)); (case side2 => exact HC0_0.out); (case side3 => exact CS (Kd.C_below HR0_1.out HB.out)); (case side4 => exact HC0_1.out); rintro e w8 ⟨rfl, hb⟩; refine ⟨_, rfl, ?_⟩; replace BK256 := KB BK256 hb; replace HB := BB HB hb; (try clear hb); (try clear hb2); (try clear hk); (try clear hi)) | ((with_reducible refine gate_callee (f := 125) rfl ?_); refine goesM 7 Try.func125 #[.pointer (some ⟨gb256, 0, none⟩)] ?_; (with_reducible refine (impl_Sheet_whirls.calls k gb256 A0_0 c0_0 l0_0 A0_1 c0_1 l0_1 a0_2 t258 _ ?side1 ?side2 ?side3 ?side4 ?side5 A4.out).mono ?_); (case side1 => exact (KS BK256.out)); (case side2 => exact CS (Kd.C_below HR0_0.out HB.out)); (case side3 => exact HC0_0.out); (case side4 => exact CS (Kd.C_below HR0_1.out HB.out)); (case side5 => exact HC0_1.out); rintro e w9 ⟨v259, rfl, ho0, hb⟩; refine ⟨_, rfl, ?_⟩; have HO260 := AS (Kd.R_lower ho0 (below_size (BW HB))); replace BK256 := KB BK256 hb; replace HB := BB HB hb; (try clear hb); (try clear hb2); (try clear hk); (try clear hi); (try clear ho0); obtain ⟨Ao10, co10, eo10⟩ := Kd.R_slice HO260.out; subst eo10) | ((with_reducible refine gate_callee (f := 91) rfl ?_); refine goesM 8 Try.func91 #[.slice Ao10 t258.length co10] ?_; (with_reducible refine (impl_toldWhirls.calls k (fun k_ => some k_ = (.slice Ao10 t258.length co10 : Value).ownBlock) (.slice Ao10 t258.length co10) t258 t261 t264 w _ ?side1 ?side2 A5.out).mono ?_); (case side1 => repeat (first | (with_reducible first | exact HB.out | apply below_alloc | apply pw_below_drewN | apply below_drew1 | refine below_set ?_ GE256.out) | exact HB.out)); (case side2 => exact Kd.R_tight rfl HO260.out); rintro e w11 ⟨v262, rfl, ho0, hb, hkp⟩; refine ⟨_, rfl, ?_⟩; have n0_ := AS (blk_kept (KS BK256.out) hkp (fun hs_ => (fun e_ => (Kd.R_ne HO260.out BK256.out (by decide)) e_) hs_)); have HO263 := AS (Kd.R_mono (ok' := fun k_ => True) ho0 (fun k_ hk_ => trivial)); have n2_ := AS (hb); replace BK256 := n0_; replace HB := n2_; clear HO260; clear n0_ n2_; (try clear hb); (try clear hkp); (try clear ho0))); go_ret2; exact ⟨_, by first | rfl | (simp [errW_none, errW_some] <;> rfl) | (simp [*, errW_none, errW_some] <;> rfl), by (with_reducible repeat (first | apply Kd.R_alloc | apply Kd.R_drewN | apply Kd.R_drew)); exact HO263.out, BW HB⟩
  · replace c3 := Bool.eq_false_iff.mpr c3
    subst c3; have H1 : (some (([] : List (S46)), false)) = some (r1, r2) := (by rw [if_neg (show ¬ (false = true) by decide)] at H; exact H); clear H; have H := H1; clear H1; simp only [Option.some.injEq, Prod.mk.injEq] at H; obtain ⟨rfl, rfl⟩ := H; go_enter Try.func45, Try.ntmps45; go_wp2_with (first | ((with_reducible refine gate_dst (N := 1) rfl ?_); refine box_event ?hg (N := 1) ?hd (cs := #[.slice A0_0 l0_0.length c0_0, .slice A0_1 l0_1.length c0_1, .bool a0_2]) (t := 58) ?hr ?_; (case hd => rfl); (case hg => rfl); (case hr => first | (go_simp; done) | (go_simp; rfl)); intro gb256 hg w12 hbox hb; have BK256 := AS (hbox); have GW256 := BG HB hg; have GE256 := BG HB hg; replace HB := BB HB hb; clear hb hbox hg; obtain ⟨hcz13_0, hcz13_1, hcz13_2, hfz13_0, hfz13_1, hfz13_2⟩ := CZ3 BK256) | ((with_reducible refine gate_callee (f := 38) rfl ?_); refine goesM 5 Try.func38 #[.agg #[.slice A0_0 l0_0.length c0_0, .slice A0_1 l0_1.length c0_1, .bool a0_2]] ?_; (with_reducible refine (impl_ValidSheet.calls k _ _ l0_0 _ _ l0_1 a0_2 false _ ?side1 ?side2 ?side3 ?side4 A2.out).mono ?_); (case side1 => exact CS (Kd.C_below HR0_0.out HB.out)); (case side2 => exact HC0_0.out); (case side3 => exact CS (Kd.C_below HR0_1.out HB.out)); (case side4 => exact HC0_1.out); rintro e w14 ⟨rfl, hb⟩; refine ⟨_, rfl, ?_⟩; replace BK256 := KB BK256 hb; replace HB := BB HB hb; (try clear hb); (try clear hb2); (try clear hk); (try clear hi))); go_ret2; exact ⟨_, by first | rfl | (simp [errW_none, errW_some] <;> rfl) | (simp [*, errW_none, errW_some] <;> rfl), by first | exact Kd.R_nil _ _ _ _ _ | exact Kd.N_nil _ _ _ _ _ | exact Kd.V_nil _ _ _ _ _ | exact Kd.Q_nil _ _ _ _ _ | exact Kd.S_nil _ _ _ _ _, BW HB⟩
def impl_cloneSheet.f (l0_0 : List (Nat × Nat)) (l0_1 : List Nat) (a0_2 : Bool) : Option (List (Nat × Nat) × List Nat × Bool) := (XK.cloneC.f l0_0).bind fun t267 => ((XK.cloneF.f l0_1).bind fun t270 => (some (t267, t270, a0_2)))
def impl_cloneSheet.T1 : Bool × List (List Nat × List Nat) := (true, [([], []), ([0], [0]), ([1], [1]), ([], []), ([3], [3]), ([4, 2], [4]), ([], []), ([6], [6]), ([2, 5, 7], [2, 5, 7]), ([8, 5, 0, 1, 2, 3, 4, 5, 6, 7, 8], [8])])
def impl_cloneSheet.B1 : List Nat := [0, 1, 3, 0, 8, 31, 0, 64, 255, 511]
theorem impl_cloneSheet.tab1 : rtab .any (opsOf Try.f159 1) = impl_cloneSheet.T1 := by kernel_rfl
theorem impl_cloneSheet.bits1 : waitsOk impl_cloneSheet.T1.2 impl_cloneSheet.B1 = true := by kernel_rfl
set_option maxHeartbeats 8000000 in
set_option maxRecDepth 100000 in
theorem impl_cloneSheet.calls (A0_0 : Option Addr) (c0_0 : Nat) (l0_0 : List (Nat × Nat)) (A0_1 : Option Addr) (c0_1 : Nat) (l0_1 : List Nat) (a0_2 : Bool) (r1 : List (Nat × Nat)) (r2 : List Nat) (r3 : Bool) (w : World) (hr0_0 : Kd.C (Kd.complex .f32) w A0_0 l0_0.length l0_0) (hc0_0 : l0_0.length ≤ c0_0) (hr0_1 : Kd.C (Kd.float .f32) w A0_1 l0_1.length l0_1) (hc0_1 : l0_1.length ≤ c0_1) (h : impl_cloneSheet.f l0_0 l0_1 a0_2 = some (r1, r2, r3)) :
    Calls Try.prog 159 #[.agg #[.slice A0_0 l0_0.length c0_0, .slice A0_1 l0_1.length c0_1, .bool a0_2]] w fun e w' => ∃ v0_ v1_ : Value, e = .returned (.agg #[v0_, v1_, .bool r3]) ∧ Kd.R (Kd.complex .f32) 26 w' w.heap.size (fun _ => True) v0_ r1 ∧ Kd.R (Kd.float .f32) 27 w' w.heap.size (fun _ => True) v1_ r2 ∧ Below w.heap.size w w' := by
  have hu58 := Try.underlying58; have HR0_0 := Aside0.mk hr0_0; have HC0_0 := Aside0.mk hc0_0; clear hr0_0 hc0_0; have HR0_1 := Aside0.mk hr0_1; have HC0_1 := Aside0.mk hc0_1; clear hr0_1 hc0_1; have HB := AS (Below.refl w.heap.size w); have H : ((XK.cloneC.f l0_0).bind fun t267 => ((XK.cloneF.f l0_1).bind fun t270 => (some (t267, t270, a0_2)))) = some (r1, r2, r3) := h; clear h; replace H := Option.bind_eq_some_iff.mp H; obtain ⟨t267, A20, H⟩ := H; replace H : ((XK.cloneF.f l0_1).bind fun t270 => (some (t267, t270, a0_2))) = some (r1, r2, r3) := H; have A2 := Aside0.mk A20; clear A20; replace H := Option.bind_eq_some_iff.mp H; obtain ⟨t270, A30, H⟩ := H; replace H : (some (t267, t270, a0_2)) = some (r1, r2, r3) := H; have A3 := Aside0.mk A30; clear A30; simp only [Option.some.injEq, Prod.mk.injEq] at H; obtain ⟨rfl, rfl, rfl⟩ := H; go_enter Try.func159, Try.ntmps159; (try go_wp2_with (first | ((with_reducible refine gate_dst (N := 1) rfl ?_); refine box_event ?hg (N := 1) ?hd (cs := #[.slice A0_0 l0_0.length c0_0, .slice A0_1 l0_1.length c0_1, .bool a0_2]) (t := 58) ?hr ?_; (case hd => rfl); (case hg => rfl); (case hr => first | (go_simp; done) | (go_simp; rfl)); intro gb265 hg w4 hbox hb; have BK265 := AS (hbox); have GW265 := BG HB hg; have GE265 := BG HB hg; replace HB := BB HB hb; clear hb hbox hg) | ((with_reducible refine gate_dst (N := 2) rfl ?_); refine box_event ?hg (N := 2) ?hd (cs := #[.slice none 0 0, .slice none 0 0, .bool false]) (t := 58) ?hr ?_; (case hd => rfl); (case hg => rfl); (case hr => first | (go_simp; done) | (go_simp; rfl)); intro gb266 hg w5 hbox hb; have BK266 := AS (hbox); have GW266 := BG HB hg; have GE266 := BG HB hg; have NB265_266 := KN BK265 hg; have NB266_265 := KM BK265 hg; replace BK265 := KB BK265 hb; replace HB := BB HB hb; clear hb hbox hg))); have n0_ := AS (blk_drew BK265.out); have n1_ := AS (blk_drew BK266.out); have n2_ := AS (below_drew1 HB.out); replace BK265 := n0_; replace BK266 := n1_; replace HB := n2_; clear n0_ n1_ n2_; refine start_ (n := 10) (S := fun w' => w'.cell? ⟨gb265, 0, none⟩ = some (.slice A0_0 l0_0.length c0_0) ∧ w'.cell? ⟨gb265, 1, none⟩ = some (.slice A0_1 l0_1.length c0_1) ∧ w'.cell? ⟨gb265, 2, none⟩ = some (.bool a0_2)) (ds := []) #[false, false, false, false, false, false, false, false, false, false] (by kernel_rfl) rfl rfl ⟨(blk_cell BK265.out 0).trans rfl, (blk_cell BK265.out 1).trans rfl, (blk_cell BK265.out 2).trans rfl⟩ (fun hHeld => ?_); refine with_tabW impl_cloneSheet.tab1 impl_cloneSheet.bits1 (fun HT_ HW_ => ?_); generalize w5.drew = w6 at BK265 BK266 HB hHeld ⊢; refine pureT 0 3 HT_.out ?_; refine pureT 3 6 HT_.out ?_; refine pureT 6 9 HT_.out ?_; refine takeS (i := 1) (N := some 4) (v := ?_) (a' := ?_) rfl rfl (take_ofW HT_.out HW_.out (by kernel_rfl)) (fun _ _ _ h => h) (Or.inl ⟨by rfl, ?_⟩) hHeld ?_ ?_; rotate_left; (· rintro w' ⟨s0, s1, s2⟩; go_simp; with_reducible rfl); rotate_left; (· simp only [Act.put, List.setIfInBounds_toArray, List.set_cons_zero, List.set_cons_succ, i64_w, i32_w]; rfl); refine takeS (i := 4) (N := some 7) (v := ?_) (a' := ?_) rfl rfl (take_ofW HT_.out HW_.out (by kernel_rfl)) (fun _ _ _ h => h) (Or.inl ⟨by rfl, ?_⟩) hHeld ?_ ?_; rotate_left; (· rintro w' ⟨s0, s1, s2⟩; go_simp; with_reducible rfl); rotate_left; (· simp only [Act.put, List.setIfInBounds_toArray, List.set_cons_zero, List.set_cons_succ, i64_w, i32_w]; rfl); refine takeS (i := 7) (N := some 10) (v := ?_) (a' := ?_) rfl rfl (take_ofW HT_.out HW_.out (by kernel_rfl)) (fun _ _ _ h => h) (Or.inl ⟨by rfl, ?_⟩) hHeld ?_ ?_; rotate_left; (· rintro w' ⟨s0, s1, s2⟩; go_simp; with_reducible rfl); rotate_left; (· simp only [Act.put, List.setIfInBounds_toArray, List.set_cons_zero, List.set_cons_succ, i64_w, i32_w]; rfl); refine one_ (i := 2) (N := some 5) #[true, true, true, true, true, false, true, true, false, false] rfl rfl (one_of HT_.out (by kernel_rfl)) (by decide) (fun K hK => ?_); refine goes_ Try.func134 (by kernel_rfl) rfl #[.slice A0_0 l0_0.length c0_0] (by rfl) rfl rfl (by (try simp only [List.map_toArray, List.map_cons, List.map_nil]); first | done | rfl | (simp only [List.length_drop, List.length_take]; rfl)) ?_; (with_reducible refine (XK.cloneC.calls _ _ l0_0 t267 _ ?side1 ?side2 A2.out).mono ?_); (case side1 => exact CS (Kd.C_below HR0_0.out HB.out)); (case side2 => exact HC0_0.out); rintro e w7 ⟨v268, rfl, ho0, hb⟩; refine ⟨_, rfl, ?_⟩; have HO269 := AS (Kd.R_lower ho0 (below_size (BW HB))); replace BK265 := KB BK265 hb; replace BK266 := KB BK266 hb; replace HB := BB HB hb; (try clear hb); (try clear hb2); (try clear hk); (try clear hi); (try clear ho0); refine hK.out _ _ ⟨(blk_cell BK265.out 0).trans rfl, (blk_cell BK265.out 1).trans rfl, (blk_cell BK265.out 2).trans rfl⟩ (fun hHeld => ?_); clear hK K; refine norm_ (a' := ?_) ?_ ?_; rotate_left
  · show Act.put _ (some 5) _ = _
    simp only [Act.put, List.setIfInBounds_toArray, List.set_cons_zero, List.set_cons_succ, i64_w, i32_w]; rfl
  refine one_ (i := 5) (N := some 8) #[true, true, true, true, true, true, true, true, false, false] rfl rfl (one_of HT_.out (by kernel_rfl)) (by decide) (fun K hK => ?_); refine goes_ Try.func182 (by kernel_rfl) rfl #[.slice A0_1 l0_1.length c0_1] (by rfl) rfl rfl (by (try simp only [List.map_toArray, List.map_cons, List.map_nil]); first | done | rfl | (simp only [List.length_drop, List.length_take]; rfl)) ?_; (with_reducible refine (XK.cloneF.calls _ _ l0_1 t270 _ ?side1 ?side2 A3.out).mono ?_); (case side1 => exact CS (Kd.C_below HR0_1.out HB.out)); (case side2 => exact HC0_1.out); rintro e w8 ⟨v271, rfl, ho0, hb⟩; refine ⟨_, rfl, ?_⟩; have HO272 := AS (Kd.R_lower ho0 (below_size (BW HB))); replace HO269 := RB HO269 hb; replace BK265 := KB BK265 hb; replace BK266 := KB BK266 hb; replace HB := BB HB hb; (try clear hb); (try clear hb2); (try clear hk); (try clear hi); (try clear ho0); obtain ⟨Ao9, co9, eo9⟩ := Kd.R_slice HO272.out; (first | subst eo9 | (injection eo9 with f1_ f2_ f3_; have f4_ := f1_.symm; have f5_ := f3_.symm; clear f1_ f2_ f3_; subst f4_; subst f5_)); obtain ⟨Ao10, co10, eo10⟩ := Kd.R_slice HO269.out; (first | subst eo10 | (injection eo10 with f1_ f2_ f3_; have f4_ := f1_.symm; have f5_ := f3_.symm; clear f1_ f2_ f3_; subst f4_; subst f5_)); refine hK.out _ _ ⟨(blk_cell BK265.out 0).trans rfl, (blk_cell BK265.out 1).trans rfl, (blk_cell BK265.out 2).trans rfl⟩ (fun hHeld => ?_); clear hK K; refine norm_ (a' := ?_) ?_ ?_; rotate_left
  · show Act.put _ (some 8) _ = _
    simp only [Act.put, List.setIfInBounds_toArray, List.set_cons_zero, List.set_cons_succ, i64_w, i32_w]; rfl
  refine pureT 8 11 HT_.out ?_; refine one_ (i := 9) (N := none) #[true, true, true, true, true, true, true, true, true, true] rfl rfl (one_of HT_.out (by kernel_rfl)) (by decide) (fun K hK => ?_); have hs11 : w8.cell? ⟨gb266, 0, none⟩ = some (.slice none 0 0) := (blk_cell BK266.out 0).trans rfl; have hfs11 := blk_frozen BK266.out 0; have hns11_0 := NB265_266.out; have hms11_0 := NB266_265.out; have hs12 : w8.cell? ⟨gb266, 1, none⟩ = some (.slice none 0 0) := (blk_cell BK266.out 1).trans rfl; have hfs12 := blk_frozen BK266.out 1; have hns12_0 := NB265_266.out; have hms12_0 := NB266_265.out; have hs13 : w8.cell? ⟨gb266, 2, none⟩ = some (.bool false) := (blk_cell BK266.out 2).trans rfl; have hfs13 := blk_frozen BK266.out 2; have hns13_0 := NB265_266.out; have hms13_0 := NB266_265.out; refine skip_ (w1 := ?_) (by rfl) rfl ?_ ?_; rotate_left
  · go_simp
    rfl
  refine hK.out _ _ ⟨((cell_far (p := ⟨gb266, _, none⟩) NB265_266.out _).trans (((cell_far (p := ⟨gb266, _, none⟩) NB265_266.out _).trans (((cell_far (p := ⟨gb266, _, none⟩) NB265_266.out _).trans (hHeld.1)))))), ((cell_far (p := ⟨gb266, _, none⟩) NB265_266.out _).trans (((cell_far (p := ⟨gb266, _, none⟩) NB265_266.out _).trans (((cell_far (p := ⟨gb266, _, none⟩) NB265_266.out _).trans (hHeld.2.1)))))), ((cell_far (p := ⟨gb266, _, none⟩) NB265_266.out _).trans (((cell_far (p := ⟨gb266, _, none⟩) NB265_266.out _).trans (((cell_far (p := ⟨gb266, _, none⟩) NB265_266.out _).trans (hHeld.2.2))))))⟩ (fun hHeld => ?_); clear hK K; refine done_ (done_of HT_.out (by kernel_rfl)) ?_; (try go_wp2); refine bodyPost_ret (results_cell_row rfl _ _ gb266 58 #[.slice Ao10 t267.length co10, .slice Ao9 t270.length co9, .bool a0_2] (0, 0) _ rfl (KP3 BK266) Try.underlying58 rfl (by kernel_rfl)) rfl ?_; exact ⟨_, _, by first | rfl | (simp [errW_none, errW_some] <;> rfl) | (simp [*, errW_none, errW_some] <;> rfl), by (with_reducible repeat (first | apply Kd.R_alloc | apply Kd.R_drewN | apply Kd.R_drew)); exact (RF3T HO269 BK266 (.slice Ao10 t267.length co10) (.slice Ao9 t270.length co9) (.bool a0_2)), by (with_reducible repeat (first | apply Kd.R_alloc | apply Kd.R_drewN | apply Kd.R_drew)); exact (RF3T HO272 BK266 (.slice Ao10 t267.length co10) (.slice Ao9 t270.length co9) (.bool a0_2)), BW HB⟩
def impl_toldSheet.f (k : Nat) (l0_0 : List (Nat × Nat)) (l0_1 : List Nat) (a0_2 : Bool) : Option (List (Nat × Nat) × List Nat × Bool × Bool) := (impl_ValidSheet.f k l0_0 l0_1 a0_2).bind fun t275 => (if t275 = true then (some (l0_0, l0_1, a0_2, true)) else (some (([] : List (Nat × Nat)), ([] : List Nat), false, false)))
theorem impl_toldSheet.mono : ∀ a0 a1 a2 k, LeO (impl_toldSheet.f k a0 a1 a2) (impl_toldSheet.f (k + 1) a0 a1 a2) := by
  intro a0 a1 a2 k; unfold impl_toldSheet.f
  repeat' first
      | (with_reducible exact impl_ValidSheet.mono _ _ _ _)
      | (with_reducible exact LeO.refl _)
      | (with_reducible exact LeO.none _)
      | (with_reducible refine LeO.ite ?_ ?_)
      | (with_reducible refine LeO.bind ?_ (fun _ => ?_))
      | exact impl_ValidSheet.mono _ _ _ _
      | exact LeO.none _
      | refine LeO.ite ?_ ?_
      | refine LeO.bind ?_ (fun _ => ?_)
set_option maxHeartbeats 8000000 in
set_option maxRecDepth 100000 in
theorem impl_toldSheet.calls (k : Nat) (P0_0_ : Nat → Prop) (u9000_ : Value) (l0_0 : List (Nat × Nat)) (P0_1_ : Nat → Prop) (u9001_ : Value) (l0_1 : List Nat) (a0_2 : Bool) (r1 : List (Nat × Nat)) (r2 : List Nat) (r3 : Bool) (r4 : Bool) (w0 w : World) (hB : Below w0.heap.size w0 w) (ho0_0 : Kd.R (Kd.complex .f32) 26 w w0.heap.size P0_0_ u9000_ l0_0) (ho0_1 : Kd.R (Kd.float .f32) 27 w w0.heap.size P0_1_ u9001_ l0_1) (h : impl_toldSheet.f k l0_0 l0_1 a0_2 = some (r1, r2, r3, r4)) :
    Calls Try.prog 160 #[.agg #[u9000_, u9001_, .bool a0_2]] w fun e w' => ∃ v0_ v1_ : Value, e = .returned (.tuple #[.agg #[v0_, v1_, .bool r3], .bool r4]) ∧ Kd.R (Kd.complex .f32) 26 w' w0.heap.size (fun k_ => ((P0_0_ k_ ∨ P0_1_ k_) ∨ w.heap.size ≤ k_)) v0_ r1 ∧ Kd.R (Kd.float .f32) 27 w' w0.heap.size (fun k_ => ((P0_0_ k_ ∨ P0_1_ k_) ∨ w.heap.size ≤ k_)) v1_ r2 ∧ Below w0.heap.size w0 w' ∧ Kept w w' (fun k_ => P0_0_ k_ ∨ P0_1_ k_) := by
  have hu58 := Try.underlying58; have HO0_0 := AS (show Kd.R (Kd.complex .f32) 26 w w0.heap.size (fun k_ => ((P0_0_ k_ ∨ P0_1_ k_) ∨ w.heap.size ≤ k_)) u9000_ l0_0 from Kd.R_mono ho0_0 (fun k_ hk => (.inl (.inl hk)))); have HO0_1 := AS (show Kd.R (Kd.float .f32) 27 w w0.heap.size (fun k_ => ((P0_0_ k_ ∨ P0_1_ k_) ∨ w.heap.size ≤ k_)) u9001_ l0_1 from Kd.R_mono ho0_1 (fun k_ hk => (.inl (.inr hk)))); have HK := AS (Kept.refl w (fun k_ => P0_0_ k_ ∨ P0_1_ k_)); have HW0 := Aside0.mk hB.size; have HB := Aside0.mk hB; clear hB; have H : ((impl_ValidSheet.f k l0_0 l0_1 a0_2).bind fun t275 => (if t275 = true then (some (l0_0, l0_1, a0_2, true)) else (some (([] : List (Nat × Nat)), ([] : List Nat), false, false)))) = some (r1, r2, r3, r4) := h; clear h; replace H := Option.bind_eq_some_iff.mp H; obtain ⟨t275, A20, H⟩ := H; replace H : (if t275 = true then (some (l0_0, l0_1, a0_2, true)) else (some (([] : List (Nat × Nat)), ([] : List Nat), false, false))) = some (r1, r2, r3, r4) := H; have A2 := Aside0.mk A20; clear A20; by_cases c3 : t275 = true
  · subst c3
    have H1 : (some (l0_0, l0_1, a0_2, true)) = some (r1, r2, r3, r4) := (by rw [if_pos rfl] at H; exact H); clear H; have H := H1; clear H1; simp only [Option.some.injEq, Prod.mk.injEq] at H; obtain ⟨rfl, rfl, rfl, rfl⟩ := H; obtain ⟨Ao4, co4, eo4⟩ := Kd.R_slice HO0_0.out; subst eo4; obtain ⟨Ao5, co5, eo5⟩ := Kd.R_slice HO0_1.out; subst eo5; go_enter Try.func160, Try.ntmps160; go_wp2_with (first | ((with_reducible refine gate_dst (N := 1) rfl ?_); refine box_event ?hg (N := 1) ?hd (cs := #[.slice Ao4 l0_0.length co4, .slice Ao5 l0_1.length co5, .bool a0_2]) (t := 58) ?hr ?_; (case hd => rfl); (case hg => rfl); (case hr => first | (go_simp; done) | (go_simp; rfl)); intro gb273 hg w6 hbox hb; have n2_ := AS (Kept.below (S := (fun k_ => P0_0_ k_ ∨ P0_1_ k_)) (by repeat (first | (with_reducible first | exact HK.out | apply Kept.alloc | apply Kept.drewN | apply Kept.drew) | exact HK.out)) hb); have BK273 := AS (hbox); have GW273 := AS ((by rw [hg]; exact (by first | exact HK.out.1 | exact (show Kept w _ (fun k_ => P0_0_ k_ ∨ P0_1_ k_) from by repeat (first | (with_reducible first | exact HK.out | apply Kept.alloc | apply Kept.drewN | apply Kept.drew) | exact HK.out)).1) : w.heap.size ≤ gb273)); have GE273 := AS ((by rw [hg]; exact (below_size (BW HB)) : w0.heap.size ≤ gb273)); replace HO0_0 := RB HO0_0 hb; replace HO0_1 := RB HO0_1 hb; replace HB := BB HB hb; replace HK := n2_; clear n2_; clear hb hbox hg) | ((with_reducible refine gate_dst (N := 2) rfl ?_); refine box_event ?hg (N := 2) ?hd (cs := #[.slice none 0 0, .slice none 0 0, .bool false]) (t := 58) ?hr ?_; (case hd => rfl); (case hg => rfl); (case hr => first | (go_simp; done) | (go_simp; rfl)); intro gb274 hg w7 hbox hb; have n3_ := AS (Kept.below (S := (fun k_ => P0_0_ k_ ∨ P0_1_ k_)) (by repeat (first | (with_reducible first | exact HK.out | apply Kept.alloc | apply Kept.drewN | apply Kept.drew | refine Kept.setCell ?_ (.inr GW273.out) _) | exact HK.out)) hb); have BK274 := AS (hbox); have GW274 := AS ((by rw [hg]; exact (by first | exact HK.out.1 | exact (show Kept w _ (fun k_ => P0_0_ k_ ∨ P0_1_ k_) from by repeat (first | (with_reducible first | exact HK.out | apply Kept.alloc | apply Kept.drewN | apply Kept.drew | refine Kept.setCell ?_ (.inr GW273.out) _) | exact HK.out)).1) : w.heap.size ≤ gb274)); have GE274 := AS ((by rw [hg]; exact (below_size (BW HB)) : w0.heap.size ≤ gb274)); have NB273_274 := KN BK273 hg; have NB274_273 := KM BK273 hg; replace HO0_0 := RB HO0_0 hb; replace HO0_1 := RB HO0_1 hb; replace BK273 := KB BK273 hb; replace HB := BB HB hb; replace HK := n3_; clear n3_; clear hb hbox hg; have hnb8 := NB273_274.out; have hnc8 := NB274_273.out; obtain ⟨hcz9_0, hcz9_1, hcz9_2, hfz9_0, hfz9_1, hfz9_2⟩ := CZ3 BK273) | ((with_reducible refine gate_callee (f := 38) rfl ?_); refine goesM 5 Try.func38 #[.agg #[.slice Ao4 l0_0.length co4, .slice Ao5 l0_1.length co5, .bool a0_2]] ?_; (with_reducible refine (impl_ValidSheet.calls k _ _ l0_0 _ _ l0_1 a0_2 true _ ?side1 ?side2 ?side3 ?side4 A2.out).mono ?_); (case side1 => repeat (first | exact (Kd.R_reads' HO0_0.out).2.2 | (with_reducible refine Kd.C_alloc ?_ _) | (with_reducible refine Kd.C_drewN ?_ _) | (with_reducible refine Kd.C_drew ?_))); (case side2 => exact (Kd.R_reads' HO0_0.out).2.1); (case side3 => repeat (first | exact (Kd.R_reads' HO0_1.out).2.2 | (with_reducible refine Kd.C_alloc ?_ _) | (with_reducible refine Kd.C_drewN ?_ _) | (with_reducible refine Kd.C_drew ?_))); (case side4 => exact (Kd.R_reads' HO0_1.out).2.1); rintro e w10 ⟨rfl, hb⟩; refine ⟨_, rfl, ?_⟩; have n4_ := AS (Kept.below (S := (fun k_ => P0_0_ k_ ∨ P0_1_ k_)) (by repeat (first | (with_reducible first | exact HK.out | apply Kept.alloc | apply Kept.drewN | apply Kept.drew | refine Kept.setCell ?_ (.inr GW273.out) _ | refine Kept.setCell ?_ (.inr GW274.out) _) | exact HK.out)) hb); replace HO0_0 := RB HO0_0 hb; replace HO0_1 := RB HO0_1 hb; replace BK273 := KB BK273 hb; replace BK274 := KB BK274 hb; replace HB := BB HB hb; replace HK := n4_; clear n4_; (try clear hb); (try clear hb2); (try clear hk); (try clear hi); obtain ⟨hcz11_0, hcz11_1, hcz11_2, hfz11_0, hfz11_1, hfz11_2⟩ := CZ3 BK273; obtain ⟨hcz12_0, hcz12_1, hcz12_2, hfz12_0, hfz12_1, hfz12_2⟩ := CZ3 BK274)); refine bodyPost_ret (results_ct rfl _ _ gb274 58 #[.slice Ao4 l0_0.length co4, .slice Ao5 l0_1.length co5, .bool a0_2] (0, 0) _ rfl (KP3 BK274) Try.underlying58 rfl (by kernel_rfl)) rfl ?_; exact ⟨_, _, by first | rfl | (simp [errW_none, errW_some] <;> rfl) | (simp [*, errW_none, errW_some] <;> rfl), by (with_reducible repeat (first | apply Kd.R_alloc | apply Kd.R_drewN | apply Kd.R_drew)); exact (RF3 HO0_0 BK274 (.slice Ao4 l0_0.length co4) (.slice Ao5 l0_1.length co5) (.bool a0_2)), by (with_reducible repeat (first | apply Kd.R_alloc | apply Kd.R_drewN | apply Kd.R_drew)); exact (RF3 HO0_1 BK274 (.slice Ao4 l0_0.length co4) (.slice Ao5 l0_1.length co5) (.bool a0_2)), BW HB, by repeat (first | (with_reducible first | exact HK.out | apply Kept.alloc | apply Kept.drewN | apply Kept.drew | refine Kept.setCell ?_ (.inr GW273.out) _ | refine Kept.setCell ?_ (.inr GW274.out) _) | exact HK.out)⟩
  · replace c3 := Bool.eq_false_iff.mpr c3
    subst c3; have H1 : (some (([] : List (Nat × Nat)), ([] : List Nat), false, false)) = some (r1, r2, r3, r4) := (by rw [if_neg (show ¬ (false = true) by decide)] at H; exact H); clear H; have H := H1; clear H1; simp only [Option.some.injEq, Prod.mk.injEq] at H; obtain ⟨rfl, rfl, rfl, rfl⟩ := H; obtain ⟨Ao13, co13, eo13⟩ := Kd.R_slice HO0_0.out; subst eo13; obtain ⟨Ao14, co14, eo14⟩ := Kd.R_slice HO0_1.out; subst eo14; go_enter Try.func160, Try.ntmps160; go_wp2_with (first | ((with_reducible refine gate_dst (N := 1) rfl ?_); refine box_event ?hg (N := 1) ?hd (cs := #[.slice Ao13 l0_0.length co13, .slice Ao14 l0_1.length co14, .bool a0_2]) (t := 58) ?hr ?_; (case hd => rfl); (case hg => rfl); (case hr => first | (go_simp; done) | (go_simp; rfl)); intro gb273 hg w15 hbox hb; have n2_ := AS (Kept.below (S := (fun k_ => P0_0_ k_ ∨ P0_1_ k_)) (by repeat (first | (with_reducible first | exact HK.out | apply Kept.alloc | apply Kept.drewN | apply Kept.drew) | exact HK.out)) hb); have BK273 := AS (hbox); have GW273 := AS ((by rw [hg]; exact (by first | exact HK.out.1 | exact (show Kept w _ (fun k_ => P0_0_ k_ ∨ P0_1_ k_) from by repeat (first | (with_reducible first | exact HK.out | apply Kept.alloc | apply Kept.drewN | apply Kept.drew) | exact HK.out)).1) : w.heap.size ≤ gb273)); have GE273 := AS ((by rw [hg]; exact (below_size (BW HB)) : w0.heap.size ≤ gb273)); replace HO0_0 := RB HO0_0 hb; replace HO0_1 := RB HO0_1 hb; replace HB := BB HB hb; replace HK := n2_; clear n2_; clear hb hbox hg) | ((with_reducible refine gate_dst (N := 2) rfl ?_); refine box_event ?hg (N := 2) ?hd (cs := #[.slice none 0 0, .slice none 0 0, .bool false]) (t := 58) ?hr ?_; (case hd => rfl); (case hg => rfl); (case hr => first | (go_simp; done) | (go_simp; rfl)); intro gb274 hg w16 hbox hb; have n3_ := AS (Kept.below (S := (fun k_ => P0_0_ k_ ∨ P0_1_ k_)) (by repeat (first | (with_reducible first | exact HK.out | apply Kept.alloc | apply Kept.drewN | apply Kept.drew | refine Kept.setCell ?_ (.inr GW273.out) _) | exact HK.out)) hb); have BK274 := AS (hbox); have GW274 := AS ((by rw [hg]; exact (by first | exact HK.out.1 | exact (show Kept w _ (fun k_ => P0_0_ k_ ∨ P0_1_ k_) from by repeat (first | (with_reducible first | exact HK.out | apply Kept.alloc | apply Kept.drewN | apply Kept.drew | refine Kept.setCell ?_ (.inr GW273.out) _) | exact HK.out)).1) : w.heap.size ≤ gb274)); have GE274 := AS ((by rw [hg]; exact (below_size (BW HB)) : w0.heap.size ≤ gb274)); have NB273_274 := KN BK273 hg; have NB274_273 := KM BK273 hg; replace HO0_0 := RB HO0_0 hb; replace HO0_1 := RB HO0_1 hb; replace BK273 := KB BK273 hb; replace HB := BB HB hb; replace HK := n3_; clear n3_; clear hb hbox hg; have hnb17 := NB273_274.out; have hnc17 := NB274_273.out; obtain ⟨hcz18_0, hcz18_1, hcz18_2, hfz18_0, hfz18_1, hfz18_2⟩ := CZ3 BK273) | ((with_reducible refine gate_callee (f := 38) rfl ?_); refine goesM 5 Try.func38 #[.agg #[.slice Ao13 l0_0.length co13, .slice Ao14 l0_1.length co14, .bool a0_2]] ?_; (with_reducible refine (impl_ValidSheet.calls k _ _ l0_0 _ _ l0_1 a0_2 false _ ?side1 ?side2 ?side3 ?side4 A2.out).mono ?_); (case side1 => repeat (first | exact (Kd.R_reads' HO0_0.out).2.2 | (with_reducible refine Kd.C_alloc ?_ _) | (with_reducible refine Kd.C_drewN ?_ _) | (with_reducible refine Kd.C_drew ?_))); (case side2 => exact (Kd.R_reads' HO0_0.out).2.1); (case side3 => repeat (first | exact (Kd.R_reads' HO0_1.out).2.2 | (with_reducible refine Kd.C_alloc ?_ _) | (with_reducible refine Kd.C_drewN ?_ _) | (with_reducible refine Kd.C_drew ?_))); (case side4 => exact (Kd.R_reads' HO0_1.out).2.1); rintro e w19 ⟨rfl, hb⟩; refine ⟨_, rfl, ?_⟩; have n4_ := AS (Kept.below (S := (fun k_ => P0_0_ k_ ∨ P0_1_ k_)) (by repeat (first | (with_reducible first | exact HK.out | apply Kept.alloc | apply Kept.drewN | apply Kept.drew | refine Kept.setCell ?_ (.inr GW273.out) _ | refine Kept.setCell ?_ (.inr GW274.out) _) | exact HK.out)) hb); replace HO0_0 := RB HO0_0 hb; replace HO0_1 := RB HO0_1 hb; replace BK273 := KB BK273 hb; replace BK274 := KB BK274 hb; replace HB := BB HB hb; replace HK := n4_; clear n4_; (try clear hb); (try clear hb2); (try clear hk); (try clear hi); obtain ⟨hcz20_0, hcz20_1, hcz20_2, hfz20_0, hfz20_1, hfz20_2⟩ := CZ3 BK274)); refine bodyPost_ret (results_ct rfl _ _ gb274 58 #[.slice none 0 0, .slice none 0 0, .bool false] (0, 0) _ rfl (KP3 BK274) Try.underlying58 rfl (by kernel_rfl)) rfl ?_; exact ⟨_, _, by first | rfl | (simp [errW_none, errW_some] <;> rfl) | (simp [*, errW_none, errW_some] <;> rfl), by first | exact Kd.R_nil _ _ _ _ _ | exact Kd.N_nil _ _ _ _ _ | exact Kd.V_nil _ _ _ _ _ | exact Kd.Q_nil _ _ _ _ _ | exact Kd.S_nil _ _ _ _ _, by first | exact Kd.R_nil _ _ _ _ _ | exact Kd.N_nil _ _ _ _ _ | exact Kd.V_nil _ _ _ _ _ | exact Kd.Q_nil _ _ _ _ _ | exact Kd.S_nil _ _ _ _ _, BW HB, by repeat (first | (with_reducible first | exact HK.out | apply Kept.alloc | apply Kept.drewN | apply Kept.drew | refine Kept.setCell ?_ (.inr GW273.out) _ | refine Kept.setCell ?_ (.inr GW274.out) _) | exact HK.out)⟩
end Go.Proofs.Ytcgaccdiomcglaa.S0
end
section
namespace Go.Proofs.Ytcgaccdiomcglaa.S0
open Go.RowKit Go.Proofs.YtcgaccdiomcglaaW.PrintWords Go.Proofs.YtcgaccdiomcglaaW.PrintLast Go.Proofs.YtcgaccdiomcglaaW.PrintMore
attribute [local go_sem] max2_int min2_int max_two min_two max_three min_three max_four min_four
set_option linter.unusedVariables false
set_option linter.unusedSimpArgs false
attribute [local go_sem high] binOp_fge binOp_fle
def slices_Reverse_float32_float32.l0 : Nat → List Nat → Int → Int → Option (List Nat)
  | 0, _, _, _ => none
  | k + 1, x0, x2, x3 => if x2 < x3 then (if 0 ≤ x3 then (if x3 < (x0.length : Int) then (if 0 ≤ x2 then (if x2 < (x0.length : Int) then (slices_Reverse_float32_float32.l0 k ((x0.set (x2 : Int).toNat (rdOf (0 : Nat) x0 x3)).set (x3 : Int).toNat (rdOf (0 : Nat) x0 x2)) (wrap64 (x2 + 1)) (wrap64 (x3 - 1))) else (none)) else (none)) else (none)) else (none)) else (some x0)
def slices_Reverse_float32_float32.f (k : Nat) (l0 : List Nat) : Option (List Nat) := slices_Reverse_float32_float32.l0 k l0 0 (wrap64 ((l0.length : Int) - 1))
def slices_Reverse_float32_float32.T3 : Bool × List (List Nat × List Nat) := (true, [([], []), ([], []), ([], []), ([], []), ([], []), ([], []), ([4, 5], [4, 5]), ([6], [6]), ([], []), ([], []), ([8, 9], [8, 9]), ([10], [10]), ([0, 1, 0, 1, 4, 5, 6, 7, 11], [0, 1]), ([12, 7, 0, 1, 4, 5, 6, 7, 11], [7, 12]), ([2, 3, 0, 1, 2, 3, 4, 5, 6, 7, 8, 9, 10, 11, 12, 13], [2, 3]), ([14, 11, 13, 0, 1, 2, 3, 4, 5, 6, 7, 8, 9, 10, 11, 12, 13], [11, 14])])
def slices_Reverse_float32_float32.B3 : List Nat := [0, 0, 0, 0, 0, 0, 48, 112, 0, 0, 768, 1792, 4083, 8179, 16383, 32767]
theorem slices_Reverse_float32_float32.tab3 : rtab .any (opsOf Try.f106 3) = slices_Reverse_float32_float32.T3 := by kernel_rfl
theorem slices_Reverse_float32_float32.bits3 : waitsOk slices_Reverse_float32_float32.T3.2 slices_Reverse_float32_float32.B3 = true := by kernel_rfl
set_option maxHeartbeats 8000000 in
set_option maxRecDepth 100000 in
theorem slices_Reverse_float32_float32.calls (k : Nat) (P0_ : Nat → Prop) (u9000_ : Value) (l0 : List Nat) (r : List Nat) (w0 w : World) (hB : Below w0.heap.size w0 w) (ho0 : Kd.R (Kd.float .f32) 27 w w0.heap.size P0_ u9000_ l0) (h : slices_Reverse_float32_float32.f k l0 = some r) :
    Calls Try.prog 106 #[u9000_] w fun e w' => e = .returned (.tuple #[]) ∧ Kd.R (Kd.float .f32) 27 w' w0.heap.size (fun k_ => (P0_ k_ ∨ w.heap.size ≤ k_)) u9000_ r ∧ Below w0.heap.size w0 w' ∧ Kept w w' (fun k_ => P0_ k_) := by
  have HO0 := AS (show Kd.R (Kd.float .f32) 27 w w0.heap.size (fun k_ => (P0_ k_ ∨ w.heap.size ≤ k_)) u9000_ l0 from Kd.R_mono ho0 (fun k_ hk => (.inl hk))); have HK := AS (Kept.refl w (fun k_ => P0_ k_)); have HW0 := Aside0.mk hB.size; have HB := Aside0.mk hB; clear hB; have H : (slices_Reverse_float32_float32.l0 k l0 0 (wrap64 ((l0.length : Int) - 1))) = some r := h; clear h; have H' := Aside0.mk H; clear H; obtain ⟨Ao2, co2, eo2⟩ := Kd.R_slice HO0.out; subst eo2; go_enter Try.func106, Try.ntmps106; go_wp2; go_loopg [2, 3] k (fun kq v2 v3 w' => ∃ (x0_1 : List Nat) (x2_1 : Int) (x3_1 : Int), v2 = .int .i64 x2_1 ∧ v3 = .int .i64 x3_1 ∧ Aside0 (slices_Reverse_float32_float32.l0 kq x0_1 x2_1 x3_1 = some r) ∧ Aside0 (kq ≤ k) ∧ Aside0 (Kd.R (Kd.float .f32) 27 w' w0.heap.size (fun k_ => (P0_ k_ ∨ w.heap.size ≤ k_)) (.slice Ao2 l0.length co2) x0_1) ∧ Aside0 (Kept w w' (fun k_ => P0_ k_)) ∧ Aside0 (Below w0.heap.size w0 w'))
  case atStart => exact ⟨(l0), (0), (wrap64 ((l0.length : Int) - 1)), (by first | rfl | (simp; done) | (simp [*]; done)), (by first | rfl | (simp; done) | (simp [*]; done)), H', ⟨Nat.le_refl _⟩, ⟨RS HO0.out⟩, ⟨by repeat (first | (with_reducible first | exact HK.out | apply Kept.alloc | apply Kept.drewN | apply Kept.drew) | exact HK.out)⟩, ⟨BW HB⟩⟩
  case round =>
    clear H'; (try clear c1); (try clear p2); obtain ⟨x0_1, x2_1, x3_1, rfl, rfl, HA, HK1, HO_0, HK, HB⟩ := hrel; have hl0_1 := (Kd.R_reads' HO_0.out).1; rw [hl0_1] at HO_0; (try simp only [hl0_1]); cases gk with
    | zero => exact absurd HA.out (by simp [slices_Reverse_float32_float32.l0])
    | succ k1 =>
      have H := HA.out; clear HA; simp only [slices_Reverse_float32_float32.l0] at H; by_cases c3 : x2_1 < x3_1
      · rw [if_pos c3] at H
        have c3b0 : decide (x2_1 < x3_1) = true := decide_eq_true c3; clear c3; by_cases c4 : 0 ≤ x3_1
        · rw [if_pos c4] at H
          have c4b0 : decide (0 ≤ x3_1) = true := decide_eq_true c4; clear c4; by_cases c5 : x3_1 < (x0_1.length : Int)
          · rw [if_pos c5] at H
            have c5b0 : decide (x3_1 < (x0_1.length : Int)) = true := decide_eq_true c5; (try (have c5b90 := c5b0; simp only [hl0_1] at c5b90)); clear c5; by_cases c6 : 0 ≤ x2_1
            · rw [if_pos c6] at H
              have c6b0 : decide (0 ≤ x2_1) = true := decide_eq_true c6; clear c6; by_cases c7 : x2_1 < (x0_1.length : Int)
              · rw [if_pos c7] at H
                have c7b0 : decide (x2_1 < (x0_1.length : Int)) = true := decide_eq_true c7; (try (have c7b90 := c7b0; simp only [hl0_1] at c7b90)); clear c7; obtain ⟨y278, hy278⟩ : ∃ y_ : List Nat, y_ = (x0_1.set (x2_1 : Int).toNat (rdOf (0 : Nat) x0_1 x3_1)) := ⟨_, rfl⟩; replace H : (slices_Reverse_float32_float32.l0 k1 (y278.set (x3_1 : Int).toNat (rdOf (0 : Nat) x0_1 x2_1)) (wrap64 (x2_1 + 1)) (wrap64 (x3_1 - 1))) = some r := (by first | (rw [hy278]; with_reducible exact H) | (have H2_ := (Option.bind_some _ _).symm.trans H; rw [hy278]; with_reducible exact H2_) | (have H2_ := (Option.bind_some _ _).symm.trans H; with_reducible exact H2_) | with_reducible exact H | (rw [hy278]; exact H) | exact H); have Ny278 := Aside0.mk hy278; clear hy278; obtain ⟨y279, hy279⟩ : ∃ y_ : List Nat, y_ = (y278.set (x3_1 : Int).toNat (rdOf (0 : Nat) x0_1 x2_1)) := ⟨_, rfl⟩; replace H : (slices_Reverse_float32_float32.l0 k1 y279 (wrap64 (x2_1 + 1)) (wrap64 (x3_1 - 1))) = some r := (by first | (rw [hy279]; with_reducible exact H) | (have H2_ := (Option.bind_some _ _).symm.trans H; rw [hy279]; with_reducible exact H2_) | (have H2_ := (Option.bind_some _ _).symm.trans H; with_reducible exact H2_) | with_reducible exact H | (rw [hy279]; exact H) | exact H); have Ny279 := Aside0.mk hy279; clear hy279; have H' := Aside0.mk H; clear H; (try go_wp2); have n0_ := AS (Kd.R_drew HO_0.out); have n1_ := AS (Kept.drew HK.out); have n2_ := AS (below_drew1 HB.out); replace HO_0 := n0_; replace HK := n1_; replace HB := n2_; clear n0_ n1_ n2_; have p276 : 0 ≤ (x3_1 : Int) := of_decide_eq_true (by first | (with_reducible assumption) | assumption); have q276 : x3_1 < (x0_1.length : Int) := of_decide_eq_true (by first | (with_reducible assumption) | assumption); obtain ⟨ad276, e276, hx276_0⟩ := Kd.at_float (Kd.R_reads' HO_0.out).2.2 x3_1 p276 q276; cases e276; replace p276 := eq_true p276; replace q276 := eq_true q276; have p277 : 0 ≤ (x2_1 : Int) := of_decide_eq_true (by first | (with_reducible assumption) | assumption); have q277 : x2_1 < (x0_1.length : Int) := of_decide_eq_true (by first | (with_reducible assumption) | assumption); obtain ⟨ad277, e277, hx277_0⟩ := Kd.at_float (Kd.R_reads' HO_0.out).2.2 x2_1 p277 q277; obtain rfl : ad276 = ad277 := (by injection e277); replace p277 := eq_true p277; replace q277 := eq_true q277; have p8 : 0 ≤ (x2_1 : Int) := of_decide_eq_true (by first | (with_reducible assumption) | assumption); have q8 : (x2_1 : Int) < ((x0_1.length : Int) : Int) := of_decide_eq_true (by first | (with_reducible assumption) | assumption); obtain ⟨go8, co8, eo8, gb8, gl8, cl8, HG8⟩ := Kd.R_form HO_0.out (by omega); (first | cases eo8 | (injection eo8 with ea_ en_ ec_; (first | subst ea_ | (injection ea_ with ea_; subst ea_)); subst ec_; clear en_)); have GB8 := Aside0.mk gb8; have GG8 := Aside0.mk HG8; clear gb8 gl8 HG8; have HMgo8 := AS (show (P0_ go8 ∨ w.heap.size ≤ go8) from (HO_0.out.1 _ rfl)); (first | simp only [add_plain] at hx276_0 | skip); (first | simp only [add_plain] at hx277_0 | skip); obtain ⟨hx8_0, hf8_0⟩ := Kd.R_celln (0 : Nat) HO_0.out (x2_1 : Int) p8 q8; replace p8 := eq_true p8; replace q8 := eq_true q8; have HP11 := Kd.R_putn HO_0.out (x2_1 : Int) (rdOf (0 : Nat) x0_1 x3_1); rw [← Ny278.out] at HP11; have HQ11 := Aside0.mk HP11; clear HP11; have p9 : 0 ≤ (x3_1 : Int) := of_decide_eq_true (by first | (with_reducible assumption) | assumption); have q9 : (x3_1 : Int) < ((x0_1.length : Int) : Int) := of_decide_eq_true (by first | (with_reducible assumption) | assumption); obtain ⟨hx9_0, hf9_0⟩ := Kd.R_celln (0 : Nat) HQ11.out (x3_1 : Int) p9 q9; replace p9 := eq_true p9; replace q9 := eq_true q9; have HP12 := Kd.R_putn HQ11.out (x3_1 : Int) (rdOf (0 : Nat) x0_1 x2_1); rw [← Ny279.out] at HP12; have HQ12 := Aside0.mk HP12; clear HP12; refine start_ (n := 16) (S := fun w' => w'.cell? ⟨go8, (x3_1).toNat, none⟩ = some (.float .f32 (rdOf (0 : Nat) x0_1 x3_1)) ∧ w'.cell? ⟨go8, (x2_1).toNat, none⟩ = some (.float .f32 (rdOf (0 : Nat) x0_1 x2_1))) (ds := [13, 15]) #[false, false, false, false, false, false, false, false, false, false, false, false, false, false, false, false] (by kernel_rfl) rfl rfl ⟨hx276_0, hx277_0⟩ (fun hHeld => ?_); refine with_tabW slices_Reverse_float32_float32.tab3 slices_Reverse_float32_float32.bits3 (fun HT_ HW_ => ?_); generalize wr.drew = w10 at HO_0 HK HB GG8 HQ11 HQ12 hf8_0 hf9_0 hx276_0 hx277_0 hx8_0 hx9_0 hHeld ⊢; refine pureT 0 14 HT_.out ?_; refine pureT 1 15 HT_.out ?_; refine pureT 2 16 HT_.out ?_; refine pureT 3 17 HT_.out ?_; refine pureT 4 18 HT_.out ?_; refine pureT 5 19 HT_.out ?_; refine pureT 6 20 HT_.out ?_; refine pureT 8 22 HT_.out ?_; refine pureT 9 23 HT_.out ?_; refine pureT 10 24 HT_.out ?_; refine takeS (i := 7) (N := some 21) (v := ?_) (a' := ?_) rfl rfl (take_ofW HT_.out HW_.out (by kernel_rfl)) (fun _ _ _ h => h) (Or.inl ⟨by rfl, ?_⟩) hHeld ?_ ?_; rotate_left; (· rintro w' ⟨s0, s1⟩; go_simp; with_reducible rfl); rotate_left; (· simp only [Act.put, List.setIfInBounds_toArray, List.set_cons_zero, List.set_cons_succ, i64_w, i32_w]; rfl); refine takeS (i := 11) (N := some 25) (v := ?_) (a' := ?_) rfl rfl (take_ofW HT_.out HW_.out (by kernel_rfl)) (fun _ _ _ h => h) (Or.inl ⟨by rfl, ?_⟩) hHeld ?_ ?_; rotate_left; (· rintro w' ⟨s0, s1⟩; go_simp; with_reducible rfl); rotate_left; (· simp only [Act.put, List.setIfInBounds_toArray, List.set_cons_zero, List.set_cons_succ, i64_w, i32_w]; rfl); refine pureT 12 26 HT_.out ?_; refine last_ (i := 13) (N := none) #[true, true, true, true, true, true, true, true, true, true, true, true, true, true, false, false] rfl rfl (one_of HT_.out (by kernel_rfl)) (by decide) (fun K hK => ?_); refine skip_ (w1 := ?_) (by rfl) rfl ?_ ?_; rotate_left
                · go_simp
                  rfl
                refine hK.out _ _ ?_; clear hK K; refine pureT 14 27 HT_.out ?_; refine last_ (i := 15) (N := none) #[true, true, true, true, true, true, true, true, true, true, true, true, true, true, true, true] rfl rfl (one_of HT_.out (by kernel_rfl)) (by decide) (fun K hK => ?_); refine skip_ (w1 := ?_) (by rfl) rfl ?_ ?_; rotate_left
                · go_simp
                  rfl
                refine hK.out _ _ ?_; clear hK K; refine done_ (done_of HT_.out (by kernel_rfl)) ?_; (try go_wp2); (try simp only [← hl0_1]); go_roundg k1
                case measure => have := HK1.out; omega
                case rel => exact ⟨(y279), (wrap64 (x2_1 + 1)), (wrap64 (x3_1 - 1)), (by first | rfl | (simp; done) | (simp [*]; done)), (by first | rfl | (simp; done) | (simp [*]; done)), H', ⟨by have := HK1.out; omega⟩, ⟨by (try simp only [hl0_1]); (with_reducible repeat (first | apply Kd.R_alloc | apply Kd.R_drewN | apply Kd.R_drew)); exact HQ12.out⟩, ⟨by repeat (first | (with_reducible first | exact HK.out | apply Kept.alloc | apply Kept.drewN | apply Kept.drew | refine Kept.setCell ?_ HMgo8.out _ | refine Kept.setCell ?_ HMgo8.out _) | exact HK.out)⟩, ⟨by repeat (first | (with_reducible first | exact HB.out | apply below_alloc | apply pw_below_drewN | apply below_drew1 | refine below_set ?_ GB8.out | refine below_set ?_ GB8.out) | exact HB.out)⟩⟩
              · rw [if_neg c7] at H
                exact absurd H (by simp)
            · rw [if_neg c6] at H
              exact absurd H (by simp)
          · rw [if_neg c5] at H
            exact absurd H (by simp)
        · rw [if_neg c4] at H
          exact absurd H (by simp)
      · rw [if_neg c3] at H
        have c3b0 : decide (x2_1 < x3_1) = false := decide_eq_false c3; clear c3; obtain rfl := Option.some.inj H; go_wp2; (first | go_end0 | ((try simp only [Exit.inBlock, Exit.then]); refine bodyPost_ret (results_none rfl _ _ _) rfl ?_)); exact ⟨by first | rfl | (simp [errW_none, errW_some] <;> rfl) | (simp [*, errW_none, errW_some] <;> rfl), (by first | exact (RS HO_0.out) | (simp only [hl0_1]; exact (RS HO_0.out))), BW HB, by repeat (first | (with_reducible first | exact HK.out | apply Kept.alloc | apply Kept.drewN | apply Kept.drew) | exact HK.out)⟩
def slices_Reverse_complex64_complex64.l0 : Nat → List (Nat × Nat) → Int → Int → Option (List (Nat × Nat))
  | 0, _, _, _ => none
  | k + 1, x0, x2, x3 => if x2 < x3 then (if 0 ≤ x3 then (if x3 < (x0.length : Int) then (if 0 ≤ x2 then (if x2 < (x0.length : Int) then (slices_Reverse_complex64_complex64.l0 k ((x0.set (x2 : Int).toNat (rdOf ((0, 0) : Nat × Nat) x0 x3)).set (x3 : Int).toNat (rdOf ((0, 0) : Nat × Nat) x0 x2)) (wrap64 (x2 + 1)) (wrap64 (x3 - 1))) else (none)) else (none)) else (none)) else (none)) else (some x0)
def slices_Reverse_complex64_complex64.f (k : Nat) (l0 : List (Nat × Nat)) : Option (List (Nat × Nat)) := slices_Reverse_complex64_complex64.l0 k l0 0 (wrap64 ((l0.length : Int) - 1))
def slices_Reverse_complex64_complex64.T3 : Bool × List (List Nat × List Nat) := (true, [([], []), ([], []), ([], []), ([], []), ([], []), ([], []), ([4, 5], [4, 5]), ([6], [6]), ([], []), ([], []), ([8, 9], [8, 9]), ([10], [10]), ([0, 1, 0, 1, 4, 5, 6, 7, 11], [0, 1]), ([12, 7, 0, 1, 4, 5, 6, 7, 11], [7, 12]), ([2, 3, 0, 1, 2, 3, 4, 5, 6, 7, 8, 9, 10, 11, 12, 13], [2, 3]), ([14, 11, 13, 0, 1, 2, 3, 4, 5, 6, 7, 8, 9, 10, 11, 12, 13], [11, 14])])
def slices_Reverse_complex64_complex64.B3 : List Nat := [0, 0, 0, 0, 0, 0, 48, 112, 0, 0, 768, 1792, 4083, 8179, 16383, 32767]
theorem slices_Reverse_complex64_complex64.tab3 : rtab .any (opsOf Try.f105 3) = slices_Reverse_complex64_complex64.T3 := by kernel_rfl
theorem slices_Reverse_complex64_complex64.bits3 : waitsOk slices_Reverse_complex64_complex64.T3.2 slices_Reverse_complex64_complex64.B3 = true := by kernel_rfl
set_option maxHeartbeats 8000000 in
set_option maxRecDepth 100000 in
theorem slices_Reverse_complex64_complex64.calls (k : Nat) (P0_ : Nat → Prop) (u9000_ : Value) (l0 : List (Nat × Nat)) (r : List (Nat × Nat)) (w0 w : World) (hB : Below w0.heap.size w0 w) (ho0 : Kd.R (Kd.complex .f32) 26 w w0.heap.size P0_ u9000_ l0) (h : slices_Reverse_complex64_complex64.f k l0 = some r) :
    Calls Try.prog 105 #[u9000_] w fun e w' => e = .returned (.tuple #[]) ∧ Kd.R (Kd.complex .f32) 26 w' w0.heap.size (fun k_ => (P0_ k_ ∨ w.heap.size ≤ k_)) u9000_ r ∧ Below w0.heap.size w0 w' ∧ Kept w w' (fun k_ => P0_ k_) := by
  have HO0 := AS (show Kd.R (Kd.complex .f32) 26 w w0.heap.size (fun k_ => (P0_ k_ ∨ w.heap.size ≤ k_)) u9000_ l0 from Kd.R_mono ho0 (fun k_ hk => (.inl hk))); have HK := AS (Kept.refl w (fun k_ => P0_ k_)); have HW0 := Aside0.mk hB.size; have HB := Aside0.mk hB; clear hB; have H : (slices_Reverse_complex64_complex64.l0 k l0 0 (wrap64 ((l0.length : Int) - 1))) = some r := h; clear h; have H' := Aside0.mk H; clear H; obtain ⟨Ao2, co2, eo2⟩ := Kd.R_slice HO0.out; subst eo2; go_enter Try.func105, Try.ntmps105; go_wp2; go_loopg [2, 3] k (fun kq v2 v3 w' => ∃ (x0_1 : List (Nat × Nat)) (x2_1 : Int) (x3_1 : Int), v2 = .int .i64 x2_1 ∧ v3 = .int .i64 x3_1 ∧ Aside0 (slices_Reverse_complex64_complex64.l0 kq x0_1 x2_1 x3_1 = some r) ∧ Aside0 (kq ≤ k) ∧ Aside0 (Kd.R (Kd.complex .f32) 26 w' w0.heap.size (fun k_ => (P0_ k_ ∨ w.heap.size ≤ k_)) (.slice Ao2 l0.length co2) x0_1) ∧ Aside0 (Kept w w' (fun k_ => P0_ k_)) ∧ Aside0 (Below w0.heap.size w0 w'))
  case atStart => exact ⟨(l0), (0), (wrap64 ((l0.length : Int) - 1)), (by first | rfl | (simp; done) | (simp [*]; done)), (by first | rfl | (simp; done) | (simp [*]; done)), H', ⟨Nat.le_refl _⟩, ⟨RS HO0.out⟩, ⟨by repeat (first | (with_reducible first | exact HK.out | apply Kept.alloc | apply Kept.drewN | apply Kept.drew) | exact HK.out)⟩, ⟨BW HB⟩⟩
  case round =>
    clear H'; (try clear c1); (try clear p2); obtain ⟨x0_1, x2_1, x3_1, rfl, rfl, HA, HK1, HO_0, HK, HB⟩ := hrel; have hl0_1 := (Kd.R_reads' HO_0.out).1; rw [hl0_1] at HO_0; (try simp only [hl0_1]); cases gk with
    | zero => exact absurd HA.out (by simp [slices_Reverse_complex64_complex64.l0])
    | succ k1 =>
      have H := HA.out; clear HA; simp only [slices_Reverse_complex64_complex64.l0] at H; by_cases c3 : x2_1 < x3_1
      · rw [if_pos c3] at H
        have c3b0 : decide (x2_1 < x3_1) = true := decide_eq_true c3; clear c3; by_cases c4 : 0 ≤ x3_1
        · rw [if_pos c4] at H
          have c4b0 : decide (0 ≤ x3_1) = true := decide_eq_true c4; clear c4; by_cases c5 : x3_1 < (x0_1.length : Int)
          · rw [if_pos c5] at H
            have c5b0 : decide (x3_1 < (x0_1.length : Int)) = true := decide_eq_true c5; (try (have c5b90 := c5b0; simp only [hl0_1] at c5b90)); clear c5; by_cases c6 : 0 ≤ x2_1
            · rw [if_pos c6] at H
              have c6b0 : decide (0 ≤ x2_1) = true := decide_eq_true c6; clear c6; by_cases c7 : x2_1 < (x0_1.length : Int)
              · rw [if_pos c7] at H
                have c7b0 : decide (x2_1 < (x0_1.length : Int)) = true := decide_eq_true c7; (try (have c7b90 := c7b0; simp only [hl0_1] at c7b90)); clear c7; obtain ⟨y282, hy282⟩ : ∃ y_ : List (Nat × Nat), y_ = (x0_1.set (x2_1 : Int).toNat (rdOf ((0, 0) : Nat × Nat) x0_1 x3_1)) := ⟨_, rfl⟩; replace H : (slices_Reverse_complex64_complex64.l0 k1 (y282.set (x3_1 : Int).toNat (rdOf ((0, 0) : Nat × Nat) x0_1 x2_1)) (wrap64 (x2_1 + 1)) (wrap64 (x3_1 - 1))) = some r := (by first | (rw [hy282]; with_reducible exact H) | (have H2_ := (Option.bind_some _ _).symm.trans H; rw [hy282]; with_reducible exact H2_) | (have H2_ := (Option.bind_some _ _).symm.trans H; with_reducible exact H2_) | with_reducible exact H | (rw [hy282]; exact H) | exact H); have Ny282 := Aside0.mk hy282; clear hy282; obtain ⟨y283, hy283⟩ : ∃ y_ : List (Nat × Nat), y_ = (y282.set (x3_1 : Int).toNat (rdOf ((0, 0) : Nat × Nat) x0_1 x2_1)) := ⟨_, rfl⟩; replace H : (slices_Reverse_complex64_complex64.l0 k1 y283 (wrap64 (x2_1 + 1)) (wrap64 (x3_1 - 1))) = some r := (by first | (rw [hy283]; with_reducible exact H) | (have H2_ := (Option.bind_some _ _).symm.trans H; rw [hy283]; with_reducible exact H2_) | (have H2_ := (Option.bind_some _ _).symm.trans H; with_reducible exact H2_) | with_reducible exact H | (rw [hy283]; exact H) | exact H); have Ny283 := Aside0.mk hy283; clear hy283; have H' := Aside0.mk H; clear H; (try go_wp2); have n0_ := AS (Kd.R_drew HO_0.out); have n1_ := AS (Kept.drew HK.out); have n2_ := AS (below_drew1 HB.out); replace HO_0 := n0_; replace HK := n1_; replace HB := n2_; clear n0_ n1_ n2_; have p280 : 0 ≤ (x3_1 : Int) := of_decide_eq_true (by first | (with_reducible assumption) | assumption); have q280 : x3_1 < (x0_1.length : Int) := of_decide_eq_true (by first | (with_reducible assumption) | assumption); obtain ⟨ad280, e280, hx280_0⟩ := Kd.at_complex (Kd.R_reads' HO_0.out).2.2 x3_1 p280 q280; cases e280; replace p280 := eq_true p280; replace q280 := eq_true q280; have p281 : 0 ≤ (x2_1 : Int) := of_decide_eq_true (by first | (with_reducible assumption) | assumption); have q281 : x2_1 < (x0_1.length : Int) := of_decide_eq_true (by first | (with_reducible assumption) | assumption); obtain ⟨ad281, e281, hx281_0⟩ := Kd.at_complex (Kd.R_reads' HO_0.out).2.2 x2_1 p281 q281; obtain rfl : ad280 = ad281 := (by injection e281); replace p281 := eq_true p281; replace q281 := eq_true q281; have p8 : 0 ≤ (x2_1 : Int) := of_decide_eq_true (by first | (with_reducible assumption) | assumption); have q8 : (x2_1 : Int) < ((x0_1.length : Int) : Int) := of_decide_eq_true (by first | (with_reducible assumption) | assumption); obtain ⟨go8, co8, eo8, gb8, gl8, cl8, HG8⟩ := Kd.R_form HO_0.out (by omega); (first | cases eo8 | (injection eo8 with ea_ en_ ec_; (first | subst ea_ | (injection ea_ with ea_; subst ea_)); subst ec_; clear en_)); have GB8 := Aside0.mk gb8; have GG8 := Aside0.mk HG8; clear gb8 gl8 HG8; have HMgo8 := AS (show (P0_ go8 ∨ w.heap.size ≤ go8) from (HO_0.out.1 _ rfl)); (first | simp only [add_plain] at hx280_0 | skip); (first | simp only [add_plain] at hx281_0 | skip); obtain ⟨hx8_0, hf8_0⟩ := Kd.R_celln ((0, 0) : Nat × Nat) HO_0.out (x2_1 : Int) p8 q8; replace p8 := eq_true p8; replace q8 := eq_true q8; have HP11 := Kd.R_putn HO_0.out (x2_1 : Int) (rdOf ((0, 0) : Nat × Nat) x0_1 x3_1); rw [← Ny282.out] at HP11; have HQ11 := Aside0.mk HP11; clear HP11; have p9 : 0 ≤ (x3_1 : Int) := of_decide_eq_true (by first | (with_reducible assumption) | assumption); have q9 : (x3_1 : Int) < ((x0_1.length : Int) : Int) := of_decide_eq_true (by first | (with_reducible assumption) | assumption); obtain ⟨hx9_0, hf9_0⟩ := Kd.R_celln ((0, 0) : Nat × Nat) HQ11.out (x3_1 : Int) p9 q9; replace p9 := eq_true p9; replace q9 := eq_true q9; have HP12 := Kd.R_putn HQ11.out (x3_1 : Int) (rdOf ((0, 0) : Nat × Nat) x0_1 x2_1); rw [← Ny283.out] at HP12; have HQ12 := Aside0.mk HP12; clear HP12; refine start_ (n := 16) (S := fun w' => w'.cell? ⟨go8, (x3_1).toNat, none⟩ = some (.complex .f32 (rdOf ((0, 0) : Nat × Nat) x0_1 x3_1).1 (rdOf ((0, 0) : Nat × Nat) x0_1 x3_1).2) ∧ w'.cell? ⟨go8, (x2_1).toNat, none⟩ = some (.complex .f32 (rdOf ((0, 0) : Nat × Nat) x0_1 x2_1).1 (rdOf ((0, 0) : Nat × Nat) x0_1 x2_1).2)) (ds := [13, 15]) #[false, false, false, false, false, false, false, false, false, false, false, false, false, false, false, false] (by kernel_rfl) rfl rfl ⟨hx280_0, hx281_0⟩ (fun hHeld => ?_); refine with_tabW slices_Reverse_complex64_complex64.tab3 slices_Reverse_complex64_complex64.bits3 (fun HT_ HW_ => ?_); generalize wr.drew = w10 at HO_0 HK HB GG8 HQ11 HQ12 hf8_0 hf9_0 hx280_0 hx281_0 hx8_0 hx9_0 hHeld ⊢; refine pureT 0 14 HT_.out ?_; refine pureT 1 15 HT_.out ?_; refine pureT 2 16 HT_.out ?_; refine pureT 3 17 HT_.out ?_; refine pureT 4 18 HT_.out ?_; refine pureT 5 19 HT_.out ?_; refine pureT 6 20 HT_.out ?_; refine pureT 8 22 HT_.out ?_; refine pureT 9 23 HT_.out ?_; refine pureT 10 24 HT_.out ?_; refine takeS (i := 7) (N := some 21) (v := ?_) (a' := ?_) rfl rfl (take_ofW HT_.out HW_.out (by kernel_rfl)) (fun _ _ _ h => h) (Or.inl ⟨by rfl, ?_⟩) hHeld ?_ ?_; rotate_left; (· rintro w' ⟨s0, s1⟩; go_simp; with_reducible rfl); rotate_left; (· simp only [Act.put, List.setIfInBounds_toArray, List.set_cons_zero, List.set_cons_succ, i64_w, i32_w]; rfl); refine takeS (i := 11) (N := some 25) (v := ?_) (a' := ?_) rfl rfl (take_ofW HT_.out HW_.out (by kernel_rfl)) (fun _ _ _ h => h) (Or.inl ⟨by rfl, ?_⟩) hHeld ?_ ?_; rotate_left; (· rintro w' ⟨s0, s1⟩; go_simp; with_reducible rfl); rotate_left; (· simp only [Act.put, List.setIfInBounds_toArray, List.set_cons_zero, List.set_cons_succ, i64_w, i32_w]; rfl); refine pureT 12 26 HT_.out ?_; refine last_ (i := 13) (N := none) #[true, true, true, true, true, true, true, true, true, true, true, true, true, true, false, false] rfl rfl (one_of HT_.out (by kernel_rfl)) (by decide) (fun K hK => ?_); refine skip_ (w1 := ?_) (by rfl) rfl ?_ ?_; rotate_left
                · go_simp
                  rfl
                refine hK.out _ _ ?_; clear hK K; refine pureT 14 27 HT_.out ?_; refine last_ (i := 15) (N := none) #[true, true, true, true, true, true, true, true, true, true, true, true, true, true, true, true] rfl rfl (one_of HT_.out (by kernel_rfl)) (by decide) (fun K hK => ?_); refine skip_ (w1 := ?_) (by rfl) rfl ?_ ?_; rotate_left
                · go_simp
                  rfl
                refine hK.out _ _ ?_; clear hK K; refine done_ (done_of HT_.out (by kernel_rfl)) ?_; (try go_wp2); (try simp only [← hl0_1]); go_roundg k1
                case measure => have := HK1.out; omega
                case rel => exact ⟨(y283), (wrap64 (x2_1 + 1)), (wrap64 (x3_1 - 1)), (by first | rfl | (simp; done) | (simp [*]; done)), (by first | rfl | (simp; done) | (simp [*]; done)), H', ⟨by have := HK1.out; omega⟩, ⟨by (try simp only [hl0_1]); (with_reducible repeat (first | apply Kd.R_alloc | apply Kd.R_drewN | apply Kd.R_drew)); exact HQ12.out⟩, ⟨by repeat (first | (with_reducible first | exact HK.out | apply Kept.alloc | apply Kept.drewN | apply Kept.drew | refine Kept.setCell ?_ HMgo8.out _ | refine Kept.setCell ?_ HMgo8.out _) | exact HK.out)⟩, ⟨by repeat (first | (with_reducible first | exact HB.out | apply below_alloc | apply pw_below_drewN | apply below_drew1 | refine below_set ?_ GB8.out | refine below_set ?_ GB8.out) | exact HB.out)⟩⟩
              · rw [if_neg c7] at H
                exact absurd H (by simp)
            · rw [if_neg c6] at H
              exact absurd H (by simp)
          · rw [if_neg c5] at H
            exact absurd H (by simp)
        · rw [if_neg c4] at H
          exact absurd H (by simp)
      · rw [if_neg c3] at H
        have c3b0 : decide (x2_1 < x3_1) = false := decide_eq_false c3; clear c3; obtain rfl := Option.some.inj H; go_wp2; (first | go_end0 | ((try simp only [Exit.inBlock, Exit.then]); refine bodyPost_ret (results_none rfl _ _ _) rfl ?_)); exact ⟨by first | rfl | (simp [errW_none, errW_some] <;> rfl) | (simp [*, errW_none, errW_some] <;> rfl), (by first | exact (RS HO_0.out) | (simp only [hl0_1]; exact (RS HO_0.out))), BW HB, by repeat (first | (with_reducible first | exact HK.out | apply Kept.alloc | apply Kept.drewN | apply Kept.drew) | exact HK.out)⟩
end Go.Proofs.Ytcgaccdiomcglaa.S0
end
section
set_option linter.unusedVariables false
set_option linter.unusedSimpArgs false
namespace Go.Proofs.Ytcgaccdiomcglaa
open Go.RowKit Go.Proofs.YtcgaccdiomcglaaW.PrintWords Go.Proofs.YtcgaccdiomcglaaW.PrintLast Ieee
namespace QA
open FR PU XL
def Ret {α : Type} (o : Option α) (P : α → Prop) : Prop := ∃ a, o = some a ∧ P a
theorem Ret.bind {α β : Type} {o : Option α} {g : α → Option β} {P : α → Prop} {Q : β → Prop} (h : Ret o P) (k : ∀ a, P a → Ret (g a) Q) : Ret (o.bind g) Q := by
  obtain ⟨a, rfl, ha⟩ := h
  exact k a ha
theorem Ret.of {α : Type} {a : α} {P : α → Prop} (h : P a) : Ret (some a) P := ⟨a, rfl, h⟩
theorem w64 {n : Int} (h : -9223372036854775808 ≤ n) (h2 : n ≤ 9223372036854775807) : wrap64 n = n := by unfold wrap64; omega
theorem fin_of {x : Nat} {v : Rat} (h : Fk .f32 x v) : fin x = true := by
  have e : v - v = 0 := by grind
  obtain ⟨r, c, h1, h2, -, h4⟩ := sub_val (f := single) (.inl rfl) h h (J := 1) (by rw [e]; exact ⟨by decide +kernel, by decide +kernel⟩) (by decide)
  have : c = v - v := h4 (by rw [e]; exact ⟨0, 0, by rw [Rat.intCast_zero, Rat.zero_mul], by decide, by decide⟩)
  subst this
  rw [e] at h2
  unfold fin
  have h1' : floatBits .sub .f32 x x = some r := h1
  rw [h1']
  have := order_val (f := single) h2 (show Fv single 0 0 from ⟨false, 0, -149, by decide, sv_zero _ _⟩)
  have e2 : FloatKind.f32.format.order r 0 = some (FR.cmp 0 0) := this
  show (FloatKind.f32.format.order r 0 == some .eq) = true
  rw [e2]
  rfl
def Fin (x : Nat) : Prop := ∃ v, Fk .f32 x v
theorem finite_of {l : List Nat} (h : ∀ x ∈ l, Fin x) : XW.finite.f l = some true := by
  unfold XW.finite.f
  rw [Option.some.injEq, Bool.not_eq_true', List.any_eq_false]
  intro x hx
  obtain ⟨v, hv⟩ := h x hx
  rw [fin_of hv]
  decide
def okS (l : List Int) : Prop := ∀ b ∈ l, 0 ≤ b ∧ b ≤ 255
theorem wid {i : Int} (h0 : -9223372036854775808 ≤ i) (h : i ≤ 9223372036854775807) : wrap64 i = i := by unfold wrap64; omega
theorem rd_ok {l : List Int} (h : okS l) (i : Int) : 0 ≤ rd l i ∧ rd l i ≤ 255 := by
  unfold rd
  by_cases c : i.toNat < l.length
  · rw [List.getD_eq_getElem?_getD, List.getElem?_eq_getElem c, Option.getD_some]
    exact h _ (List.getElem_mem c)
  · rw [List.getD_eq_getElem?_getD, List.getElem?_eq_none (by omega), Option.getD_none]
    omega
theorem and255 (n : Int) : 0 ≤ Go.bits .and .u64 n 255 ∧ Go.bits .and .u64 n 255 ≤ 255 := by
  have h255 : (BitVec.ofInt 64 255).toNat = 2 ^ 8 - 1 := by decide
  have key : (BitVec.ofInt 64 n &&& BitVec.ofInt 64 255).toNat = (n % ((2 ^ 64 : Nat) : Int)).toNat % 2 ^ 8 := by
    rw [BitVec.toNat_and, BitVec.toNat_ofInt, h255, Nat.and_two_pow_sub_one_eq_mod]
  have e : Go.bits .and .u64 n 255 = IntKind.u64.wrap ((BitVec.ofInt 64 n &&& BitVec.ofInt 64 255).toNat : Nat) := rfl
  rw [e, key]
  have hb : (n % ((2 ^ 64 : Nat) : Int)).toNat % 2 ^ 8 < 256 := Nat.mod_lt _ (by decide)
  generalize (n % ((2 ^ 64 : Nat) : Int)).toNat % 2 ^ 8 = q at hb
  have e2 : IntKind.u64.wrap (q : Int) = q := by
    simp [IntKind.wrap, IntKind.bits, IntKind.signed]
    omega
  rw [e2]
  omega
theorem next_ok {l : List Int} (hl : okS l) (a s : Int) (h0 : 0 ≤ a) (h1 : a ≤ 1000000) : ∃ x s', S0.spec_l00Src_next.f l a s = some (x, a + 1, s') ∧ 0 ≤ x ∧ x ≤ 255 := by
  have hr := rd_ok hl a
  have hw1 : wrap64 (rd l a) = rd l a := wid (by omega) (by omega)
  have hw2 : wrap64 (a + 1) = a + 1 := wid (by omega) (by omega)
  have ha (n : Int) : wrap64 (Go.bits .and .u64 n 255) = Go.bits .and .u64 n 255 := by
    have := and255 n
    exact wid (by omega) (by omega)
  unfold S0.spec_l00Src_next.f
  rw [hw1, hw2]
  by_cases c : a < (l.length : Int)
  · rw [if_pos c, if_pos h0]
    by_cases c2 : a + 1 ≤ (l.length : Int)
    · rw [if_pos c2]
      exact ⟨_, _, rfl, hr.1, hr.2⟩
    · rw [if_neg c2, ha]
      exact ⟨_, _, rfl, (and255 _).1, (and255 _).2⟩
  · rw [if_neg c]
    by_cases c2 : a + 1 ≤ (l.length : Int)
    · rw [if_pos c2]
      exact ⟨_, _, rfl, by omega, by omega⟩
    · rw [if_neg c2, ha]
      exact ⟨_, _, rfl, (and255 _).1, (and255 _).2⟩
theorem tmod_ok {x n : Int} (h0 : 0 ≤ x) (hn : 0 < n) : 0 ≤ Int.tmod x n ∧ Int.tmod x n < n := by
  rw [Int.tmod_eq_emod_of_nonneg h0]
  exact ⟨Int.emod_nonneg _ (by omega), Int.emod_lt_of_pos _ hn⟩
theorem pick_ok {l : List Int} (hl : okS l) (a s n : Int) (h0 : 0 ≤ a) (h1 : a ≤ 100000) (hn : 1 < n) : ∃ v a' s', S0.spec_l00Src_pick.f l a s n = some (v, a', s') ∧ 0 ≤ v ∧ v < n ∧ 0 ≤ a' ∧ a' ≤ a + 2 := by
  unfold S0.spec_l00Src_pick.f
  rw [if_neg (by omega)]
  obtain ⟨x, s1, e1, hx0, hx1⟩ := next_ok hl a s h0 (by omega)
  rw [e1]
  simp only [Option.bind_some]
  by_cases c : n > 200
  · rw [if_pos c]
    obtain ⟨y, s2, e2, hy0, hy1⟩ := next_ok hl (a + 1) s1 (by omega) (by omega)
    rw [e2]
    simp only [Option.bind_some]
    rw [if_neg (by omega), wid (i := x * 256) (by omega) (by omega), wid (by omega) (by omega)]
    have := tmod_ok (x := x * 256 + y) (by omega) (by omega : 0 < n)
    exact ⟨_, _, _, rfl, this.1, this.2, by omega, by omega⟩
  · rw [if_neg c, if_neg (by omega)]
    have := tmod_ok hx0 (by omega : 0 < n)
    exact ⟨_, _, _, rfl, this.1, this.2, by omega, by omega⟩
theorem f_two : Fk .f32 1073741824 ((2 : Int) : Rat) := ⟨false, 8388608, -22, by decide, by decide +kernel⟩
theorem f_four' : Fk .f32 1082130432 ((2 : Rat) ^ ((2 : Nat) : Int)) := ⟨false, 8388608, -21, by decide, by decide +kernel⟩
theorem f_eight' : Fk .f32 1090519040 ((2 : Rat) ^ ((3 : Nat) : Int)) := ⟨false, 8388608, -20, by decide, by decide +kernel⟩
theorem rdOf_lt {l : List Nat} {i : Nat} (h : i < l.length) : rdOf (0 : Nat) l (i : Int) = l[i] := by
  unfold rdOf
  rw [Int.toNat_natCast, List.getD_eq_getElem?_getD, List.getElem?_eq_getElem h]
  rfl
theorem toldN_of {x : Nat} (h : Fin x) : S0.impl_toldNumber.f x = some (x, true) := by
  obtain ⟨v, hv⟩ := h
  unfold S0.impl_toldNumber.f XL.IsFinite.f
  rw [fin_of hv]
  rfl
theorem wide {x : Nat} {v : Rat} (h : Fk .f32 x v) : cok .f32 x .f64 = true ∧ Fk .f64 (cvt .f32 x .f64) v := by
  obtain ⟨r, h1, h2⟩ := wide_val h
  unfold cok cvt
  rw [h1]
  exact ⟨rfl, h2⟩
def kap : Rat := (4611686018427388 : Rat) * (2 : Rat) ^ (-62 : Int)
theorem f_kap : Fk .f64 4562254508917369340 kap := ⟨false, 4611686018427388, -62, by decide, by decide +kernel⟩
theorem same_eq {x y : Nat} {v : Rat} (hx : Fk .f32 x v) (hy : Fk .f32 y v) : FloatKind.f32.format.order x y = some .eq := by
  rw [show FloatKind.f32.format.order x y = some (FR.cmp v v) from order_val hx hy]
  unfold FR.cmp
  rw [if_neg (by grind), if_pos rfl]
theorem kap2 : Fk .f64 4576918229304087675 ((5764607523034235 : Rat) * (2 : Rat) ^ (-59 : Int)) := ⟨false, 5764607523034235, -59, by decide, by decide +kernel⟩
theorem kap2_lo : (99 : Rat) / 10000 ≤ (5764607523034235 : Rat) * (2 : Rat) ^ (-59 : Int) ∧ (5764607523034235 : Rat) * (2 : Rat) ^ (-59 : Int) ≤ 1 := by decide +kernel
theorem kap_b : (9 : Rat) / 10000 ≤ kap ∧ kap ≤ 1 := by unfold kap; decide +kernel
theorem p20 : (2 : Rat) ^ (20 : Int) = 1048576 := by decide +kernel
def S1 (f : Nat → Int) : Nat → Int
  | 0 => 0
  | r + 1 => S1 f r + f r
theorem S1_bd {f : Nat → Int} {M : Int} : ∀ r : Nat, (∀ i, i < r → -M ≤ f i ∧ f i ≤ M) → -(r * M) ≤ S1 f r ∧ S1 f r ≤ r * M
  | 0, _ => by simp [S1]
  | r + 1, h => by
    have ih := S1_bd r (fun i hi => h i (by omega))
    have := h r (by omega)
    simp only [S1]
    have e : ((r + 1 : Nat) : Int) * M = r * M + M := by rw [Int.natCast_add, Int.add_mul]; simp
    rw [e]
    omega
end QA
end Go.Proofs.Ytcgaccdiomcglaa
end
section
set_option linter.unusedVariables false
set_option linter.unusedSimpArgs false
namespace Go.Proofs.Ytcgaccdiomcglaa
open Go.RowKit Go.Proofs.YtcgaccdiomcglaaW.PrintWords Go.Proofs.YtcgaccdiomcglaaW.PrintLast Ieee
namespace QA
open FR PU XL
theorem rdC_lt {l : List (Nat × Nat)} {i : Nat} (h : i < l.length) : rdOf ((0, 0) : Nat × Nat) l (i : Int) = l[i] := by
  unfold rdOf
  rw [Int.toNat_natCast, List.getD_eq_getElem?_getD, List.getElem?_eq_getElem h]
  rfl
def FinC (p : Nat × Nat) : Prop := Fin p.1 ∧ Fin p.2
theorem fin_of' {x : Nat} (h : Fin x) : fin x = true := by
  obtain ⟨v, hv⟩ := h
  exact fin_of hv
theorem index_of {l : List (Nat × Nat)} (h : ∀ p ∈ l, FinC p) (hl : l.length ≤ 100) : ∀ (r i m : Nat), i + r = l.length → S0.slices_IndexFunc_complex64_complex64.l0 (r + 1 + m) l (l.length : Int) (i : Int) = some (-1) := by
  intro r
  induction r with
  | zero =>
    intro i m hi
    rw [show 0 + 1 + m = m + 1 by omega]
    unfold S0.slices_IndexFunc_complex64_complex64.l0
    rw [if_neg (by omega)]
  | succ r ih =>
    intro i m hi
    rw [show r + 1 + 1 + m = (r + 1 + m) + 1 by omega]
    unfold S0.slices_IndexFunc_complex64_complex64.l0
    have hp := h _ (List.getElem_mem (show i < l.length by omega))
    rw [if_pos (by omega), if_pos (by omega), if_pos (by omega), rdC_lt (by omega)]
    unfold S0.impl_finiteAll_1.f XW.IsFiniteComplex.f XW.cfin
    rw [fin_of' hp.1, fin_of' hp.2]
    simp only [Option.bind_some, Bool.and_self, Bool.not_true, Bool.false_eq_true, if_false]
    rw [w64 (by omega) (by omega)]
    exact ih (i + 1) m (by omega)
theorem finAll_of {l : List (Nat × Nat)} (h : ∀ p ∈ l, FinC p) (hl : l.length ≤ 50) {k : Nat} (hk : 60 ≤ k) : S0.impl_finiteAll.f k l = some true := by
  unfold S0.impl_finiteAll.f S0.slices_ContainsFunc_complex64_complex64.f S0.slices_IndexFunc_complex64_complex64.f
  have := index_of h (by omega) l.length 0 (k - (l.length + 1)) (by omega)
  rw [show l.length + 1 + (k - (l.length + 1)) = k by omega] at this
  rw [show ((0 : Nat) : Int) = 0 from rfl] at this
  rw [this]
  rfl
theorem valid_of {l : List (Nat × Nat)} {s : List Nat} (c : Bool) (h : ∀ p ∈ l, FinC p) (h2 : ∀ x ∈ s, Fin x) (h0 : 2 ≤ l.length) (hl : l.length ≤ 48) (hs : s.length = l.length) {k : Nat} (hk : 60 ≤ k) : S0.impl_ValidSheet.f k l s c = some true := by
  unfold S0.impl_ValidSheet.f S0.impl_in.f
  rw [if_pos (by omega)]
  simp only [Option.bind_some]
  rw [decide_eq_true (by omega), if_pos rfl, if_pos (by omega), finAll_of h (by omega) hk, finite_of h2]
  rfl
theorem told_of {l : List (Nat × Nat)} {s : List Nat} (c : Bool) (h : ∀ p ∈ l, FinC p) (h2 : ∀ x ∈ s, Fin x) (h0 : 2 ≤ l.length) (hl : l.length ≤ 48) (hs : s.length = l.length) {k : Nat} (hk : 60 ≤ k) : S0.impl_toldSheet.f k l s c = some (l, s, c, true) := by
  unfold S0.impl_toldSheet.f
  rw [valid_of c h h2 h0 hl hs hk]
  rfl
theorem clone_of {l : List (Nat × Nat)} {s : List Nat} (c : Bool) (hl : l.length ≤ 48) (hs : s.length = l.length) : S0.impl_cloneSheet.f l s c = some (l, s, c) := by
  unfold S0.impl_cloneSheet.f XK.cloneC.f XK.cloneF.f
  rw [if_pos (by omega), if_pos (by omega)]
  rfl
def OkP (M : Int) (l : List (Nat × Nat)) (X Y : Nat → Int) : Prop := ∀ i, i < l.length → U (rdOf ((0, 0) : Nat × Nat) l (i : Int)).1 (8 * X i) ∧ U (rdOf ((0, 0) : Nat × Nat) l (i : Int)).2 (8 * Y i) ∧ (-M ≤ X i ∧ X i ≤ M) ∧ (-M ≤ Y i ∧ Y i ≤ M)
theorem OkP.fin {M : Int} {l : List (Nat × Nat)} {X Y : Nat → Int} (h : OkP M l X Y) : ∀ p ∈ l, FinC p := by
  intro p hp
  obtain ⟨i, hi, rfl⟩ := List.getElem_of_mem hp
  have := h i hi
  rw [rdC_lt hi] at this
  exact ⟨⟨_, this.1⟩, ⟨_, this.2.1⟩⟩
def nx (n i : Nat) : Nat := if i + 1 = n then 0 else i + 1
theorem nx_lt {n i : Nat} (h : i < n) : nx n i < n := by unfold nx; split <;> omega
theorem next_of {l : List (Nat × Nat)} {s : List Nat} {c : Bool} {i : Nat} (hi : i < l.length) (hl : l.length ≤ 100) : S0.impl_Sheet_next.f l s c (i : Int) = some (rdOf ((0, 0) : Nat × Nat) l (nx l.length i : Int)) := by
  unfold S0.impl_Sheet_next.f
  rw [w64 (by omega) (by omega)]
  have e : Int.tmod ((i : Int) + 1) (l.length : Int) = (nx l.length i : Int) := by
    rw [Int.tmod_eq_emod_of_nonneg (by omega)]
    unfold nx
    by_cases c : i + 1 = l.length
    · rw [if_pos c, show ((i : Int) + 1) = (l.length : Int) by omega, Int.emod_self]
      rfl
    · rw [if_neg c, Int.emod_eq_of_lt (by omega) (by omega)]
      push_cast
      rfl
  have := nx_lt hi
  rw [e, if_neg (by omega), if_pos (by omega), if_pos (by omega)]
theorem U_sq8 {x y : Nat} {n m : Int} (hx : U x (8 * n)) (hy : U y (8 * m)) (h : (n * m).natAbs < 16777216) : fok .mul .f32 x y = true ∧ U (fop .mul .f32 x y) (n * m) := by
  have e : ((8 * n : Int) : Rat) * (2 : Rat) ^ (-6 : Int) * (((8 * m : Int) : Rat) * (2 : Rat) ^ (-6 : Int)) = ((n * m : Int) : Rat) * (2 : Rat) ^ (-6 : Int) := by
    have e64 : (2 : Rat) ^ (-6 : Int) * 64 = 1 := by
      have : (64 : Rat) = (2 : Rat) ^ (6 : Int) := by rfl
      rw [this, ← pw_add]
      rfl
    simp only [Rat.intCast_mul]
    have a8 : ((8 : Int) : Rat) = 8 := rfl
    rw [a8]
    generalize (2 : Rat) ^ (-6 : Int) = p at *
    have : 8 * (n : Rat) * p * (8 * (m : Rat) * p) = ((n : Rat) * m) * p * (p * 64) := by grind
    rw [this, e64, Rat.mul_one]
  obtain ⟨r, c, h1, h2, -, h4⟩ := mul_val (.inl rfl) hx hy (J := 18) (by rw [e]; exact U_bd h) (by decide)
  rw [e] at h4
  have := h4 (U_rep h)
  subst this
  obtain ⟨g1, g2⟩ := fok_of (op := .mul) (k := .f32) h1
  rw [g2]
  exact ⟨g1, h2⟩
theorem mul_bound {a b M : Int} (h1 : -M ≤ a) (h2 : a ≤ M) (h3 : -M ≤ b) (h4 : b ≤ M) : -(M * M) ≤ a * b ∧ a * b ≤ M * M := by
  have hM : 0 ≤ M := by omega
  have e1 : a.natAbs ≤ M.natAbs := by omega
  have e2 : b.natAbs ≤ M.natAbs := by omega
  have := Nat.mul_le_mul e1 e2
  rw [← Int.natAbs_mul, ← Int.natAbs_mul] at this
  have h5 : 0 ≤ M * M := Int.mul_nonneg hM hM
  omega
def crs (X Y : Nat → Int) (n i : Nat) : Int := X i * Y (nx n i) - Y i * X (nx n i)
theorem crossed_of {M : Int} (hM : M ≤ 64) {l : List (Nat × Nat)} {X Y : Nat → Int} (h : OkP M l X Y) {i : Nat} (hi : i < l.length) :
    Ret (S0.impl_crossed.f (rdOf ((0, 0) : Nat × Nat) l (i : Int)).1 (rdOf ((0, 0) : Nat × Nat) l (nx l.length i : Int)).2 (rdOf ((0, 0) : Nat × Nat) l (i : Int)).2 (rdOf ((0, 0) : Nat × Nat) l (nx l.length i : Int)).1) (fun t => U t (crs X Y l.length i)) ∧ -8192 ≤ crs X Y l.length i ∧ crs X Y l.length i ≤ 8192 := by
  obtain ⟨a1, a2, a3, a4⟩ := h i hi
  obtain ⟨b1, b2, b3, b4⟩ := h (nx l.length i) (nx_lt hi)
  have m1 := mul_bound a3.1 a3.2 b4.1 b4.2
  have m2 := mul_bound a4.1 a4.2 b3.1 b3.2
  have hM2 : M * M ≤ 64 * 64 := by
    have h0 : 0 ≤ M := by omega
    exact Int.mul_le_mul hM hM h0 (by decide)
  obtain ⟨g1, g2⟩ := U_sq8 a1 b2 (by omega)
  obtain ⟨k1, k2⟩ := U_sq8 a2 b1 (by omega)
  obtain ⟨d1, d2⟩ := U_sub g2 k2 (by omega)
  refine ⟨?_, by unfold crs; omega, by unfold crs; omega⟩
  unfold S0.impl_crossed.f
  rw [if_pos g1, if_pos k1, if_pos d1]
  exact Ret.of d2
theorem two_ : Fk .f32 1073741824 (2 : Rat) := f_two
theorem half_of {x : Nat} {S : Int} (h : U x S) (hb : S.natAbs < 16777216) : fok .quo .f32 x 1073741824 = true ∧ Fk .f32 (fop .quo .f32 x 1073741824) ((S : Rat) * (2 : Rat) ^ (-7 : Int)) := by
  have e7 : (2 : Rat) ^ (-7 : Int) * 2 = (2 : Rat) ^ (-6 : Int) := by
    decide +kernel
  have hp := pw_pos (-7)
  obtain ⟨r, c, h1, h2, -, h4⟩ := quo_val (f := single) (.inl rfl) h two_ (q := (S : Rat) * (2 : Rat) ^ (-7 : Int)) (by decide) (by rw [Rat.mul_assoc, e7]) (J := 18) (by
    have := U_bd hb
    unfold Bd at *
    grind) (by decide)
  have := h4 ⟨S, -7, rfl, by have : single.binade = 8388608 := by decide
                             omega, by decide⟩
  subst this
  obtain ⟨g1, g2⟩ := fok_of (op := .quo) (k := .f32) h1
  rw [g2]
  exact ⟨g1, h2⟩
theorem area_loop {M : Int} (hM : M ≤ 64) {l : List (Nat × Nat)} {X Y : Nat → Int} (h : OkP M l X Y) (hl : l.length ≤ 8) (s : List Nat) (c : Bool) :
    ∀ (r i x m : Nat), i + r = l.length → U x (S1 (crs X Y l.length) i) → Ret (S0.impl_SheetArea.l0 (r + 1 + m) x l (l.length : Int) (i : Int) l s c) (fun t => t.2 = true ∧ Fk .f32 t.1 ((S1 (crs X Y l.length) l.length : Rat) * (2 : Rat) ^ (-7 : Int))) := by
  intro r
  induction r with
  | zero =>
    intro i x m hi hx
    rw [show 0 + 1 + m = m + 1 by omega]
    unfold S0.impl_SheetArea.l0
    rw [if_neg (by omega)]
    have b := S1_bd (M := 8192) l.length (f := crs X Y l.length) (fun j hj => (crossed_of hM h hj).2)
    rw [Nat.add_zero] at hi
    rw [hi] at hx
    have b3 : ((l.length : Nat) : Int) * 8192 ≤ 8 * 8192 := Int.mul_le_mul_of_nonneg_right (by omega) (by decide)
    obtain ⟨g1, g2⟩ := half_of hx (by omega)
    rw [if_pos g1, toldN_of ⟨_, g2⟩]
    exact Ret.of ⟨rfl, g2⟩
  | succ r ih =>
    intro i x m hi hx
    rw [show r + 1 + 1 + m = (r + 1 + m) + 1 by omega]
    unfold S0.impl_SheetArea.l0
    rw [if_pos (by omega), if_pos (by omega), if_pos (by omega), next_of (by omega) (by omega)]
    simp only [Option.bind_some]
    have b := S1_bd (M := 8192) (i + 1) (f := crs X Y l.length) (fun j hj => (crossed_of hM h (by omega : j < l.length)).2)
    have b3 : ((i + 1 : Nat) : Int) * 8192 ≤ 8 * 8192 := Int.mul_le_mul_of_nonneg_right (by omega) (by decide)
    refine ((crossed_of hM h (show i < l.length by omega)).1).bind fun t ht => ?_
    have e : S1 (crs X Y l.length) (i + 1) = S1 (crs X Y l.length) i + crs X Y l.length i := rfl
    obtain ⟨a1, a2⟩ := U_add hx ht (by rw [← e]; omega)
    rw [if_pos a1, w64 (by omega) (by omega)]
    exact ih (i + 1) _ m (by omega) a2
theorem area_of {M : Int} (hM : M ≤ 64) {l : List (Nat × Nat)} {X Y : Nat → Int} (h : OkP M l X Y) (h0 : 2 ≤ l.length) (hl : l.length ≤ 8) {s : List Nat} (h2 : ∀ x ∈ s, Fin x) (hs : s.length = l.length) (c : Bool) {k : Nat} (hk : 60 ≤ k) :
    Ret (S0.impl_SheetArea.f k l s c) (fun t => t.2 = true ∧ Fk .f32 t.1 ((S1 (crs X Y l.length) l.length : Rat) * (2 : Rat) ^ (-7 : Int))) := by
  unfold S0.impl_SheetArea.f
  rw [valid_of c h.fin h2 h0 (by omega) hs hk]
  simp only [Option.bind_some, if_true]
  have := area_loop hM h hl s c l.length 0 0 (k - (l.length + 1)) (by omega) U_zero
  rwa [show l.length + 1 + (k - (l.length + 1)) = k by omega] at this
end QA
end Go.Proofs.Ytcgaccdiomcglaa
end
section
set_option linter.unusedVariables false
set_option linter.unusedSimpArgs false
namespace Go.Proofs.Ytcgaccdiomcglaa
open Go.RowKit Go.Proofs.YtcgaccdiomcglaaW.PrintWords Go.Proofs.YtcgaccdiomcglaaW.PrintLast Ieee
namespace QA
open FR PU XL
theorem v64 : (2 : Rat) ^ (-6 : Int) = 1 / 64 := by decide +kernel
theorem h64 : 2 * hu double 6 ≤ 1 / 1000 := by decide +kernel
theorem hs6 : hu single 6 ≤ 1 / 1000 := by decide +kernel
theorem p6 : (2 : Rat) ^ (6 : Int) = 64 := by decide +kernel
theorem p8 : (2 : Rat) ^ (8 : Int) = 256 := by decide +kernel
theorem hs8 : hu single 8 ≤ 1 / 100000 := by decide +kernel
theorem rep_of {n : Int} (h : n.natAbs < 16777216) : Rep double ((n : Rat) * (2 : Rat) ^ (-6 : Int)) := rep_wide (U_rep h)
theorem int_le {z M : Int} (h : z ≤ M) : (z : Rat) ≤ (M : Rat) := by exact_mod_cast h
theorem long_of {x y : Nat} {a b : Int} (hx : U x (8 * a)) (hy : U y (8 * b)) (ha : -64 ≤ a ∧ a ≤ 64) (hb : -64 ≤ b ∧ b ≤ 64) : Ret (S0.impl_LongOf.f (x, y)) (fun r => ∃ v, Fk .f32 r v ∧ -(1 / 1000) ≤ v ∧ v ≤ 18) := by
  have e (a : Int) : ((8 * a : Int) : Rat) * (2 : Rat) ^ (-6 : Int) * (((8 * a : Int) : Rat) * (2 : Rat) ^ (-6 : Int)) = ((a * a : Int) : Rat) * (2 : Rat) ^ (-6 : Int) := by
    rw [v64, Rat.intCast_mul, Rat.intCast_mul]
    have a8 : ((8 : Int) : Rat) = 8 := rfl
    rw [a8]
    grind
  have m1 := mul_bound ha.1 ha.2 ha.1 ha.2
  have m2 := mul_bound hb.1 hb.2 hb.1 hb.2
  have n1 : 0 ≤ a * a := by
    rcases Int.le_total 0 a with h | h
    · exact Int.mul_nonneg h h
    · exact Int.mul_nonneg_of_nonpos_of_nonpos h h
  have n2 : 0 ≤ b * b := by
    rcases Int.le_total 0 b with h | h
    · exact Int.mul_nonneg h h
    · exact Int.mul_nonneg_of_nonpos_of_nonpos h h
  obtain ⟨w1, w2⟩ := wide hx
  obtain ⟨u1, u2⟩ := wide hy
  obtain ⟨r1, c1, a1, a2, -, a4⟩ := mul_val (f := double) (.inr rfl) w2 w2 (J := 18) (by rw [e]; exact U_bd (by omega)) (by decide)
  rw [e] at a4
  have := a4 (rep_of (by omega))
  subst this
  obtain ⟨r2, c2, b1, b2, -, b4⟩ := mul_val (f := double) (.inr rfl) u2 u2 (J := 18) (by rw [e]; exact U_bd (by omega)) (by decide)
  rw [e] at b4
  have := b4 (rep_of (by omega))
  subst this
  have es : ((a * a : Int) : Rat) * (2 : Rat) ^ (-6 : Int) + ((b * b : Int) : Rat) * (2 : Rat) ^ (-6 : Int) = ((a * a + b * b : Int) : Rat) * (2 : Rat) ^ (-6 : Int) := by rw [Rat.intCast_add, Rat.add_mul]
  obtain ⟨r3, c3, d1, d2, -, d4⟩ := add_val (f := double) (.inr rfl) a2 b2 (J := 18) (by rw [es]; exact U_bd (by omega)) (by decide)
  rw [es] at d4
  have := d4 (rep_of (by omega))
  subst this
  obtain ⟨f1, f2⟩ := fok_of (op := .mul) (k := .f64) a1
  obtain ⟨g1, g2⟩ := fok_of (op := .mul) (k := .f64) b1
  obtain ⟨i1, i2⟩ := fok_of (op := .add) (k := .f64) d1
  have q0 : (0 : Rat) ≤ ((a * a + b * b : Int) : Rat) := by exact_mod_cast (by omega : 0 ≤ a * a + b * b)
  have q1 : ((a * a + b * b : Int) : Rat) ≤ 8192 := by
    have := int_le (show a * a + b * b ≤ 8192 by omega)
    rwa [show ((8192 : Int) : Rat) = 8192 from rfl] at this
  have s0 : (0 : Rat) ≤ ((a * a + b * b : Int) : Rat) * (2 : Rat) ^ (-6 : Int) := by rw [v64]; grind
  have s1 : ((a * a + b * b : Int) : Rat) * (2 : Rat) ^ (-6 : Int) ≤ 128 := by rw [v64]; grind
  obtain ⟨r4, c4, j1, j2, j3, j4, j5, -⟩ := root_val (f := double) (.inr rfl) d2 s0 (J := 6) (by rw [p6]; grind) (by decide)
  have k1 := j5 16 (by decide +kernel) (by grind)
  have := h64
  obtain ⟨r5, c5, l1, l2, l3, -⟩ := narrow_val (x := r4) (v := c4) j2 (J := 6) (by unfold Bd; rw [p6]; constructor <;> grind) (by decide)
  have := hs6
  unfold Nr at l3
  unfold S0.impl_LongOf.f S0.impl_power.f S0.impl_wide.f
  dsimp only
  rw [if_pos w1, if_pos u1]
  simp only [Option.bind_some]
  rw [if_pos f1, if_pos g1, f2, g2, if_pos i1, i2]
  simp only [Option.bind_some]
  unfold XR.Sqrt.f
  rw [show FloatKind.f64.format.sqrt r3 = some r4 from j1]
  simp only [Option.bind_some]
  unfold cok cvt
  rw [l1]
  exact ⟨_, rfl, c5, l2, by grind, by grind⟩
def Gp (l : List Nat) : Prop := ∀ x ∈ l, ∃ v, Fk .f32 x v ∧ -(1 / 1000) ≤ v ∧ v ≤ 18
theorem Gp.fin {l : List Nat} (h : Gp l) : ∀ x ∈ l, Fin x := fun x hx => by
  obtain ⟨v, hv, _⟩ := h x hx
  exact ⟨v, hv⟩
theorem gaps_loop {l : List (Nat × Nat)} {X Y : Nat → Int} (h : OkP 32 l X Y) (hl : l.length ≤ 8) (s : List Nat) (c : Bool) {n : Nat} (hn : n ≤ l.length) :
    ∀ (r i m : Nat) (acc : List Nat), i + r = n → acc.length = i → Gp acc → ∃ g, S0.impl_Sheet_gaps.l0 (r + 1 + m) acc (n : Int) (i : Int) l s c = some g ∧ g.length = n ∧ Gp g := by
  intro r
  induction r with
  | zero =>
    intro i m acc hi ha hg
    rw [show 0 + 1 + m = m + 1 by omega]
    unfold S0.impl_Sheet_gaps.l0
    rw [if_neg (by omega)]
    exact ⟨acc, rfl, by omega, hg⟩
  | succ r ih =>
    intro i m acc hi ha hg
    rw [show r + 1 + 1 + m = (r + 1 + m) + 1 by omega]
    unfold S0.impl_Sheet_gaps.l0
    rw [if_pos (by omega), next_of (by omega) (by omega)]
    simp only [Option.bind_some]
    obtain ⟨a1, a2, a3, a4⟩ := h i (by omega)
    obtain ⟨b1, b2, b3, b4⟩ := h (nx l.length i) (nx_lt (by omega))
    have e (p q : Int) : 8 * p - 8 * q = 8 * (p - q) := by omega
    obtain ⟨g1, g2⟩ := U_sub b1 a1 (by omega)
    obtain ⟨k1, k2⟩ := U_sub b2 a2 (by omega)
    rw [e] at g2 k2
    obtain ⟨t, ht, hv⟩ := long_of g2 k2 (by omega) (by omega)
    rw [if_pos (by omega), if_pos (by omega), if_pos g1, if_pos k1, ht]
    simp only [Option.bind_some]
    rw [if_pos (by omega), w64 (by omega) (by omega)]
    refine ih (i + 1) m _ (by omega) (by simp [ha]) ?_
    intro x hx
    rcases List.mem_append.1 hx with hx | hx
    · exact hg x hx
    · obtain rfl := List.mem_singleton.1 hx
      exact hv
def goes (c : Bool) (n : Nat) : Nat := if c = true then n else n - 1
theorem gaps_of {l : List (Nat × Nat)} {X Y : Nat → Int} (h : OkP 32 l X Y) (h0 : 2 ≤ l.length) (hl : l.length ≤ 8) (s : List Nat) (c : Bool) {k : Nat} (hk : 60 ≤ k) : ∃ g, S0.impl_Sheet_gaps.f k l s c = some g ∧ g.length = goes c l.length ∧ Gp g := by
  unfold S0.impl_Sheet_gaps.f S0.impl_Sheet_many.f
  have hn : goes c l.length ≤ l.length := by unfold goes; split <;> omega
  obtain ⟨g, h1, h2, h3⟩ := gaps_loop h hl s c hn (goes c l.length) 0 (k - (goes c l.length + 1)) [] (by omega) rfl (by intro x hx; cases hx)
  rw [show goes c l.length + 1 + (k - (goes c l.length + 1)) = k by omega] at h1
  refine ⟨g, ?_, h2, h3⟩
  rw [← h1]
  unfold goes
  cases c with
  | true => rfl
  | false =>
    rw [if_neg (by decide), w64 (by omega) (by omega)]
    simp only [Option.bind_some]
    rw [if_neg (by decide), show (((l.length - 1 : Nat)) : Int) = (l.length : Int) - 1 by omega]
    rfl
theorem vals {l : List Nat} (h : Gp l) : ∃ v : Nat → Rat, ∀ i, i < l.length → Fk .f32 (rdOf (0 : Nat) l (i : Int)) (v i) ∧ -(1 / 1000) ≤ v i ∧ v i ≤ 18 := by
  have key : ∀ i, ∃ v : Rat, i < l.length → Fk .f32 (rdOf (0 : Nat) l (i : Int)) v ∧ -(1 / 1000) ≤ v ∧ v ≤ 18 := by
    intro i
    by_cases c : i < l.length
    · obtain ⟨v, hv⟩ := h _ (List.getElem_mem c)
      exact ⟨v, fun _ => by rw [rdOf_lt c]; exact hv⟩
    · exact ⟨0, fun h => absurd h c⟩
  exact ⟨fun i => Classical.choose (key i), fun i => Classical.choose_spec (key i)⟩
def SR (v : Nat → Rat) : Nat → Rat
  | 0 => 0
  | r + 1 => SR v r + v r
theorem SR_bd {v : Nat → Rat} : ∀ r : Nat, (∀ i, i < r → -(1 / 1000) ≤ v i ∧ v i ≤ 18) → -((r : Rat) / 1000) ≤ SR v r ∧ SR v r ≤ 18 * (r : Rat)
  | 0, _ => ⟨by simp only [SR]; decide +kernel, by simp only [SR]; decide +kernel⟩
  | r + 1, h => by
    have ih := SR_bd r (fun i hi => h i (by omega))
    have := h r (by omega)
    rw [show ((r + 1 : Nat) : Rat) = (r : Rat) + 1 by push_cast; rfl]
    simp only [SR]
    constructor <;> grind
theorem le_rat {a b : Nat} (h : a ≤ b) : (a : Rat) ≤ (b : Rat) := by exact_mod_cast h
theorem sum_near {l : List Nat} {v : Nat → Rat} (hl : l.length ≤ 8) (hv : ∀ i, i < l.length → Fk .f32 (rdOf (0 : Nat) l (i : Int)) (v i) ∧ -(1 / 1000) ≤ v i ∧ v i ≤ 18) :
    ∀ (r i x m : Nat), i + r = l.length → (∃ c, Fk .f32 x c ∧ SR v i - (i : Rat) / 100000 ≤ c ∧ c ≤ SR v i + (i : Rat) / 100000) → Ret (S0.impl_sum.l0 (r + 1 + m) x l (l.length : Int) (i : Int)) (fun t => ∃ c, Fk .f32 t c ∧ SR v l.length - (l.length : Rat) / 100000 ≤ c ∧ c ≤ SR v l.length + (l.length : Rat) / 100000) := by
  intro r
  induction r with
  | zero =>
    intro i x m hi hx
    rw [show 0 + 1 + m = m + 1 by omega]
    unfold S0.impl_sum.l0
    rw [if_neg (by omega)]
    refine Ret.of ?_
    rwa [← hi, Nat.add_zero]
  | succ r ih =>
    intro i x m hi hx
    rw [show r + 1 + 1 + m = (r + 1 + m) + 1 by omega]
    unfold S0.impl_sum.l0
    obtain ⟨g1, g2, g3⟩ := hv i (by omega)
    obtain ⟨c, c1, c2, c3⟩ := hx
    have b := SR_bd i (fun j hj => (hv j (by omega)).2)
    have i8 := le_rat (show i ≤ 7 by omega)
    have i0 := le_rat (Nat.zero_le i)
    rw [show ((7 : Nat) : Rat) = 7 from rfl] at i8
    rw [show ((0 : Nat) : Rat) = 0 from rfl] at i0
    obtain ⟨z, y, a1, a2, a3, -⟩ := add_val (f := single) (.inl rfl) c1 g1 (J := 8) (by unfold Bd; rw [p8]; constructor <;> grind) (by decide)
    obtain ⟨f1, f2⟩ := fok_of (op := .add) (k := .f32) a1
    have := hs8
    unfold Nr at a3
    rw [if_pos (by omega), if_pos (by omega), if_pos (by omega), if_pos f1, w64 (by omega) (by omega), f2]
    refine ih (i + 1) _ m (by omega) ⟨y, a2, ?_, ?_⟩ <;> rw [show ((i + 1 : Nat) : Rat) = (i : Rat) + 1 by push_cast; rfl] <;> simp only [SR] <;> grind
theorem f_zero : Fk .f32 0 (0 : Rat) := ⟨false, 0, -149, by decide, sv_zero _ _⟩
theorem f_zero64 : Fk .f64 0 (0 : Rat) := ⟨false, 0, -1074, by decide, sv_zero _ _⟩
theorem sum_of {l : List Nat} {v : Nat → Rat} (hl : l.length ≤ 8) (hv : ∀ i, i < l.length → Fk .f32 (rdOf (0 : Nat) l (i : Int)) (v i) ∧ -(1 / 1000) ≤ v i ∧ v i ≤ 18) {k : Nat} (hk : 60 ≤ k) :
    Ret (S0.impl_sum.f k l) (fun t => ∃ c, Fk .f32 t c ∧ SR v l.length - (l.length : Rat) / 100000 ≤ c ∧ c ≤ SR v l.length + (l.length : Rat) / 100000) := by
  unfold S0.impl_sum.f
  have := sum_near hl hv l.length 0 0 (k - (l.length + 1)) (by omega) ⟨0, f_zero, by simp only [SR]; decide +kernel, by simp only [SR]; decide +kernel⟩
  rwa [show l.length + 1 + (k - (l.length + 1)) = k by omega] at this
theorem order32 {x y : Nat} {a b : Rat} (hx : Fk .f32 x a) (hy : Fk .f32 y b) : FloatKind.f32.format.order x y = some (FR.cmp a b) := order_val hx hy
theorem gt_iff {x y : Nat} {a b : Rat} (hx : Fk .f32 x a) (hy : Fk .f32 y b) : (FloatKind.f32.format.order x y == some .gt) = true ↔ b < a := by
  rw [order32 hx hy]
  unfold FR.cmp
  by_cases h1 : a < b
  · rw [if_pos h1]
    exact ⟨fun h => absurd h (by decide), fun h => by grind⟩
  · rw [if_neg h1]
    by_cases h2 : a = b
    · rw [if_pos h2]
      exact ⟨fun h => absurd h (by decide), fun h => by grind⟩
    · rw [if_neg h2]
      exact ⟨fun _ => by grind, fun _ => rfl⟩
theorem eq_iff {x y : Nat} {a b : Rat} (hx : Fk .f32 x a) (hy : Fk .f32 y b) : (FloatKind.f32.format.order x y == some .eq) = true ↔ a = b := by
  rw [order32 hx hy]
  unfold FR.cmp
  by_cases h1 : a < b
  · rw [if_pos h1]
    exact ⟨fun h => absurd h (by decide), fun h => by grind⟩
  · rw [if_neg h1]
    by_cases h2 : a = b
    · rw [if_pos h2]
      exact ⟨fun _ => h2, fun _ => rfl⟩
    · rw [if_neg h2]
      exact ⟨fun h => absurd h (by decide), fun h => absurd h h2⟩
theorem great_loop {l : List Nat} {v : Nat → Rat} (hl : l.length ≤ 8) (hv : ∀ i, i < l.length → Fk .f32 (rdOf (0 : Nat) l (i : Int)) (v i) ∧ -(1 / 1000) ≤ v i ∧ v i ≤ 18) :
    ∀ (r i b m : Nat), i + r = l.length → b < l.length → b ≤ i → (∀ j, j < i → v j ≤ v b) → (∀ j, j < b → v j < v b) → Ret (S0.impl_greatest.l0 (r + 1 + m) l (b : Int) l (l.length : Int) (i : Int)) (fun t => ∃ q : Nat, t = (q : Int) ∧ q < l.length ∧ (∀ j, j < l.length → v j ≤ v q) ∧ (∀ j, j < q → v j < v q)) := by
  intro r
  induction r with
  | zero =>
    intro i b m hi hb hbi h1 h2
    rw [show 0 + 1 + m = m + 1 by omega]
    unfold S0.impl_greatest.l0
    rw [if_neg (by omega)]
    exact Ret.of ⟨b, rfl, hb, fun j hj => h1 j (by omega), h2⟩
  | succ r ih =>
    intro i b m hi hb hbi h1 h2
    rw [show r + 1 + 1 + m = (r + 1 + m) + 1 by omega]
    unfold S0.impl_greatest.l0
    rw [if_pos (by omega), if_pos (by omega), if_pos (by omega), if_pos (by omega), if_pos (by omega)]
    have g := gt_iff (hv i (by omega)).1 (hv b hb).1
    rw [w64 (by omega) (by omega)]
    by_cases c : v b < v i
    · rw [if_pos (g.2 c)]
      refine ih (i + 1) i m (by omega) (by omega) (by omega) (fun j hj => ?_) (fun j hj => ?_)
      · rcases Nat.lt_succ_iff_lt_or_eq.1 hj with h | h
        · have := h1 j h
          grind
        · rw [h]
          exact Rat.le_refl
      · have := h1 j hj
        grind
    · rw [if_neg (fun h => c (g.1 h))]
      refine ih (i + 1) b m (by omega) hb (by omega) (fun j hj => ?_) h2
      rcases Nat.lt_succ_iff_lt_or_eq.1 hj with h | h
      · exact h1 j h
      · rw [h]
        exact Rat.not_lt.1 c
theorem great_of {l : List Nat} {v : Nat → Rat} (h0 : 0 < l.length) (hl : l.length ≤ 8) (hv : ∀ i, i < l.length → Fk .f32 (rdOf (0 : Nat) l (i : Int)) (v i) ∧ -(1 / 1000) ≤ v i ∧ v i ≤ 18) {k : Nat} (hk : 60 ≤ k) :
    Ret (S0.impl_greatest.f k l) (fun t => ∃ q : Nat, t = (q : Int) ∧ q < l.length ∧ (∀ j, j < l.length → v j ≤ v q) ∧ (∀ j, j < q → v j < v q)) := by
  unfold S0.impl_greatest.f
  have := great_loop hl hv l.length 0 0 (k - (l.length + 1)) (by omega) h0 (by omega) (fun j hj => absurd hj (by omega)) (fun j hj => absurd hj (by omega))
  rwa [show l.length + 1 + (k - (l.length + 1)) = k by omega] at this
theorem sheetLong_of {l : List (Nat × Nat)} {s : List Nat} {c : Bool} {g : List Nat} {v : Nat → Rat} {k : Nat} (hV : S0.impl_ValidSheet.f k l s c = some true) (hg : S0.impl_Sheet_gaps.f k l s c = some g) (hl : g.length ≤ 8) (hv : ∀ i, i < g.length → Fk .f32 (rdOf (0 : Nat) g (i : Int)) (v i) ∧ -(1 / 1000) ≤ v i ∧ v i ≤ 18) (hk : 60 ≤ k) :
    Ret (S0.impl_SheetLong.f k l s c) (fun t => t.2 = true ∧ ∃ x, Fk .f32 t.1 x ∧ SR v g.length - (g.length : Rat) / 100000 ≤ x ∧ x ≤ SR v g.length + (g.length : Rat) / 100000) := by
  unfold S0.impl_SheetLong.f
  rw [hV, hg]
  simp only [Option.bind_some, if_true]
  refine (sum_of hl hv hk).bind fun t ⟨x, h1, h2, h3⟩ => ?_
  rw [toldN_of ⟨_, h1⟩]
  exact Ret.of ⟨rfl, x, h1, h2, h3⟩
theorem gapsOf_of {l : List (Nat × Nat)} {s : List Nat} {c : Bool} {g : List Nat} {k : Nat} (hV : S0.impl_ValidSheet.f k l s c = some true) (hg : S0.impl_Sheet_gaps.f k l s c = some g) (hp : Gp g) : S0.impl_GapsOf.f k l s c = some (g, true) := by
  unfold S0.impl_GapsOf.f S0.impl_toldNumbers.f
  rw [hV, hg]
  simp only [Option.bind_some, if_true]
  rw [finite_of hp.fin]
  rfl
theorem widest_of {l : List (Nat × Nat)} {s : List Nat} {c : Bool} {g : List Nat} {v : Nat → Rat} {k : Nat} (hV : S0.impl_ValidSheet.f k l s c = some true) (hg : S0.impl_Sheet_gaps.f k l s c = some g) (h0 : 0 < g.length) (hl : g.length ≤ 8) (hv : ∀ i, i < g.length → Fk .f32 (rdOf (0 : Nat) g (i : Int)) (v i) ∧ -(1 / 1000) ≤ v i ∧ v i ≤ 18) (hk : 60 ≤ k) :
    ∃ q : Nat, S0.impl_WidestGap.f k l s c = some ((q : Int), rdOf (0 : Nat) g (q : Int), true) ∧ q < g.length ∧ (∀ j, j < g.length → v j ≤ v q) ∧ (∀ j, j < q → v j < v q) := by
  unfold S0.impl_WidestGap.f
  rw [hV, hg]
  simp only [Option.bind_some, if_true]
  obtain ⟨t, e, q, rfl, h1, h2, h3⟩ := great_of h0 hl hv hk
  rw [e]
  simp only [Option.bind_some]
  rw [if_pos (by omega), if_pos (by omega)]
  unfold XL.IsFinite.f
  rw [fin_of (hv q h1).1]
  exact ⟨q, rfl, h1, h2, h3⟩
end QA
end Go.Proofs.Ytcgaccdiomcglaa
end
section
namespace Go.Proofs.Ytcgaccdiomcglaa.SB
open Go.Proofs.Ytcgaccdiomcglaa.S0
open Go.RowKit Go.Proofs.YtcgaccdiomcglaaW.PrintWords Go.Proofs.YtcgaccdiomcglaaW.PrintLast Go.Proofs.YtcgaccdiomcglaaW.PrintMore
attribute [local go_sem] max2_int min2_int max_two min_two max_three min_three max_four min_four
set_option linter.unusedVariables false
set_option linter.unusedSimpArgs false
attribute [local go_sem high] binOp_fge binOp_fle
def errW : Option Int → Value
  | none => .nilIface
  | some c => .iface 0 (.int .i64 c)
theorem errW_none : errW none = .nilIface := rfl
theorem errW_some (c : Int) : errW (some c) = .iface 0 (.int .i64 c) := rfl
end Go.Proofs.Ytcgaccdiomcglaa.SB
end
section
namespace Go.Proofs.Ytcgaccdiomcglaa.SB
open Go.Proofs.Ytcgaccdiomcglaa.S0
open Go.RowKit Go.Proofs.YtcgaccdiomcglaaW.PrintWords Go.Proofs.YtcgaccdiomcglaaW.PrintLast Go.Proofs.YtcgaccdiomcglaaW.PrintMore
attribute [local go_sem] max2_int min2_int max_two min_two max_three min_three max_four min_four
set_option linter.unusedVariables false
set_option linter.unusedSimpArgs false
attribute [local go_sem high] binOp_fge binOp_fle
def impl_BackSheet_1.f (k : Nat) (l0_0 : List (Nat × Nat)) (l0_1 : List Nat) (a0_2 : Bool) : Option (Bool × List (Nat × Nat) × List Nat) := (S0.slices_Reverse_complex64_complex64.f k l0_0).bind fun t101 => ((S0.slices_Reverse_float32_float32.f k l0_1).bind fun t102 => (some (true, t101, t102)))
set_option maxHeartbeats 8000000 in
set_option maxRecDepth 100000 in
theorem impl_BackSheet_1.calls (k : Nat) (g0 : Nat) (P0_0_ : Nat → Prop) (u9000_ : Value) (l0_0 : List (Nat × Nat)) (P0_1_ : Nat → Prop) (u9001_ : Value) (l0_1 : List Nat) (a0_2 : Bool) (r1 : Bool) (r2 : List (Nat × Nat)) (r3 : List Nat) (w0 w : World) (hB : Below w0.heap.size w0 w) (hb0_ : w.heap[g0]? = some (.cells #[u9000_, u9001_, .bool a0_2] 58 (0, 0))) (ho0_0 : Kd.R (Kd.complex .f32) 26 w w0.heap.size P0_0_ u9000_ l0_0) (ho0_1 : Kd.R (Kd.float .f32) 27 w w0.heap.size P0_1_ u9001_ l0_1) (h : impl_BackSheet_1.f k l0_0 l0_1 a0_2 = some (r1, r2, r3)) :
    Calls Try.prog 104 #[.pointer (some ⟨g0, 0, none⟩)] w fun e w' => e = .returned (.bool r1) ∧ Kd.R (Kd.complex .f32) 26 w' w0.heap.size (fun k_ => ((P0_0_ k_ ∨ P0_1_ k_) ∨ w.heap.size ≤ k_)) u9000_ r2 ∧ Kd.R (Kd.float .f32) 27 w' w0.heap.size (fun k_ => ((P0_0_ k_ ∨ P0_1_ k_) ∨ w.heap.size ≤ k_)) u9001_ r3 ∧ Below w0.heap.size w0 w' ∧ Kept w w' (fun k_ => P0_0_ k_ ∨ P0_1_ k_) := by
  have HO0_0 := AS (show Kd.R (Kd.complex .f32) 26 w w0.heap.size (fun k_ => ((P0_0_ k_ ∨ P0_1_ k_) ∨ w.heap.size ≤ k_)) u9000_ l0_0 from Kd.R_mono ho0_0 (fun k_ hk => (.inl (.inl hk)))); have HO0_1 := AS (show Kd.R (Kd.float .f32) 27 w w0.heap.size (fun k_ => ((P0_0_ k_ ∨ P0_1_ k_) ∨ w.heap.size ≤ k_)) u9001_ l0_1 from Kd.R_mono ho0_1 (fun k_ hk => (.inl (.inr hk)))); have BK0 := Aside0.mk hb0_; clear hb0_; have HK := AS (Kept.refl w (fun k_ => P0_0_ k_ ∨ P0_1_ k_)); have HW0 := Aside0.mk hB.size; have HB := Aside0.mk hB; clear hB; have H : ((S0.slices_Reverse_complex64_complex64.f k l0_0).bind fun t101 => ((S0.slices_Reverse_float32_float32.f k l0_1).bind fun t102 => (some (true, t101, t102)))) = some (r1, r2, r3) := h; clear h; replace H := Option.bind_eq_some_iff.mp H; obtain ⟨t101, A20, H⟩ := H; replace H : ((S0.slices_Reverse_float32_float32.f k l0_1).bind fun t102 => (some (true, t101, t102))) = some (r1, r2, r3) := H; have A2 := Aside0.mk A20; clear A20; replace H := Option.bind_eq_some_iff.mp H; obtain ⟨t102, A30, H⟩ := H; replace H : (some (true, t101, t102)) = some (r1, r2, r3) := H; have A3 := Aside0.mk A30; clear A30; simp only [Option.some.injEq, Prod.mk.injEq] at H; obtain ⟨rfl, rfl, rfl⟩ := H; have hcz4_0 : w.cell? ⟨g0, 0, none⟩ = some (u9000_) := (blk_cell BK0.out 0).trans rfl; have hcz4_1 : w.cell? ⟨g0, 1, none⟩ = some (u9001_) := (blk_cell BK0.out 1).trans rfl; have hcz4_2 : w.cell? ⟨g0, 2, none⟩ = some (.bool a0_2) := (blk_cell BK0.out 2).trans rfl; have hfz4_0 := blk_frozen BK0.out 0; have hfz4_1 := blk_frozen BK0.out 1; have hfz4_2 := blk_frozen BK0.out 2; obtain ⟨Ao5, co5, eo5⟩ := Kd.R_slice HO0_0.out; subst eo5; go_enter Try.func104, Try.ntmps104; go_wp2_with (first | ((with_reducible refine gate_callee (f := 105) rfl ?_); refine goesM 7 Try.func105 #[.slice Ao5 l0_0.length co5] ?_; (with_reducible refine (S0.slices_Reverse_complex64_complex64.calls k (fun k_ => some k_ = (.slice Ao5 l0_0.length co5 : Value).ownBlock) (.slice Ao5 l0_0.length co5) l0_0 t101 w0 _ ?side1 ?side2 A2.out).mono ?_); (case side1 => repeat (first | (with_reducible first | exact HB.out | apply below_alloc | apply pw_below_drewN | apply below_drew1 | refine below_set ?_ GE0.out) | exact HB.out)); (case side2 => exact Kd.R_tight rfl HO0_0.out); rintro e w6 ⟨rfl, hy0, hb, hkp⟩; refine ⟨_, rfl, ?_⟩; have n0_ := AS (blk_kept (KS BK0.out) hkp (fun hs_ => (fun e_ => (Kd.R_ne HO0_0.out BK0.out (by decide)) e_) hs_)); have n1_ := AS (Kd.R_reok rfl hy0 (fun k_ e_ => HO0_0.out.1 k_ e_)); have n2_ := AS (Kd.R_mono (ok' := fun k_ => ((P0_0_ k_ ∨ P0_1_ k_) ∨ w.heap.size ≤ k_)) (Kd.R_keptB ((Kd.R_apart' HO0_1.out (Kd.R_typed HO0_0.out) (by decide))) hkp (fun k_ hk_ hs_ => (hk_.2) hs_)) (fun k_ hk_ => hk_.1.1)); have n3_ := AS (Kept.then_ (S := (fun k_ => P0_0_ k_ ∨ P0_1_ k_)) (by repeat (first | (with_reducible first | exact HK.out | apply Kept.alloc | apply Kept.drewN | apply Kept.drew | refine Kept.setCell ?_ (.inr GW0.out) _) | exact HK.out)) hkp (fun k_ hs_ => (fun e_ => (HO0_0.out.1 k_ e_.symm)) hs_)); have n4_ := AS (hb); replace BK0 := n0_; replace HO0_0 := n1_; replace HO0_1 := n2_; replace HK := n3_; replace HB := n4_; clear n0_ n1_ n2_ n3_ n4_; (try clear hb); (try clear hkp); (try clear hy0); have hcz7_0 : w6.cell? ⟨g0, 0, none⟩ = some (.slice Ao5 l0_0.length co5) := (blk_cell BK0.out 0).trans rfl; have hcz7_1 : w6.cell? ⟨g0, 1, none⟩ = some (u9001_) := (blk_cell BK0.out 1).trans rfl; have hcz7_2 : w6.cell? ⟨g0, 2, none⟩ = some (.bool a0_2) := (blk_cell BK0.out 2).trans rfl; have hfz7_0 := blk_frozen BK0.out 0; have hfz7_1 := blk_frozen BK0.out 1; have hfz7_2 := blk_frozen BK0.out 2; obtain ⟨Ao8, co8, eo8⟩ := Kd.R_slice HO0_1.out; subst eo8) | ((with_reducible refine gate_callee (f := 106) rfl ?_); refine goesM 12 Try.func106 #[.slice Ao8 l0_1.length co8] ?_; (with_reducible refine (S0.slices_Reverse_float32_float32.calls k (fun k_ => some k_ = (.slice Ao8 l0_1.length co8 : Value).ownBlock) (.slice Ao8 l0_1.length co8) l0_1 t102 w0 _ ?side1 ?side2 A3.out).mono ?_); (case side1 => repeat (first | (with_reducible first | exact HB.out | apply below_alloc | apply pw_below_drewN | apply below_drew1 | refine below_set ?_ GE0.out) | exact HB.out)); (case side2 => exact Kd.R_tight rfl HO0_1.out); rintro e w9 ⟨rfl, hy0, hb, hkp⟩; refine ⟨_, rfl, ?_⟩; have n0_ := AS (blk_kept (KS BK0.out) hkp (fun hs_ => (fun e_ => (Kd.R_ne HO0_1.out BK0.out (by decide)) e_) hs_)); have n1_ := AS (Kd.R_mono (ok' := fun k_ => ((P0_0_ k_ ∨ P0_1_ k_) ∨ w.heap.size ≤ k_)) (Kd.R_keptB ((Kd.R_apart' HO0_0.out (Kd.R_typed HO0_1.out) (by decide))) hkp (fun k_ hk_ hs_ => (hk_.2) hs_)) (fun k_ hk_ => hk_.1.1)); have n2_ := AS (Kd.R_reok rfl hy0 (fun k_ e_ => HO0_1.out.1 k_ e_)); have n3_ := AS (Kept.then_ (S := (fun k_ => P0_0_ k_ ∨ P0_1_ k_)) (by repeat (first | (with_reducible first | exact HK.out | apply Kept.alloc | apply Kept.drewN | apply Kept.drew | refine Kept.setCell ?_ (.inr GW0.out) _) | exact HK.out)) hkp (fun k_ hs_ => (fun e_ => (HO0_1.out.1 k_ e_.symm)) hs_)); have n4_ := AS (hb); replace BK0 := n0_; replace HO0_0 := n1_; replace HO0_1 := n2_; replace HK := n3_; replace HB := n4_; clear n0_ n1_ n2_ n3_ n4_; (try clear hb); (try clear hkp); (try clear hy0))); go_ret; exact ⟨by first | rfl | (simp [errW_none, errW_some] <;> rfl) | (simp [*, errW_none, errW_some] <;> rfl), by (with_reducible repeat (first | apply Kd.R_alloc | apply Kd.R_drewN | apply Kd.R_drew)); exact HO0_0.out, by (with_reducible repeat (first | apply Kd.R_alloc | apply Kd.R_drewN | apply Kd.R_drew)); exact HO0_1.out, BW HB, by repeat (first | (with_reducible first | exact HK.out | apply Kept.alloc | apply Kept.drewN | apply Kept.drew | refine Kept.setCell ?_ (.inr GW0.out) _) | exact HK.out)⟩
def impl_changedSheet.f (k : Nat) (l0_0 : List (Nat × Nat)) (l0_1 : List Nat) (a0_2 : Bool)  : Option (List (Nat × Nat) × List Nat × Bool × Bool) := (S0.impl_ValidSheet.f k l0_0 l0_1 a0_2).bind fun t105 => (if t105 = true then ((S0.impl_cloneSheet.f l0_0 l0_1 a0_2).bind fun bt106 => ((impl_BackSheet_1.f k bt106.1 bt106.2.1 bt106.2.2).bind fun bt114 => (if bt114.1 = true then ((S0.impl_toldSheet.f k bt114.2.1 bt114.2.2 bt106.2.2).bind fun bt117 => (some (bt117.1, bt117.2.1, bt117.2.2.1, bt117.2.2.2))) else (some (([] : List (Nat × Nat)), ([] : List Nat), false, false))))) else (some (([] : List (Nat × Nat)), ([] : List Nat), false, false)))
set_option maxHeartbeats 8000000 in
set_option maxRecDepth 100000 in
theorem impl_changedSheet.calls (k : Nat) (A0_0 : Option Addr) (c0_0 : Nat) (l0_0 : List (Nat × Nat)) (A0_1 : Option Addr) (c0_1 : Nat) (l0_1 : List Nat) (a0_2 : Bool)  (r1 : List (Nat × Nat)) (r2 : List Nat) (r3 : Bool) (r4 : Bool) (w : World) (hr0_0 : Kd.C (Kd.complex .f32) w A0_0 l0_0.length l0_0) (hc0_0 : l0_0.length ≤ c0_0) (hr0_1 : Kd.C (Kd.float .f32) w A0_1 l0_1.length l0_1) (hc0_1 : l0_1.length ≤ c0_1) (h : impl_changedSheet.f k l0_0 l0_1 a0_2 = some (r1, r2, r3, r4)) :
    Calls Try.prog 103 #[.agg #[.slice A0_0 l0_0.length c0_0, .slice A0_1 l0_1.length c0_1, .bool a0_2], .func (.func 104) #[] #[]] w fun e w' => ∃ v0_ v1_ : Value, e = .returned (.tuple #[.agg #[v0_, v1_, .bool r3], .bool r4]) ∧ Kd.R (Kd.complex .f32) 26 w' w.heap.size (fun _ => True) v0_ r1 ∧ Kd.R (Kd.float .f32) 27 w' w.heap.size (fun _ => True) v1_ r2 ∧ Below w.heap.size w w' := by
  have hu58 := Try.underlying58; have HR0_0 := Aside0.mk hr0_0; have HC0_0 := Aside0.mk hc0_0; clear hr0_0 hc0_0; have HR0_1 := Aside0.mk hr0_1; have HC0_1 := Aside0.mk hc0_1; clear hr0_1 hc0_1; have HB := AS (Below.refl w.heap.size w); have H : ((S0.impl_ValidSheet.f k l0_0 l0_1 a0_2).bind fun t105 => (if t105 = true then ((S0.impl_cloneSheet.f l0_0 l0_1 a0_2).bind fun bt106 => ((impl_BackSheet_1.f k bt106.1 bt106.2.1 bt106.2.2).bind fun bt114 => (if bt114.1 = true then ((S0.impl_toldSheet.f k bt114.2.1 bt114.2.2 bt106.2.2).bind fun bt117 => (some (bt117.1, bt117.2.1, bt117.2.2.1, bt117.2.2.2))) else (some (([] : List (Nat × Nat)), ([] : List Nat), false, false))))) else (some (([] : List (Nat × Nat)), ([] : List Nat), false, false)))) = some (r1, r2, r3, r4) := h; clear h; replace H := Option.bind_eq_some_iff.mp H; obtain ⟨t105, A30, H⟩ := H; (try dsimp only at H); have A3 := Aside0.mk A30; clear A30; by_cases c4 : t105 = true
  · subst c4
    rw [if_pos rfl] at H; replace H := Option.bind_eq_some_iff.mp H; obtain ⟨⟨t106, t109, t112⟩, A50, H⟩ := H; (try dsimp only at H); have A5 := Aside0.mk A50; clear A50; replace H := Option.bind_eq_some_iff.mp H; obtain ⟨⟨t114, t115, t116⟩, A60, H⟩ := H; replace H : (if t114 = true then ((S0.impl_toldSheet.f k t115 t116 t112).bind fun bt117 => (some (bt117.1, bt117.2.1, bt117.2.2.1, bt117.2.2.2))) else (some (([] : List (Nat × Nat)), ([] : List Nat), false, false))) = some (r1, r2, r3, r4) := H; have A6 := Aside0.mk A60; clear A60; by_cases c7 : t114 = true
    · subst c7
      have H1 : ((S0.impl_toldSheet.f k t115 t116 t112).bind fun bt117 => (some (bt117.1, bt117.2.1, bt117.2.2.1, bt117.2.2.2))) = some (r1, r2, r3, r4) := (by rw [if_pos rfl] at H; exact H); clear H; have H := H1; clear H1; replace H := Option.bind_eq_some_iff.mp H; obtain ⟨⟨t117, t120, t123, t124⟩, A80, H⟩ := H; replace H : (some (t117, t120, t123, t124)) = some (r1, r2, r3, r4) := H; have A8 := Aside0.mk A80; clear A80; simp only [Option.some.injEq, Prod.mk.injEq] at H; obtain ⟨rfl, rfl, rfl, rfl⟩ := H; go_enter Try.func103, Try.ntmps103; go_wp2_with (first | ((with_reducible refine gate_dst (N := 2) rfl ?_); refine box_event ?hg (N := 2) ?hd (cs := #[.slice A0_0 l0_0.length c0_0, .slice A0_1 l0_1.length c0_1, .bool a0_2]) (t := 58) ?hr ?_; (case hd => rfl); (case hg => rfl); (case hr => first | (go_simp; done) | (go_simp; rfl)); intro gb103 hg w9 hbox hb; have BK103 := AS (hbox); have GW103 := BG HB hg; have GE103 := BG HB hg; replace HB := BB HB hb; clear hb hbox hg) | ((with_reducible refine gate_dst (N := 4) rfl ?_); refine box_event ?hg (N := 4) ?hd (cs := #[.slice none 0 0, .slice none 0 0, .bool false]) (t := 58) ?hr ?_; (case hd => rfl); (case hg => rfl); (case hr => first | (go_simp; done) | (go_simp; rfl)); intro gb104 hg w10 hbox hb; have BK104 := AS (hbox); have GW104 := BG HB hg; have GE104 := BG HB hg; have NB103_104 := KN BK103 hg; have NB104_103 := KM BK103 hg; replace BK103 := KB BK103 hb; replace HB := BB HB hb; clear hb hbox hg; have hnb11 := NB103_104.out; have hnc11 := NB104_103.out; obtain ⟨hcz12_0, hcz12_1, hcz12_2, hfz12_0, hfz12_1, hfz12_2⟩ := CZ3 BK103) | ((with_reducible refine gate_callee (f := 38) rfl ?_); refine goesM 8 Try.func38 #[.agg #[.slice A0_0 l0_0.length c0_0, .slice A0_1 l0_1.length c0_1, .bool a0_2]] ?_; (with_reducible refine (S0.impl_ValidSheet.calls k _ _ l0_0 _ _ l0_1 a0_2 true _ ?side1 ?side2 ?side3 ?side4 A3.out).mono ?_); (case side1 => exact CS (Kd.C_below HR0_0.out HB.out)); (case side2 => exact HC0_0.out); (case side3 => exact CS (Kd.C_below HR0_1.out HB.out)); (case side4 => exact HC0_1.out); rintro e w13 ⟨rfl, hb⟩; refine ⟨_, rfl, ?_⟩; replace BK103 := KB BK103 hb; replace BK104 := KB BK104 hb; replace HB := BB HB hb; (try clear hb); (try clear hb2); (try clear hk); (try clear hi); obtain ⟨hcz14_0, hcz14_1, hcz14_2, hfz14_0, hfz14_1, hfz14_2⟩ := CZ3 BK103) | ((with_reducible refine gate_callee (f := 159) rfl ?_); refine goesM 12 Try.func159 #[.agg #[.slice A0_0 l0_0.length c0_0, .slice A0_1 l0_1.length c0_1, .bool a0_2]] ?_; (with_reducible refine (S0.impl_cloneSheet.calls _ _ l0_0 _ _ l0_1 a0_2 t106 t109 t112 _ ?side1 ?side2 ?side3 ?side4 A5.out).mono ?_); (case side1 => exact CS (Kd.C_below HR0_0.out HB.out)); (case side2 => exact HC0_0.out); (case side3 => exact CS (Kd.C_below HR0_1.out HB.out)); (case side4 => exact HC0_1.out); rintro e w15 ⟨v107, v110, rfl, ho0, ho1, hb⟩; refine ⟨_, rfl, ?_⟩; have HO108 := AS (Kd.R_lower ho0 (below_size (BW HB))); have HO111 := AS (Kd.R_lower ho1 (below_size (BW HB))); replace BK103 := KB BK103 hb; replace BK104 := KB BK104 hb; replace HB := BB HB hb; (try clear hb); (try clear hb2); (try clear hk); (try clear hi); (try clear ho0); (try clear ho1)) | ((with_reducible refine gate_dst (N := 6) rfl ?_); refine box_event ?hg (N := 6) ?hd (cs := #[.slice none 0 0, .slice none 0 0, .bool false]) (t := 58) ?hr ?_; (case hd => rfl); (case hg => rfl); (case hr => first | (go_simp; done) | (go_simp; rfl)); intro gb113 hg w16 hbox hb; have BK113 := AS (hbox); have GW113 := BG HB hg; have GE113 := BG HB hg; have NB103_113 := KN BK103 hg; have NB113_103 := KM BK103 hg; have NB104_113 := KN BK104 hg; have NB113_104 := KM BK104 hg; replace HO108 := RB HO108 hb; replace HO111 := RB HO111 hb; replace BK103 := KB BK103 hb; replace BK104 := KB BK104 hb; replace HB := BB HB hb; clear hb hbox hg; obtain ⟨Ao17, co17, eo17⟩ := Kd.R_slice HO108.out; subst eo17; have hnb18 := NB113_103.out; have hnc18 := NB103_113.out; have hnb19 := NB113_104.out; have hnc19 := NB104_113.out; obtain ⟨hcz20_0, hcz20_1, hcz20_2, hfz20_0, hfz20_1, hfz20_2⟩ := CZ3 BK113; obtain ⟨Ao21, co21, eo21⟩ := Kd.R_slice HO111.out; subst eo21) | ((with_reducible refine gate_store (t := 58) (p := 6) rfl ?_); refine store_event (t := 58) (p := 6) (v := ?vo_w22) (w1 := (((w16.setCell ⟨gb113, 0, none⟩ (.slice Ao17 t106.length co17)).setCell ⟨gb113, 1, none⟩ (.slice Ao21 t109.length co21)).setCell ⟨gb113, 2, none⟩ (.bool t112))) ?hg ?ho ?hn ?hr ?_; (case ho => rfl); (case hg => rfl); (case hn => rfl); (case hr => first | (go_simp; done) | (go_simp; rfl)); intro w22 hw; have n0_ : Aside0 (Kd.R (Kd.complex .f32) 26 w22 w.heap.size (fun _ => True) (.slice Ao17 t106.length co17) t106) := ⟨(by rw [hw]; exact (RS (RF3T HO108 BK113 (.slice Ao17 t106.length co17) (.slice Ao21 t109.length co21) (.bool t112))))⟩; have n1_ : Aside0 (Kd.R (Kd.float .f32) 27 w22 w.heap.size (fun _ => True) (.slice Ao21 t109.length co21) t109) := ⟨(by rw [hw]; exact (RS (RF3T HO111 BK113 (.slice Ao17 t106.length co17) (.slice Ao21 t109.length co21) (.bool t112))))⟩; have n2_ : Aside0 (w22.heap[gb103]? = some (.cells #[.slice A0_0 l0_0.length c0_0, .slice A0_1 l0_1.length c0_1, .bool a0_2] 58 (0, 0))) := ⟨(by rw [hw]; exact (KF BK103))⟩; have n3_ : Aside0 (w22.heap[gb104]? = some (.cells #[.slice none 0 0, .slice none 0 0, .bool false] 58 (0, 0))) := ⟨(by rw [hw]; exact (KF BK104))⟩; have n4_ : Aside0 (w22.heap[gb113]? = some (.cells #[.slice Ao17 t106.length co17, .slice Ao21 t109.length co21, .bool t112] 58 (0, 0))) := ⟨(by rw [hw]; exact (KP3 BK113))⟩; have n5_ : Aside0 (Below w.heap.size w w22) := ⟨(by rw [hw]; exact (BW HB))⟩; replace HO108 := n0_; replace HO111 := n1_; replace BK103 := n2_; replace BK104 := n3_; replace BK113 := n4_; replace HB := n5_; clear hw; clear n0_ n1_ n2_ n3_ n4_ n5_) | (go_at_call 104; (with_reducible refine (impl_BackSheet_1.calls k gb113 (fun k_ => some k_ = (.slice Ao17 t106.length co17 : Value).ownBlock) (.slice Ao17 t106.length co17) t106 (fun k_ => some k_ = (.slice Ao21 t109.length co21 : Value).ownBlock) (.slice Ao21 t109.length co21) t109 t112 true t115 t116 w _ ?side1 ?side2 ?side3 ?side4 A6.out).mono ?_); (case side1 => repeat (first | (with_reducible first | exact HB.out | apply below_alloc | apply pw_below_drewN | apply below_drew1 | refine below_set ?_ GE103.out | refine below_set ?_ GE104.out | refine below_set ?_ GE113.out) | exact HB.out)); (case side2 => exact (KS BK113.out)); (case side3 => exact Kd.R_tight rfl HO108.out); (case side4 => exact Kd.R_tight rfl HO111.out); rintro e w23 ⟨rfl, hy0, hy1, hb, hkp⟩; have n0_ := AS (blk_kept (KS BK103.out) hkp (fun hs_ => Or.elim hs_ (fun e_ => (fun e_ => (Kd.R_ne HO108.out BK103.out (by decide)) e_) e_) (fun e_ => (fun e_ => (Kd.R_ne HO111.out BK103.out (by decide)) e_) e_))); have n1_ := AS (blk_kept (KS BK104.out) hkp (fun hs_ => Or.elim hs_ (fun e_ => (fun e_ => (Kd.R_ne HO108.out BK104.out (by decide)) e_) e_) (fun e_ => (fun e_ => (Kd.R_ne HO111.out BK104.out (by decide)) e_) e_))); have n2_ := AS (Kd.R_reok rfl hy0 (fun k_ e_ => HO108.out.1 k_ e_)); have n3_ := AS (Kd.R_reok rfl hy1 (fun k_ e_ => HO111.out.1 k_ e_)); have n4_ := AS (blk_kept (KS BK113.out) hkp (fun hs_ => Or.elim hs_ (fun e_ => (fun e_ => (Kd.R_ne HO108.out BK113.out (by decide)) e_) e_) (fun e_ => (fun e_ => (Kd.R_ne HO111.out BK113.out (by decide)) e_) e_))); have n5_ := AS (hb); replace BK103 := n0_; replace BK104 := n1_; replace HO108 := n2_; replace HO111 := n3_; replace BK113 := n4_; replace HB := n5_; clear n0_ n1_ n2_ n3_ n4_ n5_; (try clear hb); (try clear hkp); (try clear hy0); (try clear hy1); obtain ⟨hcz24_0, hcz24_1, hcz24_2, hfz24_0, hfz24_1, hfz24_2⟩ := CZ3 BK113) | ((with_reducible refine gate_callee (f := 160) rfl ?_); refine goesM 18 Try.func160 #[.agg #[.slice Ao17 t106.length co17, .slice Ao21 t109.length co21, .bool t112]] ?_; (with_reducible refine (S0.impl_toldSheet.calls k (fun k_ => some k_ = (.slice Ao17 t106.length co17 : Value).ownBlock) (.slice Ao17 t106.length co17) t115 (fun k_ => some k_ = (.slice Ao21 t109.length co21 : Value).ownBlock) (.slice Ao21 t109.length co21) t116 t112 t117 t120 t123 t124 w _ ?side1 ?side2 ?side3 A8.out).mono ?_); (case side1 => repeat (first | (with_reducible first | exact HB.out | apply below_alloc | apply pw_below_drewN | apply below_drew1 | refine below_set ?_ GE103.out | refine below_set ?_ GE104.out | refine below_set ?_ GE113.out) | exact HB.out)); (case side2 => exact Kd.R_tight rfl HO108.out); (case side3 => exact Kd.R_tight rfl HO111.out); rintro e w25 ⟨v118, v121, rfl, ho0, ho1, hb, hkp⟩; refine ⟨_, rfl, ?_⟩; have n0_ := AS (blk_kept (KS BK103.out) hkp (fun hs_ => Or.elim hs_ (fun e_ => (fun e_ => (Kd.R_ne HO108.out BK103.out (by decide)) e_) e_) (fun e_ => (fun e_ => (Kd.R_ne HO111.out BK103.out (by decide)) e_) e_))); have n1_ := AS (blk_kept (KS BK104.out) hkp (fun hs_ => Or.elim hs_ (fun e_ => (fun e_ => (Kd.R_ne HO108.out BK104.out (by decide)) e_) e_) (fun e_ => (fun e_ => (Kd.R_ne HO111.out BK104.out (by decide)) e_) e_))); have n2_ := AS (blk_kept (KS BK113.out) hkp (fun hs_ => Or.elim hs_ (fun e_ => (fun e_ => (Kd.R_ne HO108.out BK113.out (by decide)) e_) e_) (fun e_ => (fun e_ => (Kd.R_ne HO111.out BK113.out (by decide)) e_) e_))); have HO119 := AS (Kd.R_mono (ok' := fun k_ => True) ho0 (fun k_ hk_ => trivial)); have HO122 := AS (Kd.R_mono (ok' := fun k_ => True) ho1 (fun k_ hk_ => trivial)); have n5_ := AS (hb); replace BK103 := n0_; replace BK104 := n1_; replace BK113 := n2_; replace HB := n5_; clear HO108; clear HO111; clear n0_ n1_ n2_ n5_; (try clear hb); (try clear hkp); (try clear ho0); (try clear ho1); obtain ⟨Ao26, co26, eo26⟩ := Kd.R_slice HO119.out; subst eo26; obtain ⟨hcz27_0, hcz27_1, hcz27_2, hfz27_0, hfz27_1, hfz27_2⟩ := CZ3 BK104; obtain ⟨Ao28, co28, eo28⟩ := Kd.R_slice HO122.out; subst eo28)); refine bodyPost_ret (results_ct rfl _ _ gb104 58 #[.slice Ao26 t117.length co26, .slice Ao28 t120.length co28, .bool t123] (0, 0) _ rfl (KP3 BK104) Try.underlying58 rfl (by kernel_rfl)) rfl ?_; exact ⟨_, _, by first | rfl | (simp [errW_none, errW_some] <;> rfl) | (simp [*, errW_none, errW_some] <;> rfl), by (with_reducible repeat (first | apply Kd.R_alloc | apply Kd.R_drewN | apply Kd.R_drew)); exact (RF3T HO119 BK104 (.slice Ao26 t117.length co26) (.slice Ao28 t120.length co28) (.bool t123)), by (with_reducible repeat (first | apply Kd.R_alloc | apply Kd.R_drewN | apply Kd.R_drew)); exact (RF3T HO122 BK104 (.slice Ao26 t117.length co26) (.slice Ao28 t120.length co28) (.bool t123)), BW HB⟩
    · replace c7 := Bool.eq_false_iff.mpr c7
      subst c7; have H1 : (some (([] : List (Nat × Nat)), ([] : List Nat), false, false)) = some (r1, r2, r3, r4) := (by rw [if_neg (show ¬ (false = true) by decide)] at H; exact H); clear H; have H := H1; clear H1; simp only [Option.some.injEq, Prod.mk.injEq] at H; obtain ⟨rfl, rfl, rfl, rfl⟩ := H; go_enter Try.func103, Try.ntmps103; go_wp2_with (first | ((with_reducible refine gate_dst (N := 2) rfl ?_); refine box_event ?hg (N := 2) ?hd (cs := #[.slice A0_0 l0_0.length c0_0, .slice A0_1 l0_1.length c0_1, .bool a0_2]) (t := 58) ?hr ?_; (case hd => rfl); (case hg => rfl); (case hr => first | (go_simp; done) | (go_simp; rfl)); intro gb103 hg w29 hbox hb; have BK103 := AS (hbox); have GW103 := BG HB hg; have GE103 := BG HB hg; replace HB := BB HB hb; clear hb hbox hg) | ((with_reducible refine gate_dst (N := 4) rfl ?_); refine box_event ?hg (N := 4) ?hd (cs := #[.slice none 0 0, .slice none 0 0, .bool false]) (t := 58) ?hr ?_; (case hd => rfl); (case hg => rfl); (case hr => first | (go_simp; done) | (go_simp; rfl)); intro gb104 hg w30 hbox hb; have BK104 := AS (hbox); have GW104 := BG HB hg; have GE104 := BG HB hg; have NB103_104 := KN BK103 hg; have NB104_103 := KM BK103 hg; replace BK103 := KB BK103 hb; replace HB := BB HB hb; clear hb hbox hg; have hnb31 := NB103_104.out; have hnc31 := NB104_103.out; obtain ⟨hcz32_0, hcz32_1, hcz32_2, hfz32_0, hfz32_1, hfz32_2⟩ := CZ3 BK103) | ((with_reducible refine gate_callee (f := 38) rfl ?_); refine goesM 8 Try.func38 #[.agg #[.slice A0_0 l0_0.length c0_0, .slice A0_1 l0_1.length c0_1, .bool a0_2]] ?_; (with_reducible refine (S0.impl_ValidSheet.calls k _ _ l0_0 _ _ l0_1 a0_2 true _ ?side1 ?side2 ?side3 ?side4 A3.out).mono ?_); (case side1 => exact CS (Kd.C_below HR0_0.out HB.out)); (case side2 => exact HC0_0.out); (case side3 => exact CS (Kd.C_below HR0_1.out HB.out)); (case side4 => exact HC0_1.out); rintro e w33 ⟨rfl, hb⟩; refine ⟨_, rfl, ?_⟩; replace BK103 := KB BK103 hb; replace BK104 := KB BK104 hb; replace HB := BB HB hb; (try clear hb); (try clear hb2); (try clear hk); (try clear hi); obtain ⟨hcz34_0, hcz34_1, hcz34_2, hfz34_0, hfz34_1, hfz34_2⟩ := CZ3 BK103) | ((with_reducible refine gate_callee (f := 159) rfl ?_); refine goesM 12 Try.func159 #[.agg #[.slice A0_0 l0_0.length c0_0, .slice A0_1 l0_1.length c0_1, .bool a0_2]] ?_; (with_reducible refine (S0.impl_cloneSheet.calls _ _ l0_0 _ _ l0_1 a0_2 t106 t109 t112 _ ?side1 ?side2 ?side3 ?side4 A5.out).mono ?_); (case side1 => exact CS (Kd.C_below HR0_0.out HB.out)); (case side2 => exact HC0_0.out); (case side3 => exact CS (Kd.C_below HR0_1.out HB.out)); (case side4 => exact HC0_1.out); rintro e w35 ⟨v107, v110, rfl, ho0, ho1, hb⟩; refine ⟨_, rfl, ?_⟩; have HO108 := AS (Kd.R_lower ho0 (below_size (BW HB))); have HO111 := AS (Kd.R_lower ho1 (below_size (BW HB))); replace BK103 := KB BK103 hb; replace BK104 := KB BK104 hb; replace HB := BB HB hb; (try clear hb); (try clear hb2); (try clear hk); (try clear hi); (try clear ho0); (try clear ho1)) | ((with_reducible refine gate_dst (N := 6) rfl ?_); refine box_event ?hg (N := 6) ?hd (cs := #[.slice none 0 0, .slice none 0 0, .bool false]) (t := 58) ?hr ?_; (case hd => rfl); (case hg => rfl); (case hr => first | (go_simp; done) | (go_simp; rfl)); intro gb113 hg w36 hbox hb; have BK113 := AS (hbox); have GW113 := BG HB hg; have GE113 := BG HB hg; have NB103_113 := KN BK103 hg; have NB113_103 := KM BK103 hg; have NB104_113 := KN BK104 hg; have NB113_104 := KM BK104 hg; replace HO108 := RB HO108 hb; replace HO111 := RB HO111 hb; replace BK103 := KB BK103 hb; replace BK104 := KB BK104 hb; replace HB := BB HB hb; clear hb hbox hg; obtain ⟨Ao37, co37, eo37⟩ := Kd.R_slice HO108.out; subst eo37; have hnb38 := NB113_103.out; have hnc38 := NB103_113.out; have hnb39 := NB113_104.out; have hnc39 := NB104_113.out; obtain ⟨hcz40_0, hcz40_1, hcz40_2, hfz40_0, hfz40_1, hfz40_2⟩ := CZ3 BK113; obtain ⟨Ao41, co41, eo41⟩ := Kd.R_slice HO111.out; subst eo41) | ((with_reducible refine gate_store (t := 58) (p := 6) rfl ?_); refine store_event (t := 58) (p := 6) (v := ?vo_w42) (w1 := (((w36.setCell ⟨gb113, 0, none⟩ (.slice Ao37 t106.length co37)).setCell ⟨gb113, 1, none⟩ (.slice Ao41 t109.length co41)).setCell ⟨gb113, 2, none⟩ (.bool t112))) ?hg ?ho ?hn ?hr ?_; (case ho => rfl); (case hg => rfl); (case hn => rfl); (case hr => first | (go_simp; done) | (go_simp; rfl)); intro w42 hw; have n0_ : Aside0 (Kd.R (Kd.complex .f32) 26 w42 w.heap.size (fun _ => True) (.slice Ao37 t106.length co37) t106) := ⟨(by rw [hw]; exact (RS (RF3T HO108 BK113 (.slice Ao37 t106.length co37) (.slice Ao41 t109.length co41) (.bool t112))))⟩; have n1_ : Aside0 (Kd.R (Kd.float .f32) 27 w42 w.heap.size (fun _ => True) (.slice Ao41 t109.length co41) t109) := ⟨(by rw [hw]; exact (RS (RF3T HO111 BK113 (.slice Ao37 t106.length co37) (.slice Ao41 t109.length co41) (.bool t112))))⟩; have n2_ : Aside0 (w42.heap[gb103]? = some (.cells #[.slice A0_0 l0_0.length c0_0, .slice A0_1 l0_1.length c0_1, .bool a0_2] 58 (0, 0))) := ⟨(by rw [hw]; exact (KF BK103))⟩; have n3_ : Aside0 (w42.heap[gb104]? = some (.cells #[.slice none 0 0, .slice none 0 0, .bool false] 58 (0, 0))) := ⟨(by rw [hw]; exact (KF BK104))⟩; have n4_ : Aside0 (w42.heap[gb113]? = some (.cells #[.slice Ao37 t106.length co37, .slice Ao41 t109.length co41, .bool t112] 58 (0, 0))) := ⟨(by rw [hw]; exact (KP3 BK113))⟩; have n5_ : Aside0 (Below w.heap.size w w42) := ⟨(by rw [hw]; exact (BW HB))⟩; replace HO108 := n0_; replace HO111 := n1_; replace BK103 := n2_; replace BK104 := n3_; replace BK113 := n4_; replace HB := n5_; clear hw; clear n0_ n1_ n2_ n3_ n4_ n5_) | (go_at_call 104; (with_reducible refine (impl_BackSheet_1.calls k gb113 (fun k_ => some k_ = (.slice Ao37 t106.length co37 : Value).ownBlock) (.slice Ao37 t106.length co37) t106 (fun k_ => some k_ = (.slice Ao41 t109.length co41 : Value).ownBlock) (.slice Ao41 t109.length co41) t109 t112 false t115 t116 w _ ?side1 ?side2 ?side3 ?side4 A6.out).mono ?_); (case side1 => repeat (first | (with_reducible first | exact HB.out | apply below_alloc | apply pw_below_drewN | apply below_drew1 | refine below_set ?_ GE103.out | refine below_set ?_ GE104.out | refine below_set ?_ GE113.out) | exact HB.out)); (case side2 => exact (KS BK113.out)); (case side3 => exact Kd.R_tight rfl HO108.out); (case side4 => exact Kd.R_tight rfl HO111.out); rintro e w43 ⟨rfl, hy0, hy1, hb, hkp⟩; have n0_ := AS (blk_kept (KS BK103.out) hkp (fun hs_ => Or.elim hs_ (fun e_ => (fun e_ => (Kd.R_ne HO108.out BK103.out (by decide)) e_) e_) (fun e_ => (fun e_ => (Kd.R_ne HO111.out BK103.out (by decide)) e_) e_))); have n1_ := AS (blk_kept (KS BK104.out) hkp (fun hs_ => Or.elim hs_ (fun e_ => (fun e_ => (Kd.R_ne HO108.out BK104.out (by decide)) e_) e_) (fun e_ => (fun e_ => (Kd.R_ne HO111.out BK104.out (by decide)) e_) e_))); have n2_ := AS (Kd.R_reok rfl hy0 (fun k_ e_ => HO108.out.1 k_ e_)); have n3_ := AS (Kd.R_reok rfl hy1 (fun k_ e_ => HO111.out.1 k_ e_)); have n4_ := AS (blk_kept (KS BK113.out) hkp (fun hs_ => Or.elim hs_ (fun e_ => (fun e_ => (Kd.R_ne HO108.out BK113.out (by decide)) e_) e_) (fun e_ => (fun e_ => (Kd.R_ne HO111.out BK113.out (by decide)) e_) e_))); have n5_ := AS (hb); replace BK103 := n0_; replace BK104 := n1_; replace HO108 := n2_; replace HO111 := n3_; replace BK113 := n4_; replace HB := n5_; clear n0_ n1_ n2_ n3_ n4_ n5_; (try clear hb); (try clear hkp); (try clear hy0); (try clear hy1); obtain ⟨hcz44_0, hcz44_1, hcz44_2, hfz44_0, hfz44_1, hfz44_2⟩ := CZ3 BK104)); refine bodyPost_ret (results_ct rfl _ _ gb104 58 #[.slice none 0 0, .slice none 0 0, .bool false] (0, 0) _ rfl (KP3 BK104) Try.underlying58 rfl (by kernel_rfl)) rfl ?_; exact ⟨_, _, by first | rfl | (simp [errW_none, errW_some] <;> rfl) | (simp [*, errW_none, errW_some] <;> rfl), by first | exact Kd.R_nil _ _ _ _ _ | exact Kd.N_nil _ _ _ _ _ | exact Kd.V_nil _ _ _ _ _ | exact Kd.Q_nil _ _ _ _ _ | exact Kd.S_nil _ _ _ _ _, by first | exact Kd.R_nil _ _ _ _ _ | exact Kd.N_nil _ _ _ _ _ | exact Kd.V_nil _ _ _ _ _ | exact Kd.Q_nil _ _ _ _ _ | exact Kd.S_nil _ _ _ _ _, BW HB⟩
  · replace c4 := Bool.eq_false_iff.mpr c4
    subst c4; have H1 : (some (([] : List (Nat × Nat)), ([] : List Nat), false, false)) = some (r1, r2, r3, r4) := (by rw [if_neg (show ¬ (false = true) by decide)] at H; exact H); clear H; have H := H1; clear H1; simp only [Option.some.injEq, Prod.mk.injEq] at H; obtain ⟨rfl, rfl, rfl, rfl⟩ := H; go_enter Try.func103, Try.ntmps103; go_wp2_with (first | ((with_reducible refine gate_dst (N := 2) rfl ?_); refine box_event ?hg (N := 2) ?hd (cs := #[.slice A0_0 l0_0.length c0_0, .slice A0_1 l0_1.length c0_1, .bool a0_2]) (t := 58) ?hr ?_; (case hd => rfl); (case hg => rfl); (case hr => first | (go_simp; done) | (go_simp; rfl)); intro gb103 hg w45 hbox hb; have BK103 := AS (hbox); have GW103 := BG HB hg; have GE103 := BG HB hg; replace HB := BB HB hb; clear hb hbox hg) | ((with_reducible refine gate_dst (N := 4) rfl ?_); refine box_event ?hg (N := 4) ?hd (cs := #[.slice none 0 0, .slice none 0 0, .bool false]) (t := 58) ?hr ?_; (case hd => rfl); (case hg => rfl); (case hr => first | (go_simp; done) | (go_simp; rfl)); intro gb104 hg w46 hbox hb; have BK104 := AS (hbox); have GW104 := BG HB hg; have GE104 := BG HB hg; have NB103_104 := KN BK103 hg; have NB104_103 := KM BK103 hg; replace BK103 := KB BK103 hb; replace HB := BB HB hb; clear hb hbox hg; have hnb47 := NB103_104.out; have hnc47 := NB104_103.out; obtain ⟨hcz48_0, hcz48_1, hcz48_2, hfz48_0, hfz48_1, hfz48_2⟩ := CZ3 BK103) | ((with_reducible refine gate_callee (f := 38) rfl ?_); refine goesM 8 Try.func38 #[.agg #[.slice A0_0 l0_0.length c0_0, .slice A0_1 l0_1.length c0_1, .bool a0_2]] ?_; (with_reducible refine (S0.impl_ValidSheet.calls k _ _ l0_0 _ _ l0_1 a0_2 false _ ?side1 ?side2 ?side3 ?side4 A3.out).mono ?_); (case side1 => exact CS (Kd.C_below HR0_0.out HB.out)); (case side2 => exact HC0_0.out); (case side3 => exact CS (Kd.C_below HR0_1.out HB.out)); (case side4 => exact HC0_1.out); rintro e w49 ⟨rfl, hb⟩; refine ⟨_, rfl, ?_⟩; replace BK103 := KB BK103 hb; replace BK104 := KB BK104 hb; replace HB := BB HB hb; (try clear hb); (try clear hb2); (try clear hk); (try clear hi); obtain ⟨hcz50_0, hcz50_1, hcz50_2, hfz50_0, hfz50_1, hfz50_2⟩ := CZ3 BK104)); refine bodyPost_ret (results_ct rfl _ _ gb104 58 #[.slice none 0 0, .slice none 0 0, .bool false] (0, 0) _ rfl (KP3 BK104) Try.underlying58 rfl (by kernel_rfl)) rfl ?_; exact ⟨_, _, by first | rfl | (simp [errW_none, errW_some] <;> rfl) | (simp [*, errW_none, errW_some] <;> rfl), by first | exact Kd.R_nil _ _ _ _ _ | exact Kd.N_nil _ _ _ _ _ | exact Kd.V_nil _ _ _ _ _ | exact Kd.Q_nil _ _ _ _ _ | exact Kd.S_nil _ _ _ _ _, by first | exact Kd.R_nil _ _ _ _ _ | exact Kd.N_nil _ _ _ _ _ | exact Kd.V_nil _ _ _ _ _ | exact Kd.Q_nil _ _ _ _ _ | exact Kd.S_nil _ _ _ _ _, BW HB⟩
def impl_BackSheet.f (k : Nat) (l0_0 : List (Nat × Nat)) (l0_1 : List Nat) (a0_2 : Bool) : Option (List (Nat × Nat) × List Nat × Bool × Bool) := (impl_changedSheet.f k l0_0 l0_1 a0_2).bind fun bt127 => (some (bt127.1, bt127.2.1, bt127.2.2.1, bt127.2.2.2))
set_option maxHeartbeats 8000000 in
set_option maxRecDepth 100000 in
theorem impl_BackSheet.calls (k : Nat) (A0_0 : Option Addr) (c0_0 : Nat) (l0_0 : List (Nat × Nat)) (A0_1 : Option Addr) (c0_1 : Nat) (l0_1 : List Nat) (a0_2 : Bool) (r1 : List (Nat × Nat)) (r2 : List Nat) (r3 : Bool) (r4 : Bool) (w : World) (hr0_0 : Kd.C (Kd.complex .f32) w A0_0 l0_0.length l0_0) (hc0_0 : l0_0.length ≤ c0_0) (hr0_1 : Kd.C (Kd.float .f32) w A0_1 l0_1.length l0_1) (hc0_1 : l0_1.length ≤ c0_1) (h : impl_BackSheet.f k l0_0 l0_1 a0_2 = some (r1, r2, r3, r4)) :
    Calls Try.prog 31 #[.agg #[.slice A0_0 l0_0.length c0_0, .slice A0_1 l0_1.length c0_1, .bool a0_2]] w fun e w' => ∃ v0_ v1_ : Value, e = .returned (.tuple #[.agg #[v0_, v1_, .bool r3], .bool r4]) ∧ Kd.R (Kd.complex .f32) 26 w' w.heap.size (fun _ => True) v0_ r1 ∧ Kd.R (Kd.float .f32) 27 w' w.heap.size (fun _ => True) v1_ r2 ∧ Below w.heap.size w w' := by
  have hu58 := Try.underlying58; have HR0_0 := Aside0.mk hr0_0; have HC0_0 := Aside0.mk hc0_0; clear hr0_0 hc0_0; have HR0_1 := Aside0.mk hr0_1; have HC0_1 := Aside0.mk hc0_1; clear hr0_1 hc0_1; have HB := AS (Below.refl w.heap.size w); have H : ((impl_changedSheet.f k l0_0 l0_1 a0_2).bind fun bt127 => (some (bt127.1, bt127.2.1, bt127.2.2.1, bt127.2.2.2))) = some (r1, r2, r3, r4) := h; clear h; replace H := Option.bind_eq_some_iff.mp H; obtain ⟨⟨t127, t130, t133, t134⟩, A20, H⟩ := H; replace H : (some (t127, t130, t133, t134)) = some (r1, r2, r3, r4) := H; have A2 := Aside0.mk A20; clear A20; simp only [Option.some.injEq, Prod.mk.injEq] at H; obtain ⟨rfl, rfl, rfl, rfl⟩ := H; go_enter Try.func31, Try.ntmps31; go_wp2_with (first | ((with_reducible refine gate_dst (N := 1) rfl ?_); refine box_event ?hg (N := 1) ?hd (cs := #[.slice A0_0 l0_0.length c0_0, .slice A0_1 l0_1.length c0_1, .bool a0_2]) (t := 58) ?hr ?_; (case hd => rfl); (case hg => rfl); (case hr => first | (go_simp; done) | (go_simp; rfl)); intro gb125 hg w3 hbox hb; have BK125 := AS (hbox); have GW125 := BG HB hg; have GE125 := BG HB hg; replace HB := BB HB hb; clear hb hbox hg) | ((with_reducible refine gate_dst (N := 2) rfl ?_); refine box_event ?hg (N := 2) ?hd (cs := #[.slice none 0 0, .slice none 0 0, .bool false]) (t := 58) ?hr ?_; (case hd => rfl); (case hg => rfl); (case hr => first | (go_simp; done) | (go_simp; rfl)); intro gb126 hg w4 hbox hb; have BK126 := AS (hbox); have GW126 := BG HB hg; have GE126 := BG HB hg; have NB125_126 := KN BK125 hg; have NB126_125 := KM BK125 hg; replace BK125 := KB BK125 hb; replace HB := BB HB hb; clear hb hbox hg; have hnb5 := NB125_126.out; have hnc5 := NB126_125.out; obtain ⟨hcz6_0, hcz6_1, hcz6_2, hfz6_0, hfz6_1, hfz6_2⟩ := CZ3 BK125) | ((with_reducible refine gate_callee (f := 103) rfl ?_); refine goesM 5 Try.func103 #[.agg #[.slice A0_0 l0_0.length c0_0, .slice A0_1 l0_1.length c0_1, .bool a0_2], .func (.func 104) #[] #[]] ?_; (with_reducible refine (impl_changedSheet.calls k _ _ l0_0 _ _ l0_1 a0_2  t127 t130 t133 t134 _ ?side1 ?side2 ?side3 ?side4 A2.out).mono ?_); (case side1 => exact CS (Kd.C_below HR0_0.out HB.out)); (case side2 => exact HC0_0.out); (case side3 => exact CS (Kd.C_below HR0_1.out HB.out)); (case side4 => exact HC0_1.out); rintro e w7 ⟨v128, v131, rfl, ho0, ho1, hb⟩; refine ⟨_, rfl, ?_⟩; have HO129 := AS (Kd.R_lower ho0 (below_size (BW HB))); have HO132 := AS (Kd.R_lower ho1 (below_size (BW HB))); replace BK125 := KB BK125 hb; replace BK126 := KB BK126 hb; replace HB := BB HB hb; (try clear hb); (try clear hb2); (try clear hk); (try clear hi); (try clear ho0); (try clear ho1); obtain ⟨Ao8, co8, eo8⟩ := Kd.R_slice HO129.out; subst eo8; obtain ⟨hcz9_0, hcz9_1, hcz9_2, hfz9_0, hfz9_1, hfz9_2⟩ := CZ3 BK126; obtain ⟨Ao10, co10, eo10⟩ := Kd.R_slice HO132.out; subst eo10)); refine bodyPost_ret (results_ct rfl _ _ gb126 58 #[.slice Ao8 t127.length co8, .slice Ao10 t130.length co10, .bool t133] (0, 0) _ rfl (KP3 BK126) Try.underlying58 rfl (by kernel_rfl)) rfl ?_; exact ⟨_, _, by first | rfl | (simp [errW_none, errW_some] <;> rfl) | (simp [*, errW_none, errW_some] <;> rfl), by (with_reducible repeat (first | apply Kd.R_alloc | apply Kd.R_drewN | apply Kd.R_drew)); exact (RF3T HO129 BK126 (.slice Ao8 t127.length co8) (.slice Ao10 t130.length co10) (.bool t133)), by (with_reducible repeat (first | apply Kd.R_alloc | apply Kd.R_drewN | apply Kd.R_drew)); exact (RF3T HO132 BK126 (.slice Ao8 t127.length co8) (.slice Ao10 t130.length co10) (.bool t133)), BW HB⟩
end Go.Proofs.Ytcgaccdiomcglaa.SB
end
