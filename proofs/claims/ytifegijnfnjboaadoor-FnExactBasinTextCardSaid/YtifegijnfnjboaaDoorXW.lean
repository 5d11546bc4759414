/- Finiteness of lists of floats, complex numbers, whirls by closures: slices.IndexFunc, slices.ContainsFunc at the program's own function literals; two complex numbers, two whirls the same. -/
import Derived.Test.YtifegijnfnjboaaDoorXL
import Derived.Test.YtifegijnfnjboaaDoorFA0
set_option linter.unusedVariables false
set_option linter.unusedSimpArgs false
namespace Go.Proofs.YtifegijnfnjboaaDoor
open Go.RowKit Go.Proofs.YtifegijnfnjboaaDoorW.PrintWords Go.Proofs.YtifegijnfnjboaaDoorW.PrintLast Go.Proofs.YtifegijnfnjboaaDoorW.PrintMore
attribute [local go_sem] max2_int min2_int max_two min_two max_three min_three max_four min_four   -- for this text's walks alone
namespace XW
open XF XL FA
set_option maxHeartbeats 4000000 in
set_option maxRecDepth 100000 in
theorem litf (a0 : Nat) (w : World) : Calls Tryd.prog 82 #[.float .f32 a0] w fun e w' => e = .returned (.bool (!fin a0)) ∧ Drawn0 w w' := by
  go_enter Tryd.func82, Tryd.ntmps82
  go_wp2_with (go_at_call 83; refine (IsFinite.calls _ _ _ rfl).mono ?_; rintro e w1 ⟨rfl, ⟨nd, rfl⟩⟩)
  go_ret
  exact ⟨rfl, ⟨_, rfl⟩⟩
/-- Where the first x with p x stands, or -1. -/
def ix {α : Type} (p : α → Bool) : List α → Int → Int
  | [], _ => -1
  | x :: r, i => if p x = true then i else ix p r (i + 1)
theorem ix_ge {α : Type} (p : α → Bool) : ∀ (xs : List α) (i : Int), 0 ≤ i → (decide (0 ≤ ix p xs i)) = xs.any p
  | [], i, _ => by simp [ix]
  | x :: r, i, h => by
    unfold ix
    cases e : p x with
    | true => simp [e, h]
    | false => simp [e, ix_ge p r (i + 1) (by omega)]
set_option maxHeartbeats 4000000 in
set_option maxRecDepth 100000 in
theorem indexf (A : Option Addr) (c : Nat) (xs : List Nat) (r : Int) (hr : ix (fun x => !fin x) xs 0 = r) (w : World) (hr0 : Kd.C (Kd.float .f32) w A xs.length xs) (hc0 : xs.length ≤ c) :
    Calls Tryd.prog 104 #[.slice A xs.length c, .func (.func 82) #[] #[]] w fun e w' => e = .returned (.int .i64 r) ∧ Drawn0 w w' := by
  have HR0 := Aside0.mk hr0
  clear hr0
  have hmx : xs.length ≤ 9223372036854775807 := Kd.C_max HR0.out
  go_enter Tryd.func104, Tryd.ntmps104
  go_wp2
  go_loopg [8] xs.length (fun kq v8 w' => ∃ (i : Nat), v8 = .int .i64 (i : Int) ∧ Aside0 (i + kq = xs.length) ∧ Aside0 (ix (fun x => !fin x) (xs.drop i) (i : Int) = r) ∧ Drawn0 w w')
  case atStart => exact ⟨0, rfl, ⟨by simp⟩, ⟨hr⟩, Drawn0.refl _⟩
  case round =>
    obtain ⟨i, rfl, HI, HX, ⟨m, rfl⟩⟩ := hrel
    have hi := HI.out
    have hx0 := HX.out
    cases gk with
    | zero =>
      have hc : decide ((i : Int) < (xs.length : Int)) = false := by simp; omega
      rw [List.drop_eq_nil_of_le (by omega), ix] at hx0
      subst hx0
      go_wp2
      go_ret
      exact ⟨rfl, ⟨_, rfl⟩⟩
    | succ k1 =>
      have hil : i < xs.length := by omega
      have hc : decide ((i : Int) < (xs.length : Int)) = true := by simp; omega
      have p0 : (0 : Int) ≤ (i : Int) := by omega
      have q0 : (i : Int) < (xs.length : Int) := by omega
      obtain ⟨ad, ead, hx⟩ := Kd.at_float HR0.out (i : Int) p0 q0
      cases ead
      rw [Int.toNat_natCast, show rdOf (0 : Nat) xs (i : Int) = xs[i] by simp [rdOf, hil]] at hx
      rw [List.drop_eq_getElem_cons hil, ix] at hx0
      generalize xs[i] = x at hx hx0
      have p0b := eq_true p0
      have q0b := eq_true q0
      cases e : fin x with
      | false =>
        rw [e, if_pos (by rfl)] at hx0
        subst hx0
        go_wp2_with (first | (go_at_call 82; refine (litf _ _).mono ?_; rintro e w1 ⟨rfl, ⟨nd, rfl⟩⟩))
        go_ret
        exact ⟨rfl, ⟨_, rfl⟩⟩
      | true =>
        rw [e, if_neg (by decide)] at hx0
        go_wp2_with (first | (go_at_call 82; refine (litf _ _).mono ?_; rintro e w1 ⟨rfl, ⟨nd, rfl⟩⟩))
        go_roundg k1
        case measure => omega
        case rel => exact ⟨i + 1, rfl, ⟨by omega⟩, ⟨hx0⟩, ⟨_, rfl⟩⟩
set_option maxHeartbeats 4000000 in
set_option maxRecDepth 100000 in
theorem containsf (A : Option Addr) (c : Nat) (xs : List Nat) (w : World) (hr0 : Kd.C (Kd.float .f32) w A xs.length xs) (hc0 : xs.length ≤ c) :
    Calls Tryd.prog 81 #[.slice A xs.length c, .func (.func 82) #[] #[]] w fun e w' => e = .returned (.bool (xs.any fun x => !fin x)) ∧ Drawn0 w w' := by
  have hg := ix_ge (fun x => !fin x) xs 0 (Int.le_refl _)
  go_enter Tryd.func81, Tryd.ntmps81
  go_wp2_with (first | (go_at_call 104; refine (indexf _ _ _ _ rfl _ hr0 hc0).mono ?_; rintro e w1 ⟨rfl, ⟨nd, rfl⟩⟩))
  go_ret
  exact ⟨by first | rfl | (rw [← hg]; rfl), ⟨_, rfl⟩⟩
set_option maxHeartbeats 4000000 in
set_option maxRecDepth 100000 in
theorem finitef (A : Option Addr) (c : Nat) (xs : List Nat) (w : World) (hr0 : Kd.C (Kd.float .f32) w A xs.length xs) (hc0 : xs.length ≤ c) :
    Calls Tryd.prog 56 #[.slice A xs.length c] w fun e w' => e = .returned (.bool (!xs.any fun x => !fin x)) ∧ Drawn0 w w' := by
  go_enter Tryd.func56, Tryd.ntmps56
  go_wp2_with (first | (go_at_call 81; refine (containsf _ _ _ _ hr0 hc0).mono ?_; rintro e w1 ⟨rfl, ⟨nd, rfl⟩⟩))
  go_ret
  exact ⟨rfl, ⟨_, rfl⟩⟩
theorem three_C {k : FloatKind} {b : Nat} {x y z : Nat} {t : TypeId} {w : World} (h : w.heap[b]? = some (.cells #[.float k x, .float k y, .float k z] t (0, 0))) : Kd.C (Kd.float k) w (some ⟨b, 0, none⟩) [x, y, z].length [x, y, z] := by
  refine Kd.C_of_reads (d := (0 : Nat)) ⟨rfl, by simp, fun _ => ⟨_, rfl, fun j hj => ?_⟩⟩
  have hj3 : j < 3 := hj
  rw [add_plain]
  unfold World.cell?
  rw [h]
  match j, hj3 with
  | 0, _ => rfl
  | 1, _ => rfl
  | 2, _ => rfl
theorem heap_two (w : World) (o1 o2 : Obj) : ((w.alloc o1).alloc o2).heap[w.heap.size + 1]? = some o2 := by
  have h := heap_alloc_new (w.alloc o1) o2
  rwa [show (w.alloc o1).heap.size = w.heap.size + 1 by simp] at h
theorem two_C {k : FloatKind} {b : Nat} {x y : Nat} {t : TypeId} {w : World} (h : w.heap[b]? = some (.cells #[.float k x, .float k y] t (0, 0))) : Kd.C (Kd.float k) w (some ⟨b, 0, none⟩) [x, y].length [x, y] := by
  refine Kd.C_of_reads (d := (0 : Nat)) ⟨rfl, by simp, fun _ => ⟨_, rfl, fun j hj => ?_⟩⟩
  have hj3 : j < 2 := hj
  rw [add_plain]
  unfold World.cell?
  rw [h]
  match j, hj3 with
  | 0, _ => rfl
  | 1, _ => rfl
/-- Are both parts finite? -/
def cfin (p : Nat × Nat) : Bool := fin p.1 && fin p.2
set_option maxHeartbeats 4000000 in
set_option maxRecDepth 100000 in
theorem isFiniteComplex (x y : Nat) (w : World) : Calls Tryd.prog 121 #[.complex .f32 x y] w fun e w' => e = .returned (.bool (cfin (x, y))) ∧ Below w.heap.size w w' := by
  have e0 : (!([x, y].any fun x => !fin x)) = cfin (x, y) := by unfold cfin; cases h0 : fin x <;> cases h1 : fin y <;> simp [h0, h1]
  rw [← e0]
  go_enter Tryd.func121, Tryd.ntmps121
  go_wp2_with (first | (go_at_call 56; refine (finitef _ 2 [x, y] _ (two_C (t := 68) (heap_alloc_new _ _)) (by simp)).mono ?_; rintro e w1 ⟨rfl, ⟨nd, rfl⟩⟩))
  go_ret
  exact ⟨by first | rfl | (simp; done), by repeat (first | exact Below.refl _ _ | apply below_alloc | apply pw_below_drewN | apply below_drew1)⟩
def wfin (v : S70) : Bool := cfin v.f0 && fin v.f1
set_option maxHeartbeats 4000000 in
set_option maxRecDepth 100000 in
theorem lit120 (x y z : Nat) (w : World) : Calls Tryd.prog 120 #[.agg #[.complex .f32 x y, .float .f32 z]] w fun e w' => e = .returned (.bool (!(cfin (x, y) && fin z))) ∧ Below w.heap.size w w' := by
  cases e1 : cfin (x, y) with
  | false =>
    go_enter Tryd.func120, Tryd.ntmps120
    go_wp2_with (first | (go_at_call 121; refine (isFiniteComplex _ _ _).mono ?_; rw [e1]; rintro e w1 ⟨rfl, hb⟩))
    go_ret
    exact ⟨by first | rfl | (simp; done), below_step (by repeat (first | exact Below.refl _ _ | apply below_alloc | apply pw_below_drewN | apply below_drew1)) hb⟩
  | true =>
    go_enter Tryd.func120, Tryd.ntmps120
    go_wp2_with (first | (go_at_call 121; refine (isFiniteComplex _ _ _).mono ?_; rw [e1]; rintro e w1 ⟨rfl, hb⟩; have f1 := (hb.cell (p := ⟨w.heap.size, 1, none⟩) (by simp)).trans (show _ = some (Value.float .f32 z) by simp); have hbw : Below w.heap.size w w1 := below_step (below_alloc (Below.refl _ _) _) hb; clear hb) | (go_at_call 83; refine (IsFinite.calls _ _ _ rfl).mono ?_; rintro e w2 ⟨rfl, ⟨nd, rfl⟩⟩))
    go_ret
    exact ⟨by first | rfl | (simp; done), by repeat (first | exact hbw | apply pw_below_drewN)⟩
set_option maxHeartbeats 4000000 in
set_option maxRecDepth 100000 in
theorem index140 (A : Option Addr) (c : Nat) (xs : List S70) (r : Int) (hr : ix (fun x => !wfin x) xs 0 = r) (w : World) (hr0 : Kd.C k70 w A xs.length xs) (hc0 : xs.length ≤ c) :
    Calls Tryd.prog 140 #[.slice A xs.length c, .func (.func 120) #[] #[]] w fun e w' => e = .returned (.int .i64 r) ∧ Below w.heap.size w w' := by
  have HR0 := Aside0.mk hr0
  clear hr0
  have hmx : xs.length ≤ 9223372036854775807 := Kd.C_max HR0.out
  go_enter Tryd.func140, Tryd.ntmps140
  go_wp2
  go_loopg [8] xs.length (fun kq v8 w' => ∃ (i : Nat), v8 = .int .i64 (i : Int) ∧ Aside0 (i + kq = xs.length) ∧ Aside0 (ix (fun x => !wfin x) (xs.drop i) (i : Int) = r) ∧ Aside0 (Below w.heap.size w w'))
  case atStart => exact ⟨0, rfl, ⟨by simp⟩, ⟨hr⟩, ⟨Below.refl _ _⟩⟩
  case round =>
    obtain ⟨i, rfl, HI, HX, HB⟩ := hrel
    have hi := HI.out
    have hx0 := HX.out
    cases gk with
    | zero =>
      have hc : decide ((i : Int) < (xs.length : Int)) = false := by simp; omega
      rw [List.drop_eq_nil_of_le (by omega), ix] at hx0
      subst hx0
      go_wp2
      go_ret
      exact ⟨rfl, HB.out⟩
    | succ k1 =>
      have hil : i < xs.length := by omega
      have hc : decide ((i : Int) < (xs.length : Int)) = true := by simp; omega
      have p0 : (0 : Int) ≤ (i : Int) := by omega
      have q0 : (i : Int) < (xs.length : Int) := by omega
      obtain ⟨ad, ead, hx_0, hx_1⟩ := at_T70 HR0.out (i : Int) p0 q0
      cases ead
      replace hx_0 := (HB.out.cell (World.block_lt_of_cell? w _ hx_0)).trans hx_0
      replace hx_1 := (HB.out.cell (World.block_lt_of_cell? w _ hx_1)).trans hx_1
      rw [Int.toNat_natCast, show rd_T70 xs (i : Int) = xs[i] by simp [rd_T70, hil]] at hx_0 hx_1
      rw [List.drop_eq_getElem_cons hil, ix] at hx0
      generalize xs[i] = x at hx_0 hx_1 hx0
      have p0b := eq_true p0
      have q0b := eq_true q0
      cases e : wfin x with
      | false =>
        rw [e, if_pos (by rfl)] at hx0
        subst hx0
        have e2 : (cfin (x.f0.1, x.f0.2) && fin x.f1) = false := e
        go_wp2_with (first | (go_at_call 120; refine (lit120 _ _ _ _).mono ?_; rw [e2]; rintro e w1 ⟨rfl, hb⟩))
        go_ret
        exact ⟨rfl, below_step HB.out hb⟩
      | true =>
        rw [e, if_neg (by decide)] at hx0
        have e2 : (cfin (x.f0.1, x.f0.2) && fin x.f1) = true := e
        go_wp2_with (first | (go_at_call 120; refine (lit120 _ _ _ _).mono ?_; rw [e2]; rintro e w1 ⟨rfl, hb⟩))
        go_roundg k1
        case measure => omega
        case rel => exact ⟨i + 1, rfl, ⟨by omega⟩, ⟨hx0⟩, ⟨below_step HB.out hb⟩⟩
set_option maxHeartbeats 4000000 in
set_option maxRecDepth 100000 in
theorem contains119 (A : Option Addr) (c : Nat) (xs : List S70) (w : World) (hr0 : Kd.C k70 w A xs.length xs) (hc0 : xs.length ≤ c) :
    Calls Tryd.prog 119 #[.slice A xs.length c, .func (.func 120) #[] #[]] w fun e w' => e = .returned (.bool (xs.any fun x => !wfin x)) ∧ Below w.heap.size w w' := by
  have hg := ix_ge (fun x => !wfin x) xs 0 (Int.le_refl _)
  go_enter Tryd.func119, Tryd.ntmps119
  go_wp2_with (first | (go_at_call 140; refine (index140 _ _ _ _ rfl _ hr0 hc0).mono ?_; rintro e w1 ⟨rfl, hb⟩))
  go_ret
  exact ⟨by first | rfl | (rw [← hg]; rfl), hb⟩
/-- impl.finiteWhirls. -/
def finiteWhirls.f (l0 : List S70) : Option Bool := some (!(l0.any fun x => !wfin x))
set_option maxHeartbeats 4000000 in
set_option maxRecDepth 100000 in
theorem finiteWhirls.calls (A0 : Option Addr) (c0 : Nat) (l0 : List S70) (r : Bool) (w : World) (hr0 : Kd.C k70 w A0 l0.length l0) (hc0 : l0.length ≤ c0) (h : finiteWhirls.f l0 = some r) :
    Calls Tryd.prog 98 #[.slice A0 l0.length c0] w fun e w' => e = .returned (.bool r) ∧ Below w.heap.size w w' := by
  obtain rfl := Option.some.inj h
  go_enter Tryd.func98, Tryd.ntmps98
  go_wp2_with (first | (go_at_call 119; refine (contains119 _ _ _ _ hr0 hc0).mono ?_; rintro e w1 ⟨rfl, hb⟩))
  go_ret
  exact ⟨by first | rfl | (simp; done), hb⟩
/-- complex128(z): part by part, each as float64 is. -/
theorem run_fconv {P : Program} (w : World) (b : Nat) : ∃ b' n, (Conv.floatToFloat .f32 b .f64).run P w = .ok (.float .f64 b') (w.drewN n) ∧ Cv b b' := by
  cases h : isn .f32 b with
  | true =>
    refine ⟨(Question.nanConv .f64 b).cut (w.tape w.drawn (.nanConv .f64 b)), 1, ?_, .inl ⟨h, cut_nan64 _⟩⟩
    unfold isn at h
    cases hx : FloatKind.f32.format.read b with
    | infinity s => rw [hx] at h; cases h
    | number s m e => rw [hx] at h; cases h
    | nan s f =>
      have hx' : FloatKind.f32.decode b = .nan s f := hx
      simp [Conv.floatToFloat, hx', Question.forced]
      rfl
  | false =>
    obtain ⟨r, hr⟩ := cv_some h
    exact ⟨r, 0, run_floatToFloat w hr, .inr ⟨h, hr⟩⟩
theorem run_cconv {P : Program} (w : World) (src dst : TypeId) (a b : Nat) (hs : (P.underlying src).isSome = true) (hd : P.underlying dst = some (.complex .f64)) :
    ∃ a' b' n, (convert src dst (.complex .f32 a b)).run P w = .ok (.complex .f64 a' b') (w.drewN n) ∧ Cv a a' ∧ Cv b b' := by
  obtain ⟨u, hs'⟩ := Option.isSome_iff_exists.1 hs
  obtain ⟨a', n, h1, c1⟩ := run_fconv (P := P) w a
  obtain ⟨b', m, h2, c2⟩ := run_fconv (P := P) (w.drewN n) b
  refine ⟨a', b', n + m, ?_, c1, c2⟩
  have e : (w.drewN n).drewN m = w.drewN (n + m) := by simp
  cases u <;> simp [convert, run_underlying hs', run_underlying hd, Conv.complexToComplex, h1, h2, e]
theorem wpList_cconv {P : Program} {ops : Array Oper} {rest : List Oper} {o : Oper} {a : Act} {w : World} {Q : Exit → Act → World → Prop} (hgd : o.guard = none) (src dst : TypeId) (x : Operand) (ho : o.op = .convert src dst x)
    (hs : (P.underlying src).isSome = true) (hd : P.underlying dst = some (.complex .f64)) (b c : Nat) (hx : a.eval x = .complex .f32 b c)
    (h : ∀ b' c' n, Cv b b' → Cv c c' → wpList P ops Q rest (a.put o.dst (.complex .f64 b' c')) (w.drewN n)) : wpList P ops Q (o :: rest) a w := by
  refine wpList_plain hgd fun K hK => ?_
  obtain ⟨b', c', n, hr, hc, hc2⟩ := run_cconv (P := P) w src dst b c hs hd
  unfold Oper.wp execOp
  simp only [ho, Sem.run_bind, hx, hr, Result.andThen_ok, Sem.run_pure]
  exact hK _ _ (h b' c' n hc hc2)
set_option maxHeartbeats 4000000 in
set_option maxRecDepth 100000 in
theorem sameComplex_c (x y x2 y2 a b a2 b2 : Nat) (h1 : Cv x a) (h2 : Cv y b) (h3 : Cv x2 a2) (h4 : Cv y2 b2) (w : World) : Calls Tryd.prog 74 #[.complex .f64 a b, .complex .f64 a2 b2] w fun e w' => e = .returned (.bool (sfc x x2 && sfc y y2)) ∧ Drawn0 w w' := by
  cases e1 : sfc x x2 with
  | false =>
    go_enter Tryd.func74, Tryd.ntmps74
    go_wp2_with (first | (go_at_call 61; (with_reducible refine (sameFloat_c x x2 a a2 h1 h3 _).mono ?_); rw [e1]; rintro e w1 ⟨rfl, ⟨nd, rfl⟩⟩))
    go_ret
    exact ⟨by first | rfl | (simp; done), ⟨_, rfl⟩⟩
  | true =>
    go_enter Tryd.func74, Tryd.ntmps74
    go_wp2_with (first | (go_at_call 61; (with_reducible refine (sameFloat_c x x2 a a2 h1 h3 _).mono ?_); rw [e1]; rintro e w1 ⟨rfl, ⟨nd, rfl⟩⟩) | (go_at_call 61; (with_reducible refine (sameFloat_c y y2 b b2 h2 h4 _).mono ?_); rintro e w1 ⟨rfl, ⟨nd2, rfl⟩⟩))
    go_ret
    exact ⟨by first | rfl | (simp; done), ⟨_, rfl⟩⟩
/-- The laws' eqWhirl. -/
def eqWhirl.f (a0_0 : Nat × Nat) (a0_1 : Nat) (a1_0 : Nat × Nat) (a1_1 : Nat) : Option Bool := some ((sfc a0_0.1 a1_0.1 && sfc a0_0.2 a1_0.2) && sfc a0_1 a1_1)
set_option maxHeartbeats 4000000 in
set_option maxRecDepth 100000 in
theorem eqWhirl.calls (a0_0 : Nat × Nat) (a0_1 : Nat) (a1_0 : Nat × Nat) (a1_1 : Nat) (r : Bool) (w : World) (h : eqWhirl.f a0_0 a0_1 a1_0 a1_1 = some r) :
    Calls Tryd.prog 44 #[.agg #[.complex .f32 a0_0.1 a0_0.2, .float .f32 a0_1], .agg #[.complex .f32 a1_0.1 a1_0.2, .float .f32 a1_1]] w fun e w' => e = .returned (.bool r) ∧ Below w.heap.size w w' := by
  unfold eqWhirl.f at h
  obtain rfl := Option.some.inj h
  have c0 : (Tryd.prog.underlying 67).isSome = true := by kernel_rfl
  have c1 := Tryd.underlying73
  have d0 : (Tryd.prog.underlying 68).isSome = true := by kernel_rfl
  have d1 := Tryd.underlying74
  cases e0 : (sfc a0_0.1 a1_0.1 && sfc a0_0.2 a1_0.2) with
  | false =>
    go_enter Tryd.func44, Tryd.ntmps44
    go_wp2_with (first | (refine wpList_cconv rfl _ _ _ rfl c0 c1 _ _ rfl ?_; intro b' c' n hc hc2) | (go_at_call 74; refine (sameComplex_c _ _ _ _ _ _ _ _ (by assumption) (by assumption) (by assumption) (by assumption) _).mono ?_; rw [e0]; rintro e w1 ⟨rfl, ⟨nd, rfl⟩⟩))
    go_ret
    exact ⟨by first | rfl | (simp [*]; done), by repeat (first | exact Below.refl _ _ | apply below_alloc | apply pw_below_drewN | apply below_drew1)⟩
  | true =>
    cases e1 : sfc a0_1 a1_1 with
    | false =>
      go_enter Tryd.func44, Tryd.ntmps44
      go_wp2_with (first | (refine wpList_cconv rfl _ _ _ rfl c0 c1 _ _ rfl ?_; intro b' c' n hc hc2) | (go_at_call 74; refine (sameComplex_c _ _ _ _ _ _ _ _ (by assumption) (by assumption) (by assumption) (by assumption) _).mono ?_; rw [e0]; rintro e w1 ⟨rfl, ⟨nd, rfl⟩⟩) | (refine wpList_conv rfl _ _ _ rfl d0 d1 _ rfl ?_; intro b' n hc) | (go_at_call 61; refine (sameFloat_c _ _ _ _ (by assumption) (by assumption) _).mono ?_; rw [e1]; rintro e w1 ⟨rfl, ⟨nd2, rfl⟩⟩))
      go_ret
      exact ⟨by first | rfl | (simp [*]; done), by repeat (first | exact Below.refl _ _ | apply below_alloc | apply pw_below_drewN | apply below_drew1)⟩
    | true =>
      go_enter Tryd.func44, Tryd.ntmps44
      go_wp2_with (first | (refine wpList_cconv rfl _ _ _ rfl c0 c1 _ _ rfl ?_; intro b' c' n hc hc2) | (go_at_call 74; refine (sameComplex_c _ _ _ _ _ _ _ _ (by assumption) (by assumption) (by assumption) (by assumption) _).mono ?_; rw [e0]; rintro e w1 ⟨rfl, ⟨nd, rfl⟩⟩) | (refine wpList_conv rfl _ _ _ rfl d0 d1 _ rfl ?_; intro b' n hc) | (go_at_call 61; refine (sameFloat_c _ _ _ _ (by assumption) (by assumption) _).mono ?_; rw [e1]; rintro e w1 ⟨rfl, ⟨nd2, rfl⟩⟩))
      go_ret
      exact ⟨by first | rfl | (simp [*]; done), by repeat (first | exact Below.refl _ _ | apply below_alloc | apply pw_below_drewN | apply below_drew1)⟩
end XW
end Go.Proofs.YtifegijnfnjboaaDoor
