/- Lists of threads: AreThreads by its closure, the reference's l06Are; numbers in a list: levelOk; a vector told. -/
import Derived.Test.YtffofpiejcolfaaXG
import Derived.Test.YtffofpiejcolfaaL30
set_option linter.unusedVariables false
set_option linter.unusedSimpArgs false
namespace Go.Proofs.Ytffofpiejcolfaa
open Go.RowKit Go.Proofs.YtffofpiejcolfaaW.PrintWords Go.Proofs.YtffofpiejcolfaaW.PrintLast Go.Proofs.YtffofpiejcolfaaW.PrintMore
attribute [local go_sem] max2_int min2_int max_two min_two max_three min_three max_four min_four   -- for this text's walks alone
namespace XV
open XF XL XC XY XE XN XK L0 L3
def tis (t : S31) : Bool := isThread t.f0 t.f1
set_option maxHeartbeats 4000000 in
set_option maxRecDepth 100000 in
theorem lit114 (A : Option Addr) (c : Nat) (l : List S46) (a : Nat) (w : World) (hr : Kd.C k46 w A l.length l) (hc : l.length ≤ c) : Calls Try.prog 114 #[.agg #[.slice A l.length c, .float .f32 a]] w fun e w' => e = .returned (.bool (!isThread l a)) ∧ Below w.heap.size w w' := by
  go_enter Try.func114, Try.ntmps114
  go_wp2_with (first | (go_at_call 45; refine (IsThread.calls _ _ _ _ _ _ (Kd.C_alloc hr _) hc rfl).mono ?_; rintro e w1 ⟨rfl, hb⟩))
  go_ret
  exact ⟨by first | rfl | (simp; done), below_step (by repeat (first | exact Below.refl _ _ | apply below_alloc | apply pw_below_drewN | apply below_drew1)) hb⟩
set_option maxHeartbeats 4000000 in
set_option maxRecDepth 100000 in
theorem index131 (A : Option Addr) (c : Nat) (xs : List S31) (r : Int) (hr : ix (fun x => !tis x) xs 0 = r) (w : World) (hr0 : Kd.C k31 w A xs.length xs) (hc0 : xs.length ≤ c) :
    Calls Try.prog 131 #[.slice A xs.length c, .func (.func 114) #[] #[]] w fun e w' => e = .returned (.int .i64 r) ∧ Below w.heap.size w w' := by
  have HR0 := Aside0.mk hr0
  clear hr0
  have hmx : xs.length ≤ 9223372036854775807 := Kd.C_max HR0.out
  go_enter Try.func131, Try.ntmps131
  go_wp2
  go_loopg [8] xs.length (fun kq v8 w' => ∃ (i : Nat), v8 = .int .i64 (i : Int) ∧ Aside0 (i + kq = xs.length) ∧ Aside0 (ix (fun x => !tis x) (xs.drop i) (i : Int) = r) ∧ Aside0 (Below w.heap.size w w'))
  case atStart => exact ⟨0, rfl, ⟨by simp⟩, ⟨hr⟩, ⟨Below.refl _ _⟩⟩
  case round =>
    obtain ⟨i, rfl, HI, HX, HB⟩ := hrel
    have hi := HI.out
    have hx0 := HX.out
    cases gk with
    | zero =>
      have hc : decide ((i : Int) < (xs.length : Int)) = false := by simp; omega
      rw [List.drop_eq_nil_of_le (by omega), ix] at hx0
      subst hx0
      go_wp2
      go_ret
      exact ⟨rfl, HB.out⟩
    | succ k1 =>
      have hil : i < xs.length := by omega
      have hc : decide ((i : Int) < (xs.length : Int)) = true := by simp; omega
      have p0 : (0 : Int) ≤ (i : Int) := by omega
      have q0 : (i : Int) < (xs.length : Int) := by omega
      obtain ⟨ad, Ae, ce, ead, hx_0, hx_1, hle, hCe⟩ := at_T31 HR0.out (i : Int) p0 q0
      cases ead
      replace hx_0 := (HB.out.cell (World.block_lt_of_cell? w _ hx_0)).trans hx_0
      replace hx_1 := (HB.out.cell (World.block_lt_of_cell? w _ hx_1)).trans hx_1
      have hCw := Kd.C_below hCe HB.out
      rw [Int.toNat_natCast] at hx_0 hx_1
      rw [show rd_T31 xs (i : Int) = xs[i] by simp [rd_T31, hil]] at hx_0 hx_1 hle hCw
      rw [List.drop_eq_getElem_cons hil, ix] at hx0
      clear hCe
      generalize xs[i] = x at hx_0 hx_1 hx0 hle hCw
      have p0b := eq_true p0
      have q0b := eq_true q0
      cases e : tis x with
      | false =>
        rw [e, if_pos (by rfl)] at hx0
        subst hx0
        have e2 : isThread x.f0 x.f1 = false := e
        go_wp2_with (first | (go_at_call 114; refine (lit114 _ _ _ _ _ hCw hle).mono ?_; rw [e2]; rintro e w1 ⟨rfl, hb⟩))
        go_ret
        exact ⟨rfl, below_step HB.out hb⟩
      | true =>
        rw [e, if_neg (by decide)] at hx0
        have e2 : isThread x.f0 x.f1 = true := e
        go_wp2_with (first | (go_at_call 114; refine (lit114 _ _ _ _ _ hCw hle).mono ?_; rw [e2]; rintro e w1 ⟨rfl, hb⟩))
        go_roundg k1
        case measure => omega
        case rel => exact ⟨i + 1, rfl, ⟨by omega⟩, ⟨hx0⟩, ⟨below_step HB.out hb⟩⟩
set_option maxHeartbeats 4000000 in
set_option maxRecDepth 100000 in
theorem contains113 (A : Option Addr) (c : Nat) (xs : List S31) (w : World) (hr0 : Kd.C k31 w A xs.length xs) (hc0 : xs.length ≤ c) :
    Calls Try.prog 113 #[.slice A xs.length c, .func (.func 114) #[] #[]] w fun e w' => e = .returned (.bool (xs.any fun x => !tis x)) ∧ Below w.heap.size w w' := by
  have hg := ix_ge (fun x => !tis x) xs 0 (Int.le_refl _)
  go_enter Try.func113, Try.ntmps113
  go_wp2_with (first | (go_at_call 131; refine (index131 _ _ _ _ rfl _ hr0 hc0).mono ?_; rintro e w1 ⟨rfl, hb⟩))
  go_ret
  exact ⟨by first | rfl | (rw [← hg]; rfl), hb⟩
/-- impl.AreThreads, spec.l06Are. -/
def are (l : List S31) : Bool := decide (l.length ≤ 4) && !(l.any fun x => !tis x)
def AreThreads.f (l0 : List S31) : Option Bool := some (are l0)
set_option maxHeartbeats 4000000 in
set_option maxRecDepth 100000 in
theorem AreThreads.calls (A0 : Option Addr) (c0 : Nat) (l0 : List S31) (r : Bool) (w : World) (hr0 : Kd.C k31 w A0 l0.length l0) (hc0 : l0.length ≤ c0) (h : AreThreads.f l0 = some r) :
    Calls Try.prog 73 #[.slice A0 l0.length c0] w fun e w' => e = .returned (.bool r) ∧ Below w.heap.size w w' := by
  obtain rfl := Option.some.inj h
  unfold are
  by_cases c1 : l0.length ≤ 4
  · have c1a : decide ((l0.length : Int) ≤ (4 : Int)) = true := by simp; omega
    rw [decide_eq_true c1, Bool.true_and]
    go_enter Try.func73, Try.ntmps73
    go_wp2_with (first | (go_at_call 113; refine (contains113 _ _ _ _ hr0 hc0).mono ?_; rintro e w1 ⟨rfl, hb⟩))
    go_ret
    exact ⟨by first | rfl | (simp; done), hb⟩
  · have c1a : decide ((l0.length : Int) ≤ (4 : Int)) = false := by simp; omega
    rw [decide_eq_false c1, Bool.false_and]
    go_enter Try.func73, Try.ntmps73
    go_wp2
    go_ret
    exact ⟨by first | rfl | (simp; done), Below.refl _ _⟩
def l06Are.f (l0 : List S31) : Option Bool := some (are l0)
set_option maxHeartbeats 4000000 in
set_option maxRecDepth 100000 in
theorem l06Are.calls (A0 : Option Addr) (c0 : Nat) (l0 : List S31) (r : Bool) (w : World) (hr0 : Kd.C k31 w A0 l0.length l0) (hc0 : l0.length ≤ c0) (h : l06Are.f l0 = some r) :
    Calls Try.prog 68 #[.slice A0 l0.length c0] w fun e w' => e = .returned (.bool r) ∧ Below w.heap.size w w' := by
  replace h := Option.some.inj h
  have HR0 := Aside0.mk hr0
  clear hr0
  have hmx : l0.length ≤ 9223372036854775807 := Kd.C_max HR0.out
  unfold are at h
  by_cases c1 : l0.length ≤ 4
  · have c1a : decide ((l0.length : Int) ≤ (4 : Int)) = true := by simp; omega
    rw [decide_eq_true c1, Bool.true_and] at h
    have HR := Aside0.mk h
    clear h
    go_enter Try.func68, Try.ntmps68
    go_wp2
    go_loopg [3] l0.length (fun kq v3 w' => ∃ (i : Nat), v3 = .int .i64 (i : Int) ∧ Aside0 (i + kq = l0.length) ∧ Aside0 ((!((l0.drop i).any fun x => !tis x)) = r) ∧ Aside0 (Below w.heap.size w w'))
    case atStart => exact ⟨0, rfl, ⟨by simp⟩, HR, ⟨Below.refl _ _⟩⟩
    case round =>
      clear HR
      obtain ⟨i, rfl, HI, HX, HB⟩ := hrel
      have hi := HI.out
      have hx0 := HX.out
      cases gk with
      | zero =>
        have hc : decide ((i : Int) < (l0.length : Int)) = false := by simp; omega
        rw [List.drop_eq_nil_of_le (by omega)] at hx0
        replace hx0 : true = r := hx0
        subst hx0
        go_wp2
        go_ret
        exact ⟨rfl, HB.out⟩
      | succ k1 =>
        have hil : i < l0.length := by omega
        have hc : decide ((i : Int) < (l0.length : Int)) = true := by simp; omega
        have p0 : (0 : Int) ≤ (i : Int) := by omega
        have q0 : (i : Int) < (l0.length : Int) := by omega
        obtain ⟨ad, Ae, ce, ead, hx_0, hx_1, hle, hCe⟩ := at_T31 HR0.out (i : Int) p0 q0
        cases ead
        replace hx_0 := (HB.out.cell (World.block_lt_of_cell? w _ hx_0)).trans hx_0
        replace hx_1 := (HB.out.cell (World.block_lt_of_cell? w _ hx_1)).trans hx_1
        have hCw := Kd.C_below hCe HB.out
        rw [Int.toNat_natCast] at hx_0 hx_1
        rw [show rd_T31 l0 (i : Int) = l0[i] by simp [rd_T31, hil]] at hx_0 hx_1 hle hCw
        rw [List.drop_eq_getElem_cons hil, List.any_cons] at hx0
        clear hCe
        generalize l0[i] = x at hx_0 hx_1 hx0 hle hCw
        have p0b := eq_true p0
        have q0b := eq_true q0
        cases e : tis x with
        | false =>
          rw [e] at hx0
          replace hx0 : false = r := by simpa using hx0
          subst hx0
          go_wp2_with (first | (go_at_call 41; refine (l06Is_at _ _ _ _ _ _ hx_0 hx_1 hle hCw _ e).mono ?_; rintro e w1 ⟨rfl, hb⟩))
          go_ret
          exact ⟨rfl, below_step HB.out hb⟩
        | true =>
          rw [e] at hx0
          replace hx0 : (!((l0.drop (i + 1)).any fun x => !tis x)) = r := by simpa using hx0
          go_wp2_with (first | (go_at_call 41; refine (l06Is_at _ _ _ _ _ _ hx_0 hx_1 hle hCw _ e).mono ?_; rintro e w1 ⟨rfl, hb⟩))
          go_roundg k1
          case measure => omega
          case rel => exact ⟨i + 1, rfl, ⟨by omega⟩, ⟨hx0⟩, ⟨below_step HB.out hb⟩⟩
  · have c1a : decide ((l0.length : Int) ≤ (4 : Int)) = false := by simp; omega
    rw [decide_eq_false c1, Bool.false_and] at h
    subst h
    have c3 : decide ((0 : Int) < (l0.length : Int)) = true := by simp; omega
    go_enter Try.func68, Try.ntmps68
    go_wp2
    go_loopg [3] 0 (fun kq v3 w' => v3 = .int .i64 0 ∧ Aside0 (Below w.heap.size w w'))
    case atStart => exact ⟨rfl, ⟨Below.refl _ _⟩⟩
    case round =>
      obtain ⟨rfl, HB⟩ := hrel
      go_wp2
      go_ret
      exact ⟨rfl, HB.out⟩
/-- Below nought. -/
def ltz (x : Nat) : Bool := FloatKind.f32.format.order x 0 == some .lt
set_option maxHeartbeats 4000000 in
set_option maxRecDepth 100000 in
theorem lit117 (x : Nat) (w : World) : Calls Try.prog 117 #[.float .f32 x] w fun e w' => e = .returned (.bool (ltz x)) ∧ Drawn0 w w' := by
  unfold ltz
  go_enter Try.func117, Try.ntmps117
  go_wp2
  go_ret
  exact ⟨rfl, Drawn0.refl _⟩
set_option maxHeartbeats 4000000 in
set_option maxRecDepth 100000 in
theorem index133n (A : Option Addr) (c : Nat) (xs : List Nat) (r : Int) (hr : ix (fun x => ltz x) xs 0 = r) (w : World) (hr0 : Kd.C (Kd.float .f32) w A xs.length xs) (hc0 : xs.length ≤ c) :
    Calls Try.prog 133 #[.slice A xs.length c, .func (.func 117) #[] #[]] w fun e w' => e = .returned (.int .i64 r) ∧ Drawn0 w w' := by
  have HR0 := Aside0.mk hr0
  clear hr0
  have hmx : xs.length ≤ 9223372036854775807 := Kd.C_max HR0.out
  go_enter Try.func133, Try.ntmps133
  go_wp2
  go_loopg [8] xs.length (fun kq v8 w' => ∃ (i : Nat), v8 = .int .i64 (i : Int) ∧ Aside0 (i + kq = xs.length) ∧ Aside0 (ix (fun x => ltz x) (xs.drop i) (i : Int) = r) ∧ Drawn0 w w')
  case atStart => exact ⟨0, rfl, ⟨by simp⟩, ⟨hr⟩, Drawn0.refl _⟩
  case round =>
    obtain ⟨i, rfl, HI, HX, ⟨m, rfl⟩⟩ := hrel
    have hi := HI.out
    have hx0 := HX.out
    cases gk with
    | zero =>
      have hc : decide ((i : Int) < (xs.length : Int)) = false := by simp; omega
      rw [List.drop_eq_nil_of_le (by omega), ix] at hx0
      subst hx0
      go_wp2
      go_ret
      exact ⟨rfl, ⟨_, rfl⟩⟩
    | succ k1 =>
      have hil : i < xs.length := by omega
      have hc : decide ((i : Int) < (xs.length : Int)) = true := by simp; omega
      have p0 : (0 : Int) ≤ (i : Int) := by omega
      have q0 : (i : Int) < (xs.length : Int) := by omega
      obtain ⟨ad, ead, hx⟩ := Kd.at_float HR0.out (i : Int) p0 q0
      cases ead
      rw [Int.toNat_natCast, show rdOf (0 : Nat) xs (i : Int) = xs[i] by simp [rdOf, hil]] at hx
      rw [List.drop_eq_getElem_cons hil, ix] at hx0
      generalize xs[i] = x at hx hx0
      have p0b := eq_true p0
      have q0b := eq_true q0
      cases e : ltz x with
      | true =>
        rw [e, if_pos (by rfl)] at hx0
        subst hx0
        go_wp2_with (first | (go_at_call 117; refine (lit117 _ _).mono ?_; rw [e]; rintro e w1 ⟨rfl, ⟨nd, rfl⟩⟩))
        go_ret
        exact ⟨rfl, ⟨_, rfl⟩⟩
      | false =>
        rw [e, if_neg (by decide)] at hx0
        go_wp2_with (first | (go_at_call 117; refine (lit117 _ _).mono ?_; rw [e]; rintro e w1 ⟨rfl, ⟨nd, rfl⟩⟩))
        go_roundg k1
        case measure => omega
        case rel => exact ⟨i + 1, rfl, ⟨by omega⟩, ⟨hx0⟩, ⟨_, rfl⟩⟩
set_option maxHeartbeats 4000000 in
set_option maxRecDepth 100000 in
theorem contains116n (A : Option Addr) (c : Nat) (xs : List Nat) (w : World) (hr0 : Kd.C (Kd.float .f32) w A xs.length xs) (hc0 : xs.length ≤ c) :
    Calls Try.prog 116 #[.slice A xs.length c, .func (.func 117) #[] #[]] w fun e w' => e = .returned (.bool (xs.any fun x => ltz x)) ∧ Drawn0 w w' := by
  have hg := ix_ge (fun x => ltz x) xs 0 (Int.le_refl _)
  go_enter Try.func116, Try.ntmps116
  go_wp2_with (first | (go_at_call 133; refine (index133n _ _ _ _ rfl _ hr0 hc0).mono ?_; rintro e w1 ⟨rfl, ⟨nd, rfl⟩⟩))
  go_ret
  exact ⟨by first | rfl | (rw [← hg]; rfl), ⟨_, rfl⟩⟩
theorem geq_lt {x : Nat} (h : fin x = true) : ((FloatKind.f32.format.order x 0 == some .gt) || (FloatKind.f32.format.order x 0 == some .eq)) = !ltz x := by
  obtain ⟨s, m, e, hx⟩ := num_of_fin h
  unfold ltz Ieee.Format.order
  have h0 : FloatKind.f32.format.read 0 = .number false 0 (-149) := by decide
  rw [hx, h0]
  simp only [Ieee.Datum.order]
  cases compare (Ieee.signed s m (e - min e (-149)).toNat) (Ieee.signed false 0 (-149 - min e (-149)).toNat) <;> rfl
/-- A level: a finite number that is not below nought. -/
def level (x : Nat) : Bool := fin x && !ltz x
theorem one_C {k : FloatKind} {b : Nat} {x : Nat} {t : TypeId} {w : World} (h : w.heap[b]? = some (.cells #[.float k x] t (0, 0))) : Kd.C (Kd.float k) w (some ⟨b, 0, none⟩) [x].length [x] := by
  refine Kd.C_of_reads (d := (0 : Nat)) ⟨rfl, by simp, fun _ => ⟨_, rfl, fun j hj => ?_⟩⟩
  have hj1 : j < 1 := hj
  rw [add_plain]
  unfold World.cell?
  rw [h]
  match j, hj1 with
  | 0, _ => rfl
set_option maxHeartbeats 4000000 in
set_option maxRecDepth 100000 in
theorem level75 (b : Nat) (c : Nat) (x : Nat) (w : World) (hc : 1 ≤ c) (h : w.heap[b]? = some (.cells #[.float .f32 x] 23 (0, 0))) :
    Calls Try.prog 75 #[.slice (some ⟨b, 0, none⟩) 1 c] w fun e w' => e = .returned (.bool (level x)) ∧ Drawn0 w w' := by
  have hC := one_C h
  unfold level
  cases e1 : fin x with
  | false =>
    have e2 : (!([x].any fun x => !fin x)) = false := by simp [e1]
    go_enter Try.func75, Try.ntmps75
    go_wp2_with (first | (go_at_call 115; refine (finite115 (some ⟨b, 0, none⟩) c [x] _ hC hc).mono ?_; rw [e2]; rintro e w1 ⟨rfl, ⟨nd, rfl⟩⟩))
    go_ret
    exact ⟨rfl, ⟨_, rfl⟩⟩
  | true =>
    have e2 : (!([x].any fun x => !fin x)) = true := by simp [e1]
    have e3 : ([x].any fun x => ltz x) = ltz x := by simp
    go_enter Try.func75, Try.ntmps75
    go_wp2_with (first | (go_at_call 115; refine (finite115 (some ⟨b, 0, none⟩) c [x] _ hC hc).mono ?_; rw [e2]; rintro e w1 ⟨rfl, ⟨nd, rfl⟩⟩) | (go_at_call 116; refine (contains116n (some ⟨b, 0, none⟩) c [x] _ (Kd.C_below hC (pw_below_drewN (Below.refl _ _) _)) hc).mono ?_; rw [e3]; rintro e w1 ⟨rfl, ⟨nd, rfl⟩⟩))
    go_ret
    exact ⟨by first | rfl | (simp; done), ⟨_, rfl⟩⟩
set_option maxHeartbeats 4000000 in
set_option maxRecDepth 100000 in
theorem least70 (x : Nat) (w : World) : Calls Try.prog 70 #[.float .f32 x] w fun e w' => e = .returned (.bool (level x)) ∧ Drawn0 w w' := by
  unfold level
  cases e1 : fin x with
  | false =>
    go_enter Try.func70, Try.ntmps70
    go_wp2_with (first | (go_at_call 58; refine (l01Finite.calls _ _ _ rfl).mono ?_; rw [e1]; rintro e w1 ⟨rfl, ⟨nd, rfl⟩⟩))
    go_ret
    exact ⟨rfl, ⟨_, rfl⟩⟩
  | true =>
    go_enter Try.func70, Try.ntmps70
    go_wp2_with (first | (go_at_call 58; refine (l01Finite.calls _ _ _ rfl).mono ?_; rw [e1]; rintro e w1 ⟨rfl, ⟨nd, rfl⟩⟩))
    go_ret
    exact ⟨by show Ending.returned (Value.bool _) = _; rw [geq_lt e1]; rfl, ⟨_, rfl⟩⟩
/-- A vector whose parts are finite; nothing else. -/
def toldV (v : S46) : S46 × Bool := if vfin v = true then (v, true) else (⟨0, 0, 0⟩, false)
theorem vfin_E {v c : S46} (h : EV v c) : vfin c = vfin v := by
  unfold vfin
  rw [fin_E h.1, fin_E h.2.1, fin_E h.2.2]
theorem vE_fin {v c : S46} (h : EV v c) (hf : vfin v = true) : c = v := by
  unfold vfin at hf
  simp only [Bool.and_eq_true] at hf
  have k0 := E_fin h.1 hf.1
  have k1 := E_fin h.2.1 hf.2.1
  have k2 := E_fin h.2.2 hf.2.2
  cases v
  cases c
  simp only at k0 k1 k2
  rw [k0, k1, k2]
set_option maxHeartbeats 4000000 in
set_option maxRecDepth 100000 in
theorem told76 (v a : S46) (h : EV v a) (w : World) : Calls Try.prog 76 #[vv a] w fun e w' => e = .returned (.tuple #[vv (toldV v).1, .bool (toldV v).2]) ∧ Below w.heap.size w w' := by
  unfold toldV
  have hv := vfin_E h
  cases e1 : vfin v with
  | false =>
    rw [e1] at hv
    have HF : Aside0 (XC.finiteVector.f a.f0 a.f1 a.f2 = some false) := ⟨congrArg some hv⟩
    rw [if_neg (by decide)]
    go_enter Try.func76, Try.ntmps76
    go_wp2_with (first | (go_at_call 74; (with_reducible refine (XC.finiteVector.calls a.f0 a.f1 a.f2 _ _ HF.out).mono ?_); rintro e w1 ⟨rfl, hb⟩; have BK := blk_below (g := w.heap.size + 1) (o := .cells #[.float .f32 0, .float .f32 0, .float .f32 0] 46 (0, 0)) (heap_two _ _ _) hb; have z0 : w1.cell? ⟨w.heap.size + 1, 0, none⟩ = some (.float .f32 0) := (blk_cell BK 0).trans rfl; have z1 : w1.cell? ⟨w.heap.size + 1, 1, none⟩ = some (.float .f32 0) := (blk_cell BK 1).trans rfl; have z2 : w1.cell? ⟨w.heap.size + 1, 2, none⟩ = some (.float .f32 0) := (blk_cell BK 2).trans rfl; have f0 := blk_frozen BK 0; have f1 := blk_frozen BK 1; have f2 := blk_frozen BK 2))
    refine bodyPost_ret (results_ct rfl _ _ (w.heap.size + 1) 46 #[.float .f32 0, .float .f32 0, .float .f32 0] (0, 0) _ rfl (by
      refine blk_put (cs := #[.float .f32 0, .float .f32 0, .float .f32 0]) ?_ 2 _ rfl
      refine blk_put (cs := #[.float .f32 0, .float .f32 0, .float .f32 0]) ?_ 1 _ rfl
      refine blk_put (cs := #[.float .f32 0, .float .f32 0, .float .f32 0]) ?_ 0 _ rfl
      exact BK) Try.underlying46 rfl (by kernel_rfl)) rfl ?_
    exact ⟨rfl, below_set (below_set (below_set (below_step (below_alloc (below_alloc (Below.refl _ _) _) _) hb) (Nat.le_succ _)) (Nat.le_succ _)) (Nat.le_succ _)⟩
  | true =>
    rw [e1] at hv
    have HF : Aside0 (XC.finiteVector.f a.f0 a.f1 a.f2 = some true) := ⟨congrArg some hv⟩
    have he := vE_fin h e1
    rw [if_pos rfl, ← he]
    clear he hv h e1
    show Calls Try.prog 76 #[vv a] w fun e w' => e = .returned (.tuple #[vv a, .bool true]) ∧ Below w.heap.size w w'
    go_enter Try.func76, Try.ntmps76
    go_wp2_with (first | (go_at_call 74; (with_reducible refine (XC.finiteVector.calls a.f0 a.f1 a.f2 _ _ HF.out).mono ?_); rintro e w1 ⟨rfl, hb⟩; have BT := blk_below (g := w.heap.size) (o := .cells #[.float .f32 a.f0, .float .f32 a.f1, .float .f32 a.f2] 46 (0, 0)) (blk_alloc (heap_alloc_new _ _) _) hb; have BK := blk_below (g := w.heap.size + 1) (o := .cells #[.float .f32 0, .float .f32 0, .float .f32 0] 46 (0, 0)) (heap_two _ _ _) hb; have y0 : w1.cell? ⟨w.heap.size, 0, none⟩ = some (.float .f32 a.f0) := (blk_cell BT 0).trans rfl; have y1 : w1.cell? ⟨w.heap.size, 1, none⟩ = some (.float .f32 a.f1) := (blk_cell BT 1).trans rfl; have y2 : w1.cell? ⟨w.heap.size, 2, none⟩ = some (.float .f32 a.f2) := (blk_cell BT 2).trans rfl; have z0 : w1.cell? ⟨w.heap.size + 1, 0, none⟩ = some (.float .f32 0) := (blk_cell BK 0).trans rfl; have z1 : w1.cell? ⟨w.heap.size + 1, 1, none⟩ = some (.float .f32 0) := (blk_cell BK 1).trans rfl; have z2 : w1.cell? ⟨w.heap.size + 1, 2, none⟩ = some (.float .f32 0) := (blk_cell BK 2).trans rfl; have f0 := blk_frozen BK 0; have f1 := blk_frozen BK 1; have f2 := blk_frozen BK 2))
    refine bodyPost_ret (results_ct rfl _ _ (w.heap.size + 1) 46 #[.float .f32 a.f0, .float .f32 a.f1, .float .f32 a.f2] (0, 0) _ rfl (by
      refine blk_put (cs := #[.float .f32 a.f0, .float .f32 a.f1, .float .f32 0]) ?_ 2 _ rfl
      refine blk_put (cs := #[.float .f32 a.f0, .float .f32 0, .float .f32 0]) ?_ 1 _ rfl
      refine blk_put (cs := #[.float .f32 0, .float .f32 0, .float .f32 0]) ?_ 0 _ rfl
      exact BK) Try.underlying46 rfl (by kernel_rfl)) rfl ?_
    exact ⟨rfl, below_set (below_set (below_set (below_step (below_alloc (below_alloc (Below.refl _ _) _) _) hb) (Nat.le_succ _)) (Nat.le_succ _)) (Nat.le_succ _)⟩
set_option maxHeartbeats 4000000 in
set_option maxRecDepth 100000 in
theorem vector71 (v a : S46) (h : EV v a) (w : World) : Calls Try.prog 71 #[vv a] w fun e w' => e = .returned (.tuple #[vv (toldV v).1, .bool (toldV v).2]) ∧ Below w.heap.size w w' := by
  unfold toldV
  have hv := vfin_E h
  cases e1 : vfin v with
  | false =>
    rw [e1] at hv
    have HF : Aside0 (spec_l01VFinite.f a.f0 a.f1 a.f2 = some false) := ⟨(vf a).trans (congrArg some hv)⟩
    rw [if_neg (by decide)]
    go_enter Try.func71, Try.ntmps71
    go_wp2_with (first | (go_at_call 69; (with_reducible refine (spec_l01VFinite.calls a.f0 a.f1 a.f2 _ _ HF.out).mono ?_); rintro e w1 ⟨rfl, hb⟩; have BK := blk_below (g := w.heap.size + 1) (o := .cells #[.float .f32 0, .float .f32 0, .float .f32 0] 46 (0, 0)) (heap_two _ _ _) hb; have z0 : w1.cell? ⟨w.heap.size + 1, 0, none⟩ = some (.float .f32 0) := (blk_cell BK 0).trans rfl; have z1 : w1.cell? ⟨w.heap.size + 1, 1, none⟩ = some (.float .f32 0) := (blk_cell BK 1).trans rfl; have z2 : w1.cell? ⟨w.heap.size + 1, 2, none⟩ = some (.float .f32 0) := (blk_cell BK 2).trans rfl; have f0 := blk_frozen BK 0; have f1 := blk_frozen BK 1; have f2 := blk_frozen BK 2))
    refine bodyPost_ret (results_ct rfl _ _ (w.heap.size + 1) 46 #[.float .f32 0, .float .f32 0, .float .f32 0] (0, 0) _ rfl (by
      refine blk_put (cs := #[.float .f32 0, .float .f32 0, .float .f32 0]) ?_ 2 _ rfl
      refine blk_put (cs := #[.float .f32 0, .float .f32 0, .float .f32 0]) ?_ 1 _ rfl
      refine blk_put (cs := #[.float .f32 0, .float .f32 0, .float .f32 0]) ?_ 0 _ rfl
      exact BK) Try.underlying46 rfl (by kernel_rfl)) rfl ?_
    exact ⟨rfl, below_set (below_set (below_set (below_step (below_alloc (below_alloc (Below.refl _ _) _) _) hb) (Nat.le_succ _)) (Nat.le_succ _)) (Nat.le_succ _)⟩
  | true =>
    rw [e1] at hv
    have HF : Aside0 (spec_l01VFinite.f a.f0 a.f1 a.f2 = some true) := ⟨(vf a).trans (congrArg some hv)⟩
    have he := vE_fin h e1
    rw [if_pos rfl, ← he]
    clear he hv h e1
    show Calls Try.prog 71 #[vv a] w fun e w' => e = .returned (.tuple #[vv a, .bool true]) ∧ Below w.heap.size w w'
    go_enter Try.func71, Try.ntmps71
    go_wp2_with (first | (go_at_call 69; (with_reducible refine (spec_l01VFinite.calls a.f0 a.f1 a.f2 _ _ HF.out).mono ?_); rintro e w1 ⟨rfl, hb⟩; have BT := blk_below (g := w.heap.size) (o := .cells #[.float .f32 a.f0, .float .f32 a.f1, .float .f32 a.f2] 46 (0, 0)) (blk_alloc (heap_alloc_new _ _) _) hb; have BK := blk_below (g := w.heap.size + 1) (o := .cells #[.float .f32 0, .float .f32 0, .float .f32 0] 46 (0, 0)) (heap_two _ _ _) hb; have y0 : w1.cell? ⟨w.heap.size, 0, none⟩ = some (.float .f32 a.f0) := (blk_cell BT 0).trans rfl; have y1 : w1.cell? ⟨w.heap.size, 1, none⟩ = some (.float .f32 a.f1) := (blk_cell BT 1).trans rfl; have y2 : w1.cell? ⟨w.heap.size, 2, none⟩ = some (.float .f32 a.f2) := (blk_cell BT 2).trans rfl; have z0 : w1.cell? ⟨w.heap.size + 1, 0, none⟩ = some (.float .f32 0) := (blk_cell BK 0).trans rfl; have z1 : w1.cell? ⟨w.heap.size + 1, 1, none⟩ = some (.float .f32 0) := (blk_cell BK 1).trans rfl; have z2 : w1.cell? ⟨w.heap.size + 1, 2, none⟩ = some (.float .f32 0) := (blk_cell BK 2).trans rfl; have f0 := blk_frozen BK 0; have f1 := blk_frozen BK 1; have f2 := blk_frozen BK 2))
    refine bodyPost_ret (results_ct rfl _ _ (w.heap.size + 1) 46 #[.float .f32 a.f0, .float .f32 a.f1, .float .f32 a.f2] (0, 0) _ rfl (by
      refine blk_put (cs := #[.float .f32 a.f0, .float .f32 a.f1, .float .f32 0]) ?_ 2 _ rfl
      refine blk_put (cs := #[.float .f32 a.f0, .float .f32 0, .float .f32 0]) ?_ 1 _ rfl
      refine blk_put (cs := #[.float .f32 0, .float .f32 0, .float .f32 0]) ?_ 0 _ rfl
      exact BK) Try.underlying46 rfl (by kernel_rfl)) rfl ?_
    exact ⟨rfl, below_set (below_set (below_set (below_step (below_alloc (below_alloc (Below.refl _ _) _) _) hb) (Nat.le_succ _)) (Nat.le_succ _)) (Nat.le_succ _)⟩
end XV
end Go.Proofs.Ytffofpiejcolfaa
