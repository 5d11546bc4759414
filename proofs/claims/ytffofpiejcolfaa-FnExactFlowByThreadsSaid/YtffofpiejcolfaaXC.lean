/- Finiteness of lists by closures: slices.IndexFunc, slices.ContainsFunc at the program's own function literals, finite, finiteVector, IsThread. -/
import Derived.Test.YtffofpiejcolfaaXL
import Derived.Test.YtffofpiejcolfaaL00
set_option linter.unusedVariables false
set_option linter.unusedSimpArgs false
namespace Go.Proofs.Ytffofpiejcolfaa
open Go.RowKit Go.Proofs.YtffofpiejcolfaaW.PrintWords Go.Proofs.YtffofpiejcolfaaW.PrintLast Go.Proofs.YtffofpiejcolfaaW.PrintMore
attribute [local go_sem] max2_int min2_int max_two min_two max_three min_three max_four min_four   -- for this text's walks alone
namespace XC
open XF XL L0
set_option maxHeartbeats 4000000 in
set_option maxRecDepth 100000 in
theorem lit132 (a0 : Nat) (w : World) : Calls Try.prog 132 #[.float .f32 a0] w fun e w' => e = .returned (.bool (!fin a0)) ∧ Drawn0 w w' := by
  go_enter Try.func132, Try.ntmps132
  go_wp2_with (go_at_call 66; refine (IsFinite.calls _ _ _ rfl).mono ?_; rintro e w1 ⟨rfl, ⟨nd, rfl⟩⟩)
  go_ret
  exact ⟨rfl, ⟨_, rfl⟩⟩
/-- Where the first x with p x stands, or -1. -/
def ix {α : Type} (p : α → Bool) : List α → Int → Int
  | [], _ => -1
  | x :: r, i => if p x = true then i else ix p r (i + 1)
theorem ix_ge {α : Type} (p : α → Bool) : ∀ (xs : List α) (i : Int), 0 ≤ i → (decide (0 ≤ ix p xs i)) = xs.any p
  | [], i, _ => by simp [ix]
  | x :: r, i, h => by
    unfold ix
    cases e : p x with
    | true => simp [e, h]
    | false => simp [e, ix_ge p r (i + 1) (by omega)]
set_option maxHeartbeats 4000000 in
set_option maxRecDepth 100000 in
theorem index133 (A : Option Addr) (c : Nat) (xs : List Nat) (r : Int) (hr : ix (fun x => !fin x) xs 0 = r) (w : World) (hr0 : Kd.C (Kd.float .f32) w A xs.length xs) (hc0 : xs.length ≤ c) :
    Calls Try.prog 133 #[.slice A xs.length c, .func (.func 132) #[] #[]] w fun e w' => e = .returned (.int .i64 r) ∧ Drawn0 w w' := by
  have HR0 := Aside0.mk hr0
  clear hr0
  have hmx : xs.length ≤ 9223372036854775807 := Kd.C_max HR0.out
  go_enter Try.func133, Try.ntmps133
  go_wp2
  go_loopg [8] xs.length (fun kq v8 w' => ∃ (i : Nat), v8 = .int .i64 (i : Int) ∧ Aside0 (i + kq = xs.length) ∧ Aside0 (ix (fun x => !fin x) (xs.drop i) (i : Int) = r) ∧ Drawn0 w w')
  case atStart => exact ⟨0, rfl, ⟨by simp⟩, ⟨hr⟩, Drawn0.refl _⟩
  case round =>
    obtain ⟨i, rfl, HI, HX, ⟨m, rfl⟩⟩ := hrel
    have hi := HI.out
    have hx0 := HX.out
    cases gk with
    | zero =>
      have hc : decide ((i : Int) < (xs.length : Int)) = false := by simp; omega
      rw [List.drop_eq_nil_of_le (by omega), ix] at hx0
      subst hx0
      go_wp2
      go_ret
      exact ⟨rfl, ⟨_, rfl⟩⟩
    | succ k1 =>
      have hil : i < xs.length := by omega
      have hc : decide ((i : Int) < (xs.length : Int)) = true := by simp; omega
      have p0 : (0 : Int) ≤ (i : Int) := by omega
      have q0 : (i : Int) < (xs.length : Int) := by omega
      obtain ⟨ad, ead, hx⟩ := Kd.at_float HR0.out (i : Int) p0 q0
      cases ead
      rw [Int.toNat_natCast, show rdOf (0 : Nat) xs (i : Int) = xs[i] by simp [rdOf, hil]] at hx
      rw [List.drop_eq_getElem_cons hil, ix] at hx0
      generalize xs[i] = x at hx hx0
      have p0b := eq_true p0
      have q0b := eq_true q0
      cases e : fin x with
      | false =>
        rw [e, if_pos (by rfl)] at hx0
        subst hx0
        go_wp2_with (first | (go_at_call 132; refine (lit132 _ _).mono ?_; rintro e w1 ⟨rfl, ⟨nd, rfl⟩⟩))
        go_ret
        exact ⟨rfl, ⟨_, rfl⟩⟩
      | true =>
        rw [e, if_neg (by decide)] at hx0
        go_wp2_with (first | (go_at_call 132; refine (lit132 _ _).mono ?_; rintro e w1 ⟨rfl, ⟨nd, rfl⟩⟩))
        go_roundg k1
        case measure => omega
        case rel => exact ⟨i + 1, rfl, ⟨by omega⟩, ⟨hx0⟩, ⟨_, rfl⟩⟩
set_option maxHeartbeats 4000000 in
set_option maxRecDepth 100000 in
theorem contains116 (A : Option Addr) (c : Nat) (xs : List Nat) (w : World) (hr0 : Kd.C (Kd.float .f32) w A xs.length xs) (hc0 : xs.length ≤ c) :
    Calls Try.prog 116 #[.slice A xs.length c, .func (.func 132) #[] #[]] w fun e w' => e = .returned (.bool (xs.any fun x => !fin x)) ∧ Drawn0 w w' := by
  have hg := ix_ge (fun x => !fin x) xs 0 (Int.le_refl _)
  go_enter Try.func116, Try.ntmps116
  go_wp2_with (first | (go_at_call 133; refine (index133 _ _ _ _ rfl _ hr0 hc0).mono ?_; rintro e w1 ⟨rfl, ⟨nd, rfl⟩⟩))
  go_ret
  exact ⟨by first | rfl | (rw [← hg]; rfl), ⟨_, rfl⟩⟩
set_option maxHeartbeats 4000000 in
set_option maxRecDepth 100000 in
theorem finite115 (A : Option Addr) (c : Nat) (xs : List Nat) (w : World) (hr0 : Kd.C (Kd.float .f32) w A xs.length xs) (hc0 : xs.length ≤ c) :
    Calls Try.prog 115 #[.slice A xs.length c] w fun e w' => e = .returned (.bool (!xs.any fun x => !fin x)) ∧ Drawn0 w w' := by
  go_enter Try.func115, Try.ntmps115
  go_wp2_with (first | (go_at_call 116; refine (contains116 _ _ _ _ hr0 hc0).mono ?_; rintro e w1 ⟨rfl, ⟨nd, rfl⟩⟩))
  go_ret
  exact ⟨rfl, ⟨_, rfl⟩⟩
theorem three_C {k : FloatKind} {b : Nat} {x y z : Nat} {t : TypeId} {w : World} (h : w.heap[b]? = some (.cells #[.float k x, .float k y, .float k z] t (0, 0))) : Kd.C (Kd.float k) w (some ⟨b, 0, none⟩) [x, y, z].length [x, y, z] := by
  refine Kd.C_of_reads (d := (0 : Nat)) ⟨rfl, by simp, fun _ => ⟨_, rfl, fun j hj => ?_⟩⟩
  have hj3 : j < 3 := hj
  rw [add_plain]
  unfold World.cell?
  rw [h]
  match j, hj3 with
  | 0, _ => rfl
  | 1, _ => rfl
  | 2, _ => rfl
theorem heap_two (w : World) (o1 o2 : Obj) : ((w.alloc o1).alloc o2).heap[w.heap.size + 1]? = some o2 := by
  have h := heap_alloc_new (w.alloc o1) o2
  rwa [show (w.alloc o1).heap.size = w.heap.size + 1 by simp] at h
def finiteVector.f (a0_0 a0_1 a0_2 : Nat) : Option Bool := some (fin a0_0 && (fin a0_1 && fin a0_2))
set_option maxHeartbeats 4000000 in
set_option maxRecDepth 100000 in
theorem finiteVector.calls (a0_0 a0_1 a0_2 : Nat) (r : Bool) (w : World) (h : finiteVector.f a0_0 a0_1 a0_2 = some r) :
    Calls Try.prog 74 #[.agg #[.float .f32 a0_0, .float .f32 a0_1, .float .f32 a0_2]] w fun e w' => e = .returned (.bool r) ∧ Below w.heap.size w w' := by
  obtain rfl := Option.some.inj h
  have e0 : (!([a0_0, a0_1, a0_2].any fun x => !fin x)) = (fin a0_0 && (fin a0_1 && fin a0_2)) := by cases h0 : fin a0_0 <;> cases h1 : fin a0_1 <;> cases h2 : fin a0_2 <;> simp [h0, h1, h2]
  rw [← e0]
  go_enter Try.func74, Try.ntmps74
  go_wp2_with (first | (go_at_call 115; refine (finite115 _ 3 [a0_0, a0_1, a0_2] _ (three_C (t := 23) (heap_two _ _ _)) (by simp)).mono ?_; rintro e w1 ⟨rfl, ⟨nd, rfl⟩⟩))
  go_ret
  exact ⟨by first | rfl | (simp; done), by repeat (first | exact Below.refl _ _ | apply below_alloc | apply pw_below_drewN | apply below_drew1)⟩
/-- Are all three numbers finite? -/
def vfin (v : S46) : Bool := fin v.f0 && (fin v.f1 && fin v.f2)
set_option maxHeartbeats 4000000 in
set_option maxRecDepth 100000 in
theorem lit96 (x y z : Nat) (w : World) : Calls Try.prog 96 #[.agg #[.float .f32 x, .float .f32 y, .float .f32 z]] w fun e w' => e = .returned (.bool (!(fin x && (fin y && fin z)))) ∧ Below w.heap.size w w' := by
  go_enter Try.func96, Try.ntmps96
  go_wp2_with (first | (go_at_call 74; refine (finiteVector.calls _ _ _ _ _ rfl).mono ?_; rintro e w1 ⟨rfl, hb⟩))
  go_ret
  exact ⟨by first | rfl | (simp; done), below_step (by repeat (first | exact Below.refl _ _ | apply below_alloc | apply pw_below_drewN | apply below_drew1)) hb⟩
set_option maxHeartbeats 4000000 in
set_option maxRecDepth 100000 in
theorem index123 (A : Option Addr) (c : Nat) (xs : List S46) (r : Int) (hr : ix (fun x => !vfin x) xs 0 = r) (w : World) (hr0 : Kd.C k46 w A xs.length xs) (hc0 : xs.length ≤ c) :
    Calls Try.prog 123 #[.slice A xs.length c, .func (.func 96) #[] #[]] w fun e w' => e = .returned (.int .i64 r) ∧ Below w.heap.size w w' := by
  have HR0 := Aside0.mk hr0
  clear hr0
  have hmx : xs.length ≤ 9223372036854775807 := Kd.C_max HR0.out
  go_enter Try.func123, Try.ntmps123
  go_wp2
  go_loopg [8] xs.length (fun kq v8 w' => ∃ (i : Nat), v8 = .int .i64 (i : Int) ∧ Aside0 (i + kq = xs.length) ∧ Aside0 (ix (fun x => !vfin x) (xs.drop i) (i : Int) = r) ∧ Aside0 (Below w.heap.size w w'))
  case atStart => exact ⟨0, rfl, ⟨by simp⟩, ⟨hr⟩, ⟨Below.refl _ _⟩⟩
  case round =>
    obtain ⟨i, rfl, HI, HX, HB⟩ := hrel
    have hi := HI.out
    have hx0 := HX.out
    cases gk with
    | zero =>
      have hc : decide ((i : Int) < (xs.length : Int)) = false := by simp; omega
      rw [List.drop_eq_nil_of_le (by omega), ix] at hx0
      subst hx0
      go_wp2
      go_ret
      exact ⟨rfl, HB.out⟩
    | succ k1 =>
      have hil : i < xs.length := by omega
      have hc : decide ((i : Int) < (xs.length : Int)) = true := by simp; omega
      have p0 : (0 : Int) ≤ (i : Int) := by omega
      have q0 : (i : Int) < (xs.length : Int) := by omega
      obtain ⟨ad, ead, hx_0, hx_1, hx_2⟩ := at_T46 HR0.out (i : Int) p0 q0
      cases ead
      replace hx_0 := (HB.out.cell (World.block_lt_of_cell? w _ hx_0)).trans hx_0
      replace hx_1 := (HB.out.cell (World.block_lt_of_cell? w _ hx_1)).trans hx_1
      replace hx_2 := (HB.out.cell (World.block_lt_of_cell? w _ hx_2)).trans hx_2
      rw [Int.toNat_natCast, show rd_T46 xs (i : Int) = xs[i] by simp [rd_T46, hil]] at hx_0 hx_1 hx_2
      rw [List.drop_eq_getElem_cons hil, ix] at hx0
      generalize xs[i] = x at hx_0 hx_1 hx_2 hx0
      have p0b := eq_true p0
      have q0b := eq_true q0
      cases e : vfin x with
      | false =>
        rw [e, if_pos (by rfl)] at hx0
        subst hx0
        have e2 : (fin x.f0 && (fin x.f1 && fin x.f2)) = false := e
        go_wp2_with (first | (go_at_call 96; refine (lit96 _ _ _ _).mono ?_; rw [e2]; rintro e w1 ⟨rfl, hb⟩))
        go_ret
        exact ⟨rfl, below_step HB.out hb⟩
      | true =>
        rw [e, if_neg (by decide)] at hx0
        have e2 : (fin x.f0 && (fin x.f1 && fin x.f2)) = true := e
        go_wp2_with (first | (go_at_call 96; refine (lit96 _ _ _ _).mono ?_; rw [e2]; rintro e w1 ⟨rfl, hb⟩))
        go_roundg k1
        case measure => omega
        case rel => exact ⟨i + 1, rfl, ⟨by omega⟩, ⟨hx0⟩, ⟨below_step HB.out hb⟩⟩
set_option maxHeartbeats 4000000 in
set_option maxRecDepth 100000 in
theorem contains95 (A : Option Addr) (c : Nat) (xs : List S46) (w : World) (hr0 : Kd.C k46 w A xs.length xs) (hc0 : xs.length ≤ c) :
    Calls Try.prog 95 #[.slice A xs.length c, .func (.func 96) #[] #[]] w fun e w' => e = .returned (.bool (xs.any fun x => !vfin x)) ∧ Below w.heap.size w w' := by
  have hg := ix_ge (fun x => !vfin x) xs 0 (Int.le_refl _)
  go_enter Try.func95, Try.ntmps95
  go_wp2_with (first | (go_at_call 123; refine (index123 _ _ _ _ rfl _ hr0 hc0).mono ?_; rintro e w1 ⟨rfl, hb⟩))
  go_ret
  exact ⟨by first | rfl | (rw [← hg]; rfl), hb⟩
set_option maxHeartbeats 4000000 in
set_option maxRecDepth 100000 in
theorem in85 (a b c : Int) (w : World) : Calls Try.prog 85 #[.int .i64 a, .int .i64 b, .int .i64 c] w fun e w' => e = .returned (.bool (decide (b ≤ a) && decide (a ≤ c))) ∧ Drawn0 w w' := by
  by_cases h : b ≤ a
  · have hd : decide (b ≤ a) = true := decide_eq_true h
    rw [hd, Bool.true_and]
    go_enter Try.func85, Try.ntmps85
    go_wp2
    go_ret
    exact ⟨by first | rfl | (simp; done), by first | exact Drawn0.refl _ | exact ⟨_, rfl⟩⟩
  · have hd : decide (b ≤ a) = false := decide_eq_false h
    rw [hd, Bool.false_and]
    go_enter Try.func85, Try.ntmps85
    go_wp2
    go_ret
    exact ⟨by first | rfl | (simp; done), by first | exact Drawn0.refl _ | exact ⟨_, rfl⟩⟩
/-- impl.IsThread. -/
def isThread (l : List S46) (s : Nat) : Bool := decide (3 ≤ l.length) && (decide (l.length ≤ 32) && (!(l.any fun x => !vfin x) && fin s))
def IsThread.f (l0_0 : List S46) (a0_1 : Nat) : Option Bool := some (isThread l0_0 a0_1)
set_option maxHeartbeats 4000000 in
set_option maxRecDepth 100000 in
theorem IsThread.calls (A0_0 : Option Addr) (c0_0 : Nat) (l0_0 : List S46) (a0_1 : Nat) (r : Bool) (w : World) (hr0_0 : Kd.C k46 w A0_0 l0_0.length l0_0) (hc0_0 : l0_0.length ≤ c0_0) (h : IsThread.f l0_0 a0_1 = some r) :
    Calls Try.prog 45 #[.agg #[.slice A0_0 l0_0.length c0_0, .float .f32 a0_1]] w fun e w' => e = .returned (.bool r) ∧ Below w.heap.size w w' := by
  obtain rfl := Option.some.inj h
  unfold isThread
  cases ea : l0_0.any (fun x => !vfin x) with
  | true =>
    by_cases c1 : 3 ≤ l0_0.length
    · have c1a : decide ((3 : Int) ≤ (l0_0.length : Int)) = true := by simp; omega
      by_cases c2 : l0_0.length ≤ 32
      · have c2a : decide ((l0_0.length : Int) ≤ (32 : Int)) = true := by simp; omega
        go_enter Try.func45, Try.ntmps45
        go_wp2_with (first | (go_at_call 95; refine (contains95 _ _ _ _ (Kd.C_alloc hr0_0 _) hc0_0).mono ?_; rw [ea]; rintro e w1 ⟨rfl, hb⟩; have f0 := (hb.cell (p := ⟨w.heap.size, 0, none⟩) (by simp)).trans (show _ = some (Value.slice A0_0 l0_0.length c0_0) by simp); have f1 := (hb.cell (p := ⟨w.heap.size, 1, none⟩) (by simp)).trans (show _ = some (Value.float .f32 a0_1) by simp); have hbw : Below w.heap.size w w1 := below_step (below_alloc (Below.refl _ _) _) hb; clear hb) | (go_at_call 66; refine (IsFinite.calls _ _ _ rfl).mono ?_; rintro e w2 ⟨rfl, ⟨nd, rfl⟩⟩) | (go_at_call 85; refine (in85 _ _ _ _).mono ?_; simp only [c1a, c2a, Bool.and_false, Bool.and_true, Bool.false_and, Bool.true_and]; rintro e w2 ⟨rfl, ⟨nd, rfl⟩⟩))
        go_ret
        exact ⟨by first | rfl | (simp [*]; done), by repeat (first | exact hbw | apply pw_below_drewN)⟩
      · have c2a : decide ((l0_0.length : Int) ≤ (32 : Int)) = false := by simp; omega
        go_enter Try.func45, Try.ntmps45
        go_wp2_with (first | (go_at_call 95; refine (contains95 _ _ _ _ (Kd.C_alloc hr0_0 _) hc0_0).mono ?_; rw [ea]; rintro e w1 ⟨rfl, hb⟩; have f0 := (hb.cell (p := ⟨w.heap.size, 0, none⟩) (by simp)).trans (show _ = some (Value.slice A0_0 l0_0.length c0_0) by simp); have f1 := (hb.cell (p := ⟨w.heap.size, 1, none⟩) (by simp)).trans (show _ = some (Value.float .f32 a0_1) by simp); have hbw : Below w.heap.size w w1 := below_step (below_alloc (Below.refl _ _) _) hb; clear hb) | (go_at_call 66; refine (IsFinite.calls _ _ _ rfl).mono ?_; rintro e w2 ⟨rfl, ⟨nd, rfl⟩⟩) | (go_at_call 85; refine (in85 _ _ _ _).mono ?_; simp only [c1a, c2a, Bool.and_false, Bool.and_true, Bool.false_and, Bool.true_and]; rintro e w2 ⟨rfl, ⟨nd, rfl⟩⟩))
        go_ret
        exact ⟨by first | rfl | (simp [*]; done), by repeat (first | exact hbw | apply pw_below_drewN)⟩
    · have c1a : decide ((3 : Int) ≤ (l0_0.length : Int)) = false := by simp; omega
      have c2a : decide ((l0_0.length : Int) ≤ (32 : Int)) = true := by simp; omega
      go_enter Try.func45, Try.ntmps45
      go_wp2_with (first | (go_at_call 95; refine (contains95 _ _ _ _ (Kd.C_alloc hr0_0 _) hc0_0).mono ?_; rw [ea]; rintro e w1 ⟨rfl, hb⟩; have f0 := (hb.cell (p := ⟨w.heap.size, 0, none⟩) (by simp)).trans (show _ = some (Value.slice A0_0 l0_0.length c0_0) by simp); have f1 := (hb.cell (p := ⟨w.heap.size, 1, none⟩) (by simp)).trans (show _ = some (Value.float .f32 a0_1) by simp); have hbw : Below w.heap.size w w1 := below_step (below_alloc (Below.refl _ _) _) hb; clear hb) | (go_at_call 66; refine (IsFinite.calls _ _ _ rfl).mono ?_; rintro e w2 ⟨rfl, ⟨nd, rfl⟩⟩) | (go_at_call 85; refine (in85 _ _ _ _).mono ?_; simp only [c1a, c2a, Bool.and_false, Bool.and_true, Bool.false_and, Bool.true_and]; rintro e w2 ⟨rfl, ⟨nd, rfl⟩⟩))
      go_ret
      exact ⟨by first | rfl | (simp [*]; done), by repeat (first | exact hbw | apply pw_below_drewN)⟩
  | false =>
    by_cases c1 : 3 ≤ l0_0.length
    · have c1a : decide ((3 : Int) ≤ (l0_0.length : Int)) = true := by simp; omega
      by_cases c2 : l0_0.length ≤ 32
      · have c2a : decide ((l0_0.length : Int) ≤ (32 : Int)) = true := by simp; omega
        go_enter Try.func45, Try.ntmps45
        go_wp2_with (first | (go_at_call 95; refine (contains95 _ _ _ _ (Kd.C_alloc hr0_0 _) hc0_0).mono ?_; rw [ea]; rintro e w1 ⟨rfl, hb⟩; have f0 := (hb.cell (p := ⟨w.heap.size, 0, none⟩) (by simp)).trans (show _ = some (Value.slice A0_0 l0_0.length c0_0) by simp); have f1 := (hb.cell (p := ⟨w.heap.size, 1, none⟩) (by simp)).trans (show _ = some (Value.float .f32 a0_1) by simp); have hbw : Below w.heap.size w w1 := below_step (below_alloc (Below.refl _ _) _) hb; clear hb) | (go_at_call 66; refine (IsFinite.calls _ _ _ rfl).mono ?_; rintro e w2 ⟨rfl, ⟨nd, rfl⟩⟩) | (go_at_call 85; refine (in85 _ _ _ _).mono ?_; simp only [c1a, c2a, Bool.and_false, Bool.and_true, Bool.false_and, Bool.true_and]; rintro e w2 ⟨rfl, ⟨nd, rfl⟩⟩))
        go_ret
        exact ⟨by first | rfl | (simp [*]; done), by repeat (first | exact hbw | apply pw_below_drewN)⟩
      · have c2a : decide ((l0_0.length : Int) ≤ (32 : Int)) = false := by simp; omega
        go_enter Try.func45, Try.ntmps45
        go_wp2_with (first | (go_at_call 95; refine (contains95 _ _ _ _ (Kd.C_alloc hr0_0 _) hc0_0).mono ?_; rw [ea]; rintro e w1 ⟨rfl, hb⟩; have f0 := (hb.cell (p := ⟨w.heap.size, 0, none⟩) (by simp)).trans (show _ = some (Value.slice A0_0 l0_0.length c0_0) by simp); have f1 := (hb.cell (p := ⟨w.heap.size, 1, none⟩) (by simp)).trans (show _ = some (Value.float .f32 a0_1) by simp); have hbw : Below w.heap.size w w1 := below_step (below_alloc (Below.refl _ _) _) hb; clear hb) | (go_at_call 66; refine (IsFinite.calls _ _ _ rfl).mono ?_; rintro e w2 ⟨rfl, ⟨nd, rfl⟩⟩) | (go_at_call 85; refine (in85 _ _ _ _).mono ?_; simp only [c1a, c2a, Bool.and_false, Bool.and_true, Bool.false_and, Bool.true_and]; rintro e w2 ⟨rfl, ⟨nd, rfl⟩⟩))
        go_ret
        exact ⟨by first | rfl | (simp [*]; done), by repeat (first | exact hbw | apply pw_below_drewN)⟩
    · have c1a : decide ((3 : Int) ≤ (l0_0.length : Int)) = false := by simp; omega
      have c2a : decide ((l0_0.length : Int) ≤ (32 : Int)) = true := by simp; omega
      go_enter Try.func45, Try.ntmps45
      go_wp2_with (first | (go_at_call 95; refine (contains95 _ _ _ _ (Kd.C_alloc hr0_0 _) hc0_0).mono ?_; rw [ea]; rintro e w1 ⟨rfl, hb⟩; have f0 := (hb.cell (p := ⟨w.heap.size, 0, none⟩) (by simp)).trans (show _ = some (Value.slice A0_0 l0_0.length c0_0) by simp); have f1 := (hb.cell (p := ⟨w.heap.size, 1, none⟩) (by simp)).trans (show _ = some (Value.float .f32 a0_1) by simp); have hbw : Below w.heap.size w w1 := below_step (below_alloc (Below.refl _ _) _) hb; clear hb) | (go_at_call 66; refine (IsFinite.calls _ _ _ rfl).mono ?_; rintro e w2 ⟨rfl, ⟨nd, rfl⟩⟩) | (go_at_call 85; refine (in85 _ _ _ _).mono ?_; simp only [c1a, c2a, Bool.and_false, Bool.and_true, Bool.false_and, Bool.true_and]; rintro e w2 ⟨rfl, ⟨nd, rfl⟩⟩))
      go_ret
      exact ⟨by first | rfl | (simp [*]; done), by repeat (first | exact hbw | apply pw_below_drewN)⟩
end XC
end Go.Proofs.Ytffofpiejcolfaa
