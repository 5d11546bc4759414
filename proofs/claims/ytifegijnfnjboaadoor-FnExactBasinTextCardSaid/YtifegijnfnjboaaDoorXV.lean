/- Sheets: lists of floats and of complex numbers the same; a sheet's validity by closures; the reference's l03Is at an address, and l03Give, which hands a sheet back if it is one. -/
import Derived.Test.YtifegijnfnjboaaDoorXW
set_option linter.unusedVariables false
set_option linter.unusedSimpArgs false
namespace Go.Proofs.YtifegijnfnjboaaDoor
open Go.RowKit Go.Proofs.YtifegijnfnjboaaDoorW.PrintWords Go.Proofs.YtifegijnfnjboaaDoorW.PrintLast Go.Proofs.YtifegijnfnjboaaDoorW.PrintMore
attribute [local go_sem] max2_int min2_int max_two min_two max_three min_three max_four min_four   -- for this text's walks alone
namespace XV
open XF XL XW FA
def eqfs : List Nat → List Nat → Bool
  | x :: r, y :: s => sfc x y && eqfs r s
  | _, _ => true
theorem op_conv {P : Program} {o : Oper} {a : Act} {w : World} {K : Act → World → Prop} {Q : Exit → Act → World → Prop} (src dst : TypeId) (x : Operand) (ho : o.op = .convert src dst x)
    (hs : (P.underlying src).isSome = true) (hd : P.underlying dst = some (.float .f64)) (b : Nat) (hx : a.eval x = .float .f32 b)
    (h : ∀ b' n, Cv b b' → K (a.put o.dst (.float .f64 b')) (w.drewN n)) : Oper.wp P o a w K Q := by
  obtain ⟨b', n, hr, hc⟩ := run_conv (P := P) w src dst b hs hd
  unfold Oper.wp execOp
  simp only [ho, Sem.run_bind, hx, hr, Result.andThen_ok, Sem.run_pure]
  exact h b' n hc
theorem op_cconv {P : Program} {o : Oper} {a : Act} {w : World} {K : Act → World → Prop} {Q : Exit → Act → World → Prop} (src dst : TypeId) (x : Operand) (ho : o.op = .convert src dst x)
    (hs : (P.underlying src).isSome = true) (hd : P.underlying dst = some (.complex .f64)) (b c : Nat) (hx : a.eval x = .complex .f32 b c)
    (h : ∀ b' c' n, Cv b b' → Cv c c' → K (a.put o.dst (.complex .f64 b' c')) (w.drewN n)) : Oper.wp P o a w K Q := by
  obtain ⟨b', c', n, hr, hc, hc2⟩ := run_cconv (P := P) w src dst b c hs hd
  unfold Oper.wp execOp
  simp only [ho, Sem.run_bind, hx, hr, Result.andThen_ok, Sem.run_pure]
  exact h b' c' n hc hc2
/-- The laws' eqFloat32S. -/
def eqFloat32S.f (l0 l1 : List Nat) : Option Bool := some (decide (l0.length = l1.length) && eqfs l0 l1)
set_option maxHeartbeats 4000000 in
set_option maxRecDepth 100000 in
theorem eqFloat32S.calls (A0 : Option Addr) (c0 : Nat) (l0 : List Nat) (A1 : Option Addr) (c1 : Nat) (l1 : List Nat) (r : Bool) (w : World) (hr0 : Kd.C (Kd.float .f32) w A0 l0.length l0) (hc0 : l0.length ≤ c0) (hr1 : Kd.C (Kd.float .f32) w A1 l1.length l1) (hc1 : l1.length ≤ c1) (h : eqFloat32S.f l0 l1 = some r) :
    Calls Tryd.prog 33 #[.slice A0 l0.length c0, .slice A1 l1.length c1] w fun e w' => e = .returned (.bool r) ∧ Below w.heap.size w w' := by
  replace h := Option.some.inj h
  have HR0 := Aside0.mk hr0
  have HR1 := Aside0.mk hr1
  clear hr0 hr1
  have hmx : l0.length ≤ 9223372036854775807 := Kd.C_max HR0.out
  have q0 : (Tryd.prog.underlying 68).isSome = true := by kernel_rfl
  have q1 := Tryd.underlying74
  by_cases hl : l0.length = l1.length
  · have hla : ((l0.length : Int) != (l1.length : Int)) = false := by rw [hl]; simp
    rw [decide_eq_true hl, Bool.true_and] at h
    have HX0 := Aside0.mk h
    have HL := Aside0.mk hl
    clear h hl
    go_enter Tryd.func33, Tryd.ntmps33
    go_wp2
    go_loopg [5] l0.length (fun kq v5 w' => ∃ (i : Nat), v5 = .int .i64 (i : Int) ∧ Aside0 (i + kq = l0.length) ∧ Aside0 (eqfs (l0.drop i) (l1.drop i) = r) ∧ Drawn0 w w')
    case atStart => exact ⟨0, rfl, ⟨by simp⟩, HX0, Drawn0.refl _⟩
    case round =>
      clear HX0
      obtain ⟨i, rfl, HI, HX, ⟨m, rfl⟩⟩ := hrel
      have hi := HI.out
      have hx0 := HX.out
      have hl := HL.out
      cases gk with
      | zero =>
        have hc : decide ((i : Int) < (l0.length : Int)) = false := by simp; omega
        rw [List.drop_eq_nil_of_le (by omega)] at hx0
        replace hx0 : true = r := hx0
        subst hx0
        clear hl
        go_wp2
        go_ret
        exact ⟨rfl, pw_below_drewN (Below.refl _ _) _⟩
      | succ k1 =>
        have hil : i < l0.length := by omega
        have hil1 : i < l1.length := by omega
        have hc : decide ((i : Int) < (l0.length : Int)) = true := by simp; omega
        have p0 : (0 : Int) ≤ (i : Int) := by omega
        have q0i : (i : Int) < (l0.length : Int) := by omega
        have q1i : (i : Int) < (l1.length : Int) := by omega
        obtain ⟨ad, ead, hx⟩ := Kd.at_float HR0.out (i : Int) p0 q0i
        obtain ⟨bd, ebd, hy⟩ := Kd.at_float HR1.out (i : Int) p0 q1i
        cases ead
        cases ebd
        rw [Int.toNat_natCast, show rdOf (0 : Nat) l0 (i : Int) = l0[i] by simp [rdOf, hil]] at hx
        rw [Int.toNat_natCast, show rdOf (0 : Nat) l1 (i : Int) = l1[i] by simp [rdOf, hil1]] at hy
        rw [List.drop_eq_getElem_cons hil, List.drop_eq_getElem_cons hil1, eqfs] at hx0
        generalize l0[i] = x at hx hx0
        generalize l1[i] = y at hy hx0
        have p0b := eq_true p0
        have q0b := eq_true q0i
        have q1b := eq_true q1i
        clear hl
        try go_wp2
        refine start_ (n := 12) (S := fun w' => w'.cell? (ad.add i) = some (.float .f32 x) ∧ w'.cell? (bd.add i) = some (.float .f32 y)) (ds := []) #[false, false, false, false, false, false, false, false, false, false, false, false] (by kernel_rfl) rfl rfl ⟨hx, hy⟩ (fun hHeld => ?_)
        refine pure_ (i := 0) (N := some 17) (v := ?_) (a' := ?_) #[true, false, false, false, false, false, false, false, false, false, false, false] rfl rfl (by kernel_rfl) (fun _ _ _ h => h) (Or.inl ⟨by rfl, ?_⟩) ?_ ?_
        rotate_left
        · intro w'
          go_simp
          with_reducible rfl
        rotate_left
        · simp only [Act.put, List.setIfInBounds_toArray, List.set_cons_zero, List.set_cons_succ, i64_w, i32_w]
          rfl
        refine pure_ (i := 1) (N := some 18) (v := ?_) (a' := ?_) #[true, true, false, false, false, false, false, false, false, false, false, false] rfl rfl (by kernel_rfl) (fun _ _ _ h => h) (Or.inl ⟨by rfl, ?_⟩) ?_ ?_
        rotate_left
        · intro w'
          go_simp
          with_reducible rfl
        rotate_left
        · simp only [Act.put, List.setIfInBounds_toArray, List.set_cons_zero, List.set_cons_succ, i64_w, i32_w]
          rfl
        refine pure_ (i := 2) (N := some 19) (v := ?_) (a' := ?_) #[true, true, true, false, false, false, false, false, false, false, false, false] rfl rfl (by kernel_rfl) (fun _ _ _ h => h) (Or.inl ⟨by rfl, ?_⟩) ?_ ?_
        rotate_left
        · intro w'
          go_simp
          with_reducible rfl
        rotate_left
        · simp only [Act.put, List.setIfInBounds_toArray, List.set_cons_zero, List.set_cons_succ, i64_w, i32_w]
          rfl
        refine pure_ (i := 5) (N := some 22) (v := ?_) (a' := ?_) #[true, true, true, false, false, true, false, false, false, false, false, false] rfl rfl (by kernel_rfl) (fun _ _ _ h => h) (Or.inl ⟨by rfl, ?_⟩) ?_ ?_
        rotate_left
        · intro w'
          go_simp
          with_reducible rfl
        rotate_left
        · simp only [Act.put, List.setIfInBounds_toArray, List.set_cons_zero, List.set_cons_succ, i64_w, i32_w]
          rfl
        refine pure_ (i := 6) (N := some 23) (v := ?_) (a' := ?_) #[true, true, true, false, false, true, true, false, false, false, false, false] rfl rfl (by kernel_rfl) (fun _ _ _ h => h) (Or.inl ⟨by rfl, ?_⟩) ?_ ?_
        rotate_left
        · intro w'
          go_simp
          with_reducible rfl
        rotate_left
        · simp only [Act.put, List.setIfInBounds_toArray, List.set_cons_zero, List.set_cons_succ, i64_w, i32_w]
          rfl
        refine pure_ (i := 7) (N := some 24) (v := ?_) (a' := ?_) #[true, true, true, false, false, true, true, true, false, false, false, false] rfl rfl (by kernel_rfl) (fun _ _ _ h => h) (Or.inl ⟨by rfl, ?_⟩) ?_ ?_
        rotate_left
        · intro w'
          go_simp
          with_reducible rfl
        rotate_left
        · simp only [Act.put, List.setIfInBounds_toArray, List.set_cons_zero, List.set_cons_succ, i64_w, i32_w]
          rfl
        refine take_ (i := 3) (N := some 20) (v := ?_) (a' := ?_) #[true, true, true, true, false, true, true, true, false, false, false, false] rfl rfl (by kernel_rfl) (fun _ _ _ h => h) (Or.inl ⟨by rfl, ?_⟩) hHeld ?_ ?_
        rotate_left
        · rintro w' ⟨s0, s1⟩
          go_simp
          with_reducible rfl
        rotate_left
        · simp only [Act.put, List.setIfInBounds_toArray, List.set_cons_zero, List.set_cons_succ, i64_w, i32_w]
          rfl
        refine take_ (i := 8) (N := some 25) (v := ?_) (a' := ?_) #[true, true, true, true, false, true, true, true, true, false, false, false] rfl rfl (by kernel_rfl) (fun _ _ _ h => h) (Or.inl ⟨by rfl, ?_⟩) hHeld ?_ ?_
        rotate_left
        · rintro w' ⟨s0, s1⟩
          go_simp
          with_reducible rfl
        rotate_left
        · simp only [Act.put, List.setIfInBounds_toArray, List.set_cons_zero, List.set_cons_succ, i64_w, i32_w]
          rfl
        refine join_ (σ := Nat × Nat) 2 #[true, true, true, true, true, true, true, true, true, true, false, false] (fun s => [(21, .float .f64 s.1), (26, .float .f64 s.2)]) (fun s w' => Cv x s.1 ∧ Cv y s.2 ∧ ∃ n, w' = w.drewN n) ?_ (fun hcont => ?_)
        · rintro s w' ⟨c1, c2, n, rfl⟩
          refine norm_ (a' := ?_) ?_ ?_
          rotate_left
          · show putAll _ [(21, _), (26, _)] = _
            simp only [putAll, Act.put, List.setIfInBounds_toArray, List.set_cons_zero, List.set_cons_succ]
            rfl
          cases e : sfc x y with
          | false =>
            refine one_ (i := 10) (N := some 27) #[true, true, true, true, true, true, true, true, true, true, true, false] rfl rfl (by kernel_rfl) (by decide) (fun K hK => ?_)
            refine goes_ Tryd.func61 (by kernel_rfl) rfl #[.float .f64 s.1, .float .f64 s.2] (by rfl) rfl rfl (by (try simp only [List.map_toArray, List.map_cons, List.map_nil]); first | done | rfl) ?_
            (with_reducible refine (sameFloat_c x y _ _ c1 c2 _).mono ?_)
            rw [e]
            rintro e w1 ⟨rfl, ⟨nd, rfl⟩⟩
            refine ⟨_, rfl, ?_⟩
            refine hK.out _ _ hHeld (fun _ => ?_)
            clear hK K
            refine norm_ (a' := ?_) ?_ ?_
            rotate_left
            · show Act.put _ (some 27) _ = _
              simp only [Act.put, List.setIfInBounds_toArray, List.set_cons_zero, List.set_cons_succ]
              rfl
            refine pure_ (i := 11) (N := some 28) (v := ?_) (a' := ?_) #[true, true, true, true, true, true, true, true, true, true, true, true] rfl rfl (by kernel_rfl) (fun _ _ _ h => h) (Or.inl ⟨by rfl, ?_⟩) ?_ ?_
            rotate_left
            · intro w'
              go_simp
              with_reducible rfl
            rotate_left
            · simp only [Act.put, List.setIfInBounds_toArray, List.set_cons_zero, List.set_cons_succ, i64_w, i32_w]
              rfl
            refine done_ (by kernel_rfl) ?_
            rw [e, Bool.false_and] at hx0
            subst hx0
            go_wp2
            go_ret
            exact ⟨rfl, by repeat (first | exact Below.refl _ _ | apply pw_below_drewN | apply below_drew1)⟩
          | true =>
            refine one_ (i := 10) (N := some 27) #[true, true, true, true, true, true, true, true, true, true, true, false] rfl rfl (by kernel_rfl) (by decide) (fun K hK => ?_)
            refine goes_ Tryd.func61 (by kernel_rfl) rfl #[.float .f64 s.1, .float .f64 s.2] (by rfl) rfl rfl (by (try simp only [List.map_toArray, List.map_cons, List.map_nil]); first | done | rfl) ?_
            (with_reducible refine (sameFloat_c x y _ _ c1 c2 _).mono ?_)
            rw [e]
            rintro e w1 ⟨rfl, ⟨nd, rfl⟩⟩
            refine ⟨_, rfl, ?_⟩
            refine hK.out _ _ hHeld (fun _ => ?_)
            clear hK K
            refine norm_ (a' := ?_) ?_ ?_
            rotate_left
            · show Act.put _ (some 27) _ = _
              simp only [Act.put, List.setIfInBounds_toArray, List.set_cons_zero, List.set_cons_succ]
              rfl
            refine pure_ (i := 11) (N := some 28) (v := ?_) (a' := ?_) #[true, true, true, true, true, true, true, true, true, true, true, true] rfl rfl (by kernel_rfl) (fun _ _ _ h => h) (Or.inl ⟨by rfl, ?_⟩) ?_ ?_
            rotate_left
            · intro w'
              go_simp
              with_reducible rfl
            rotate_left
            · simp only [Act.put, List.setIfInBounds_toArray, List.set_cons_zero, List.set_cons_succ, i64_w, i32_w]
              rfl
            refine done_ (by kernel_rfl) ?_
            rw [e, Bool.true_and] at hx0
            go_wp2
            go_roundg k1
            case measure => omega
            case rel => exact ⟨i + 1, rfl, ⟨by omega⟩, ⟨hx0⟩, ⟨_, rfl⟩⟩
        · refine two_ (i := 4) (j := 9) (Ni := some 21) (Nj := some 26) #[true, true, true, true, true, true, true, true, true, false, false, false] #[true, true, true, true, false, true, true, true, true, true, false, false] rfl rfl rfl rfl (by kernel_rfl) (by decide) (by decide) ?_ ?_
          · intro K hK
            rw [if_pos (by rfl)]
            refine op_conv _ _ _ rfl q0 q1 x rfl ?_
            intro b n hb
            refine hK.out _ _ hHeld (fun _ => ?_)
            clear hK K
            refine one_ (i := 9) (N := some 26) #[true, true, true, true, true, true, true, true, true, true, false, false] rfl rfl (by kernel_rfl) (by decide) (fun K hK => ?_)
            rw [if_pos (by rfl)]
            refine op_conv _ _ _ rfl q0 q1 y rfl ?_
            intro c n2 hc2
            refine hK.out _ _ hHeld (fun _ => ?_)
            clear hK K
            refine norm_ ?_ (hcont (b, c) _ ⟨hb, hc2, m + 1 + n + n2, by first | (simp; done) | (simp [World.drewN, World.drew, Nat.add_assoc]; done)⟩)
            show Act.put (Act.put _ (some 21) _) (some 26) _ = _
            simp only [putAll, Act.put, List.setIfInBounds_toArray, List.set_cons_zero, List.set_cons_succ]
          · intro K hK
            rw [if_pos (by rfl)]
            refine op_conv _ _ _ rfl q0 q1 y rfl ?_
            intro c n hc2
            refine hK.out _ _ hHeld (fun _ => ?_)
            clear hK K
            refine one_ (i := 4) (N := some 21) #[true, true, true, true, true, true, true, true, true, true, false, false] rfl rfl (by kernel_rfl) (by decide) (fun K hK => ?_)
            rw [if_pos (by rfl)]
            refine op_conv _ _ _ rfl q0 q1 x rfl ?_
            intro b n2 hb
            refine hK.out _ _ hHeld (fun _ => ?_)
            clear hK K
            refine norm_ ?_ (hcont (b, c) _ ⟨hb, hc2, m + 1 + n + n2, by first | (simp; done) | (simp [World.drewN, World.drew, Nat.add_assoc]; done)⟩)
            show Act.put (Act.put _ (some 26) _) (some 21) _ = _
            simp only [putAll, Act.put, List.setIfInBounds_toArray, List.set_cons_zero, List.set_cons_succ]
  · have hla : ((l0.length : Int) != (l1.length : Int)) = true := by rw [bne_iff_ne]; omega
    rw [decide_eq_false hl, Bool.false_and] at h
    subst h
    clear hl
    go_enter Tryd.func33, Tryd.ntmps33
    go_wp2
    go_ret
    exact ⟨rfl, Below.refl _ _⟩
def eqcs : List (Nat × Nat) → List (Nat × Nat) → Bool
  | x :: r, y :: s => (sfc x.1 y.1 && sfc x.2 y.2) && eqcs r s
  | _, _ => true
/-- The laws' eqComplex64S. -/
def eqComplex64S.f (l0 l1 : List (Nat × Nat)) : Option Bool := some (decide (l0.length = l1.length) && eqcs l0 l1)
set_option maxHeartbeats 4000000 in
set_option maxRecDepth 100000 in
theorem eqComplex64S.calls (A0 : Option Addr) (c0 : Nat) (l0 : List (Nat × Nat)) (A1 : Option Addr) (c1 : Nat) (l1 : List (Nat × Nat)) (r : Bool) (w : World) (hr0 : Kd.C (Kd.complex .f32) w A0 l0.length l0) (hc0 : l0.length ≤ c0) (hr1 : Kd.C (Kd.complex .f32) w A1 l1.length l1) (hc1 : l1.length ≤ c1) (h : eqComplex64S.f l0 l1 = some r) :
    Calls Tryd.prog 48 #[.slice A0 l0.length c0, .slice A1 l1.length c1] w fun e w' => e = .returned (.bool r) ∧ Below w.heap.size w w' := by
  replace h := Option.some.inj h
  have HR0 := Aside0.mk hr0
  have HR1 := Aside0.mk hr1
  clear hr0 hr1
  have hmx : l0.length ≤ 9223372036854775807 := Kd.C_max HR0.out
  have q0 : (Tryd.prog.underlying 67).isSome = true := by kernel_rfl
  have q1 := Tryd.underlying73
  by_cases hl : l0.length = l1.length
  · have hla : ((l0.length : Int) != (l1.length : Int)) = false := by rw [hl]; simp
    rw [decide_eq_true hl, Bool.true_and] at h
    have HX0 := Aside0.mk h
    have HL := Aside0.mk hl
    clear h hl
    go_enter Tryd.func48, Tryd.ntmps48
    go_wp2
    go_loopg [5] l0.length (fun kq v5 w' => ∃ (i : Nat), v5 = .int .i64 (i : Int) ∧ Aside0 (i + kq = l0.length) ∧ Aside0 (eqcs (l0.drop i) (l1.drop i) = r) ∧ Drawn0 w w')
    case atStart => exact ⟨0, rfl, ⟨by simp⟩, HX0, Drawn0.refl _⟩
    case round =>
      clear HX0
      obtain ⟨i, rfl, HI, HX, ⟨m, rfl⟩⟩ := hrel
      have hi := HI.out
      have hx0 := HX.out
      have hl := HL.out
      cases gk with
      | zero =>
        have hc : decide ((i : Int) < (l0.length : Int)) = false := by simp; omega
        rw [List.drop_eq_nil_of_le (by omega)] at hx0
        replace hx0 : true = r := hx0
        subst hx0
        clear hl
        go_wp2
        go_ret
        exact ⟨rfl, pw_below_drewN (Below.refl _ _) _⟩
      | succ k1 =>
        have hil : i < l0.length := by omega
        have hil1 : i < l1.length := by omega
        have hc : decide ((i : Int) < (l0.length : Int)) = true := by simp; omega
        have p0 : (0 : Int) ≤ (i : Int) := by omega
        have q0i : (i : Int) < (l0.length : Int) := by omega
        have q1i : (i : Int) < (l1.length : Int) := by omega
        obtain ⟨ad, ead, hx⟩ := Kd.at_complex HR0.out (i : Int) p0 q0i
        obtain ⟨bd, ebd, hy⟩ := Kd.at_complex HR1.out (i : Int) p0 q1i
        cases ead
        cases ebd
        rw [Int.toNat_natCast, show rdOf ((0, 0) : Nat × Nat) l0 (i : Int) = l0[i] by simp [rdOf, hil]] at hx
        rw [Int.toNat_natCast, show rdOf ((0, 0) : Nat × Nat) l1 (i : Int) = l1[i] by simp [rdOf, hil1]] at hy
        rw [List.drop_eq_getElem_cons hil, List.drop_eq_getElem_cons hil1, eqcs] at hx0
        generalize l0[i] = x at hx hx0
        generalize l1[i] = y at hy hx0
        have p0b := eq_true p0
        have q0b := eq_true q0i
        have q1b := eq_true q1i
        clear hl
        try go_wp2
        refine start_ (n := 12) (S := fun w' => w'.cell? (ad.add i) = some (.complex .f32 x.1 x.2) ∧ w'.cell? (bd.add i) = some (.complex .f32 y.1 y.2)) (ds := []) #[false, false, false, false, false, false, false, false, false, false, false, false] (by kernel_rfl) rfl rfl ⟨hx, hy⟩ (fun hHeld => ?_)
        refine pure_ (i := 0) (N := some 17) (v := ?_) (a' := ?_) #[true, false, false, false, false, false, false, false, false, false, false, false] rfl rfl (by kernel_rfl) (fun _ _ _ h => h) (Or.inl ⟨by rfl, ?_⟩) ?_ ?_
        rotate_left
        · intro w'
          go_simp
          with_reducible rfl
        rotate_left
        · simp only [Act.put, List.setIfInBounds_toArray, List.set_cons_zero, List.set_cons_succ, i64_w, i32_w]
          rfl
        refine pure_ (i := 1) (N := some 18) (v := ?_) (a' := ?_) #[true, true, false, false, false, false, false, false, false, false, false, false] rfl rfl (by kernel_rfl) (fun _ _ _ h => h) (Or.inl ⟨by rfl, ?_⟩) ?_ ?_
        rotate_left
        · intro w'
          go_simp
          with_reducible rfl
        rotate_left
        · simp only [Act.put, List.setIfInBounds_toArray, List.set_cons_zero, List.set_cons_succ, i64_w, i32_w]
          rfl
        refine pure_ (i := 2) (N := some 19) (v := ?_) (a' := ?_) #[true, true, true, false, false, false, false, false, false, false, false, false] rfl rfl (by kernel_rfl) (fun _ _ _ h => h) (Or.inl ⟨by rfl, ?_⟩) ?_ ?_
        rotate_left
        · intro w'
          go_simp
          with_reducible rfl
        rotate_left
        · simp only [Act.put, List.setIfInBounds_toArray, List.set_cons_zero, List.set_cons_succ, i64_w, i32_w]
          rfl
        refine pure_ (i := 5) (N := some 22) (v := ?_) (a' := ?_) #[true, true, true, false, false, true, false, false, false, false, false, false] rfl rfl (by kernel_rfl) (fun _ _ _ h => h) (Or.inl ⟨by rfl, ?_⟩) ?_ ?_
        rotate_left
        · intro w'
          go_simp
          with_reducible rfl
        rotate_left
        · simp only [Act.put, List.setIfInBounds_toArray, List.set_cons_zero, List.set_cons_succ, i64_w, i32_w]
          rfl
        refine pure_ (i := 6) (N := some 23) (v := ?_) (a' := ?_) #[true, true, true, false, false, true, true, false, false, false, false, false] rfl rfl (by kernel_rfl) (fun _ _ _ h => h) (Or.inl ⟨by rfl, ?_⟩) ?_ ?_
        rotate_left
        · intro w'
          go_simp
          with_reducible rfl
        rotate_left
        · simp only [Act.put, List.setIfInBounds_toArray, List.set_cons_zero, List.set_cons_succ, i64_w, i32_w]
          rfl
        refine pure_ (i := 7) (N := some 24) (v := ?_) (a' := ?_) #[true, true, true, false, false, true, true, true, false, false, false, false] rfl rfl (by kernel_rfl) (fun _ _ _ h => h) (Or.inl ⟨by rfl, ?_⟩) ?_ ?_
        rotate_left
        · intro w'
          go_simp
          with_reducible rfl
        rotate_left
        · simp only [Act.put, List.setIfInBounds_toArray, List.set_cons_zero, List.set_cons_succ, i64_w, i32_w]
          rfl
        refine take_ (i := 3) (N := some 20) (v := ?_) (a' := ?_) #[true, true, true, true, false, true, true, true, false, false, false, false] rfl rfl (by kernel_rfl) (fun _ _ _ h => h) (Or.inl ⟨by rfl, ?_⟩) hHeld ?_ ?_
        rotate_left
        · rintro w' ⟨s0, s1⟩
          go_simp
          with_reducible rfl
        rotate_left
        · simp only [Act.put, List.setIfInBounds_toArray, List.set_cons_zero, List.set_cons_succ, i64_w, i32_w]
          rfl
        refine take_ (i := 8) (N := some 25) (v := ?_) (a' := ?_) #[true, true, true, true, false, true, true, true, true, false, false, false] rfl rfl (by kernel_rfl) (fun _ _ _ h => h) (Or.inl ⟨by rfl, ?_⟩) hHeld ?_ ?_
        rotate_left
        · rintro w' ⟨s0, s1⟩
          go_simp
          with_reducible rfl
        rotate_left
        · simp only [Act.put, List.setIfInBounds_toArray, List.set_cons_zero, List.set_cons_succ, i64_w, i32_w]
          rfl
        refine join_ (σ := (Nat × Nat) × (Nat × Nat)) 2 #[true, true, true, true, true, true, true, true, true, true, false, false] (fun s => [(21, .complex .f64 s.1.1 s.1.2), (26, .complex .f64 s.2.1 s.2.2)]) (fun s w' => (Cv x.1 s.1.1 ∧ Cv x.2 s.1.2) ∧ (Cv y.1 s.2.1 ∧ Cv y.2 s.2.2) ∧ ∃ n, w' = w.drewN n) ?_ (fun hcont => ?_)
        · rintro s w' ⟨⟨c1, c2⟩, ⟨c3, c4⟩, n, rfl⟩
          refine norm_ (a' := ?_) ?_ ?_
          rotate_left
          · show putAll _ [(21, _), (26, _)] = _
            simp only [putAll, Act.put, List.setIfInBounds_toArray, List.set_cons_zero, List.set_cons_succ]
            rfl
          cases e : (sfc x.1 y.1 && sfc x.2 y.2) with
          | false =>
            refine one_ (i := 10) (N := some 27) #[true, true, true, true, true, true, true, true, true, true, true, false] rfl rfl (by kernel_rfl) (by decide) (fun K hK => ?_)
            refine goes_ Tryd.func74 (by kernel_rfl) rfl #[.complex .f64 s.1.1 s.1.2, .complex .f64 s.2.1 s.2.2] (by rfl) rfl rfl (by (try simp only [List.map_toArray, List.map_cons, List.map_nil]); first | done | rfl) ?_
            (with_reducible refine (sameComplex_c x.1 x.2 y.1 y.2 _ _ _ _ c1 c2 c3 c4 _).mono ?_)
            rw [e]
            rintro e w1 ⟨rfl, ⟨nd, rfl⟩⟩
            refine ⟨_, rfl, ?_⟩
            refine hK.out _ _ hHeld (fun _ => ?_)
            clear hK K
            refine norm_ (a' := ?_) ?_ ?_
            rotate_left
            · show Act.put _ (some 27) _ = _
              simp only [Act.put, List.setIfInBounds_toArray, List.set_cons_zero, List.set_cons_succ]
              rfl
            refine pure_ (i := 11) (N := some 28) (v := ?_) (a' := ?_) #[true, true, true, true, true, true, true, true, true, true, true, true] rfl rfl (by kernel_rfl) (fun _ _ _ h => h) (Or.inl ⟨by rfl, ?_⟩) ?_ ?_
            rotate_left
            · intro w'
              go_simp
              with_reducible rfl
            rotate_left
            · simp only [Act.put, List.setIfInBounds_toArray, List.set_cons_zero, List.set_cons_succ, i64_w, i32_w]
              rfl
            refine done_ (by kernel_rfl) ?_
            rw [e, Bool.false_and] at hx0
            subst hx0
            go_wp2
            go_ret
            exact ⟨rfl, by repeat (first | exact Below.refl _ _ | apply pw_below_drewN | apply below_drew1)⟩
          | true =>
            refine one_ (i := 10) (N := some 27) #[true, true, true, true, true, true, true, true, true, true, true, false] rfl rfl (by kernel_rfl) (by decide) (fun K hK => ?_)
            refine goes_ Tryd.func74 (by kernel_rfl) rfl #[.complex .f64 s.1.1 s.1.2, .complex .f64 s.2.1 s.2.2] (by rfl) rfl rfl (by (try simp only [List.map_toArray, List.map_cons, List.map_nil]); first | done | rfl) ?_
            (with_reducible refine (sameComplex_c x.1 x.2 y.1 y.2 _ _ _ _ c1 c2 c3 c4 _).mono ?_)
            rw [e]
            rintro e w1 ⟨rfl, ⟨nd, rfl⟩⟩
            refine ⟨_, rfl, ?_⟩
            refine hK.out _ _ hHeld (fun _ => ?_)
            clear hK K
            refine norm_ (a' := ?_) ?_ ?_
            rotate_left
            · show Act.put _ (some 27) _ = _
              simp only [Act.put, List.setIfInBounds_toArray, List.set_cons_zero, List.set_cons_succ]
              rfl
            refine pure_ (i := 11) (N := some 28) (v := ?_) (a' := ?_) #[true, true, true, true, true, true, true, true, true, true, true, true] rfl rfl (by kernel_rfl) (fun _ _ _ h => h) (Or.inl ⟨by rfl, ?_⟩) ?_ ?_
            rotate_left
            · intro w'
              go_simp
              with_reducible rfl
            rotate_left
            · simp only [Act.put, List.setIfInBounds_toArray, List.set_cons_zero, List.set_cons_succ, i64_w, i32_w]
              rfl
            refine done_ (by kernel_rfl) ?_
            rw [e, Bool.true_and] at hx0
            go_wp2
            go_roundg k1
            case measure => omega
            case rel => exact ⟨i + 1, rfl, ⟨by omega⟩, ⟨hx0⟩, ⟨_, rfl⟩⟩
        · refine two_ (i := 4) (j := 9) (Ni := some 21) (Nj := some 26) #[true, true, true, true, true, true, true, true, true, false, false, false] #[true, true, true, true, false, true, true, true, true, true, false, false] rfl rfl rfl rfl (by kernel_rfl) (by decide) (by decide) ?_ ?_
          · intro K hK
            rw [if_pos (by rfl)]
            refine op_cconv _ _ _ rfl q0 q1 x.1 x.2 rfl ?_
            intro b b2 n hb hb2
            refine hK.out _ _ hHeld (fun _ => ?_)
            clear hK K
            refine one_ (i := 9) (N := some 26) #[true, true, true, true, true, true, true, true, true, true, false, false] rfl rfl (by kernel_rfl) (by decide) (fun K hK => ?_)
            rw [if_pos (by rfl)]
            refine op_cconv _ _ _ rfl q0 q1 y.1 y.2 rfl ?_
            intro c c2 n2 hcc hcc2
            refine hK.out _ _ hHeld (fun _ => ?_)
            clear hK K
            refine norm_ ?_ (hcont ((b, b2), (c, c2)) _ ⟨⟨hb, hb2⟩, ⟨hcc, hcc2⟩, m + 1 + n + n2, by first | (simp; done) | (simp [World.drewN, World.drew, Nat.add_assoc]; done)⟩)
            show Act.put (Act.put _ (some 21) _) (some 26) _ = _
            simp only [putAll, Act.put, List.setIfInBounds_toArray, List.set_cons_zero, List.set_cons_succ]
          · intro K hK
            rw [if_pos (by rfl)]
            refine op_cconv _ _ _ rfl q0 q1 y.1 y.2 rfl ?_
            intro c c2 n hcc hcc2
            refine hK.out _ _ hHeld (fun _ => ?_)
            clear hK K
            refine one_ (i := 4) (N := some 21) #[true, true, true, true, true, true, true, true, true, true, false, false] rfl rfl (by kernel_rfl) (by decide) (fun K hK => ?_)
            rw [if_pos (by rfl)]
            refine op_cconv _ _ _ rfl q0 q1 x.1 x.2 rfl ?_
            intro b b2 n2 hb hb2
            refine hK.out _ _ hHeld (fun _ => ?_)
            clear hK K
            refine norm_ ?_ (hcont ((b, b2), (c, c2)) _ ⟨⟨hb, hb2⟩, ⟨hcc, hcc2⟩, m + 1 + n + n2, by first | (simp; done) | (simp [World.drewN, World.drew, Nat.add_assoc]; done)⟩)
            show Act.put (Act.put _ (some 26) _) (some 21) _ = _
            simp only [putAll, Act.put, List.setIfInBounds_toArray, List.set_cons_zero, List.set_cons_succ]
  · have hla : ((l0.length : Int) != (l1.length : Int)) = true := by rw [bne_iff_ne]; omega
    rw [decide_eq_false hl, Bool.false_and] at h
    subst h
    clear hl
    go_enter Tryd.func48, Tryd.ntmps48
    go_wp2
    go_ret
    exact ⟨rfl, Below.refl _ _⟩
set_option maxHeartbeats 4000000 in
set_option maxRecDepth 100000 in
theorem lit126 (x y : Nat) (w : World) : Calls Tryd.prog 126 #[.complex .f32 x y] w fun e w' => e = .returned (.bool (!cfin (x, y))) ∧ Below w.heap.size w w' := by
  go_enter Tryd.func126, Tryd.ntmps126
  go_wp2_with (first | (go_at_call 121; refine (isFiniteComplex _ _ _).mono ?_; rintro e w1 ⟨rfl, hb⟩))
  go_ret
  exact ⟨by first | rfl | (simp; done), below_step (by repeat (first | exact Below.refl _ _ | apply below_alloc | apply pw_below_drewN | apply below_drew1)) hb⟩
set_option maxHeartbeats 4000000 in
set_option maxRecDepth 100000 in
theorem index142 (A : Option Addr) (c : Nat) (xs : List (Nat × Nat)) (r : Int) (hr : ix (fun x => !cfin x) xs 0 = r) (w : World) (hr0 : Kd.C (Kd.complex .f32) w A xs.length xs) (hc0 : xs.length ≤ c) :
    Calls Tryd.prog 142 #[.slice A xs.length c, .func (.func 126) #[] #[]] w fun e w' => e = .returned (.int .i64 r) ∧ Below w.heap.size w w' := by
  have HR0 := Aside0.mk hr0
  clear hr0
  have hmx : xs.length ≤ 9223372036854775807 := Kd.C_max HR0.out
  go_enter Tryd.func142, Tryd.ntmps142
  go_wp2
  go_loopg [8] xs.length (fun kq v8 w' => ∃ (i : Nat), v8 = .int .i64 (i : Int) ∧ Aside0 (i + kq = xs.length) ∧ Aside0 (ix (fun x => !cfin x) (xs.drop i) (i : Int) = r) ∧ Aside0 (Below w.heap.size w w'))
  case atStart => exact ⟨0, rfl, ⟨by simp⟩, ⟨hr⟩, ⟨Below.refl _ _⟩⟩
  case round =>
    obtain ⟨i, rfl, HI, HX, HB⟩ := hrel
    have hi := HI.out
    have hx0 := HX.out
    cases gk with
    | zero =>
      have hc : decide ((i : Int) < (xs.length : Int)) = false := by simp; omega
      rw [List.drop_eq_nil_of_le (by omega), ix] at hx0
      subst hx0
      go_wp2
      go_ret
      exact ⟨rfl, HB.out⟩
    | succ k1 =>
      have hil : i < xs.length := by omega
      have hc : decide ((i : Int) < (xs.length : Int)) = true := by simp; omega
      have p0 : (0 : Int) ≤ (i : Int) := by omega
      have q0 : (i : Int) < (xs.length : Int) := by omega
      obtain ⟨ad, ead, hx_0⟩ := Kd.at_complex HR0.out (i : Int) p0 q0
      cases ead
      replace hx_0 := (HB.out.cell (World.block_lt_of_cell? w _ hx_0)).trans hx_0
      rw [Int.toNat_natCast, show rdOf ((0, 0) : Nat × Nat) xs (i : Int) = xs[i] by simp [rdOf, hil]] at hx_0
      rw [List.drop_eq_getElem_cons hil, ix] at hx0
      generalize xs[i] = x at hx_0 hx0
      have p0b := eq_true p0
      have q0b := eq_true q0
      cases e : cfin x with
      | false =>
        rw [e, if_pos (by rfl)] at hx0
        subst hx0
        have e2 : cfin (x.1, x.2) = false := e
        go_wp2_with (first | (go_at_call 126; refine (lit126 _ _ _).mono ?_; rw [e2]; rintro e w1 ⟨rfl, hb⟩))
        go_ret
        exact ⟨rfl, below_step HB.out hb⟩
      | true =>
        rw [e, if_neg (by decide)] at hx0
        have e2 : cfin (x.1, x.2) = true := e
        go_wp2_with (first | (go_at_call 126; refine (lit126 _ _ _).mono ?_; rw [e2]; rintro e w1 ⟨rfl, hb⟩))
        go_roundg k1
        case measure => omega
        case rel => exact ⟨i + 1, rfl, ⟨by omega⟩, ⟨hx0⟩, ⟨below_step HB.out hb⟩⟩
set_option maxHeartbeats 4000000 in
set_option maxRecDepth 100000 in
theorem contains125 (A : Option Addr) (c : Nat) (xs : List (Nat × Nat)) (w : World) (hr0 : Kd.C (Kd.complex .f32) w A xs.length xs) (hc0 : xs.length ≤ c) :
    Calls Tryd.prog 125 #[.slice A xs.length c, .func (.func 126) #[] #[]] w fun e w' => e = .returned (.bool (xs.any fun x => !cfin x)) ∧ Below w.heap.size w w' := by
  have hg := ix_ge (fun x => !cfin x) xs 0 (Int.le_refl _)
  go_enter Tryd.func125, Tryd.ntmps125
  go_wp2_with (first | (go_at_call 142; refine (index142 _ _ _ _ rfl _ hr0 hc0).mono ?_; rintro e w1 ⟨rfl, hb⟩))
  go_ret
  exact ⟨by first | rfl | (rw [← hg]; rfl), hb⟩
set_option maxHeartbeats 4000000 in
set_option maxRecDepth 100000 in
theorem finiteAll103 (A : Option Addr) (c : Nat) (xs : List (Nat × Nat)) (w : World) (hr0 : Kd.C (Kd.complex .f32) w A xs.length xs) (hc0 : xs.length ≤ c) :
    Calls Tryd.prog 103 #[.slice A xs.length c] w fun e w' => e = .returned (.bool (!xs.any fun x => !cfin x)) ∧ Below w.heap.size w w' := by
  go_enter Tryd.func103, Tryd.ntmps103
  go_wp2_with (first | (go_at_call 125; refine (contains125 _ _ _ _ hr0 hc0).mono ?_; rintro e w1 ⟨rfl, hb⟩))
  go_ret
  exact ⟨by first | rfl | (simp; done), hb⟩
set_option maxHeartbeats 4000000 in
set_option maxRecDepth 100000 in
theorem in57 (a b c : Int) (w : World) : Calls Tryd.prog 57 #[.int .i64 a, .int .i64 b, .int .i64 c] w fun e w' => e = .returned (.bool (decide (b ≤ a) && decide (a ≤ c))) ∧ Drawn0 w w' := by
  by_cases h : b ≤ a
  · have hd : decide (b ≤ a) = true := decide_eq_true h
    rw [hd, Bool.true_and]
    go_enter Tryd.func57, Tryd.ntmps57
    go_wp2
    go_ret
    exact ⟨by first | rfl | (simp; done), by first | exact Drawn0.refl _ | exact ⟨_, rfl⟩⟩
  · have hd : decide (b ≤ a) = false := decide_eq_false h
    rw [hd, Bool.false_and]
    go_enter Tryd.func57, Tryd.ntmps57
    go_wp2
    go_ret
    exact ⟨by first | rfl | (simp; done), by first | exact Drawn0.refl _ | exact ⟨_, rfl⟩⟩
/-- impl.ValidSheet. -/
def validS (l0 : List (Nat × Nat)) (l1 : List Nat) : Bool := (decide (2 ≤ l0.length) && decide (l0.length ≤ 48)) && (decide (l1.length = l0.length) && (!(l0.any fun x => !cfin x) && !(l1.any fun x => !fin x)))
def ValidSheet.f (l0_0 : List (Nat × Nat)) (l0_1 : List Nat) (a0_2 : Bool) : Option Bool := some (validS l0_0 l0_1)
theorem cell_n1 (w : World) (c : Array Value) (t : TypeId) (i : Nat) : (w.alloc (.cells c t)).cell? ⟨w.heap.size, i, none⟩ = c[i]? := by
  unfold World.cell?
  rw [heap_alloc_new]
  rfl
set_option maxHeartbeats 4000000 in
set_option maxRecDepth 100000 in
theorem ValidSheet.calls (A0_0 : Option Addr) (c0_0 : Nat) (l0_0 : List (Nat × Nat)) (A0_1 : Option Addr) (c0_1 : Nat) (l0_1 : List Nat) (a0_2 : Bool) (r : Bool) (w : World) (hr0_0 : Kd.C (Kd.complex .f32) w A0_0 l0_0.length l0_0) (hc0_0 : l0_0.length ≤ c0_0) (hr0_1 : Kd.C (Kd.float .f32) w A0_1 l0_1.length l0_1) (hc0_1 : l0_1.length ≤ c0_1) (h : ValidSheet.f l0_0 l0_1 a0_2 = some r) :
    Calls Tryd.prog 77 #[.agg #[.slice A0_0 l0_0.length c0_0, .slice A0_1 l0_1.length c0_1, .bool a0_2]] w fun e w' => e = .returned (.bool r) ∧ Below w.heap.size w w' := by
  obtain rfl := Option.some.inj h
  unfold validS
  have hb0 : Below w.heap.size w (w.alloc (.cells #[.slice A0_0 l0_0.length c0_0, .slice A0_1 l0_1.length c0_1, .bool a0_2] 43)) := below_alloc (Below.refl _ _) _
  cases c12 : (decide (2 ≤ l0_0.length) && decide (l0_0.length ≤ 48)) with
  | false =>
    have c12a : (decide ((2 : Int) ≤ (l0_0.length : Int)) && decide ((l0_0.length : Int) ≤ (48 : Int))) = false := by
      rw [← c12]; congr 1 <;> (apply decide_eq_decide.2; omega)
    go_enter Tryd.func77, Tryd.ntmps77
    go_wp2_with (first | (go_at_call 57; refine (in57 _ _ _ _).mono ?_; rw [c12a]; rintro e w2 ⟨rfl, ⟨nd, rfl⟩⟩))
    go_ret
    exact ⟨by first | rfl | (simp; done), by repeat (first | exact Below.refl _ _ | apply pw_below_drewN | apply below_alloc)⟩
  | true =>
    have c12a : (decide ((2 : Int) ≤ (l0_0.length : Int)) && decide ((l0_0.length : Int) ≤ (48 : Int))) = true := by
      rw [← c12]; congr 1 <;> (apply decide_eq_decide.2; omega)
    by_cases c3 : l0_1.length = l0_0.length
    · have c3a : ((l0_1.length : Int) == (l0_0.length : Int)) = true := by rw [c3]; simp
      rw [decide_eq_true c3]
      clear c3
      cases ea : l0_0.any (fun x => !cfin x) with
      | true =>
        go_enter Tryd.func77, Tryd.ntmps77
        go_wp2_with (first | (go_at_call 57; refine (in57 _ _ _ _).mono ?_; rw [c12a]; rintro e w2 ⟨rfl, ⟨nd, rfl⟩⟩) | (go_at_call 103; refine (finiteAll103 _ _ _ _ (by (with_reducible repeat (first | refine Kd.C_drewN ?_ _ | refine Kd.C_alloc ?_ _)); exact hr0_0) hc0_0).mono ?_; rw [ea]; rintro e w1 ⟨rfl, hb⟩))
        go_ret
        exact ⟨by first | rfl | (simp; done), below_step (by repeat (first | exact Below.refl _ _ | apply pw_below_drewN | apply below_alloc)) hb⟩
      | false =>
        go_enter Tryd.func77, Tryd.ntmps77
        go_wp2_with (first | (go_at_call 57; refine (in57 _ _ _ _).mono ?_; rw [c12a]; rintro e w2 ⟨rfl, ⟨nd, rfl⟩⟩) | (go_at_call 103; refine (finiteAll103 _ _ _ _ (by (with_reducible repeat (first | refine Kd.C_drewN ?_ _ | refine Kd.C_alloc ?_ _)); exact hr0_0) hc0_0).mono ?_; rw [ea]; rintro e w1 ⟨rfl, hb⟩; have f1 := (hb.cell (p := ⟨w.heap.size, 1, none⟩) (by simp)).trans (cell_n1 w _ _ 1); have hbw : Below w.heap.size w w1 := below_step (by repeat (first | exact Below.refl _ _ | apply pw_below_drewN | apply below_alloc)) hb; clear hb) | (go_at_call 56; refine (finitef _ _ _ _ (Kd.C_below hr0_1 hbw) hc0_1).mono ?_; rintro e w1 ⟨rfl, ⟨nd2, rfl⟩⟩))
        go_ret
        exact ⟨by first | rfl | (simp; done), by repeat (first | exact hbw | apply pw_below_drewN)⟩
    · have c3a : ((l0_1.length : Int) == (l0_0.length : Int)) = false := by rw [beq_eq_false_iff_ne]; omega
      rw [decide_eq_false c3]
      clear c3
      go_enter Tryd.func77, Tryd.ntmps77
      go_wp2_with (first | (go_at_call 57; refine (in57 _ _ _ _).mono ?_; rw [c12a]; rintro e w2 ⟨rfl, ⟨nd, rfl⟩⟩))
      go_ret
      exact ⟨by first | rfl | (simp; done), by repeat (first | exact Below.refl _ _ | apply pw_below_drewN | apply below_alloc)⟩
set_option maxHeartbeats 4000000 in
set_option maxRecDepth 100000 in
theorem l01CFinite_c (x y : Nat) (w : World) : Calls Tryd.prog 118 #[.complex .f32 x y] w fun e w' => e = .returned (.bool (cfin (x, y))) ∧ Drawn0 w w' := by
  unfold cfin
  cases e1 : fin x with
  | false =>
    go_enter Tryd.func118, Tryd.ntmps118
    go_wp2_with (first | (go_at_call 52; (with_reducible refine (l01Finite.calls x _ _ rfl).mono ?_); rw [e1]; rintro e w1 ⟨rfl, ⟨nd, rfl⟩⟩))
    go_ret
    exact ⟨by first | rfl | (simp; done), ⟨_, rfl⟩⟩
  | true =>
    go_enter Tryd.func118, Tryd.ntmps118
    go_wp2_with (first | (go_at_call 52; (with_reducible refine (l01Finite.calls x _ _ rfl).mono ?_); rw [e1]; rintro e w1 ⟨rfl, ⟨nd, rfl⟩⟩) | (go_at_call 52; (with_reducible refine (l01Finite.calls y _ _ rfl).mono ?_); rintro e w1 ⟨rfl, ⟨nd2, rfl⟩⟩))
    go_ret
    exact ⟨by first | rfl | (simp; done), ⟨_, rfl⟩⟩
/-- The pairs from the front: all finite? -/
def pfin : List (Nat × Nat) → List Nat → Bool
  | p :: l, x :: m => (cfin p && fin x) && pfin l m
  | _, _ => true
set_option maxHeartbeats 8000000 in
set_option maxRecDepth 100000 in
theorem l03Is_at (g : Nat) (A : Option Addr) (c : Nat) (l : List (Nat × Nat)) (A1 : Option Addr) (c1 : Nat) (l1 : List Nat) (w : World) (f0 : w.cell? ⟨g, 0, none⟩ = some (.slice A l.length c)) (f1 : w.cell? ⟨g, 1, none⟩ = some (.slice A1 l1.length c1)) (hle : l.length ≤ c) (hC : Kd.C (Kd.complex .f32) w A l.length l) (hle1 : l1.length ≤ c1) (hC1 : Kd.C (Kd.float .f32) w A1 l1.length l1) (r : Bool) (hr : ((decide (2 ≤ l.length) && decide (l.length ≤ 48)) && (decide (l1.length = l.length) && pfin l l1)) = r) :
    Calls Tryd.prog 99 #[.pointer (some ⟨g, 0, none⟩)] w fun e w' => e = .returned (.bool r) ∧ Below w.heap.size w w' := by
  have HC := Aside0.mk hC
  have HC1 := Aside0.mk hC1
  clear hC hC1
  by_cases d1 : 2 ≤ l.length
  · have d1a : decide ((l.length : Int) < (2 : Int)) = false := by simp; omega
    by_cases d2 : l.length ≤ 48
    · have d2a : decide ((48 : Int) < (l.length : Int)) = false := by simp; omega
      by_cases d3 : l1.length = l.length
      · have d3a : ((l1.length : Int) != (l.length : Int)) = false := by rw [d3]; simp
        rw [decide_eq_true d1, decide_eq_true d2, decide_eq_true d3, Bool.true_and, Bool.true_and, Bool.true_and] at hr
        have HR := Aside0.mk hr
        have HD := Aside0.mk d3
        clear hr d3
        go_enter Tryd.func99, Tryd.ntmps99
        go_wp2
        go_loopg [30] l.length (fun kq v30 w' => ∃ (i : Nat), v30 = .int .i64 (i : Int) ∧ Aside0 (i + kq = l.length) ∧ Aside0 (pfin (l.drop i) (l1.drop i) = r) ∧ Drawn0 w w')
        case atStart => exact ⟨0, rfl, ⟨by simp⟩, HR, Drawn0.refl _⟩
        case round =>
          clear HR
          obtain ⟨i, rfl, HI, HX, ⟨m, rfl⟩⟩ := hrel
          have hi := HI.out
          have hx0 := HX.out
          have hd3 := HD.out
          cases gk with
          | zero =>
            have hc : decide ((i : Int) < (l.length : Int)) = false := by simp; omega
            rw [List.drop_eq_nil_of_le (by omega)] at hx0
            replace hx0 : true = r := hx0
            subst hx0
            clear hd3
            go_wp2
            go_ret
            exact ⟨rfl, pw_below_drewN (Below.refl _ _) _⟩
          | succ k1 =>
            have hil : i < l.length := by omega
            have hil1 : i < l1.length := by omega
            have hc : decide ((i : Int) < (l.length : Int)) = true := by simp; omega
            have p0 : (0 : Int) ≤ (i : Int) := by omega
            have q0 : (i : Int) < (l.length : Int) := by omega
            have q1 : (i : Int) < (l1.length : Int) := by omega
            obtain ⟨ae, ead, hx_0⟩ := Kd.at_complex HC.out (i : Int) p0 q0
            obtain ⟨be, ebd, hy_0⟩ := Kd.at_float HC1.out (i : Int) p0 q1
            cases ead
            cases ebd
            rw [Int.toNat_natCast, show rdOf ((0, 0) : Nat × Nat) l (i : Int) = l[i] by simp [rdOf, hil]] at hx_0
            rw [Int.toNat_natCast, show rdOf (0 : Nat) l1 (i : Int) = l1[i] by simp [rdOf, hil1]] at hy_0
            rw [List.drop_eq_getElem_cons hil, List.drop_eq_getElem_cons hil1, pfin] at hx0
            generalize l[i] = x at hx_0 hx0
            generalize l1[i] = y at hy_0 hx0
            have p0b := eq_true p0
            have q0b := eq_true q0
            have q1b := eq_true q1
            clear hd3
            cases e1 : cfin x with
            | false =>
              rw [e1, Bool.false_and, Bool.false_and] at hx0
              subst hx0
              have e2 : cfin (x.1, x.2) = false := e1
              go_wp2_with (first | (go_at_call 118; refine (l01CFinite_c _ _ _).mono ?_; rw [e2]; rintro e w1 ⟨rfl, ⟨nd, rfl⟩⟩))
              go_ret
              exact ⟨rfl, by repeat (first | exact Below.refl _ _ | apply pw_below_drewN)⟩
            | true =>
              have e2 : cfin (x.1, x.2) = true := e1
              rw [e1, Bool.true_and] at hx0
              cases e3 : fin y with
              | false =>
                rw [e3, Bool.false_and] at hx0
                subst hx0
                go_wp2_with (first | (go_at_call 118; refine (l01CFinite_c _ _ _).mono ?_; rw [e2]; rintro e w1 ⟨rfl, ⟨nd, rfl⟩⟩) | (go_at_call 52; refine (l01Finite.calls _ _ _ rfl).mono ?_; rw [e3]; rintro e w1 ⟨rfl, ⟨nd2, rfl⟩⟩))
                go_ret
                exact ⟨rfl, by repeat (first | exact Below.refl _ _ | apply pw_below_drewN)⟩
              | true =>
                rw [e3, Bool.true_and] at hx0
                go_wp2_with (first | (go_at_call 118; refine (l01CFinite_c _ _ _).mono ?_; rw [e2]; rintro e w1 ⟨rfl, ⟨nd, rfl⟩⟩) | (go_at_call 52; refine (l01Finite.calls _ _ _ rfl).mono ?_; rw [e3]; rintro e w1 ⟨rfl, ⟨nd2, rfl⟩⟩))
                go_roundg k1
                case measure => omega
                case rel => exact ⟨i + 1, rfl, ⟨by omega⟩, ⟨hx0⟩, ⟨_, rfl⟩⟩
      · have d3a : ((l1.length : Int) != (l.length : Int)) = true := by rw [bne_iff_ne]; omega
        rw [decide_eq_false d3, Bool.false_and, Bool.and_false] at hr
        subst hr
        clear d3
        go_enter Tryd.func99, Tryd.ntmps99
        go_wp2
        go_ret
        exact ⟨rfl, Below.refl _ _⟩
    · have d2a : decide ((48 : Int) < (l.length : Int)) = true := by simp; omega
      rw [decide_eq_false d2, Bool.and_false, Bool.false_and] at hr
      subst hr
      go_enter Tryd.func99, Tryd.ntmps99
      go_wp2
      go_ret
      exact ⟨rfl, Below.refl _ _⟩
  · have d1a : decide ((l.length : Int) < (2 : Int)) = true := by simp; omega
    rw [decide_eq_false d1, Bool.false_and, Bool.false_and] at hr
    subst hr
    go_enter Tryd.func99, Tryd.ntmps99
    go_wp2
    go_ret
    exact ⟨rfl, Below.refl _ _⟩
theorem pfin_any : ∀ (l : List (Nat × Nat)) (m : List Nat), m.length = l.length → pfin l m = (!(l.any fun x => !cfin x) && !(m.any fun x => !fin x))
  | [], [], _ => rfl
  | p :: l, x :: m, h => by
    simp only [List.length_cons] at h
    simp only [pfin, List.any_cons, pfin_any l m (by omega)]
    cases cfin p <;> cases fin x <;> simp
  | [], _ :: _, h => by simp at h
  | _ :: _, [], h => by simp at h
theorem is_valid (l : List (Nat × Nat)) (m : List Nat) : ((decide (2 ≤ l.length) && decide (l.length ≤ 48)) && (decide (m.length = l.length) && pfin l m)) = validS l m := by
  unfold validS
  by_cases h : m.length = l.length
  · rw [pfin_any l m h]
  · rw [decide_eq_false h]
    simp
/-- spec.l03Give. -/
def l03Give.f (l0_0 : List (Nat × Nat)) (l0_1 : List Nat) (a0_2 : Bool) : Option (List (Nat × Nat) × List Nat × Bool × Bool) := some (if validS l0_0 l0_1 = true then (l0_0, l0_1, a0_2, true) else ([], [], false, false))
theorem cell_first (w : World) (c : Array Value) (t : TypeId) (o2 : Obj) (i : Nat) : ((w.alloc (.cells c t)).alloc o2).cell? ⟨w.heap.size, i, none⟩ = c[i]? := by
  have h : ((w.alloc (.cells c t)).alloc o2).heap[w.heap.size]? = some (.cells c t) := (heap_alloc_old (w.alloc _) o2 (by simp)).trans (heap_alloc_new w _)
  unfold World.cell?
  rw [h]
  rfl
set_option maxHeartbeats 8000000 in
set_option maxRecDepth 100000 in
theorem l03Give.calls (P0_0_ : Nat → Prop) (u9000_ : Value) (l0_0 : List (Nat × Nat)) (P0_1_ : Nat → Prop) (u9001_ : Value) (l0_1 : List Nat) (a0_2 : Bool) (r1 : List (Nat × Nat)) (r2 : List Nat) (r3 : Bool) (r4 : Bool) (w0 w : World) (hB : Below w0.heap.size w0 w) (ho0_0 : Kd.R (Kd.complex .f32) 67 w w0.heap.size P0_0_ u9000_ l0_0) (ho0_1 : Kd.R (Kd.float .f32) 68 w w0.heap.size P0_1_ u9001_ l0_1) (h : l03Give.f l0_0 l0_1 a0_2 = some (r1, r2, r3, r4)) :
    Calls Tryd.prog 75 #[.agg #[u9000_, u9001_, .bool a0_2]] w fun e w' => ∃ v0_ v1_ : Value, e = .returned (.tuple #[.agg #[v0_, v1_, .bool r3], .bool r4]) ∧ Kd.R (Kd.complex .f32) 67 w' w0.heap.size (fun k_ => ((P0_0_ k_ ∨ P0_1_ k_) ∨ w.heap.size ≤ k_)) v0_ r1 ∧ Kd.R (Kd.float .f32) 68 w' w0.heap.size (fun k_ => ((P0_0_ k_ ∨ P0_1_ k_) ∨ w.heap.size ≤ k_)) v1_ r2 ∧ Below w0.heap.size w0 w' ∧ Kept w w' (fun k_ => P0_0_ k_ ∨ P0_1_ k_) := by
  replace h := Option.some.inj h
  obtain ⟨A, c, rfl⟩ := Kd.R_slice ho0_0
  obtain ⟨A1, c1, rfl⟩ := Kd.R_slice ho0_1
  have hle := (Kd.R_reads' ho0_0).2.1
  have hC := (Kd.R_reads' ho0_0).2.2
  have hle1 := (Kd.R_reads' ho0_1).2.1
  have hC1 := (Kd.R_reads' ho0_1).2.2
  have HB := Aside0.mk hB
  have HO := Aside0.mk (Kd.R_mono ho0_0 (ok' := fun k_ => ((P0_0_ k_ ∨ P0_1_ k_) ∨ w.heap.size ≤ k_)) (fun k_ hk => (.inl (.inl hk))))
  have HP := Aside0.mk (Kd.R_mono ho0_1 (ok' := fun k_ => ((P0_0_ k_ ∨ P0_1_ k_) ∨ w.heap.size ≤ k_)) (fun k_ hk => (.inl (.inr hk))))
  have HK := Aside0.mk (Kept.refl w (fun k_ => P0_0_ k_ ∨ P0_1_ k_))
  have HW := Aside0.mk HB.out.size
  clear hB ho0_0 ho0_1
  cases e : validS l0_0 l0_1 with
  | false =>
    rw [e, if_neg (by decide)] at h
    simp only [Prod.mk.injEq] at h
    obtain ⟨rfl, rfl, rfl, rfl⟩ := h
    go_enter Tryd.func75, Tryd.ntmps75
    go_wp2_with (first | (go_at_call 99; refine (l03Is_at w.heap.size A c l0_0 A1 c1 l0_1 _ (by exact cell_first _ _ _ _ 0) (by exact cell_first _ _ _ _ 1) hle (Kd.C_alloc (Kd.C_alloc hC _) _) hle1 (Kd.C_alloc (Kd.C_alloc hC1 _) _) _ ((is_valid l0_0 l0_1).trans e)).mono ?_; rintro e w1 ⟨rfl, hb⟩; have BK := Aside0.mk (blk_below (g := w.heap.size + 1) (o := .cells #[.slice none 0 0, .slice none 0 0, .bool false] 43 (0, 0)) (heap_two _ _ _) hb); have BT := Aside0.mk (blk_below (g := w.heap.size) (o := .cells #[.slice A l0_0.length c, .slice A1 l0_1.length c1, .bool a0_2] 43 (0, 0)) (blk_alloc (heap_alloc_new _ _) _) hb); have HO1 := Aside0.mk (Kd.R_below (Kd.R_alloc (Kd.R_alloc HO.out _) _) hb); have HP1 := Aside0.mk (Kd.R_below (Kd.R_alloc (Kd.R_alloc HP.out _) _) hb); have HB1 := Aside0.mk (below_step (below_alloc (below_alloc HB.out _) _) hb); have HK1 := Aside0.mk (Kept.below (Kept.alloc (Kept.alloc HK.out _) _) hb); clear hb; have f0 : w1.cell? ⟨w.heap.size, 0, none⟩ = some (.slice A l0_0.length c) := (blk_cell BT.out 0).trans rfl; have f1 : w1.cell? ⟨w.heap.size, 1, none⟩ = some (.slice A1 l0_1.length c1) := (blk_cell BT.out 1).trans rfl; have f2 : w1.cell? ⟨w.heap.size, 2, none⟩ = some (.bool a0_2) := (blk_cell BT.out 2).trans rfl; have z0 : w1.cell? ⟨w.heap.size + 1, 0, none⟩ = some (.slice none 0 0) := (blk_cell BK.out 0).trans rfl; have z1 : w1.cell? ⟨w.heap.size + 1, 1, none⟩ = some (.slice none 0 0) := (blk_cell BK.out 1).trans rfl; have z2 : w1.cell? ⟨w.heap.size + 1, 2, none⟩ = some (.bool false) := (blk_cell BK.out 2).trans rfl; have y0 := blk_frozen BK.out 0; have y1 := blk_frozen BK.out 1; have y2 := blk_frozen BK.out 2))
    refine bodyPost_ret (results_ct rfl _ _ (w.heap.size + 1) 43 #[.slice none 0 0, .slice none 0 0, .bool false] (0, 0) _ rfl (by refine blk_put (cs := #[.slice none 0 0, .slice none 0 0, .bool false]) ?_ 2 _ rfl; refine blk_put (cs := #[.slice none 0 0, .slice none 0 0, .bool false]) ?_ 1 _ rfl; refine blk_put (cs := #[.slice none 0 0, .slice none 0 0, .bool false]) ?_ 0 _ rfl; exact BK.out) Tryd.underlying43 rfl (by kernel_rfl)) rfl ?_
    exact ⟨_, _, rfl, Kd.R_nil _ _ _ _ _, Kd.R_nil _ _ _ _ _, by repeat (first | exact HB1.out | refine below_set ?_ (show w0.heap.size ≤ w.heap.size + 1 by have := HW.out; omega)), by repeat (first | exact HK1.out | refine Kept.setCell ?_ (.inr (Nat.le_succ _)) _)⟩
  | true =>
    rw [e, if_pos rfl] at h
    simp only [Prod.mk.injEq] at h
    obtain ⟨rfl, rfl, rfl, rfl⟩ := h
    go_enter Tryd.func75, Tryd.ntmps75
    go_wp2_with (first | (go_at_call 99; refine (l03Is_at w.heap.size A c l0_0 A1 c1 l0_1 _ (by exact cell_first _ _ _ _ 0) (by exact cell_first _ _ _ _ 1) hle (Kd.C_alloc (Kd.C_alloc hC _) _) hle1 (Kd.C_alloc (Kd.C_alloc hC1 _) _) _ ((is_valid l0_0 l0_1).trans e)).mono ?_; rintro e w1 ⟨rfl, hb⟩; have BK := Aside0.mk (blk_below (g := w.heap.size + 1) (o := .cells #[.slice none 0 0, .slice none 0 0, .bool false] 43 (0, 0)) (heap_two _ _ _) hb); have BT := Aside0.mk (blk_below (g := w.heap.size) (o := .cells #[.slice A l0_0.length c, .slice A1 l0_1.length c1, .bool a0_2] 43 (0, 0)) (blk_alloc (heap_alloc_new _ _) _) hb); have HO1 := Aside0.mk (Kd.R_below (Kd.R_alloc (Kd.R_alloc HO.out _) _) hb); have HP1 := Aside0.mk (Kd.R_below (Kd.R_alloc (Kd.R_alloc HP.out _) _) hb); have HB1 := Aside0.mk (below_step (below_alloc (below_alloc HB.out _) _) hb); have HK1 := Aside0.mk (Kept.below (Kept.alloc (Kept.alloc HK.out _) _) hb); clear hb; have f0 : w1.cell? ⟨w.heap.size, 0, none⟩ = some (.slice A l0_0.length c) := (blk_cell BT.out 0).trans rfl; have f1 : w1.cell? ⟨w.heap.size, 1, none⟩ = some (.slice A1 l0_1.length c1) := (blk_cell BT.out 1).trans rfl; have f2 : w1.cell? ⟨w.heap.size, 2, none⟩ = some (.bool a0_2) := (blk_cell BT.out 2).trans rfl; have z0 : w1.cell? ⟨w.heap.size + 1, 0, none⟩ = some (.slice none 0 0) := (blk_cell BK.out 0).trans rfl; have z1 : w1.cell? ⟨w.heap.size + 1, 1, none⟩ = some (.slice none 0 0) := (blk_cell BK.out 1).trans rfl; have z2 : w1.cell? ⟨w.heap.size + 1, 2, none⟩ = some (.bool false) := (blk_cell BK.out 2).trans rfl; have y0 := blk_frozen BK.out 0; have y1 := blk_frozen BK.out 1; have y2 := blk_frozen BK.out 2))
    refine bodyPost_ret (results_ct rfl _ _ (w.heap.size + 1) 43 #[.slice A l0_0.length c, .slice A1 l0_1.length c1, .bool a0_2] (0, 0) _ rfl (by refine blk_put (cs := #[.slice A l0_0.length c, .slice A1 l0_1.length c1, .bool false]) ?_ 2 _ rfl; refine blk_put (cs := #[.slice A l0_0.length c, .slice none 0 0, .bool false]) ?_ 1 _ rfl; refine blk_put (cs := #[.slice none 0 0, .slice none 0 0, .bool false]) ?_ 0 _ rfl; exact BK.out) Tryd.underlying43 rfl (by kernel_rfl)) rfl ?_
    exact ⟨_, _, rfl, Kd.R_mono (Kd.R_far (p := ⟨w.heap.size + 1, 2, none⟩) (Kd.R_far (p := ⟨w.heap.size + 1, 1, none⟩) (Kd.R_far (p := ⟨w.heap.size + 1, 0, none⟩) (Kd.R_types HO1.out BK.out (by decide)) (fun _ hk => hk.2) (.slice A l0_0.length c)) (fun _ hk => hk.2) (.slice A1 l0_1.length c1)) (fun _ hk => hk.2) (.bool a0_2)) (fun _ hk => hk.1), Kd.R_mono (Kd.R_far (p := ⟨w.heap.size + 1, 2, none⟩) (Kd.R_far (p := ⟨w.heap.size + 1, 1, none⟩) (Kd.R_far (p := ⟨w.heap.size + 1, 0, none⟩) (Kd.R_types HP1.out BK.out (by decide)) (fun _ hk => hk.2) (.slice A l0_0.length c)) (fun _ hk => hk.2) (.slice A1 l0_1.length c1)) (fun _ hk => hk.2) (.bool a0_2)) (fun _ hk => hk.1), by repeat (first | exact HB1.out | refine below_set ?_ (show w0.heap.size ≤ w.heap.size + 1 by have := HW.out; omega)), by repeat (first | exact HK1.out | refine Kept.setCell ?_ (.inr (Nat.le_succ _)) _)⟩
end XV
end Go.Proofs.YtifegijnfnjboaaDoor
