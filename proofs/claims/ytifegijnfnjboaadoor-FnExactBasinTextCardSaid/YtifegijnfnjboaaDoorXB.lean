/- Basins: a basin's validity by closures; the reference's l04Is at an address, and l04Give, which hands a basin back if it is one. -/
import Derived.Test.YtifegijnfnjboaaDoorXW
set_option linter.unusedVariables false
set_option linter.unusedSimpArgs false
namespace Go.Proofs.YtifegijnfnjboaaDoor
open Go.RowKit Go.Proofs.YtifegijnfnjboaaDoorW.PrintWords Go.Proofs.YtifegijnfnjboaaDoorW.PrintLast Go.Proofs.YtifegijnfnjboaaDoorW.PrintMore
attribute [local go_sem] max2_int min2_int max_two min_two max_three min_three max_four min_four   -- for this text's walks alone
namespace XB
open XF XL XW FA
set_option maxHeartbeats 4000000 in
set_option maxRecDepth 100000 in
theorem in57 (a b c : Int) (w : World) : Calls Tryd.prog 57 #[.int .i64 a, .int .i64 b, .int .i64 c] w fun e w' => e = .returned (.bool (decide (b ≤ a) && decide (a ≤ c))) ∧ Drawn0 w w' := by
  by_cases h : b ≤ a
  · have hd : decide (b ≤ a) = true := decide_eq_true h
    rw [hd, Bool.true_and]
    go_enter Tryd.func57, Tryd.ntmps57
    go_wp2
    go_ret
    exact ⟨by first | rfl | (simp; done), by first | exact Drawn0.refl _ | exact ⟨_, rfl⟩⟩
  · have hd : decide (b ≤ a) = false := decide_eq_false h
    rw [hd, Bool.false_and]
    go_enter Tryd.func57, Tryd.ntmps57
    go_wp2
    go_ret
    exact ⟨by first | rfl | (simp; done), by first | exact Drawn0.refl _ | exact ⟨_, rfl⟩⟩
set_option maxHeartbeats 4000000 in
set_option maxRecDepth 100000 in
theorem in78 (a b c : Int) (w : World) : Calls Tryd.prog 78 #[.int .i64 a, .int .i64 b, .int .i64 c] w fun e w' => e = .returned (.bool (decide (b ≤ a) && decide (a ≤ c))) ∧ Drawn0 w w' := by
  by_cases h : b ≤ a
  · have hd : decide (b ≤ a) = true := decide_eq_true h
    rw [hd, Bool.true_and]
    go_enter Tryd.func78, Tryd.ntmps78
    go_wp2
    go_ret
    exact ⟨by first | rfl | (simp; done), by first | exact Drawn0.refl _ | exact ⟨_, rfl⟩⟩
  · have hd : decide (b ≤ a) = false := decide_eq_false h
    rw [hd, Bool.false_and]
    go_enter Tryd.func78, Tryd.ntmps78
    go_wp2
    go_ret
    exact ⟨by first | rfl | (simp; done), by first | exact Drawn0.refl _ | exact ⟨_, rfl⟩⟩
def side (n : Int) : Bool := decide (3 ≤ n) && decide (n ≤ 16)
set_option maxHeartbeats 4000000 in
set_option maxRecDepth 100000 in
theorem sideOk55 (a : Int) (w : World) : Calls Tryd.prog 55 #[.int .i64 a] w fun e w' => e = .returned (.bool (side a)) ∧ Drawn0 w w' := by
  unfold side
  go_enter Tryd.func55, Tryd.ntmps55
  go_wp2_with (first | (go_at_call 57; refine (in57 _ _ _ _).mono ?_; rintro e w2 ⟨rfl, ⟨nd, rfl⟩⟩))
  go_ret
  exact ⟨by first | rfl | (simp; done), ⟨_, rfl⟩⟩
set_option maxHeartbeats 4000000 in
set_option maxRecDepth 100000 in
theorem l04Size51 (a b : Int) (w : World) : Calls Tryd.prog 51 #[.int .i64 a, .int .i64 b] w fun e w' => e = .returned (.bool (side a && side b)) ∧ Drawn0 w w' := by
  cases e1 : side a with
  | false =>
    have e1a : (decide ((3 : Int) ≤ a) && decide (a ≤ (16 : Int))) = false := e1
    go_enter Tryd.func51, Tryd.ntmps51
    go_wp2_with (first | (go_at_call 78; refine (in78 _ _ _ _).mono ?_; rw [e1a]; rintro e w2 ⟨rfl, ⟨nd, rfl⟩⟩))
    go_ret
    exact ⟨by first | rfl | (simp; done), ⟨_, rfl⟩⟩
  | true =>
    have e1a : (decide ((3 : Int) ≤ a) && decide (a ≤ (16 : Int))) = true := e1
    unfold side
    go_enter Tryd.func51, Tryd.ntmps51
    go_wp2_with (first | (go_at_call 78; (with_reducible refine (in78 a 3 16 _).mono ?_); rw [e1a]; rintro e w2 ⟨rfl, ⟨nd, rfl⟩⟩) | (go_at_call 78; (with_reducible refine (in78 b 3 16 _).mono ?_); rintro e w2 ⟨rfl, ⟨nd2, rfl⟩⟩))
    go_ret
    exact ⟨by first | rfl | (simp; done), ⟨_, rfl⟩⟩
/-- impl.ValidBasin. -/
def validB (a b : Int) (l : List Nat) : Bool := (side a && side b) && (decide ((l.length : Int) = a * b) && !(l.any fun x => !fin x))
def ValidBasin.f (a0_0 a0_1 : Int) (l0_2 : List Nat) : Option Bool := some (validB a0_0 a0_1 l0_2)
theorem cell_n1 (w : World) (c : Array Value) (t : TypeId) (i : Nat) : (w.alloc (.cells c t)).cell? ⟨w.heap.size, i, none⟩ = c[i]? := by
  unfold World.cell?
  rw [heap_alloc_new]
  rfl
theorem side_b {a : Int} (h : side a = true) : 3 ≤ a ∧ a ≤ 16 := by
  unfold side at h
  simpa using h
theorem mul_b {a b : Int} (ha : side a = true) (hb : side b = true) : 0 ≤ a * b ∧ a * b ≤ 256 := by
  obtain ⟨h1, h2⟩ := side_b ha
  obtain ⟨h3, h4⟩ := side_b hb
  obtain ⟨m, rfl⟩ : ∃ m : Nat, a = m := ⟨a.toNat, by omega⟩
  obtain ⟨n, rfl⟩ : ∃ n : Nat, b = n := ⟨b.toNat, by omega⟩
  have hm : m ≤ 16 := by omega
  have hn : n ≤ 16 := by omega
  have := Nat.mul_le_mul hm hn
  have e : (m : Int) * (n : Int) = ((m * n : Nat) : Int) := by simp
  rw [e]
  omega
set_option maxHeartbeats 4000000 in
set_option maxRecDepth 100000 in
theorem ValidBasin.calls (a0_0 a0_1 : Int) (A0_2 : Option Addr) (c0_2 : Nat) (l0_2 : List Nat) (r : Bool) (w : World) (hr0_2 : Kd.C (Kd.float .f32) w A0_2 l0_2.length l0_2) (hc0_2 : l0_2.length ≤ c0_2) (h : ValidBasin.f a0_0 a0_1 l0_2 = some r) :
    Calls Tryd.prog 30 #[.agg #[.int .i64 a0_0, .int .i64 a0_1, .slice A0_2 l0_2.length c0_2]] w fun e w' => e = .returned (.bool r) ∧ Below w.heap.size w w' := by
  obtain rfl := Option.some.inj h
  unfold validB
  cases e1 : side a0_0 with
  | false =>
    go_enter Tryd.func30, Tryd.ntmps30
    go_wp2_with (first | (go_at_call 55; (with_reducible refine (sideOk55 a0_0 _).mono ?_); rw [e1]; rintro e w2 ⟨rfl, ⟨nd, rfl⟩⟩))
    go_ret
    exact ⟨by first | rfl | (simp; done), by repeat (first | exact Below.refl _ _ | apply pw_below_drewN | apply below_alloc)⟩
  | true =>
    cases e2 : side a0_1 with
    | false =>
      go_enter Tryd.func30, Tryd.ntmps30
      go_wp2_with (first | (go_at_call 55; (with_reducible refine (sideOk55 a0_0 _).mono ?_); rw [e1]; rintro e w2 ⟨rfl, ⟨nd, rfl⟩⟩) | (go_at_call 55; (with_reducible refine (sideOk55 a0_1 _).mono ?_); rw [e2]; rintro e w2 ⟨rfl, ⟨nd2, rfl⟩⟩))
      go_ret
      exact ⟨by first | rfl | (simp; done), by repeat (first | exact Below.refl _ _ | apply pw_below_drewN | apply below_alloc)⟩
    | true =>
      have hm := mul_b e1 e2
      have hwr : IntKind.i64.wrap (a0_0 * a0_1) = a0_0 * a0_1 := by rw [IntKind.wrap_i64]; omega
      by_cases c3 : (l0_2.length : Int) = a0_0 * a0_1
      · have c3a : ((l0_2.length : Int) == a0_0 * a0_1) = true := by rw [c3]; simp
        rw [decide_eq_true c3]
        have C3 := Aside0.mk c3
        clear c3 hm
        go_enter Tryd.func30, Tryd.ntmps30
        go_wp2_with (first | (go_at_call 55; (with_reducible refine (sideOk55 a0_0 _).mono ?_); rw [e1]; rintro e w2 ⟨rfl, ⟨nd, rfl⟩⟩) | (go_at_call 55; (with_reducible refine (sideOk55 a0_1 _).mono ?_); rw [e2]; rintro e w2 ⟨rfl, ⟨nd2, rfl⟩⟩) | (go_at_call 56; refine (finitef _ _ _ _ (by (with_reducible repeat (first | refine Kd.C_drewN ?_ _ | refine Kd.C_alloc ?_ _)); exact hr0_2) hc0_2).mono ?_; rintro e w1 ⟨rfl, ⟨nd3, rfl⟩⟩))
        go_ret
        exact ⟨by first | rfl | (simp; done), by repeat (first | exact Below.refl _ _ | apply pw_below_drewN | apply below_alloc)⟩
      · have c3a : ((l0_2.length : Int) == a0_0 * a0_1) = false := beq_eq_false_iff_ne.mpr c3
        rw [decide_eq_false c3]
        clear c3 hm
        go_enter Tryd.func30, Tryd.ntmps30
        go_wp2_with (first | (go_at_call 55; (with_reducible refine (sideOk55 a0_0 _).mono ?_); rw [e1]; rintro e w2 ⟨rfl, ⟨nd, rfl⟩⟩) | (go_at_call 55; (with_reducible refine (sideOk55 a0_1 _).mono ?_); rw [e2]; rintro e w2 ⟨rfl, ⟨nd2, rfl⟩⟩))
        go_ret
        exact ⟨by first | rfl | (simp; done), by repeat (first | exact Below.refl _ _ | apply pw_below_drewN | apply below_alloc)⟩
set_option maxHeartbeats 8000000 in
set_option maxRecDepth 100000 in
theorem l04Is_at (g : Nat) (a b : Int) (A : Option Addr) (c : Nat) (l : List Nat) (w : World) (f0 : w.cell? ⟨g, 0, none⟩ = some (.int .i64 a)) (f1 : w.cell? ⟨g, 1, none⟩ = some (.int .i64 b)) (f2 : w.cell? ⟨g, 2, none⟩ = some (.slice A l.length c)) (hle : l.length ≤ c) (hC : Kd.C (Kd.float .f32) w A l.length l) (r : Bool) (hr : validB a b l = r) :
    Calls Tryd.prog 27 #[.pointer (some ⟨g, 0, none⟩)] w fun e w' => e = .returned (.bool r) ∧ Drawn0 w w' := by
  have HC := Aside0.mk hC
  clear hC
  have hmx : l.length ≤ 9223372036854775807 := Kd.C_max HC.out
  unfold validB at hr
  cases e1 : (side a && side b) with
  | false =>
    rw [e1, Bool.false_and] at hr
    subst hr
    go_enter Tryd.func27, Tryd.ntmps27
    go_wp2_with (first | (go_at_call 51; (with_reducible refine (l04Size51 a b _).mono ?_); rw [e1]; rintro e w2 ⟨rfl, ⟨nd, rfl⟩⟩; (try first | exact ⟨rfl, _, World.drewN_drewN _ _ _⟩ | exact ⟨rfl, _, Eq.trans (World.drewN_drewN _ _ _) (congrArg (World.drewN _) (Nat.add_assoc _ _ _))⟩)))
    repeat (go_quiet (first | (go_at_call 51; (with_reducible refine (l04Size51 a b _).mono ?_); rw [e1]; rintro e w2 ⟨rfl, ⟨nd, rfl⟩⟩; (try first | exact ⟨rfl, _, World.drewN_drewN _ _ _⟩ | exact ⟨rfl, _, Eq.trans (World.drewN_drewN _ _ _) (congrArg (World.drewN _) (Nat.add_assoc _ _ _))⟩))); try go_wp2_with (first | (go_at_call 51; (with_reducible refine (l04Size51 a b _).mono ?_); rw [e1]; rintro e w2 ⟨rfl, ⟨nd, rfl⟩⟩; (try first | exact ⟨rfl, _, World.drewN_drewN _ _ _⟩ | exact ⟨rfl, _, Eq.trans (World.drewN_drewN _ _ _) (congrArg (World.drewN _) (Nat.add_assoc _ _ _))⟩))))
    go_ret
    exact ⟨rfl, ⟨_, rfl⟩⟩
  | true =>
    rw [e1, Bool.true_and] at hr
    have e1' := e1
    rw [Bool.and_eq_true] at e1'
    have hm := mul_b e1'.1 e1'.2
    have hwr : IntKind.i64.wrap (a * b) = a * b := by rw [IntKind.wrap_i64]; omega
    clear e1'
    by_cases c3 : (l.length : Int) = a * b
    · have c3a : ((l.length : Int) != a * b) = false := bne_eq_false_iff_eq.mpr c3
      rw [decide_eq_true c3, Bool.true_and] at hr
      have HR := Aside0.mk hr
      clear hr c3 hm
      go_enter Tryd.func27, Tryd.ntmps27
      go_wp2_with (first | (go_at_call 51; (with_reducible refine (l04Size51 a b _).mono ?_); rw [e1]; rintro e w2 ⟨rfl, ⟨nd, rfl⟩⟩; (try first | exact ⟨rfl, _, World.drewN_drewN _ _ _⟩ | exact ⟨rfl, _, Eq.trans (World.drewN_drewN _ _ _) (congrArg (World.drewN _) (Nat.add_assoc _ _ _))⟩)))
      repeat (go_quiet (first | (go_at_call 51; (with_reducible refine (l04Size51 a b _).mono ?_); rw [e1]; rintro e w2 ⟨rfl, ⟨nd, rfl⟩⟩; (try first | exact ⟨rfl, _, World.drewN_drewN _ _ _⟩ | exact ⟨rfl, _, Eq.trans (World.drewN_drewN _ _ _) (congrArg (World.drewN _) (Nat.add_assoc _ _ _))⟩))); try go_wp2_with (first | (go_at_call 51; (with_reducible refine (l04Size51 a b _).mono ?_); rw [e1]; rintro e w2 ⟨rfl, ⟨nd, rfl⟩⟩; (try first | exact ⟨rfl, _, World.drewN_drewN _ _ _⟩ | exact ⟨rfl, _, Eq.trans (World.drewN_drewN _ _ _) (congrArg (World.drewN _) (Nat.add_assoc _ _ _))⟩))))
      go_loopg [3] l.length (fun kq v3 w' => ∃ (i : Nat), v3 = .int .i64 (i : Int) ∧ Aside0 (i + kq = l.length) ∧ Aside0 ((!((l.drop i).any fun x => !fin x)) = r) ∧ Drawn0 w w')
      case atStart => exact ⟨0, rfl, ⟨by simp⟩, HR, ⟨_, rfl⟩⟩
      case round =>
        clear HR
        obtain ⟨i, rfl, HI, HX, ⟨m, rfl⟩⟩ := hrel
        have hi := HI.out
        have hx0 := HX.out
        cases gk with
        | zero =>
          have hc : decide ((i : Int) < (l.length : Int)) = false := by simp; omega
          rw [List.drop_eq_nil_of_le (by omega)] at hx0
          replace hx0 : true = r := hx0
          subst hx0
          go_wp2
          go_ret
          exact ⟨rfl, ⟨_, rfl⟩⟩
        | succ k1 =>
          have hil : i < l.length := by omega
          have hc : decide ((i : Int) < (l.length : Int)) = true := by simp; omega
          have p0 : (0 : Int) ≤ (i : Int) := by omega
          have q0 : (i : Int) < (l.length : Int) := by omega
          obtain ⟨ae, ead, hx_0⟩ := Kd.at_float HC.out (i : Int) p0 q0
          cases ead
          rw [Int.toNat_natCast, show rdOf (0 : Nat) l (i : Int) = l[i] by simp [rdOf, hil]] at hx_0
          rw [List.drop_eq_getElem_cons hil, List.any_cons] at hx0
          generalize l[i] = x at hx_0 hx0
          have p0b := eq_true p0
          have q0b := eq_true q0
          cases e : fin x with
          | false =>
            rw [e] at hx0
            replace hx0 : false = r := by simpa using hx0
            subst hx0
            go_wp2_with (first | (go_at_call 52; refine (l01Finite.calls _ _ _ rfl).mono ?_; rw [e]; rintro e w1 ⟨rfl, ⟨nd2, rfl⟩⟩))
            go_ret
            exact ⟨rfl, ⟨_, rfl⟩⟩
          | true =>
            rw [e] at hx0
            replace hx0 : (!((l.drop (i + 1)).any fun x => !fin x)) = r := by simpa using hx0
            go_wp2_with (first | (go_at_call 52; refine (l01Finite.calls _ _ _ rfl).mono ?_; rw [e]; rintro e w1 ⟨rfl, ⟨nd2, rfl⟩⟩))
            go_roundg k1
            case measure => omega
            case rel => exact ⟨i + 1, rfl, ⟨by omega⟩, ⟨hx0⟩, ⟨_, rfl⟩⟩
    · have c3a : ((l.length : Int) != a * b) = true := bne_iff_ne.mpr c3
      rw [decide_eq_false c3, Bool.false_and] at hr
      subst hr
      clear c3 hm
      go_enter Tryd.func27, Tryd.ntmps27
      go_wp2_with (first | (go_at_call 51; (with_reducible refine (l04Size51 a b _).mono ?_); rw [e1]; rintro e w2 ⟨rfl, ⟨nd, rfl⟩⟩; (try first | exact ⟨rfl, _, World.drewN_drewN _ _ _⟩ | exact ⟨rfl, _, Eq.trans (World.drewN_drewN _ _ _) (congrArg (World.drewN _) (Nat.add_assoc _ _ _))⟩)))
      repeat (go_quiet (first | (go_at_call 51; (with_reducible refine (l04Size51 a b _).mono ?_); rw [e1]; rintro e w2 ⟨rfl, ⟨nd, rfl⟩⟩; (try first | exact ⟨rfl, _, World.drewN_drewN _ _ _⟩ | exact ⟨rfl, _, Eq.trans (World.drewN_drewN _ _ _) (congrArg (World.drewN _) (Nat.add_assoc _ _ _))⟩))); try go_wp2_with (first | (go_at_call 51; (with_reducible refine (l04Size51 a b _).mono ?_); rw [e1]; rintro e w2 ⟨rfl, ⟨nd, rfl⟩⟩; (try first | exact ⟨rfl, _, World.drewN_drewN _ _ _⟩ | exact ⟨rfl, _, Eq.trans (World.drewN_drewN _ _ _) (congrArg (World.drewN _) (Nat.add_assoc _ _ _))⟩))))
      go_ret
      exact ⟨rfl, ⟨_, rfl⟩⟩
theorem cell_first (w : World) (c : Array Value) (t : TypeId) (o2 : Obj) (i : Nat) : ((w.alloc (.cells c t)).alloc o2).cell? ⟨w.heap.size, i, none⟩ = c[i]? := by
  have h : ((w.alloc (.cells c t)).alloc o2).heap[w.heap.size]? = some (.cells c t) := (heap_alloc_old (w.alloc _) o2 (by simp)).trans (heap_alloc_new w _)
  unfold World.cell?
  rw [h]
  rfl
/-- spec.l04Give. -/
def l04Give.f (a0_0 a0_1 : Int) (l0_2 : List Nat) : Option (Int × Int × List Nat × Bool) := some (if validB a0_0 a0_1 l0_2 = true then (a0_0, a0_1, l0_2, true) else (0, 0, [], false))
set_option maxHeartbeats 8000000 in
set_option maxRecDepth 100000 in
theorem l04Give.calls (a0_0 : Int) (a0_1 : Int) (P0_2_ : Nat → Prop) (u9000_ : Value) (l0_2 : List Nat) (r1 : Int) (r2 : Int) (r3 : List Nat) (r4 : Bool) (w0 w : World) (hB : Below w0.heap.size w0 w) (ho0_2 : Kd.R (Kd.float .f32) 68 w w0.heap.size P0_2_ u9000_ l0_2) (h : l04Give.f a0_0 a0_1 l0_2 = some (r1, r2, r3, r4)) :
    Calls Tryd.prog 65 #[.agg #[.int .i64 a0_0, .int .i64 a0_1, u9000_]] w fun e w' => ∃ v2_ : Value, e = .returned (.tuple #[.agg #[.int .i64 r1, .int .i64 r2, v2_], .bool r4]) ∧ Kd.R (Kd.float .f32) 68 w' w0.heap.size (fun k_ => (P0_2_ k_ ∨ w.heap.size ≤ k_)) v2_ r3 ∧ Below w0.heap.size w0 w' ∧ Kept w w' (fun k_ => P0_2_ k_) := by
  replace h := Option.some.inj h
  obtain ⟨A, c, rfl⟩ := Kd.R_slice ho0_2
  have hle := (Kd.R_reads' ho0_2).2.1
  have hC := (Kd.R_reads' ho0_2).2.2
  have HB := Aside0.mk hB
  have HO := Aside0.mk (Kd.R_mono ho0_2 (ok' := fun k_ => (P0_2_ k_ ∨ w.heap.size ≤ k_)) (fun k_ hk => (.inl hk)))
  have HK := Aside0.mk (Kept.refl w (fun k_ => P0_2_ k_))
  have HW := Aside0.mk HB.out.size
  clear hB ho0_2
  cases e : validB a0_0 a0_1 l0_2 with
  | false =>
    rw [e, if_neg (by decide)] at h
    simp only [Prod.mk.injEq] at h
    obtain ⟨rfl, rfl, rfl, rfl⟩ := h
    have HB1 := Aside0.mk (below_alloc (below_alloc HB.out (.cells #[.int .i64 a0_0, .int .i64 a0_1, .slice A l0_2.length c] 28)) (.cells #[.int .i64 0, .int .i64 0, .slice none 0 0] 28))
    have HK1 := Aside0.mk (Kept.alloc (Kept.alloc HK.out (.cells #[.int .i64 a0_0, .int .i64 a0_1, .slice A l0_2.length c] 28)) (.cells #[.int .i64 0, .int .i64 0, .slice none 0 0] 28))
    go_enter Tryd.func65, Tryd.ntmps65
    go_wp2_with (first | (go_at_call 27; refine (l04Is_at w.heap.size a0_0 a0_1 A c l0_2 _ (by exact cell_first _ _ _ _ 0) (by exact cell_first _ _ _ _ 1) (by exact cell_first _ _ _ _ 2) hle (Kd.C_alloc (Kd.C_alloc hC _) _) _ e).mono ?_; rintro e w1 ⟨rfl, ⟨nd, rfl⟩⟩))
    refine bodyPost_ret (results_ct rfl _ _ (w.heap.size + 1) 28 #[.int .i64 0, .int .i64 0, .slice none 0 0] (0, 0) _ rfl (by refine blk_put (cs := #[.int .i64 0, .int .i64 0, .slice none 0 0]) ?_ 2 _ rfl; refine blk_put (cs := #[.int .i64 0, .int .i64 0, .slice none 0 0]) ?_ 1 _ rfl; refine blk_put (cs := #[.int .i64 0, .int .i64 0, .slice none 0 0]) ?_ 0 _ rfl; exact blk_drewN (heap_two _ _ _) _) Tryd.underlying28 rfl (by kernel_rfl)) rfl ?_
    exact ⟨_, rfl, Kd.R_nil _ _ _ _ _, by repeat (first | exact HB1.out | refine below_set ?_ (show w0.heap.size ≤ w.heap.size + 1 by have := HW.out; omega) | apply pw_below_drewN), by repeat (first | exact HK1.out | refine Kept.setCell ?_ (.inr (Nat.le_succ _)) _ | apply Kept.drewN)⟩
  | true =>
    rw [e, if_pos rfl] at h
    simp only [Prod.mk.injEq] at h
    obtain ⟨rfl, rfl, rfl, rfl⟩ := h
    have HO1 := Aside0.mk (Kd.R_alloc (Kd.R_alloc HO.out (.cells #[.int .i64 a0_0, .int .i64 a0_1, .slice A l0_2.length c] 28)) (.cells #[.int .i64 0, .int .i64 0, .slice none 0 0] 28))
    have HB1 := Aside0.mk (below_alloc (below_alloc HB.out (.cells #[.int .i64 a0_0, .int .i64 a0_1, .slice A l0_2.length c] 28)) (.cells #[.int .i64 0, .int .i64 0, .slice none 0 0] 28))
    have HK1 := Aside0.mk (Kept.alloc (Kept.alloc HK.out (.cells #[.int .i64 a0_0, .int .i64 a0_1, .slice A l0_2.length c] 28)) (.cells #[.int .i64 0, .int .i64 0, .slice none 0 0] 28))
    go_enter Tryd.func65, Tryd.ntmps65
    go_wp2_with (first | (go_at_call 27; refine (l04Is_at w.heap.size a0_0 a0_1 A c l0_2 _ (by exact cell_first _ _ _ _ 0) (by exact cell_first _ _ _ _ 1) (by exact cell_first _ _ _ _ 2) hle (Kd.C_alloc (Kd.C_alloc hC _) _) _ e).mono ?_; rintro e w1 ⟨rfl, ⟨nd, rfl⟩⟩))
    refine bodyPost_ret (results_ct rfl _ _ (w.heap.size + 1) 28 #[.int .i64 a0_0, .int .i64 a0_1, .slice A l0_2.length c] (0, 0) _ rfl (by refine blk_put (cs := #[.int .i64 a0_0, .int .i64 a0_1, .slice none 0 0]) ?_ 2 _ rfl; refine blk_put (cs := #[.int .i64 a0_0, .int .i64 0, .slice none 0 0]) ?_ 1 _ rfl; refine blk_put (cs := #[.int .i64 0, .int .i64 0, .slice none 0 0]) ?_ 0 _ rfl; exact blk_drewN (heap_two _ _ _) _) Tryd.underlying28 rfl (by kernel_rfl)) rfl ?_
    exact ⟨_, rfl, Kd.R_mono (Kd.R_far (p := ⟨w.heap.size + 1, 2, none⟩) (Kd.R_far (p := ⟨w.heap.size + 1, 1, none⟩) (Kd.R_far (p := ⟨w.heap.size + 1, 0, none⟩) (Kd.R_types (Kd.R_drewN HO1.out nd) (blk_drewN (heap_two _ _ _) nd) (by decide)) (fun _ hk => hk.2) (.int .i64 a0_0)) (fun _ hk => hk.2) (.int .i64 a0_1)) (fun _ hk => hk.2) (.slice A l0_2.length c)) (fun _ hk => hk.1), by repeat (first | exact HB1.out | refine below_set ?_ (show w0.heap.size ≤ w.heap.size + 1 by have := HW.out; omega) | apply pw_below_drewN), by repeat (first | exact HK1.out | refine Kept.setCell ?_ (.inr (Nat.le_succ _)) _ | apply Kept.drewN)⟩
end XB
end Go.Proofs.YtifegijnfnjboaaDoor
