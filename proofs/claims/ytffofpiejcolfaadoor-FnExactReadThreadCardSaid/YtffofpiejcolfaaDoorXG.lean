/- The reference's l06Is at an address, and l06Give, which hands a thread back if it is one. -/
import Derived.Test.YtffofpiejcolfaaDoorXT
import Derived.Test.YtffofpiejcolfaaDoorF02
set_option linter.unusedVariables false
set_option linter.unusedSimpArgs false
namespace Go.Proofs.YtffofpiejcolfaaDoor
open Go.RowKit Go.Proofs.YtffofpiejcolfaaDoorW.PrintWords Go.Proofs.YtffofpiejcolfaaDoorW.PrintLast Go.Proofs.YtffofpiejcolfaaDoorW.PrintMore
attribute [local go_sem] max2_int min2_int max_two min_two max_three min_three max_four min_four   -- for this text's walks alone
namespace XG
open XF XL XC XT F0
theorem vf (v : S45) : F0.spec_l01VFinite.f v.f0 v.f1 v.f2 = some (vfin v) := by
  unfold F0.spec_l01VFinite.f XL.l01Finite.f vfin
  cases h0 : fin v.f0 <;> cases h1 : fin v.f1 <;> cases h2 : fin v.f2 <;> simp
set_option maxHeartbeats 4000000 in
set_option maxRecDepth 100000 in
theorem l06Is_at (ad : Addr) (A : Option Addr) (c : Nat) (l : List S45) (a : Nat) (w : World) (f0 : w.cell? ad = some (.slice A l.length c)) (f1 : w.cell? ⟨ad.block, ad.off + 1, none⟩ = some (.float .f32 a)) (hle : l.length ≤ c) (hC : Kd.C k45 w A l.length l) (r : Bool) (hr : isThread l a = r) (gl : GL w := by first | exact (‹Aside0 (GL _)›).out | exact GL.of_below (‹Aside0 (GL _)›).out (by repeat (first | (with_reducible first | exact (‹Aside0 (Below _ _ _)›).out | apply below_alloc | apply pw_below_drewN | apply below_drew1 | refine below_set ?_ (Aside0.out (by assumption)) | exact Below.refl _ _) | exact (‹Aside0 (Below _ _ _)›).out))) :
    Calls Tryd.prog 42 #[.pointer (some ad)] w fun e w' => e = .returned (.bool r) ∧ Below w.heap.size w w' := by
  have HG_ := Aside0.mk gl
  clear gl
  have hbk : ad.block < w.heap.size := World.block_lt_of_cell? w _ f0
  have HC := Aside0.mk hC
  clear hC
  unfold isThread at hr
  by_cases c1 : 3 ≤ l.length
  · have c1a : decide ((l.length : Int) < (3 : Int)) = false := by simp; omega
    rw [decide_eq_true c1, Bool.true_and] at hr
    by_cases c2 : l.length ≤ 32
    · have c2a : decide ((32 : Int) < (l.length : Int)) = false := by simp; omega
      rw [decide_eq_true c2, Bool.true_and] at hr
      cases ef : fin a with
      | false =>
        rw [ef, Bool.and_false] at hr
        subst hr
        go_enter Tryd.func42, Tryd.ntmps42
        go_wp2_with (first | (go_at_call 55; refine (l01Finite.calls _ _ _ rfl).mono ?_; rw [ef]; rintro e w1 ⟨rfl, ⟨nd, rfl⟩⟩))
        go_ret
        exact ⟨rfl, pw_below_drewN (Below.refl _ _) _⟩
      | true =>
        rw [ef, Bool.and_true] at hr
        have HR := Aside0.mk hr
        clear hr
        go_enter Tryd.func42, Tryd.ntmps42
        go_wp2_with (first | (go_at_call 55; refine (l01Finite.calls _ _ _ rfl).mono ?_; rw [ef]; rintro e w1 ⟨rfl, ⟨nd, rfl⟩⟩))
        go_loopg [3] l.length (fun kq v3 w' => ∃ (i : Nat), v3 = .int .i64 (i : Int) ∧ Aside0 (i + kq = l.length) ∧ Aside0 ((!((l.drop i).any fun x => !vfin x)) = r) ∧ Aside0 (Below w.heap.size w w'))
        case atStart => exact ⟨0, rfl, ⟨by simp⟩, HR, ⟨pw_below_drewN (Below.refl _ _) _⟩⟩
        case round =>
          clear HR
          obtain ⟨i, rfl, HI, HX, HB⟩ := hrel
          have hi := HI.out
          have hx0 := HX.out
          replace f0 := (HB.out.cell hbk).trans f0
          cases gk with
          | zero =>
            have hc : decide ((i : Int) < (l.length : Int)) = false := by simp; omega
            rw [List.drop_eq_nil_of_le (by omega)] at hx0
            replace hx0 : true = r := hx0
            subst hx0
            go_wp2
            go_ret
            exact ⟨rfl, HB.out⟩
          | succ k1 =>
            have hil : i < l.length := by omega
            have hc : decide ((i : Int) < (l.length : Int)) = true := by simp; omega
            have p0 : (0 : Int) ≤ (i : Int) := by omega
            have q0 : (i : Int) < (l.length : Int) := by omega
            obtain ⟨ae, ead, hx_0, hx_1, hx_2⟩ := at_T45 HC.out (i : Int) p0 q0
            cases ead
            replace hx_0 := (HB.out.cell (World.block_lt_of_cell? w _ hx_0)).trans hx_0
            replace hx_1 := (HB.out.cell (World.block_lt_of_cell? w _ hx_1)).trans hx_1
            replace hx_2 := (HB.out.cell (World.block_lt_of_cell? w _ hx_2)).trans hx_2
            rw [Int.toNat_natCast, show rd_T45 l (i : Int) = l[i] by simp [rd_T45, hil]] at hx_0 hx_1 hx_2
            rw [List.drop_eq_getElem_cons hil, List.any_cons] at hx0
            generalize l[i] = x at hx_0 hx_1 hx_2 hx0
            have p0b := eq_true p0
            have q0b := eq_true q0
            have hv := vf x
            cases e : vfin x with
            | false =>
              rw [e] at hv
              rw [e] at hx0
              replace hx0 : false = r := by simpa using hx0
              subst hx0
              go_wp2_with (first | (go_at_call 56; refine (F0.spec_l01VFinite.calls _ _ _ _ _ hv).mono ?_; rintro e w1 ⟨rfl, hb⟩))
              go_ret
              exact ⟨rfl, below_step HB.out hb⟩
            | true =>
              rw [e] at hv
              rw [e] at hx0
              replace hx0 : (!((l.drop (i + 1)).any fun x => !vfin x)) = r := by simpa using hx0
              go_wp2_with (first | (go_at_call 56; refine (F0.spec_l01VFinite.calls _ _ _ _ _ hv).mono ?_; rintro e w1 ⟨rfl, hb⟩))
              go_roundg k1
              case measure => omega
              case rel => exact ⟨i + 1, rfl, ⟨by omega⟩, ⟨hx0⟩, ⟨below_step HB.out hb⟩⟩
    · have c2a : decide ((32 : Int) < (l.length : Int)) = true := by simp; omega
      rw [decide_eq_false c2, Bool.false_and] at hr
      subst hr
      go_enter Tryd.func42, Tryd.ntmps42
      go_wp2
      go_ret
      exact ⟨rfl, Below.refl _ _⟩
  · have c1a : decide ((l.length : Int) < (3 : Int)) = true := by simp; omega
    rw [decide_eq_false c1, Bool.false_and] at hr
    subst hr
    go_enter Tryd.func42, Tryd.ntmps42
    go_wp2
    go_ret
    exact ⟨rfl, Below.refl _ _⟩
theorem cell_new (w : World) (c : Array Value) (t : TypeId) (i : Nat) : (w.alloc (.cells c t)).cell? ⟨w.heap.size, i, none⟩ = c[i]? := by
  unfold World.cell?
  rw [heap_alloc_new]
  rfl
/-- spec.l06Give. -/
def l06Give.f (l0_0 : List S45) (a0_1 : Nat) : Option (List S45 × Nat × Bool) := some (if isThread l0_0 a0_1 = true then (l0_0, a0_1, true) else ([], 0, false))
set_option maxHeartbeats 4000000 in
set_option maxRecDepth 100000 in
theorem l06Give.calls (P0_ : Nat → Prop) (u9000_ : Value) (l0_0 : List S45) (a0_1 : Nat) (r1 : List S45) (r2 : Nat) (r3 : Bool) (w0 w : World) (hB : Below w0.heap.size w0 w) (ho0 : Kd.R k45 45 w w0.heap.size P0_ u9000_ l0_0) (h : l06Give.f l0_0 a0_1 = some (r1, r2, r3)) (gl : GL w0 := by first | exact (‹Aside0 (GL _)›).out | exact GL.of_below (‹Aside0 (GL _)›).out (by repeat (first | (with_reducible first | exact (‹Aside0 (Below _ _ _)›).out | apply below_alloc | apply pw_below_drewN | apply below_drew1 | refine below_set ?_ (Aside0.out (by assumption)) | exact Below.refl _ _) | exact (‹Aside0 (Below _ _ _)›).out))) :
    Calls Tryd.prog 30 #[.agg #[u9000_, .float .f32 a0_1]] w fun e w' => ∃ v0_ : Value, e = .returned (.tuple #[.agg #[v0_, .float .f32 r2], .bool r3]) ∧ Kd.R k45 45 w' w0.heap.size (fun k_ => (P0_ k_ ∨ w.heap.size ≤ k_)) v0_ r1 ∧ Below w0.heap.size w0 w' ∧ Kept w w' (fun k_ => P0_ k_) := by
  have HG_ := Aside0.mk (GL.of_below gl hB)
  clear gl
  replace h := Option.some.inj h
  obtain ⟨A, c, rfl⟩ := Kd.R_slice ho0
  have hle := (Kd.R_reads' ho0).2.1
  have hC := (Kd.R_reads' ho0).2.2
  have HB := Aside0.mk hB
  have HO := Aside0.mk (Kd.R_mono ho0 (ok' := fun k_ => (P0_ k_ ∨ w.heap.size ≤ k_)) (fun k_ hk => (.inl hk)))
  have HK := Aside0.mk (Kept.refl w (fun k_ => P0_ k_))
  clear hB ho0
  have HW := Aside0.mk HB.out.size
  cases e : isThread l0_0 a0_1 with
  | false =>
    rw [e, if_neg (by decide)] at h
    simp only [Prod.mk.injEq] at h
    obtain ⟨rfl, rfl, rfl⟩ := h
    go_enter Tryd.func30, Tryd.ntmps30
    go_wp2_with (first | (go_at_call 42; refine (l06Is_at ⟨w.heap.size, 0, none⟩ A c l0_0 a0_1 _ (by exact cell_first _ _ _ _ 0) (by exact cell_first _ _ _ _ 1) hle (Kd.C_alloc (Kd.C_alloc hC _) _) _ e (GL.of_below HG_.out (below_alloc (below_alloc (Below.refl _ _) _) _))).mono ?_; rintro e w1 ⟨rfl, hb⟩; have BK := Aside0.mk (blk_below (g := w.heap.size + 1) (o := .cells #[.slice none 0 0, .float .f32 0] 25 (0, 0)) (heap_two _ _ _) hb); have BT := Aside0.mk (blk_below (g := w.heap.size) (o := .cells #[.slice A l0_0.length c, .float .f32 a0_1] 25 (0, 0)) (blk_alloc (heap_alloc_new _ _) _) hb); have HO1 := Aside0.mk (Kd.R_below (Kd.R_alloc (Kd.R_alloc HO.out _) _) hb); have HB1 := Aside0.mk (below_step (below_alloc (below_alloc HB.out _) _) hb); have HK1 := Aside0.mk (Kept.below (Kept.alloc (Kept.alloc HK.out _) _) hb); clear hb; have f0 : w1.cell? ⟨w.heap.size, 0, none⟩ = some (.slice A l0_0.length c) := (blk_cell BT.out 0).trans rfl; have f1 : w1.cell? ⟨w.heap.size, 1, none⟩ = some (.float .f32 a0_1) := (blk_cell BT.out 1).trans rfl; have z0 : w1.cell? ⟨w.heap.size + 1, 0, none⟩ = some (.slice none 0 0) := (blk_cell BK.out 0).trans rfl; have z1 : w1.cell? ⟨w.heap.size + 1, 1, none⟩ = some (.float .f32 0) := (blk_cell BK.out 1).trans rfl; have y0 := blk_frozen BK.out 0; have y1 := blk_frozen BK.out 1))
    refine bodyPost_ret (results_ct rfl _ _ (w.heap.size + 1) 25 #[.slice none 0 0, .float .f32 0] (0, 0) _ rfl (by refine blk_put (cs := #[.slice none 0 0, .float .f32 0]) ?_ 1 _ rfl; refine blk_put (cs := #[.slice none 0 0, .float .f32 0]) ?_ 0 _ rfl; exact BK.out) Tryd.underlying25 rfl (by kernel_rfl)) rfl ?_
    exact ⟨_, rfl, Kd.R_nil _ _ _ _ _, by repeat (first | exact HB1.out | refine below_set ?_ (show w0.heap.size ≤ w.heap.size + 1 by have := HW.out; omega)), by repeat (first | exact HK1.out | refine Kept.setCell ?_ (.inr (Nat.le_succ _)) _)⟩
  | true =>
    rw [e, if_pos rfl] at h
    simp only [Prod.mk.injEq] at h
    obtain ⟨rfl, rfl, rfl⟩ := h
    go_enter Tryd.func30, Tryd.ntmps30
    go_wp2_with (first | (go_at_call 42; refine (l06Is_at ⟨w.heap.size, 0, none⟩ A c l0_0 a0_1 _ (by exact cell_first _ _ _ _ 0) (by exact cell_first _ _ _ _ 1) hle (Kd.C_alloc (Kd.C_alloc hC _) _) _ e (GL.of_below HG_.out (below_alloc (below_alloc (Below.refl _ _) _) _))).mono ?_; rintro e w1 ⟨rfl, hb⟩; have BK := Aside0.mk (blk_below (g := w.heap.size + 1) (o := .cells #[.slice none 0 0, .float .f32 0] 25 (0, 0)) (heap_two _ _ _) hb); have BT := Aside0.mk (blk_below (g := w.heap.size) (o := .cells #[.slice A l0_0.length c, .float .f32 a0_1] 25 (0, 0)) (blk_alloc (heap_alloc_new _ _) _) hb); have HO1 := Aside0.mk (Kd.R_below (Kd.R_alloc (Kd.R_alloc HO.out _) _) hb); have HB1 := Aside0.mk (below_step (below_alloc (below_alloc HB.out _) _) hb); have HK1 := Aside0.mk (Kept.below (Kept.alloc (Kept.alloc HK.out _) _) hb); clear hb; have f0 : w1.cell? ⟨w.heap.size, 0, none⟩ = some (.slice A l0_0.length c) := (blk_cell BT.out 0).trans rfl; have f1 : w1.cell? ⟨w.heap.size, 1, none⟩ = some (.float .f32 a0_1) := (blk_cell BT.out 1).trans rfl; have z0 : w1.cell? ⟨w.heap.size + 1, 0, none⟩ = some (.slice none 0 0) := (blk_cell BK.out 0).trans rfl; have z1 : w1.cell? ⟨w.heap.size + 1, 1, none⟩ = some (.float .f32 0) := (blk_cell BK.out 1).trans rfl; have y0 := blk_frozen BK.out 0; have y1 := blk_frozen BK.out 1))
    refine bodyPost_ret (results_ct rfl _ _ (w.heap.size + 1) 25 #[.slice A l0_0.length c, .float .f32 a0_1] (0, 0) _ rfl (by refine blk_put (cs := #[.slice A l0_0.length c, .float .f32 0]) ?_ 1 _ rfl; refine blk_put (cs := #[.slice none 0 0, .float .f32 0]) ?_ 0 _ rfl; exact BK.out) Tryd.underlying25 rfl (by kernel_rfl)) rfl ?_
    exact ⟨_, rfl, Kd.R_mono (Kd.R_far (p := ⟨w.heap.size + 1, 1, none⟩) (Kd.R_far (p := ⟨w.heap.size + 1, 0, none⟩) (Kd.R_types HO1.out BK.out (by decide)) (fun _ hk => hk.2) (.slice A l0_0.length c)) (fun _ hk => hk.2) (.float .f32 a0_1)) (fun _ hk => hk.1), by repeat (first | exact HB1.out | refine below_set ?_ (show w0.heap.size ≤ w.heap.size + 1 by have := HW.out; omega)), by repeat (first | exact HK1.out | refine Kept.setCell ?_ (.inr (Nat.le_succ _)) _)⟩
end XG
end Go.Proofs.YtffofpiejcolfaaDoor
