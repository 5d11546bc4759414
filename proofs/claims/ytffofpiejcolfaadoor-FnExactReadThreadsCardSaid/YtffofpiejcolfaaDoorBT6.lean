/- Words, walks and plain laws that a claim of this seat needs, one text after the other (part 6). -/
import Derived.Test.YtffofpiejcolfaaDoorBT5
set_option linter.unusedVariables false
set_option linter.unusedSimpArgs false
section
namespace Go.Proofs.YtffofpiejcolfaaDoor.FR
open Go.Proofs.YtffofpiejcolfaaDoor.F0
open Go.RowKit Go.Proofs.YtffofpiejcolfaaDoorW.PrintWords Go.Proofs.YtffofpiejcolfaaDoorW.PrintLast Go.Proofs.YtffofpiejcolfaaDoorW.PrintMore
attribute [local go_sem] max2_int min2_int max_two min_two max_three min_three max_four min_four
set_option linter.unusedVariables false
set_option linter.unusedSimpArgs false
def spec_l08ReadThreads.l0 : Nat → List (S25) → List ByteArray → Int → Option ((List (S25)) × Bool)
  | 0, _, _, _ => none
  | k + 1, x4, x5, x6 => if x6 < (x5.length : Int) then (if 0 ≤ x6 then ((F1.spec_l08ReadThread.f k (rdOf ByteArray.empty x5 x6)).bind fun bt108 => (if bt108.2.2 = true then (if x4.length < 4398046511104 then (spec_l08ReadThreads.l0 k (x4 ++ [(⟨bt108.1, bt108.2.1⟩ : S25)]) x5 (wrap64 (x6 + 1))) else (none)) else (some (([] : List (S25)), false)))) else (none)) else ((XA.l06Are.f x4).bind fun t117 => (if t117 = true then (some (x4, true)) else (some (([] : List (S25)), false))))
def spec_l08ReadThreads.f (k : Nat) (a0 : ByteArray) : Option ((List (S25)) × Bool) := (some (([] : List (S25)) : List (S25))).bind fun y101 => (if a0.toList = ([110, 111, 110, 101] : List UInt8) then (some (y101, true)) else ((F1.spec_l01Cut.f k a0 124).bind fun t104 => (spec_l08ReadThreads.l0 k y101 t104 0)))
theorem spec_l08ReadThreads.mono_l : ∀ k, (∀ y0 y1 y2, LeO (spec_l08ReadThreads.l0 k y0 y1 y2) (spec_l08ReadThreads.l0 (k + 1) y0 y1 y2))
  | 0 => fun _ _ _ r h => by simp [spec_l08ReadThreads.l0] at h
  | k + 1 => by
    have ih0 := spec_l08ReadThreads.mono_l k
    · intro y0 y1 y2
      unfold spec_l08ReadThreads.l0
      repeat' first
      | (with_reducible exact ih0 _ _ _)
      | (with_reducible exact F1.spec_l01Cut.mono _ _ _)
      | (with_reducible exact F1.spec_l08ReadThread.mono _ _)
      | (with_reducible exact LeO.refl _)
      | (with_reducible exact LeO.none _)
      | (with_reducible refine LeO.ite ?_ ?_)
      | (with_reducible refine LeO.bind ?_ (fun _ => ?_))
      | exact ih0 _ _ _
      | exact F1.spec_l01Cut.mono _ _ _
      | exact F1.spec_l08ReadThread.mono _ _
      | exact LeO.none _
      | refine LeO.ite ?_ ?_
      | refine LeO.bind ?_ (fun _ => ?_)
theorem spec_l08ReadThreads.mono : ∀ a0 k, LeO (spec_l08ReadThreads.f k a0) (spec_l08ReadThreads.f (k + 1) a0) := by
  intro a0 k
  have ih0 := spec_l08ReadThreads.mono_l k
  unfold spec_l08ReadThreads.f
  repeat' first
      | (with_reducible exact ih0 _ _ _)
      | (with_reducible exact F1.spec_l01Cut.mono _ _ _)
      | (with_reducible exact F1.spec_l08ReadThread.mono _ _)
      | (with_reducible exact LeO.refl _)
      | (with_reducible exact LeO.none _)
      | (with_reducible refine LeO.ite ?_ ?_)
      | (with_reducible refine LeO.bind ?_ (fun _ => ?_))
      | exact ih0 _ _ _
      | exact F1.spec_l01Cut.mono _ _ _
      | exact F1.spec_l08ReadThread.mono _ _
      | exact LeO.none _
      | refine LeO.ite ?_ ?_
      | refine LeO.bind ?_ (fun _ => ?_)
set_option maxHeartbeats 8000000 in
set_option maxRecDepth 100000 in
theorem spec_l08ReadThreads.calls (k : Nat) (a0 : ByteArray) (r1 : List (S25)) (r2 : Bool) (w : World) (h : spec_l08ReadThreads.f k a0 = some (r1, r2)) (gl : GL w := by first | exact (‹Aside0 (GL _)›).out | exact GL.of_below (‹Aside0 (GL _)›).out (by repeat (first | (with_reducible first | exact (‹Aside0 (Below _ _ _)›).out | apply below_alloc | apply pw_below_drewN | apply below_drew1 | refine below_set ?_ (Aside0.out (by assumption)) | exact Below.refl _ _) | exact (‹Aside0 (Below _ _ _)›).out))) :
    Calls Tryd.prog 26 #[.string a0] w fun e w' => ∃ v0_ : Value, e = .returned (.tuple #[v0_, .bool r2]) ∧ Kd.S k25 25 w' w.heap.size (fun _ => True) v0_ r1 ∧ Below w.heap.size w w' := by
  have HG_ := Aside0.mk gl
  clear gl
  have hu25 := Tryd.underlying25
  have HB := Aside0.mk (Below.refl w.heap.size w)
  have H : ((some (([] : List (S25)) : List (S25))).bind fun y101 => (if a0.toList = ([110, 111, 110, 101] : List UInt8) then (some (y101, true)) else ((F1.spec_l01Cut.f k a0 124).bind fun t104 => (spec_l08ReadThreads.l0 k y101 t104 0)))) = some (r1, r2) := h
  clear h
  obtain ⟨y101, hy101⟩ : ∃ y_ : List (S25), y_ = (([] : List (S25))) := ⟨_, rfl⟩
  replace H : (if a0.toList = ([110, 111, 110, 101] : List UInt8) then (some (y101, true)) else ((F1.spec_l01Cut.f k a0 124).bind fun t104 => (spec_l08ReadThreads.l0 k y101 t104 0))) = some (r1, r2) := by first | (rw [hy101]; with_reducible exact H) | (have H2_ := (Option.bind_some _ _).symm.trans H; rw [hy101]; with_reducible exact H2_) | (have H2_ := (Option.bind_some _ _).symm.trans H; with_reducible exact H2_) | with_reducible exact H | (rw [hy101]; exact H) | exact H
  have Ny101 := Aside0.mk hy101
  clear hy101
  by_cases c2 : a0.toList = ([110, 111, 110, 101] : List UInt8)
  · rw [if_pos c2] at H
    have c2b0 : (a0.toList == ([110, 111, 110, 101] : List UInt8)) = true := beq_iff_eq.mpr c2
    have c2b1 : (a0.toList != ([110, 111, 110, 101] : List UInt8)) = false := bne_eq_false_iff_eq.mpr c2
    clear c2
    simp only [Option.some.injEq, Prod.mk.injEq] at H
    obtain ⟨rfl, rfl⟩ := H
    go_enter Tryd.func26, Tryd.ntmps26
    go_wp2_with (first | ((with_reducible refine gate_dst (N := 9) rfl ?_); refine Kd.S_lit k25 _ 25 ?hg (N := 9) ?hd (xs := ([] : List (S25))) (inner := []) (ok := fun _ => True) (okp := fun _ => True) ?hr ?hp (fun _ hk => hk) trivial (Below.refl _ _) (Nat.le_refl _) (by simp) ?_; (case hd => rfl); (case hg => rfl); (case hr => first | (go_simp; done) | (go_simp; rfl)); (case hp => exact (Reps.none _ _)); intro v102 w3 ho4 hb hg_ hnew_; clear hg_ hnew_; (first | rw [← Ny101.out] at ho4 | (simp only [Int.reduceToNat] at ho4; rw [← Ny101.out] at ho4)); have n0_ := Aside0.mk (Kd.S_lower ho4 (below_size (by repeat (first | (with_reducible first | exact HB.out | apply below_alloc | apply pw_below_drewN | apply below_drew1) | exact HB.out)))); have n1_ := Aside0.mk (below_step (by repeat (first | (with_reducible first | exact HB.out | apply below_alloc | apply pw_below_drewN | apply below_drew1) | exact HB.out)) hb); clear HB; have HO103 := n0_; have HB := n1_; clear n0_ n1_; clear hb ho4))
    go_ret2
    exact ⟨_, by first | rfl | (simp [errW_none, errW_some] <;> rfl) | (simp [*, errW_none, errW_some] <;> rfl), by (with_reducible repeat (first | apply Kd.S_alloc | apply Kd.S_drewN | apply Kd.S_drew)); exact HO103.out, by repeat (first | (with_reducible first | exact HB.out | apply below_alloc | apply pw_below_drewN | apply below_drew1) | exact HB.out)⟩
  · rw [if_neg c2] at H
    have c2b0 : (a0.toList == ([110, 111, 110, 101] : List UInt8)) = false := beq_eq_false_iff_ne.mpr c2
    have c2b1 : (a0.toList != ([110, 111, 110, 101] : List UInt8)) = true := bne_iff_ne.mpr c2
    replace H := Option.bind_eq_some_iff.mp H
    obtain ⟨t104, A50, H⟩ := H
    replace H : (spec_l08ReadThreads.l0 k y101 t104 0) = some (r1, r2) := H
    have A5 := Aside0.mk A50
    clear A50
    have H' := Aside0.mk H
    clear H
    go_enter Tryd.func26, Tryd.ntmps26
    go_wp2_with (first | ((with_reducible refine gate_dst (N := 9) rfl ?_); refine Kd.S_lit k25 _ 25 ?hg (N := 9) ?hd (xs := ([] : List (S25))) (inner := []) (ok := fun _ => True) (okp := fun _ => True) ?hr ?hp (fun _ hk => hk) trivial (Below.refl _ _) (Nat.le_refl _) (by simp) ?_; (case hd => rfl); (case hg => rfl); (case hr => first | (go_simp; done) | (go_simp; rfl)); (case hp => exact (Reps.none _ _)); intro v102 w6 ho7 hb hg_ hnew_; clear hg_ hnew_; (first | rw [← Ny101.out] at ho7 | (simp only [Int.reduceToNat] at ho7; rw [← Ny101.out] at ho7)); have n0_ := Aside0.mk (Kd.S_lower ho7 (below_size (by repeat (first | (with_reducible first | exact HB.out | apply below_alloc | apply pw_below_drewN | apply below_drew1) | exact HB.out)))); have n1_ := Aside0.mk (below_step (by repeat (first | (with_reducible first | exact HB.out | apply below_alloc | apply pw_below_drewN | apply below_drew1) | exact HB.out)) hb); clear HB; have HO103 := n0_; have HB := n1_; clear n0_ n1_; clear hb ho7) | ((with_reducible refine gate_callee (f := 27) rfl ?_); refine goesL_ (some 14) rfl rfl Tryd.func27 (by kernel_rfl) rfl #[.string a0, .int .u8 124] rfl (by (try simp only [List.map_toArray, List.map_cons, List.map_nil]); first | done | rfl | (simp only [List.length_drop, List.length_take]; rfl)) ?_; (with_reducible refine (F1.spec_l01Cut.calls k a0 124 t104 _ A5.out).mono ?_); rintro e w8 ⟨v105, rfl, ho0, hb⟩; refine ⟨_, rfl, ?_⟩; have n0_ := Aside0.mk (Kd.S_below (by (with_reducible repeat (first | apply Kd.S_alloc | apply Kd.S_drewN | apply Kd.S_drew)); exact HO103.out) hb); have n1_ := Aside0.mk (Kd.R_lower ho0 (below_size (by repeat (first | (with_reducible first | exact HB.out | apply below_alloc | apply pw_below_drewN | apply below_drew1) | exact HB.out)))); have n2_ := Aside0.mk (below_step (by repeat (first | (with_reducible first | exact HB.out | apply below_alloc | apply pw_below_drewN | apply below_drew1) | exact HB.out)) hb); clear HO103; clear HB; have HO103 := n0_; have HO106 := n1_; have HB := n2_; clear n0_ n1_ n2_; (try clear hb); (try clear hb2); (try clear hk); (try clear hi); (try clear ho0)))
    go_loopg [4, 6] k (fun kq v4 v6 w' => ∃ (x4_1 : List (S25)) (x6_1 : Int), v6 = .int .i64 x6_1 ∧ Aside0 (spec_l08ReadThreads.l0 kq x4_1 t104 x6_1 = some (r1, r2)) ∧ Aside0 (kq ≤ k) ∧ Aside0 (Kd.S k25 25 w' w.heap.size (fun _ => True) v4 x4_1) ∧ Aside0 (Kd.R Kd.string 9 w' w.heap.size (fun _ => True) v105 t104) ∧ Aside0 (Below w.heap.size w w'))
    case atStart => exact ⟨(y101), (0), (by first | rfl | (simp; done) | (simp [*]; done)), H', ⟨Nat.le_refl _⟩, ⟨by (with_reducible repeat (first | apply Kd.S_alloc | apply Kd.S_drewN | apply Kd.S_drew)); exact HO103.out⟩, ⟨by (with_reducible repeat (first | apply Kd.R_alloc | apply Kd.R_drewN | apply Kd.R_drew)); exact HO106.out⟩, ⟨by repeat (first | (with_reducible first | exact HB.out | apply below_alloc | apply pw_below_drewN | apply below_drew1) | exact HB.out)⟩⟩
    case round =>
      clear H'
      try clear c2
      try clear c2b0
      try clear c2b1
      try clear p2
      obtain ⟨x4_1, x6_1, rfl, HA, HK1, HO_4, HO_5, HB⟩ := hrel
      cases gk with
      | zero => exact absurd HA.out (by simp [spec_l08ReadThreads.l0])
      | succ k1 =>
        have H := HA.out
        clear HA
        simp only [spec_l08ReadThreads.l0] at H
        by_cases c9 : x6_1 < (t104.length : Int)
        · rw [if_pos c9] at H
          have c9b0 : decide (x6_1 < (t104.length : Int)) = true := decide_eq_true c9
          clear c9
          by_cases c10 : 0 ≤ x6_1
          · rw [if_pos c10] at H
            have c10b0 : decide (0 ≤ x6_1) = true := decide_eq_true c10
            clear c10
            replace H := Option.bind_eq_some_iff.mp H
            obtain ⟨⟨t108, t111, t112⟩, A110, H⟩ := H
            replace H : (if t112 = true then (if x4_1.length < 4398046511104 then (spec_l08ReadThreads.l0 k1 (x4_1 ++ [(⟨t108, t111⟩ : S25)]) t104 (wrap64 (x6_1 + 1))) else (none)) else (some (([] : List (S25)), false))) = some (r1, r2) := H
            have A11 := Aside0.mk A110
            clear A110
            by_cases c12 : t112 = true
            · subst c12
              have H1 : (if x4_1.length < 4398046511104 then (spec_l08ReadThreads.l0 k1 (x4_1 ++ [(⟨t108, t111⟩ : S25)]) t104 (wrap64 (x6_1 + 1))) else (none)) = some (r1, r2) := by rw [if_pos rfl] at H; exact H
              clear H
              have H := H1
              clear H1
              by_cases c13 : x4_1.length < 4398046511104
              · rw [if_pos c13] at H
                have LMc13 := Aside0.mk c13
                clear c13
                obtain ⟨y114, hy114⟩ : ∃ y_ : List (S25), y_ = (x4_1 ++ [(⟨t108, t111⟩ : S25)]) := ⟨_, rfl⟩
                replace H : (spec_l08ReadThreads.l0 k1 y114 t104 (wrap64 (x6_1 + 1))) = some (r1, r2) := by first | (rw [hy114]; with_reducible exact H) | (have H2_ := (Option.bind_some _ _).symm.trans H; rw [hy114]; with_reducible exact H2_) | (have H2_ := (Option.bind_some _ _).symm.trans H; with_reducible exact H2_) | with_reducible exact H | (rw [hy114]; exact H) | exact H
                have Ny114 := Aside0.mk hy114
                clear hy114
                have H' := Aside0.mk H
                clear H
                obtain ⟨Ao14, co14, eo14⟩ := Kd.R_slice HO_5.out
                subst eo14
                have p107 : 0 ≤ (x6_1 : Int) := of_decide_eq_true (by first | (with_reducible assumption) | assumption)
                have q107 : x6_1 < (t104.length : Int) := of_decide_eq_true (by first | (with_reducible assumption) | assumption)
                obtain ⟨ad107, e107, hx107_0⟩ := Kd.at_string (Kd.R_reads' HO_5.out).2.2 x6_1 p107 q107
                cases e107
                replace p107 := eq_true p107
                replace q107 := eq_true q107
                go_wp2_with (first | ((with_reducible refine gate_callee (f := 15) rfl ?_); refine goesL_ (some 26) rfl rfl Tryd.func15 (by kernel_rfl) rfl #[.string (rdOf ByteArray.empty t104 x6_1)] rfl (by (try simp only [List.map_toArray, List.map_cons, List.map_nil]); first | done | rfl | (simp only [List.length_drop, List.length_take]; rfl)) ?_; (with_reducible refine (F1.spec_l08ReadThread.calls k1 (rdOf ByteArray.empty t104 x6_1) t108 t111 true _ A11.out).mono ?_); rintro e w15 ⟨v109, rfl, ho0, hb⟩; refine ⟨_, rfl, ?_⟩; have n0_ := Aside0.mk (Kd.S_elder' (by (with_reducible repeat (first | apply Kd.S_alloc | apply Kd.S_drewN | apply Kd.S_drew)); exact HO_4.out) (Kd.R_base ho0) hb); have n1_ := Aside0.mk (Kd.R_below (by (with_reducible repeat (first | apply Kd.R_alloc | apply Kd.R_drewN | apply Kd.R_drew)); exact HO_5.out) hb); have n2_ := Aside0.mk (Kd.R_lower ho0 (below_size (by repeat (first | (with_reducible first | exact HB.out | apply below_alloc | apply pw_below_drewN | apply below_drew1) | exact HB.out)))); have n3_ := Aside0.mk (below_step (by repeat (first | (with_reducible first | exact HB.out | apply below_alloc | apply pw_below_drewN | apply below_drew1) | exact HB.out)) hb); clear HO_4; clear HO_5; clear HB; have HO_4 := n0_; have HO_5 := n1_; have HO110 := n2_; have HB := n3_; clear n0_ n1_ n2_ n3_; (try clear hb); (try clear hb2); (try clear hk); (try clear hi); (try clear ho0)) | ((with_reducible refine gate_dst (N := 7) rfl ?_); refine box_event ?hg (N := 7) ?hd (cs := #[.slice none 0 0, .float .f32 0]) (t := 25) ?hr ?_; (case hd => rfl); (case hg => rfl); (case hr => first | (go_simp; done) | (go_simp; rfl)); intro gb113 hg w16 hbox hb; have n0_ := Aside0.mk (Kd.S_below (Kd.S_elderB (by (with_reducible repeat (first | apply Kd.S_alloc | apply Kd.S_drewN | apply Kd.S_drew)); exact HO_4.out) gb113 (Nat.le_of_eq hg.symm)) hb); have n1_ := Aside0.mk (Kd.R_below (by (with_reducible repeat (first | apply Kd.R_alloc | apply Kd.R_drewN | apply Kd.R_drew)); exact HO_5.out) hb); have n2_ := Aside0.mk (Kd.R_below (by (with_reducible repeat (first | apply Kd.R_alloc | apply Kd.R_drewN | apply Kd.R_drew)); exact HO110.out) hb); have n3_ := Aside0.mk (below_step (by repeat (first | (with_reducible first | exact HB.out | apply below_alloc | apply pw_below_drewN | apply below_drew1) | exact HB.out)) hb); have n4_ := Aside0.mk (hbox); have n5_ := Aside0.mk ((by rw [hg]; exact (below_size (by repeat (first | (with_reducible first | exact HB.out | apply below_alloc | apply pw_below_drewN | apply below_drew1) | exact HB.out))) : w.heap.size ≤ gb113)); have n6_ := Aside0.mk ((by rw [hg]; exact (below_size (by repeat (first | (with_reducible first | exact HB.out | apply below_alloc | apply pw_below_drewN | apply below_drew1) | exact HB.out))) : w.heap.size ≤ gb113)); clear HO_4; clear HO_5; clear HO110; clear HB; have HO_4 := n0_; have HO_5 := n1_; have HO110 := n2_; have HB := n3_; have BK113 := n4_; have GW113 := n5_; have GE113 := n6_; clear n0_ n1_ n2_ n3_ n4_ n5_ n6_; clear hb hbox hg; obtain ⟨Ao17, co17, eo17⟩ := Kd.R_slice HO110.out; subst eo17; have hcz18_0 : w16.cell? ⟨gb113, 0, none⟩ = some (.slice none 0 0) := (blk_cell BK113.out 0).trans rfl; have hcz18_1 : w16.cell? ⟨gb113, 1, none⟩ = some (.float .f32 0) := (blk_cell BK113.out 1).trans rfl; have hfz18_0 := blk_frozen BK113.out 0; have hfz18_1 := blk_frozen BK113.out 1) | ((with_reducible refine gate_store (t := 25) (p := 7) rfl ?_); refine store_event (t := 25) (p := 7) (v := ?vo_w19) (w1 := ((w16.setCell ⟨gb113, 0, none⟩ (.slice Ao17 t108.length co17)).setCell ⟨gb113, 1, none⟩ (.float .f32 t111))) ?hg ?ho ?hn ?hr ?_; (case ho => rfl); (case hg => rfl); (case hn => rfl); (case hr => first | (go_simp; done) | (go_simp; rfl)); intro w19 hw; have n0_ : Aside0 (Kd.S k25 25 w19 w.heap.size (fun k_ => some k_ ≠ (.slice Ao17 t108.length co17 : Value).ownBlock ∧ k_ ≠ gb113) u4 x4_1) := ⟨(by rw [hw]; exact (by (with_reducible repeat (first | apply Kd.S_alloc | apply Kd.S_drewN | apply Kd.S_drew)); exact Kd.S_mono (Kd.S_far (p := ⟨gb113, 1, none⟩) (Kd.S_far (p := ⟨gb113, 0, none⟩) (Kd.S_mono HO_4.out (fun k_ hk => (⟨hk, hk.2⟩ : _ ∧ k_ ≠ gb113))) (fun _ hk => hk.2) (.slice Ao17 t108.length co17)) (fun _ hk => hk.2) (.float .f32 t111)) (fun _ hk => ⟨hk.1.1.2, hk.1.2⟩)))⟩; have n1_ : Aside0 (Kd.R Kd.string 9 w19 w.heap.size (fun _ => True) (.slice (some ad107) t104.length co14) t104) := ⟨(by rw [hw]; exact (by (with_reducible repeat (first | apply Kd.R_alloc | apply Kd.R_drewN | apply Kd.R_drew)); exact Kd.R_mono (Kd.R_far (p := ⟨gb113, 1, none⟩) (Kd.R_far (p := ⟨gb113, 0, none⟩) (Kd.R_types HO_5.out BK113.out (by decide)) (fun _ hk => hk.2) (.slice Ao17 t108.length co17)) (fun _ hk => hk.2) (.float .f32 t111)) (fun _ hk => trivial)))⟩; have n2_ : Aside0 (Kd.R k45 45 w19 w.heap.size (fun _ => True) (.slice Ao17 t108.length co17) t108) := ⟨(by rw [hw]; exact (by (with_reducible repeat (first | apply Kd.R_alloc | apply Kd.R_drewN | apply Kd.R_drew)); exact Kd.R_mono (Kd.R_far (p := ⟨gb113, 1, none⟩) (Kd.R_far (p := ⟨gb113, 0, none⟩) (Kd.R_types HO110.out BK113.out (by decide)) (fun _ hk => hk.2) (.slice Ao17 t108.length co17)) (fun _ hk => hk.2) (.float .f32 t111)) (fun _ hk => trivial)))⟩; have n3_ : Aside0 (w19.heap[gb113]? = some (.cells #[.slice Ao17 t108.length co17, .float .f32 t111] 25 (0, 0))) := ⟨(by rw [hw]; exact (by (with_reducible repeat (first | refine blk_drewN ?_ _ | refine blk_drew ?_ | refine blk_alloc ?_ _)); refine blk_put (cs := #[.slice Ao17 t108.length co17, .float .f32 0]) ?_ 1 _ rfl; (with_reducible repeat (first | refine blk_drewN ?_ _ | refine blk_drew ?_ | refine blk_alloc ?_ _)); refine blk_put (cs := #[.slice none 0 0, .float .f32 0]) ?_ 0 _ rfl; (with_reducible repeat (first | refine blk_drewN ?_ _ | refine blk_drew ?_ | refine blk_alloc ?_ _)); exact BK113.out))⟩; have n4_ : Aside0 (Below w.heap.size w w19) := ⟨(by rw [hw]; exact (by repeat (first | (with_reducible first | exact HB.out | apply below_alloc | apply pw_below_drewN | apply below_drew1 | refine below_set ?_ GE113.out) | exact HB.out)))⟩; clear hw; clear HO_4; clear HO_5; clear HO110; clear BK113; clear HB; have HO_4 := n0_; have HO_5 := n1_; have HO110 := n2_; have BK113 := n3_; have HB := n4_; clear n0_ n1_ n2_ n3_ n4_; have hcz20_0 : w19.cell? ⟨gb113, 0, none⟩ = some (.slice Ao17 t108.length co17) := (blk_cell BK113.out 0).trans rfl; have hcz20_1 : w19.cell? ⟨gb113, 1, none⟩ = some (.float .f32 t111) := (blk_cell BK113.out 1).trans rfl; have hfz20_0 := blk_frozen BK113.out 0; have hfz20_1 := blk_frozen BK113.out 1) | ((with_reducible refine gate_builtin (b := .append) (xs := #[.tmp 31, .tmp 33]) rfl ?_); at_builtin; refine Kd.S_append k25 (w0 := w) w.heap.size rfl (.tmp 31) (.tmp 33) 31 25 (.agg #[(.slice none 0 0), (.float .f32 0)]) 32 rfl Tryd.underlying31 info25 rfl (by decide) (by omega) u4 x4_1 (⟨t108, t111⟩ : S25) [.slice Ao17 t108.length co17, .float .f32 t111] (fun k_ => k_ ≠ gb113) (fun k_ => some k_ = (.slice Ao17 t108.length co17 : Value).ownBlock) rfl rfl ?aP (fun k_ hk_ => ((Kd.R_mono (ok' := fun k_ => ((fun k_ => k_ ≠ gb113)) k_ ∧ some k_ ≠ (u4 : Value).ownBlock) (Kd.R_types (Kd.R_apart' (HO110.out) (Kd.S_typed HO_4.out) (by decide)) BK113.out (by decide)) (fun k_ hk => ⟨hk.2, hk.1.2⟩))).1 k_ hk_.symm) ?aF ?aO ?aB ?aS ?aL ?_; (case aP => exact k25_mkM _ _ _ (⟨t108, t111⟩ : S25) (Kd.R_mono (Kd.R_tight rfl (Kd.R_mono (ok' := fun k_ => ((fun k_ => k_ ≠ gb113)) k_ ∧ some k_ ≠ (u4 : Value).ownBlock) (Kd.R_types (Kd.R_apart' (HO110.out) (Kd.S_typed HO_4.out) (by decide)) BK113.out (by decide)) (fun k_ hk => ⟨hk.2, hk.1.2⟩))) (fun _ h_ => h_))); (case aB => exact (by repeat (first | (with_reducible first | exact HB.out | apply below_alloc | apply pw_below_drewN | apply below_drew1 | refine below_set ?_ GE113.out) | exact HB.out))); (case aF => exact (fun k_ hk => Kd.freshB (g := gb113) (o := .cells #[.slice Ao17 t108.length co17, .float .f32 t111] 25 (0, 0)) (by (with_reducible repeat (first | refine blk_drewN ?_ _ | refine blk_drew ?_ | refine blk_alloc ?_ _)); exact BK113.out) k_ hk)); (case aO => exact (by (with_reducible repeat (first | apply Kd.S_alloc | apply Kd.S_drewN | apply Kd.S_drew)); exact Kd.S_mono HO_4.out (fun k_ hk => ⟨hk.2, fun e_ => hk.1 e_⟩))); (case aS => exact (below_size (by repeat (first | (with_reducible first | exact HB.out | apply below_alloc | apply pw_below_drewN | apply below_drew1 | refine below_set ?_ GE113.out) | exact HB.out)))); (case aL => have := LMc13.out; omega); intro v115 w21 ho hb hg hat; rw [← Ny114.out] at ho; have n0_ := Aside0.mk (Kd.R_over' (by (with_reducible repeat (first | apply Kd.R_alloc | apply Kd.R_drewN | apply Kd.R_drew)); exact HO_5.out) (Kd.S_typed (by (with_reducible repeat (first | apply Kd.S_alloc | apply Kd.S_drewN | apply Kd.S_drew)); exact HO_4.out)) (by decide) hg); have n1_ := Aside0.mk (blk_grown (g := gb113) (o := .cells #[.slice Ao17 t108.length co17, .float .f32 t111] 25 (0, 0)) (by (with_reducible repeat (first | refine blk_drewN ?_ _ | refine blk_drew ?_ | refine blk_alloc ?_ _)); exact BK113.out) hg (Kd.S_away HO_4.out (fun _ hk => hk.2))); have n2_ := Aside0.mk (hb); have n3_ := Aside0.mk (ho); clear HO_5; clear BK113; clear HB; clear HO_4; clear HO110; have HO_5 := n0_; have BK113 := n1_; have HB := n2_; have HO116 := n3_; clear n0_ n1_ n2_ n3_; clear ho hb hg hat))
                go_roundg k1
                case measure => have := HK1.out; omega
                case rel => exact ⟨(y114), (wrap64 (x6_1 + 1)), (by first | rfl | (simp; done) | (simp [*]; done)), H', ⟨by have := HK1.out; omega⟩, ⟨by (with_reducible repeat (first | apply Kd.S_alloc | apply Kd.S_drewN | apply Kd.S_drew)); exact Kd.S_mono HO116.out (fun _ hk => trivial)⟩, ⟨by (with_reducible repeat (first | apply Kd.R_alloc | apply Kd.R_drewN | apply Kd.R_drew)); exact HO_5.out⟩, ⟨by repeat (first | (with_reducible first | exact HB.out | apply below_alloc | apply pw_below_drewN | apply below_drew1 | refine below_set ?_ GE113.out) | exact HB.out)⟩⟩
              · rw [if_neg c13] at H
                exact absurd H (by simp)
            · replace c12 := Bool.eq_false_iff.mpr c12
              subst c12
              have H1 : (some (([] : List (S25)), false)) = some (r1, r2) := by rw [if_neg (show ¬ (false = true) by decide)] at H; exact H
              clear H
              have H := H1
              clear H1
              simp only [Option.some.injEq, Prod.mk.injEq] at H
              obtain ⟨rfl, rfl⟩ := H
              obtain ⟨Ao22, co22, eo22⟩ := Kd.R_slice HO_5.out
              subst eo22
              have p107 : 0 ≤ (x6_1 : Int) := of_decide_eq_true (by first | (with_reducible assumption) | assumption)
              have q107 : x6_1 < (t104.length : Int) := of_decide_eq_true (by first | (with_reducible assumption) | assumption)
              obtain ⟨ad107, e107, hx107_0⟩ := Kd.at_string (Kd.R_reads' HO_5.out).2.2 x6_1 p107 q107
              cases e107
              replace p107 := eq_true p107
              replace q107 := eq_true q107
              go_wp2_with (first | ((with_reducible refine gate_callee (f := 15) rfl ?_); refine goesL_ (some 26) rfl rfl Tryd.func15 (by kernel_rfl) rfl #[.string (rdOf ByteArray.empty t104 x6_1)] rfl (by (try simp only [List.map_toArray, List.map_cons, List.map_nil]); first | done | rfl | (simp only [List.length_drop, List.length_take]; rfl)) ?_; (with_reducible refine (F1.spec_l08ReadThread.calls k1 (rdOf ByteArray.empty t104 x6_1) t108 t111 false _ A11.out).mono ?_); rintro e w23 ⟨v109, rfl, ho0, hb⟩; refine ⟨_, rfl, ?_⟩; have n0_ := Aside0.mk (Kd.S_elder' (by (with_reducible repeat (first | apply Kd.S_alloc | apply Kd.S_drewN | apply Kd.S_drew)); exact HO_4.out) (Kd.R_base ho0) hb); have n1_ := Aside0.mk (Kd.R_below (by (with_reducible repeat (first | apply Kd.R_alloc | apply Kd.R_drewN | apply Kd.R_drew)); exact HO_5.out) hb); have n2_ := Aside0.mk (Kd.R_lower ho0 (below_size (by repeat (first | (with_reducible first | exact HB.out | apply below_alloc | apply pw_below_drewN | apply below_drew1) | exact HB.out)))); have n3_ := Aside0.mk (below_step (by repeat (first | (with_reducible first | exact HB.out | apply below_alloc | apply pw_below_drewN | apply below_drew1) | exact HB.out)) hb); clear HO_4; clear HO_5; clear HB; have HO_4 := n0_; have HO_5 := n1_; have HO110 := n2_; have HB := n3_; clear n0_ n1_ n2_ n3_; (try clear hb); (try clear hb2); (try clear hk); (try clear hi); (try clear ho0)) | ((with_reducible refine gate_dst (N := 7) rfl ?_); refine box_event ?hg (N := 7) ?hd (cs := #[.slice none 0 0, .float .f32 0]) (t := 25) ?hr ?_; (case hd => rfl); (case hg => rfl); (case hr => first | (go_simp; done) | (go_simp; rfl)); intro gb113 hg w24 hbox hb; have n0_ := Aside0.mk (Kd.S_below (Kd.S_elderB (by (with_reducible repeat (first | apply Kd.S_alloc | apply Kd.S_drewN | apply Kd.S_drew)); exact HO_4.out) gb113 (Nat.le_of_eq hg.symm)) hb); have n1_ := Aside0.mk (Kd.R_below (by (with_reducible repeat (first | apply Kd.R_alloc | apply Kd.R_drewN | apply Kd.R_drew)); exact HO_5.out) hb); have n2_ := Aside0.mk (Kd.R_below (by (with_reducible repeat (first | apply Kd.R_alloc | apply Kd.R_drewN | apply Kd.R_drew)); exact HO110.out) hb); have n3_ := Aside0.mk (below_step (by repeat (first | (with_reducible first | exact HB.out | apply below_alloc | apply pw_below_drewN | apply below_drew1) | exact HB.out)) hb); have n4_ := Aside0.mk (hbox); have n5_ := Aside0.mk ((by rw [hg]; exact (below_size (by repeat (first | (with_reducible first | exact HB.out | apply below_alloc | apply pw_below_drewN | apply below_drew1) | exact HB.out))) : w.heap.size ≤ gb113)); have n6_ := Aside0.mk ((by rw [hg]; exact (below_size (by repeat (first | (with_reducible first | exact HB.out | apply below_alloc | apply pw_below_drewN | apply below_drew1) | exact HB.out))) : w.heap.size ≤ gb113)); clear HO_4; clear HO_5; clear HO110; clear HB; have HO_4 := n0_; have HO_5 := n1_; have HO110 := n2_; have HB := n3_; have BK113 := n4_; have GW113 := n5_; have GE113 := n6_; clear n0_ n1_ n2_ n3_ n4_ n5_ n6_; clear hb hbox hg; obtain ⟨Ao25, co25, eo25⟩ := Kd.R_slice HO110.out; subst eo25; have hcz26_0 : w24.cell? ⟨gb113, 0, none⟩ = some (.slice none 0 0) := (blk_cell BK113.out 0).trans rfl; have hcz26_1 : w24.cell? ⟨gb113, 1, none⟩ = some (.float .f32 0) := (blk_cell BK113.out 1).trans rfl; have hfz26_0 := blk_frozen BK113.out 0; have hfz26_1 := blk_frozen BK113.out 1))
              go_ret2
              exact ⟨_, by first | rfl | (simp [errW_none, errW_some] <;> rfl) | (simp [*, errW_none, errW_some] <;> rfl), by first | exact Kd.S_nil _ _ _ _ _ | exact Kd.N_nil _ _ _ _ _ | exact Kd.V_nil _ _ _ _ _ | exact Kd.Q_nil _ _ _ _ _ | exact Kd.R_nil _ _ _ _ _, by repeat (first | (with_reducible first | exact HB.out | apply below_alloc | apply pw_below_drewN | apply below_drew1 | refine below_set ?_ GE113.out) | exact HB.out)⟩
          · rw [if_neg c10] at H
            exact absurd H (by simp)
        · rw [if_neg c9] at H
          have c9b0 : decide (x6_1 < (t104.length : Int)) = false := decide_eq_false c9
          clear c9
          replace H := Option.bind_eq_some_iff.mp H
          obtain ⟨t117, A270, H⟩ := H
          replace H : (if t117 = true then (some (x4_1, true)) else (some (([] : List (S25)), false))) = some (r1, r2) := H
          have A27 := Aside0.mk A270
          clear A270
          by_cases c28 : t117 = true
          · subst c28
            have H1 : (some (x4_1, true)) = some (r1, r2) := by rw [if_pos rfl] at H; exact H
            clear H
            have H := H1
            clear H1
            simp only [Option.some.injEq, Prod.mk.injEq] at H
            obtain ⟨rfl, rfl⟩ := H
            obtain ⟨Ao29, co29, eo29⟩ := Kd.R_slice HO_5.out
            subst eo29
            obtain ⟨Ao30, co30, eo30⟩ := Kd.S_slice HO_4.out
            subst eo30
            go_wp2_with (first | ((with_reducible refine gate_callee (f := 40) rfl ?_); refine goesL_ (some 36) rfl rfl Tryd.func40 (by kernel_rfl) rfl #[.slice Ao30 x4_1.length co30] rfl (by (try simp only [List.map_toArray, List.map_cons, List.map_nil]); first | done | rfl | (simp only [List.length_drop, List.length_take]; rfl)) ?_; (with_reducible refine (XA.l06Are.calls _ _ x4_1 true _ ?side1 ?side2 A27.out).mono ?_); (case side1 => repeat (first | exact (Kd.S_reads' HO_4.out).2.2 | (with_reducible refine Kd.C_alloc ?_ _) | (with_reducible refine Kd.C_drewN ?_ _) | (with_reducible refine Kd.C_drew ?_))); (case side2 => exact (Kd.S_reads' HO_4.out).2.1); rintro e w31 ⟨rfl, hb⟩; refine ⟨_, rfl, ?_⟩; have n0_ := Aside0.mk (Kd.S_below (by (with_reducible repeat (first | apply Kd.S_alloc | apply Kd.S_drewN | apply Kd.S_drew)); exact HO_4.out) hb); have n1_ := Aside0.mk (Kd.R_below (by (with_reducible repeat (first | apply Kd.R_alloc | apply Kd.R_drewN | apply Kd.R_drew)); exact HO_5.out) hb); have n2_ := Aside0.mk (below_step (by repeat (first | (with_reducible first | exact HB.out | apply below_alloc | apply pw_below_drewN | apply below_drew1) | exact HB.out)) hb); clear HO_4; clear HO_5; clear HB; have HO_4 := n0_; have HO_5 := n1_; have HB := n2_; clear n0_ n1_ n2_; (try clear hb); (try clear hb2); (try clear hk); (try clear hi)))
            go_ret2
            exact ⟨_, by first | rfl | (simp [errW_none, errW_some] <;> rfl) | (simp [*, errW_none, errW_some] <;> rfl), by (with_reducible repeat (first | apply Kd.S_alloc | apply Kd.S_drewN | apply Kd.S_drew)); exact HO_4.out, by repeat (first | (with_reducible first | exact HB.out | apply below_alloc | apply pw_below_drewN | apply below_drew1) | exact HB.out)⟩
          · replace c28 := Bool.eq_false_iff.mpr c28
            subst c28
            have H1 : (some (([] : List (S25)), false)) = some (r1, r2) := by rw [if_neg (show ¬ (false = true) by decide)] at H; exact H
            clear H
            have H := H1
            clear H1
            simp only [Option.some.injEq, Prod.mk.injEq] at H
            obtain ⟨rfl, rfl⟩ := H
            obtain ⟨Ao32, co32, eo32⟩ := Kd.R_slice HO_5.out
            subst eo32
            obtain ⟨Ao33, co33, eo33⟩ := Kd.S_slice HO_4.out
            subst eo33
            go_wp2_with (first | ((with_reducible refine gate_callee (f := 40) rfl ?_); refine goesL_ (some 36) rfl rfl Tryd.func40 (by kernel_rfl) rfl #[.slice Ao33 x4_1.length co33] rfl (by (try simp only [List.map_toArray, List.map_cons, List.map_nil]); first | done | rfl | (simp only [List.length_drop, List.length_take]; rfl)) ?_; (with_reducible refine (XA.l06Are.calls _ _ x4_1 false _ ?side1 ?side2 A27.out).mono ?_); (case side1 => repeat (first | exact (Kd.S_reads' HO_4.out).2.2 | (with_reducible refine Kd.C_alloc ?_ _) | (with_reducible refine Kd.C_drewN ?_ _) | (with_reducible refine Kd.C_drew ?_))); (case side2 => exact (Kd.S_reads' HO_4.out).2.1); rintro e w34 ⟨rfl, hb⟩; refine ⟨_, rfl, ?_⟩; have n0_ := Aside0.mk (Kd.S_below (by (with_reducible repeat (first | apply Kd.S_alloc | apply Kd.S_drewN | apply Kd.S_drew)); exact HO_4.out) hb); have n1_ := Aside0.mk (Kd.R_below (by (with_reducible repeat (first | apply Kd.R_alloc | apply Kd.R_drewN | apply Kd.R_drew)); exact HO_5.out) hb); have n2_ := Aside0.mk (below_step (by repeat (first | (with_reducible first | exact HB.out | apply below_alloc | apply pw_below_drewN | apply below_drew1) | exact HB.out)) hb); clear HO_4; clear HO_5; clear HB; have HO_4 := n0_; have HO_5 := n1_; have HB := n2_; clear n0_ n1_ n2_; (try clear hb); (try clear hb2); (try clear hk); (try clear hi)))
            go_ret2
            exact ⟨_, by first | rfl | (simp [errW_none, errW_some] <;> rfl) | (simp [*, errW_none, errW_some] <;> rfl), by first | exact Kd.S_nil _ _ _ _ _ | exact Kd.N_nil _ _ _ _ _ | exact Kd.V_nil _ _ _ _ _ | exact Kd.Q_nil _ _ _ _ _ | exact Kd.R_nil _ _ _ _ _, by repeat (first | (with_reducible first | exact HB.out | apply below_alloc | apply pw_below_drewN | apply below_drew1) | exact HB.out)⟩
def spec_ReadThreads.f (k : Nat) (a0 : ByteArray) : Option ((List (S25)) × Bool) := (spec_l08ReadThreads.f k a0).bind fun bt118 => (some (bt118.1, bt118.2))
theorem spec_ReadThreads.mono : ∀ a0 k, LeO (spec_ReadThreads.f k a0) (spec_ReadThreads.f (k + 1) a0) := by
  intro a0 k
  unfold spec_ReadThreads.f
  repeat' first
      | (with_reducible exact spec_l08ReadThreads.mono _ _)
      | (with_reducible exact LeO.refl _)
      | (with_reducible exact LeO.none _)
      | (with_reducible refine LeO.ite ?_ ?_)
      | (with_reducible refine LeO.bind ?_ (fun _ => ?_))
      | exact spec_l08ReadThreads.mono _ _
      | exact LeO.none _
      | refine LeO.ite ?_ ?_
      | refine LeO.bind ?_ (fun _ => ?_)
set_option maxHeartbeats 8000000 in
set_option maxRecDepth 100000 in
theorem spec_ReadThreads.calls (k : Nat) (a0 : ByteArray) (r1 : List (S25)) (r2 : Bool) (w : World) (h : spec_ReadThreads.f k a0 = some (r1, r2)) (gl : GL w := by first | exact (‹Aside0 (GL _)›).out | exact GL.of_below (‹Aside0 (GL _)›).out (by repeat (first | (with_reducible first | exact (‹Aside0 (Below _ _ _)›).out | apply below_alloc | apply pw_below_drewN | apply below_drew1 | refine below_set ?_ (Aside0.out (by assumption)) | exact Below.refl _ _) | exact (‹Aside0 (Below _ _ _)›).out))) :
    Calls Tryd.prog 10 #[.string a0] w fun e w' => ∃ v0_ : Value, e = .returned (.tuple #[v0_, .bool r2]) ∧ Kd.S k25 25 w' w.heap.size (fun _ => True) v0_ r1 ∧ Below w.heap.size w w' := by
  have HG_ := Aside0.mk gl
  clear gl
  have HB := Aside0.mk (Below.refl w.heap.size w)
  have H : ((spec_l08ReadThreads.f k a0).bind fun bt118 => (some (bt118.1, bt118.2))) = some (r1, r2) := h
  clear h
  replace H := Option.bind_eq_some_iff.mp H
  obtain ⟨⟨t118, t119⟩, A20, H⟩ := H
  replace H : (some (t118, t119)) = some (r1, r2) := H
  have A2 := Aside0.mk A20
  clear A20
  simp only [Option.some.injEq, Prod.mk.injEq] at H
  obtain ⟨rfl, rfl⟩ := H
  go_enter Tryd.func10, Tryd.ntmps10
  go_wp2_with (first | ((with_reducible refine gate_callee (f := 26) rfl ?_); refine goesL_ (some 5) rfl rfl Tryd.func26 (by kernel_rfl) rfl #[.string a0] rfl (by (try simp only [List.map_toArray, List.map_cons, List.map_nil]); first | done | rfl | (simp only [List.length_drop, List.length_take]; rfl)) ?_; (with_reducible refine (spec_l08ReadThreads.calls k a0 t118 t119 _ A2.out).mono ?_); rintro e w3 ⟨v120, rfl, ho0, hb⟩; refine ⟨_, rfl, ?_⟩; have n0_ := Aside0.mk (Kd.S_lower ho0 (below_size (by repeat (first | (with_reducible first | exact HB.out | apply below_alloc | apply pw_below_drewN | apply below_drew1) | exact HB.out)))); have n1_ := Aside0.mk (below_step (by repeat (first | (with_reducible first | exact HB.out | apply below_alloc | apply pw_below_drewN | apply below_drew1) | exact HB.out)) hb); clear HB; have HO121 := n0_; have HB := n1_; clear n0_ n1_; (try clear hb); (try clear hb2); (try clear hk); (try clear hi); (try clear ho0)))
  go_ret2
  exact ⟨_, by first | rfl | (simp [errW_none, errW_some] <;> rfl) | (simp [*, errW_none, errW_some] <;> rfl), by (with_reducible repeat (first | apply Kd.S_alloc | apply Kd.S_drewN | apply Kd.S_drew)); exact HO121.out, by repeat (first | (with_reducible first | exact HB.out | apply below_alloc | apply pw_below_drewN | apply below_drew1) | exact HB.out)⟩
def impl_ReadThreads.l0 : Nat → List (S25) → List ByteArray → Int → Int → Option ((List (S25)) × Bool)
  | 0, _, _, _, _ => none
  | k + 1, x4, x16, x17, x18 => if x18 < x17 then (if 0 ≤ x18 then (if x18 < (x16.length : Int) then ((F1.impl_ReadThread.f k (rdOf ByteArray.empty x16 x18)).bind fun bt130 => (if bt130.2.2 = true then (if x4.length < 4398046511104 then (impl_ReadThreads.l0 k (x4 ++ [(⟨bt130.1, bt130.2.1⟩ : S25)]) x16 x17 (wrap64 (x18 + 1))) else (none)) else (some (([] : List (S25)), false)))) else (none)) else (none)) else (some (x4, true))
def impl_ReadThreads.f (k : Nat) (a0 : ByteArray) : Option ((List (S25)) × Bool) := if a0.toList = ([110, 111, 110, 101] : List UInt8) then (some (([] : List (S25)), true)) else ((XS.strings_Count.f a0 (⟨#[124]⟩ : ByteArray)).bind fun t122 => (if t122 ≥ 4 then (some (([] : List (S25)), false)) else ((XS.strings_Split.f a0 (⟨#[124]⟩ : ByteArray)).bind fun t126 => (impl_ReadThreads.l0 k (([] : List (S25))) t126 (t126.length : Int) 0))))
theorem impl_ReadThreads.mono_l : ∀ k, (∀ y0 y1 y2 y3, LeO (impl_ReadThreads.l0 k y0 y1 y2 y3) (impl_ReadThreads.l0 (k + 1) y0 y1 y2 y3))
  | 0 => fun _ _ _ _ r h => by simp [impl_ReadThreads.l0] at h
  | k + 1 => by
    have ih0 := impl_ReadThreads.mono_l k
    · intro y0 y1 y2 y3
      unfold impl_ReadThreads.l0
      repeat' first
      | (with_reducible exact ih0 _ _ _ _)
      | (with_reducible exact F1.impl_ReadThread.mono _ _)
      | (with_reducible exact LeO.refl _)
      | (with_reducible exact LeO.none _)
      | (with_reducible refine LeO.ite ?_ ?_)
      | (with_reducible refine LeO.bind ?_ (fun _ => ?_))
      | exact ih0 _ _ _ _
      | exact F1.impl_ReadThread.mono _ _
      | exact LeO.none _
      | refine LeO.ite ?_ ?_
      | refine LeO.bind ?_ (fun _ => ?_)
theorem impl_ReadThreads.mono : ∀ a0 k, LeO (impl_ReadThreads.f k a0) (impl_ReadThreads.f (k + 1) a0) := by
  intro a0 k
  have ih0 := impl_ReadThreads.mono_l k
  unfold impl_ReadThreads.f
  repeat' first
      | (with_reducible exact ih0 _ _ _ _)
      | (with_reducible exact F1.impl_ReadThread.mono _ _)
      | (with_reducible exact LeO.refl _)
      | (with_reducible exact LeO.none _)
      | (with_reducible refine LeO.ite ?_ ?_)
      | (with_reducible refine LeO.bind ?_ (fun _ => ?_))
      | exact ih0 _ _ _ _
      | exact F1.impl_ReadThread.mono _ _
      | exact LeO.none _
      | refine LeO.ite ?_ ?_
      | refine LeO.bind ?_ (fun _ => ?_)
set_option maxHeartbeats 8000000 in
set_option maxRecDepth 100000 in
theorem impl_ReadThreads.calls (k : Nat) (a0 : ByteArray) (r1 : List (S25)) (r2 : Bool) (w : World) (h : impl_ReadThreads.f k a0 = some (r1, r2)) (gl : GL w := by first | exact (‹Aside0 (GL _)›).out | exact GL.of_below (‹Aside0 (GL _)›).out (by repeat (first | (with_reducible first | exact (‹Aside0 (Below _ _ _)›).out | apply below_alloc | apply pw_below_drewN | apply below_drew1 | refine below_set ?_ (Aside0.out (by assumption)) | exact Below.refl _ _) | exact (‹Aside0 (Below _ _ _)›).out))) :
    Calls Tryd.prog 11 #[.string a0] w fun e w' => ∃ v0_ : Value, e = .returned (.tuple #[v0_, .bool r2]) ∧ Kd.S k25 25 w' w.heap.size (fun _ => True) v0_ r1 ∧ Below w.heap.size w w' := by
  have HG_ := Aside0.mk gl
  clear gl
  have hu25 := Tryd.underlying25
  have HB := Aside0.mk (Below.refl w.heap.size w)
  have H : (if a0.toList = ([110, 111, 110, 101] : List UInt8) then (some (([] : List (S25)), true)) else ((XS.strings_Count.f a0 (⟨#[124]⟩ : ByteArray)).bind fun t122 => (if t122 ≥ 4 then (some (([] : List (S25)), false)) else ((XS.strings_Split.f a0 (⟨#[124]⟩ : ByteArray)).bind fun t126 => (impl_ReadThreads.l0 k (([] : List (S25))) t126 (t126.length : Int) 0))))) = some (r1, r2) := h
  clear h
  by_cases c2 : a0.toList = ([110, 111, 110, 101] : List UInt8)
  · rw [if_pos c2] at H
    have c2b0 : (a0.toList == ([110, 111, 110, 101] : List UInt8)) = true := beq_iff_eq.mpr c2
    have c2b1 : (a0.toList != ([110, 111, 110, 101] : List UInt8)) = false := bne_eq_false_iff_eq.mpr c2
    clear c2
    simp only [Option.some.injEq, Prod.mk.injEq] at H
    obtain ⟨rfl, rfl⟩ := H
    go_enter Tryd.func11, Tryd.ntmps11
    go_wp2
    go_ret2
    exact ⟨_, by first | rfl | (simp [errW_none, errW_some] <;> rfl) | (simp [*, errW_none, errW_some] <;> rfl), by first | exact Kd.S_nil _ _ _ _ _ | exact Kd.N_nil _ _ _ _ _ | exact Kd.V_nil _ _ _ _ _ | exact Kd.Q_nil _ _ _ _ _ | exact Kd.R_nil _ _ _ _ _, by repeat (first | (with_reducible first | exact HB.out | apply below_alloc | apply pw_below_drewN | apply below_drew1) | exact HB.out)⟩
  · rw [if_neg c2] at H
    have c2b0 : (a0.toList == ([110, 111, 110, 101] : List UInt8)) = false := beq_eq_false_iff_ne.mpr c2
    have c2b1 : (a0.toList != ([110, 111, 110, 101] : List UInt8)) = true := bne_iff_ne.mpr c2
    replace H := Option.bind_eq_some_iff.mp H
    obtain ⟨t122, A30, H⟩ := H
    replace H : (if t122 ≥ 4 then (some (([] : List (S25)), false)) else ((XS.strings_Split.f a0 (⟨#[124]⟩ : ByteArray)).bind fun t126 => (impl_ReadThreads.l0 k (([] : List (S25))) t126 (t126.length : Int) 0))) = some (r1, r2) := H
    have A3 := Aside0.mk A30
    clear A30
    by_cases c4 : t122 ≥ 4
    · rw [if_pos c4] at H
      have c4b0 : decide (4 ≤ t122) = true := decide_eq_true c4
      clear c4
      simp only [Option.some.injEq, Prod.mk.injEq] at H
      obtain ⟨rfl, rfl⟩ := H
      go_enter Tryd.func11, Tryd.ntmps11
      go_wp2_with (first | ((with_reducible refine gate_callee (f := 18) rfl ?_); refine goesL_ (some 12) rfl rfl Tryd.func18 (by kernel_rfl) rfl #[.string a0, .string (⟨#[124]⟩ : ByteArray)] rfl (by (try simp only [List.map_toArray, List.map_cons, List.map_nil]); first | done | rfl | (simp only [List.length_drop, List.length_take]; rfl)) ?_; (with_reducible refine (XS.strings_Count.calls a0 (⟨#[124]⟩ : ByteArray) t122 _ A3.out).mono ?_); rintro e w' ⟨rfl, ⟨nd, rfl⟩⟩; refine ⟨_, rfl, ?_⟩))
      go_ret2
      exact ⟨_, by first | rfl | (simp [errW_none, errW_some] <;> rfl) | (simp [*, errW_none, errW_some] <;> rfl), by first | exact Kd.S_nil _ _ _ _ _ | exact Kd.N_nil _ _ _ _ _ | exact Kd.V_nil _ _ _ _ _ | exact Kd.Q_nil _ _ _ _ _ | exact Kd.R_nil _ _ _ _ _, by repeat (first | (with_reducible first | exact HB.out | apply below_alloc | apply pw_below_drewN | apply below_drew1) | exact HB.out)⟩
    · rw [if_neg c4] at H
      have c4b0 : decide (4 ≤ t122) = false := decide_eq_false c4
      clear c4
      obtain ⟨y123, hy123⟩ : ∃ y_ : List (S25), y_ = (([] : List (S25))) := ⟨_, rfl⟩
      replace H : ((XS.strings_Split.f a0 (⟨#[124]⟩ : ByteArray)).bind fun t126 => (impl_ReadThreads.l0 k y123 t126 (t126.length : Int) 0)) = some (r1, r2) := by first | (rw [hy123]; with_reducible exact H) | (have H2_ := (Option.bind_some _ _).symm.trans H; rw [hy123]; with_reducible exact H2_) | (have H2_ := (Option.bind_some _ _).symm.trans H; with_reducible exact H2_) | with_reducible exact H | (rw [hy123]; exact H) | exact H
      have Ny123 := Aside0.mk hy123
      clear hy123
      replace H := Option.bind_eq_some_iff.mp H
      obtain ⟨t126, A50, H⟩ := H
      replace H : (impl_ReadThreads.l0 k y123 t126 (t126.length : Int) 0) = some (r1, r2) := H
      have A5 := Aside0.mk A50
      clear A50
      have H' := Aside0.mk H
      clear H
      go_enter Tryd.func11, Tryd.ntmps11
      go_wp2_with (first | ((with_reducible refine gate_callee (f := 18) rfl ?_); refine goesL_ (some 12) rfl rfl Tryd.func18 (by kernel_rfl) rfl #[.string a0, .string (⟨#[124]⟩ : ByteArray)] rfl (by (try simp only [List.map_toArray, List.map_cons, List.map_nil]); first | done | rfl | (simp only [List.length_drop, List.length_take]; rfl)) ?_; (with_reducible refine (XS.strings_Count.calls a0 (⟨#[124]⟩ : ByteArray) t122 _ A3.out).mono ?_); rintro e w' ⟨rfl, ⟨nd, rfl⟩⟩; refine ⟨_, rfl, ?_⟩) | ((with_reducible refine gate_dst (N := 14) rfl ?_); refine Kd.S_lit k25 _ 25 ?hg (N := 14) ?hd (xs := ([] : List (S25))) (inner := []) (ok := fun _ => True) (okp := fun _ => True) ?hr ?hp (fun _ hk => hk) trivial (Below.refl _ _) (Nat.le_refl _) (by simp) ?_; (case hd => rfl); (case hg => rfl); (case hr => first | (go_simp; done) | (go_simp; rfl)); (case hp => exact (Reps.none _ _)); intro v124 w6 ho7 hb hg_ hnew_; clear hg_ hnew_; (first | rw [← Ny123.out] at ho7 | (simp only [Int.reduceToNat] at ho7; rw [← Ny123.out] at ho7)); have n0_ := Aside0.mk (Kd.S_lower ho7 (below_size (by repeat (first | (with_reducible first | exact HB.out | apply below_alloc | apply pw_below_drewN | apply below_drew1) | exact HB.out)))); have n1_ := Aside0.mk (below_step (by repeat (first | (with_reducible first | exact HB.out | apply below_alloc | apply pw_below_drewN | apply below_drew1) | exact HB.out)) hb); clear HB; have HO125 := n0_; have HB := n1_; clear n0_ n1_; clear hb ho7) | ((with_reducible refine gate_callee (f := 19) rfl ?_); refine goesL_ (some 16) rfl rfl Tryd.func19 (by kernel_rfl) rfl #[.string a0, .string (⟨#[124]⟩ : ByteArray)] rfl (by (try simp only [List.map_toArray, List.map_cons, List.map_nil]); first | done | rfl | (simp only [List.length_drop, List.length_take]; rfl)) ?_; (with_reducible refine (XS.strings_Split.calls a0 (⟨#[124]⟩ : ByteArray) t126 _ A5.out).mono ?_); rintro e w8 ⟨v127, rfl, ho0, hb⟩; refine ⟨_, rfl, ?_⟩; have n0_ := Aside0.mk (Kd.S_below (by (with_reducible repeat (first | apply Kd.S_alloc | apply Kd.S_drewN | apply Kd.S_drew)); exact HO125.out) hb); have n1_ := Aside0.mk (Kd.R_lower ho0 (below_size (by repeat (first | (with_reducible first | exact HB.out | apply below_alloc | apply pw_below_drewN | apply below_drew1) | exact HB.out)))); have n2_ := Aside0.mk (below_step (by repeat (first | (with_reducible first | exact HB.out | apply below_alloc | apply pw_below_drewN | apply below_drew1) | exact HB.out)) hb); clear HO125; clear HB; have HO125 := n0_; have HO128 := n1_; have HB := n2_; clear n0_ n1_ n2_; (try clear hb); (try clear hb2); (try clear hk); (try clear hi); (try clear ho0); obtain ⟨Ao9, co9, eo9⟩ := Kd.R_slice HO128.out; subst eo9))
      go_loopg [4, 18] k (fun kq v4 v18 w' => ∃ (x4_1 : List (S25)) (x18_1 : Int), v18 = .int .i64 x18_1 ∧ Aside0 (impl_ReadThreads.l0 kq x4_1 t126 (t126.length : Int) x18_1 = some (r1, r2)) ∧ Aside0 (kq ≤ k) ∧ Aside0 (Kd.S k25 25 w' w.heap.size (fun _ => True) v4 x4_1) ∧ Aside0 (Kd.R Kd.string 9 w' w.heap.size (fun _ => True) (.slice Ao9 t126.length co9) t126) ∧ Aside0 (Below w.heap.size w w'))
      case atStart => exact ⟨(y123), (0), (by first | rfl | (simp; done) | (simp [*]; done)), H', ⟨Nat.le_refl _⟩, ⟨by (with_reducible repeat (first | apply Kd.S_alloc | apply Kd.S_drewN | apply Kd.S_drew)); exact HO125.out⟩, ⟨by (with_reducible repeat (first | apply Kd.R_alloc | apply Kd.R_drewN | apply Kd.R_drew)); exact HO128.out⟩, ⟨by repeat (first | (with_reducible first | exact HB.out | apply below_alloc | apply pw_below_drewN | apply below_drew1) | exact HB.out)⟩⟩
      case round =>
        clear H'
        try clear c1
        try clear c2
        try clear c2b0
        try clear c2b1
        try clear p2
        try clear c4
        try clear c4b0
        obtain ⟨x4_1, x18_1, rfl, HA, HK1, HO_4, HO_16, HB⟩ := hrel
        cases gk with
        | zero => exact absurd HA.out (by simp [impl_ReadThreads.l0])
        | succ k1 =>
          have H := HA.out
          clear HA
          simp only [impl_ReadThreads.l0] at H
          by_cases c10 : x18_1 < (t126.length : Int)
          · rw [if_pos c10] at H
            have c10b0 : decide (x18_1 < (t126.length : Int)) = true := decide_eq_true c10
            clear c10
            by_cases c11 : 0 ≤ x18_1
            · rw [if_pos c11] at H
              have c11b0 : decide (0 ≤ x18_1) = true := decide_eq_true c11
              clear c11
              by_cases c12 : x18_1 < (t126.length : Int)
              · rw [if_pos c12] at H
                have c12b0 : decide (x18_1 < (t126.length : Int)) = true := decide_eq_true c12
                clear c12
                replace H := Option.bind_eq_some_iff.mp H
                obtain ⟨⟨t130, t133, t134⟩, A130, H⟩ := H
                replace H : (if t134 = true then (if x4_1.length < 4398046511104 then (impl_ReadThreads.l0 k1 (x4_1 ++ [(⟨t130, t133⟩ : S25)]) t126 (t126.length : Int) (wrap64 (x18_1 + 1))) else (none)) else (some (([] : List (S25)), false))) = some (r1, r2) := H
                have A13 := Aside0.mk A130
                clear A130
                by_cases c14 : t134 = true
                · subst c14
                  have H1 : (if x4_1.length < 4398046511104 then (impl_ReadThreads.l0 k1 (x4_1 ++ [(⟨t130, t133⟩ : S25)]) t126 (t126.length : Int) (wrap64 (x18_1 + 1))) else (none)) = some (r1, r2) := by rw [if_pos rfl] at H; exact H
                  clear H
                  have H := H1
                  clear H1
                  by_cases c15 : x4_1.length < 4398046511104
                  · rw [if_pos c15] at H
                    have LMc15 := Aside0.mk c15
                    clear c15
                    obtain ⟨y136, hy136⟩ : ∃ y_ : List (S25), y_ = (x4_1 ++ [(⟨t130, t133⟩ : S25)]) := ⟨_, rfl⟩
                    replace H : (impl_ReadThreads.l0 k1 y136 t126 (t126.length : Int) (wrap64 (x18_1 + 1))) = some (r1, r2) := by first | (rw [hy136]; with_reducible exact H) | (have H2_ := (Option.bind_some _ _).symm.trans H; rw [hy136]; with_reducible exact H2_) | (have H2_ := (Option.bind_some _ _).symm.trans H; with_reducible exact H2_) | with_reducible exact H | (rw [hy136]; exact H) | exact H
                    have Ny136 := Aside0.mk hy136
                    clear hy136
                    have H' := Aside0.mk H
                    clear H
                    have p129 : 0 ≤ (x18_1 : Int) := of_decide_eq_true (by first | (with_reducible assumption) | assumption)
                    have q129 : x18_1 < (t126.length : Int) := of_decide_eq_true (by first | (with_reducible assumption) | assumption)
                    obtain ⟨ad129, e129, hx129_0⟩ := Kd.at_string (Kd.R_reads' HO_16.out).2.2 x18_1 p129 q129
                    cases e129
                    replace p129 := eq_true p129
                    replace q129 := eq_true q129
                    go_wp2_with (first | ((with_reducible refine gate_callee (f := 6) rfl ?_); refine goesL_ (some 24) rfl rfl Tryd.func6 (by kernel_rfl) rfl #[.string (rdOf ByteArray.empty t126 x18_1)] rfl (by (try simp only [List.map_toArray, List.map_cons, List.map_nil]); first | done | rfl | (simp only [List.length_drop, List.length_take]; rfl)) ?_; (with_reducible refine (F1.impl_ReadThread.calls k1 (rdOf ByteArray.empty t126 x18_1) t130 t133 true _ A13.out).mono ?_); rintro e w16 ⟨v131, rfl, ho0, hb⟩; refine ⟨_, rfl, ?_⟩; have n0_ := Aside0.mk (Kd.S_elder' (by (with_reducible repeat (first | apply Kd.S_alloc | apply Kd.S_drewN | apply Kd.S_drew)); exact HO_4.out) (Kd.R_base ho0) hb); have n1_ := Aside0.mk (Kd.R_below (by (with_reducible repeat (first | apply Kd.R_alloc | apply Kd.R_drewN | apply Kd.R_drew)); exact HO_16.out) hb); have n2_ := Aside0.mk (Kd.R_lower ho0 (below_size (by repeat (first | (with_reducible first | exact HB.out | apply below_alloc | apply pw_below_drewN | apply below_drew1) | exact HB.out)))); have n3_ := Aside0.mk (below_step (by repeat (first | (with_reducible first | exact HB.out | apply below_alloc | apply pw_below_drewN | apply below_drew1) | exact HB.out)) hb); clear HO_4; clear HO_16; clear HB; have HO_4 := n0_; have HO_16 := n1_; have HO132 := n2_; have HB := n3_; clear n0_ n1_ n2_ n3_; (try clear hb); (try clear hb2); (try clear hk); (try clear hi); (try clear ho0)) | ((with_reducible refine gate_dst (N := 7) rfl ?_); refine box_event ?hg (N := 7) ?hd (cs := #[.slice none 0 0, .float .f32 0]) (t := 25) ?hr ?_; (case hd => rfl); (case hg => rfl); (case hr => first | (go_simp; done) | (go_simp; rfl)); intro gb135 hg w17 hbox hb; have n0_ := Aside0.mk (Kd.S_below (Kd.S_elderB (by (with_reducible repeat (first | apply Kd.S_alloc | apply Kd.S_drewN | apply Kd.S_drew)); exact HO_4.out) gb135 (Nat.le_of_eq hg.symm)) hb); have n1_ := Aside0.mk (Kd.R_below (by (with_reducible repeat (first | apply Kd.R_alloc | apply Kd.R_drewN | apply Kd.R_drew)); exact HO_16.out) hb); have n2_ := Aside0.mk (Kd.R_below (by (with_reducible repeat (first | apply Kd.R_alloc | apply Kd.R_drewN | apply Kd.R_drew)); exact HO132.out) hb); have n3_ := Aside0.mk (below_step (by repeat (first | (with_reducible first | exact HB.out | apply below_alloc | apply pw_below_drewN | apply below_drew1) | exact HB.out)) hb); have n4_ := Aside0.mk (hbox); have n5_ := Aside0.mk ((by rw [hg]; exact (below_size (by repeat (first | (with_reducible first | exact HB.out | apply below_alloc | apply pw_below_drewN | apply below_drew1) | exact HB.out))) : w.heap.size ≤ gb135)); have n6_ := Aside0.mk ((by rw [hg]; exact (below_size (by repeat (first | (with_reducible first | exact HB.out | apply below_alloc | apply pw_below_drewN | apply below_drew1) | exact HB.out))) : w.heap.size ≤ gb135)); clear HO_4; clear HO_16; clear HO132; clear HB; have HO_4 := n0_; have HO_16 := n1_; have HO132 := n2_; have HB := n3_; have BK135 := n4_; have GW135 := n5_; have GE135 := n6_; clear n0_ n1_ n2_ n3_ n4_ n5_ n6_; clear hb hbox hg; obtain ⟨Ao18, co18, eo18⟩ := Kd.R_slice HO132.out; subst eo18; have hcz19_0 : w17.cell? ⟨gb135, 0, none⟩ = some (.slice none 0 0) := (blk_cell BK135.out 0).trans rfl; have hcz19_1 : w17.cell? ⟨gb135, 1, none⟩ = some (.float .f32 0) := (blk_cell BK135.out 1).trans rfl; have hfz19_0 := blk_frozen BK135.out 0; have hfz19_1 := blk_frozen BK135.out 1) | ((with_reducible refine gate_store (t := 25) (p := 7) rfl ?_); refine store_event (t := 25) (p := 7) (v := ?vo_w20) (w1 := ((w17.setCell ⟨gb135, 0, none⟩ (.slice Ao18 t130.length co18)).setCell ⟨gb135, 1, none⟩ (.float .f32 t133))) ?hg ?ho ?hn ?hr ?_; (case ho => rfl); (case hg => rfl); (case hn => rfl); (case hr => first | (go_simp; done) | (go_simp; rfl)); intro w20 hw; have n0_ : Aside0 (Kd.S k25 25 w20 w.heap.size (fun k_ => some k_ ≠ (.slice Ao18 t130.length co18 : Value).ownBlock ∧ k_ ≠ gb135) u4 x4_1) := ⟨(by rw [hw]; exact (by (with_reducible repeat (first | apply Kd.S_alloc | apply Kd.S_drewN | apply Kd.S_drew)); exact Kd.S_mono (Kd.S_far (p := ⟨gb135, 1, none⟩) (Kd.S_far (p := ⟨gb135, 0, none⟩) (Kd.S_mono HO_4.out (fun k_ hk => (⟨hk, hk.2⟩ : _ ∧ k_ ≠ gb135))) (fun _ hk => hk.2) (.slice Ao18 t130.length co18)) (fun _ hk => hk.2) (.float .f32 t133)) (fun _ hk => ⟨hk.1.1.2, hk.1.2⟩)))⟩; have n1_ : Aside0 (Kd.R Kd.string 9 w20 w.heap.size (fun _ => True) (.slice (some ad129) t126.length co9) t126) := ⟨(by rw [hw]; exact (by (with_reducible repeat (first | apply Kd.R_alloc | apply Kd.R_drewN | apply Kd.R_drew)); exact Kd.R_mono (Kd.R_far (p := ⟨gb135, 1, none⟩) (Kd.R_far (p := ⟨gb135, 0, none⟩) (Kd.R_types HO_16.out BK135.out (by decide)) (fun _ hk => hk.2) (.slice Ao18 t130.length co18)) (fun _ hk => hk.2) (.float .f32 t133)) (fun _ hk => trivial)))⟩; have n2_ : Aside0 (Kd.R k45 45 w20 w.heap.size (fun _ => True) (.slice Ao18 t130.length co18) t130) := ⟨(by rw [hw]; exact (by (with_reducible repeat (first | apply Kd.R_alloc | apply Kd.R_drewN | apply Kd.R_drew)); exact Kd.R_mono (Kd.R_far (p := ⟨gb135, 1, none⟩) (Kd.R_far (p := ⟨gb135, 0, none⟩) (Kd.R_types HO132.out BK135.out (by decide)) (fun _ hk => hk.2) (.slice Ao18 t130.length co18)) (fun _ hk => hk.2) (.float .f32 t133)) (fun _ hk => trivial)))⟩; have n3_ : Aside0 (w20.heap[gb135]? = some (.cells #[.slice Ao18 t130.length co18, .float .f32 t133] 25 (0, 0))) := ⟨(by rw [hw]; exact (by (with_reducible repeat (first | refine blk_drewN ?_ _ | refine blk_drew ?_ | refine blk_alloc ?_ _)); refine blk_put (cs := #[.slice Ao18 t130.length co18, .float .f32 0]) ?_ 1 _ rfl; (with_reducible repeat (first | refine blk_drewN ?_ _ | refine blk_drew ?_ | refine blk_alloc ?_ _)); refine blk_put (cs := #[.slice none 0 0, .float .f32 0]) ?_ 0 _ rfl; (with_reducible repeat (first | refine blk_drewN ?_ _ | refine blk_drew ?_ | refine blk_alloc ?_ _)); exact BK135.out))⟩; have n4_ : Aside0 (Below w.heap.size w w20) := ⟨(by rw [hw]; exact (by repeat (first | (with_reducible first | exact HB.out | apply below_alloc | apply pw_below_drewN | apply below_drew1 | refine below_set ?_ GE135.out) | exact HB.out)))⟩; clear hw; clear HO_4; clear HO_16; clear HO132; clear BK135; clear HB; have HO_4 := n0_; have HO_16 := n1_; have HO132 := n2_; have BK135 := n3_; have HB := n4_; clear n0_ n1_ n2_ n3_ n4_; have hcz21_0 : w20.cell? ⟨gb135, 0, none⟩ = some (.slice Ao18 t130.length co18) := (blk_cell BK135.out 0).trans rfl; have hcz21_1 : w20.cell? ⟨gb135, 1, none⟩ = some (.float .f32 t133) := (blk_cell BK135.out 1).trans rfl; have hfz21_0 := blk_frozen BK135.out 0; have hfz21_1 := blk_frozen BK135.out 1) | ((with_reducible refine gate_builtin (b := .append) (xs := #[.tmp 29, .tmp 31]) rfl ?_); at_builtin; refine Kd.S_append k25 (w0 := w) w.heap.size rfl (.tmp 29) (.tmp 31) 31 25 (.agg #[(.slice none 0 0), (.float .f32 0)]) 32 rfl Tryd.underlying31 info25 rfl (by decide) (by omega) u4 x4_1 (⟨t130, t133⟩ : S25) [.slice Ao18 t130.length co18, .float .f32 t133] (fun k_ => k_ ≠ gb135) (fun k_ => some k_ = (.slice Ao18 t130.length co18 : Value).ownBlock) rfl rfl ?aP (fun k_ hk_ => ((Kd.R_mono (ok' := fun k_ => ((fun k_ => k_ ≠ gb135)) k_ ∧ some k_ ≠ (u4 : Value).ownBlock) (Kd.R_types (Kd.R_apart' (HO132.out) (Kd.S_typed HO_4.out) (by decide)) BK135.out (by decide)) (fun k_ hk => ⟨hk.2, hk.1.2⟩))).1 k_ hk_.symm) ?aF ?aO ?aB ?aS ?aL ?_; (case aP => exact k25_mkM _ _ _ (⟨t130, t133⟩ : S25) (Kd.R_mono (Kd.R_tight rfl (Kd.R_mono (ok' := fun k_ => ((fun k_ => k_ ≠ gb135)) k_ ∧ some k_ ≠ (u4 : Value).ownBlock) (Kd.R_types (Kd.R_apart' (HO132.out) (Kd.S_typed HO_4.out) (by decide)) BK135.out (by decide)) (fun k_ hk => ⟨hk.2, hk.1.2⟩))) (fun _ h_ => h_))); (case aB => exact (by repeat (first | (with_reducible first | exact HB.out | apply below_alloc | apply pw_below_drewN | apply below_drew1 | refine below_set ?_ GE135.out) | exact HB.out))); (case aF => exact (fun k_ hk => Kd.freshB (g := gb135) (o := .cells #[.slice Ao18 t130.length co18, .float .f32 t133] 25 (0, 0)) (by (with_reducible repeat (first | refine blk_drewN ?_ _ | refine blk_drew ?_ | refine blk_alloc ?_ _)); exact BK135.out) k_ hk)); (case aO => exact (by (with_reducible repeat (first | apply Kd.S_alloc | apply Kd.S_drewN | apply Kd.S_drew)); exact Kd.S_mono HO_4.out (fun k_ hk => ⟨hk.2, fun e_ => hk.1 e_⟩))); (case aS => exact (below_size (by repeat (first | (with_reducible first | exact HB.out | apply below_alloc | apply pw_below_drewN | apply below_drew1 | refine below_set ?_ GE135.out) | exact HB.out)))); (case aL => have := LMc15.out; omega); intro v137 w22 ho hb hg hat; rw [← Ny136.out] at ho; have n0_ := Aside0.mk (Kd.R_over' (by (with_reducible repeat (first | apply Kd.R_alloc | apply Kd.R_drewN | apply Kd.R_drew)); exact HO_16.out) (Kd.S_typed (by (with_reducible repeat (first | apply Kd.S_alloc | apply Kd.S_drewN | apply Kd.S_drew)); exact HO_4.out)) (by decide) hg); have n1_ := Aside0.mk (blk_grown (g := gb135) (o := .cells #[.slice Ao18 t130.length co18, .float .f32 t133] 25 (0, 0)) (by (with_reducible repeat (first | refine blk_drewN ?_ _ | refine blk_drew ?_ | refine blk_alloc ?_ _)); exact BK135.out) hg (Kd.S_away HO_4.out (fun _ hk => hk.2))); have n2_ := Aside0.mk (hb); have n3_ := Aside0.mk (ho); clear HO_16; clear BK135; clear HB; clear HO_4; clear HO132; have HO_16 := n0_; have BK135 := n1_; have HB := n2_; have HO138 := n3_; clear n0_ n1_ n2_ n3_; clear ho hb hg hat))
                    go_roundg k1
                    case measure => have := HK1.out; omega
                    case rel => exact ⟨(y136), (wrap64 (x18_1 + 1)), (by first | rfl | (simp; done) | (simp [*]; done)), H', ⟨by have := HK1.out; omega⟩, ⟨by (with_reducible repeat (first | apply Kd.S_alloc | apply Kd.S_drewN | apply Kd.S_drew)); exact Kd.S_mono HO138.out (fun _ hk => trivial)⟩, ⟨by (with_reducible repeat (first | apply Kd.R_alloc | apply Kd.R_drewN | apply Kd.R_drew)); exact HO_16.out⟩, ⟨by repeat (first | (with_reducible first | exact HB.out | apply below_alloc | apply pw_below_drewN | apply below_drew1 | refine below_set ?_ GE135.out) | exact HB.out)⟩⟩
                  · rw [if_neg c15] at H
                    exact absurd H (by simp)
                · replace c14 := Bool.eq_false_iff.mpr c14
                  subst c14
                  have H1 : (some (([] : List (S25)), false)) = some (r1, r2) := by rw [if_neg (show ¬ (false = true) by decide)] at H; exact H
                  clear H
                  have H := H1
                  clear H1
                  simp only [Option.some.injEq, Prod.mk.injEq] at H
                  obtain ⟨rfl, rfl⟩ := H
                  have p129 : 0 ≤ (x18_1 : Int) := of_decide_eq_true (by first | (with_reducible assumption) | assumption)
                  have q129 : x18_1 < (t126.length : Int) := of_decide_eq_true (by first | (with_reducible assumption) | assumption)
                  obtain ⟨ad129, e129, hx129_0⟩ := Kd.at_string (Kd.R_reads' HO_16.out).2.2 x18_1 p129 q129
                  cases e129
                  replace p129 := eq_true p129
                  replace q129 := eq_true q129
                  go_wp2_with (first | ((with_reducible refine gate_callee (f := 6) rfl ?_); refine goesL_ (some 24) rfl rfl Tryd.func6 (by kernel_rfl) rfl #[.string (rdOf ByteArray.empty t126 x18_1)] rfl (by (try simp only [List.map_toArray, List.map_cons, List.map_nil]); first | done | rfl | (simp only [List.length_drop, List.length_take]; rfl)) ?_; (with_reducible refine (F1.impl_ReadThread.calls k1 (rdOf ByteArray.empty t126 x18_1) t130 t133 false _ A13.out).mono ?_); rintro e w23 ⟨v131, rfl, ho0, hb⟩; refine ⟨_, rfl, ?_⟩; have n0_ := Aside0.mk (Kd.S_elder' (by (with_reducible repeat (first | apply Kd.S_alloc | apply Kd.S_drewN | apply Kd.S_drew)); exact HO_4.out) (Kd.R_base ho0) hb); have n1_ := Aside0.mk (Kd.R_below (by (with_reducible repeat (first | apply Kd.R_alloc | apply Kd.R_drewN | apply Kd.R_drew)); exact HO_16.out) hb); have n2_ := Aside0.mk (Kd.R_lower ho0 (below_size (by repeat (first | (with_reducible first | exact HB.out | apply below_alloc | apply pw_below_drewN | apply below_drew1) | exact HB.out)))); have n3_ := Aside0.mk (below_step (by repeat (first | (with_reducible first | exact HB.out | apply below_alloc | apply pw_below_drewN | apply below_drew1) | exact HB.out)) hb); clear HO_4; clear HO_16; clear HB; have HO_4 := n0_; have HO_16 := n1_; have HO132 := n2_; have HB := n3_; clear n0_ n1_ n2_ n3_; (try clear hb); (try clear hb2); (try clear hk); (try clear hi); (try clear ho0)) | ((with_reducible refine gate_dst (N := 7) rfl ?_); refine box_event ?hg (N := 7) ?hd (cs := #[.slice none 0 0, .float .f32 0]) (t := 25) ?hr ?_; (case hd => rfl); (case hg => rfl); (case hr => first | (go_simp; done) | (go_simp; rfl)); intro gb135 hg w24 hbox hb; have n0_ := Aside0.mk (Kd.S_below (Kd.S_elderB (by (with_reducible repeat (first | apply Kd.S_alloc | apply Kd.S_drewN | apply Kd.S_drew)); exact HO_4.out) gb135 (Nat.le_of_eq hg.symm)) hb); have n1_ := Aside0.mk (Kd.R_below (by (with_reducible repeat (first | apply Kd.R_alloc | apply Kd.R_drewN | apply Kd.R_drew)); exact HO_16.out) hb); have n2_ := Aside0.mk (Kd.R_below (by (with_reducible repeat (first | apply Kd.R_alloc | apply Kd.R_drewN | apply Kd.R_drew)); exact HO132.out) hb); have n3_ := Aside0.mk (below_step (by repeat (first | (with_reducible first | exact HB.out | apply below_alloc | apply pw_below_drewN | apply below_drew1) | exact HB.out)) hb); have n4_ := Aside0.mk (hbox); have n5_ := Aside0.mk ((by rw [hg]; exact (below_size (by repeat (first | (with_reducible first | exact HB.out | apply below_alloc | apply pw_below_drewN | apply below_drew1) | exact HB.out))) : w.heap.size ≤ gb135)); have n6_ := Aside0.mk ((by rw [hg]; exact (below_size (by repeat (first | (with_reducible first | exact HB.out | apply below_alloc | apply pw_below_drewN | apply below_drew1) | exact HB.out))) : w.heap.size ≤ gb135)); clear HO_4; clear HO_16; clear HO132; clear HB; have HO_4 := n0_; have HO_16 := n1_; have HO132 := n2_; have HB := n3_; have BK135 := n4_; have GW135 := n5_; have GE135 := n6_; clear n0_ n1_ n2_ n3_ n4_ n5_ n6_; clear hb hbox hg; obtain ⟨Ao25, co25, eo25⟩ := Kd.R_slice HO132.out; subst eo25; have hcz26_0 : w24.cell? ⟨gb135, 0, none⟩ = some (.slice none 0 0) := (blk_cell BK135.out 0).trans rfl; have hcz26_1 : w24.cell? ⟨gb135, 1, none⟩ = some (.float .f32 0) := (blk_cell BK135.out 1).trans rfl; have hfz26_0 := blk_frozen BK135.out 0; have hfz26_1 := blk_frozen BK135.out 1))
                  go_ret2
                  exact ⟨_, by first | rfl | (simp [errW_none, errW_some] <;> rfl) | (simp [*, errW_none, errW_some] <;> rfl), by first | exact Kd.S_nil _ _ _ _ _ | exact Kd.N_nil _ _ _ _ _ | exact Kd.V_nil _ _ _ _ _ | exact Kd.Q_nil _ _ _ _ _ | exact Kd.R_nil _ _ _ _ _, by repeat (first | (with_reducible first | exact HB.out | apply below_alloc | apply pw_below_drewN | apply below_drew1 | refine below_set ?_ GE135.out) | exact HB.out)⟩
              · rw [if_neg c12] at H
                exact absurd H (by simp)
            · rw [if_neg c11] at H
              exact absurd H (by simp)
          · rw [if_neg c10] at H
            have c10b0 : decide (x18_1 < (t126.length : Int)) = false := decide_eq_false c10
            clear c10
            simp only [Option.some.injEq, Prod.mk.injEq] at H
            obtain ⟨rfl, rfl⟩ := H
            go_wp2
            go_ret2
            exact ⟨_, by first | rfl | (simp [errW_none, errW_some] <;> rfl) | (simp [*, errW_none, errW_some] <;> rfl), by (with_reducible repeat (first | apply Kd.S_alloc | apply Kd.S_drewN | apply Kd.S_drew)); exact HO_4.out, by repeat (first | (with_reducible first | exact HB.out | apply below_alloc | apply pw_below_drewN | apply below_drew1) | exact HB.out)⟩
def laws_eqThreadS.l0 : Nat → List (S25) → List (S25) → Int → Option (Bool)
  | 0, _, _, _ => none
  | k + 1, x0, x1, x5 => if x5 < (x0.length : Int) then (if 0 ≤ x5 then (if x5 < (x1.length : Int) then ((XT.eqThread.f ((rd_T25 x0 x5).f0) ((rd_T25 x0 x5).f1) ((rd_T25 x1 x5).f0) ((rd_T25 x1 x5).f1)).bind fun t141 => (if t141 = true then (laws_eqThreadS.l0 k x0 x1 (wrap64 (x5 + 1))) else (some false))) else (none)) else (none)) else (some true)
def laws_eqThreadS.f (k : Nat) (l0 : List (S25)) (l1 : List (S25)) : Option (Bool) := if (l0.length : Int) = (l1.length : Int) then (laws_eqThreadS.l0 k l0 l1 0) else (some false)
theorem laws_eqThreadS.mono_l : ∀ k, (∀ y0 y1 y2, LeO (laws_eqThreadS.l0 k y0 y1 y2) (laws_eqThreadS.l0 (k + 1) y0 y1 y2))
  | 0 => fun _ _ _ r h => by simp [laws_eqThreadS.l0] at h
  | k + 1 => by
    have ih0 := laws_eqThreadS.mono_l k
    · intro y0 y1 y2
      unfold laws_eqThreadS.l0
      repeat' first
      | (with_reducible exact ih0 _ _ _)
      | (with_reducible exact LeO.refl _)
      | (with_reducible exact LeO.none _)
      | (with_reducible refine LeO.ite ?_ ?_)
      | (with_reducible refine LeO.bind ?_ (fun _ => ?_))
      | exact ih0 _ _ _
      | exact LeO.none _
      | refine LeO.ite ?_ ?_
      | refine LeO.bind ?_ (fun _ => ?_)
theorem laws_eqThreadS.mono : ∀ a0 a1 k, LeO (laws_eqThreadS.f k a0 a1) (laws_eqThreadS.f (k + 1) a0 a1) := by
  intro a0 a1 k
  have ih0 := laws_eqThreadS.mono_l k
  unfold laws_eqThreadS.f
  repeat' first
      | (with_reducible exact ih0 _ _ _)
      | (with_reducible exact LeO.refl _)
      | (with_reducible exact LeO.none _)
      | (with_reducible refine LeO.ite ?_ ?_)
      | (with_reducible refine LeO.bind ?_ (fun _ => ?_))
      | exact ih0 _ _ _
      | exact LeO.none _
      | refine LeO.ite ?_ ?_
      | refine LeO.bind ?_ (fun _ => ?_)
def laws_eqThreadS.T6 : Bool × List (List Nat × List Nat) := (true, [([], []), ([], []), ([0, 1], [0, 1]), ([2], [2]), ([], []), ([], []), ([4, 5], [4, 5]), ([6], [6]), ([3, 7], [3, 7]), ([8], [8])])
def laws_eqThreadS.B6 : List Nat := [0, 0, 3, 7, 0, 0, 48, 112, 255, 511]
theorem laws_eqThreadS.tab6 : rtab .any (opsOf Tryd.f12 6) = laws_eqThreadS.T6 := by kernel_rfl
theorem laws_eqThreadS.bits6 : waitsOk laws_eqThreadS.T6.2 laws_eqThreadS.B6 = true := by kernel_rfl
set_option maxHeartbeats 8000000 in
set_option maxRecDepth 100000 in
theorem laws_eqThreadS.calls (k : Nat) (A0 : Option Addr) (c0 : Nat) (l0 : List (S25)) (A1 : Option Addr) (c1 : Nat) (l1 : List (S25)) (r : Bool) (w : World) (hr0 : Kd.C k25 w A0 l0.length l0) (hc0 : l0.length ≤ c0) (hr1 : Kd.C k25 w A1 l1.length l1) (hc1 : l1.length ≤ c1) (h : laws_eqThreadS.f k l0 l1 = some r) (gl : GL w := by first | exact (‹Aside0 (GL _)›).out | exact GL.of_below (‹Aside0 (GL _)›).out (by repeat (first | (with_reducible first | exact (‹Aside0 (Below _ _ _)›).out | apply below_alloc | apply pw_below_drewN | apply below_drew1 | refine below_set ?_ (Aside0.out (by assumption)) | exact Below.refl _ _) | exact (‹Aside0 (Below _ _ _)›).out))) :
    Calls Tryd.prog 12 #[.slice A0 l0.length c0, .slice A1 l1.length c1] w fun e w' => e = .returned (.bool r) ∧ Below w.heap.size w w' := by
  have HG_ := Aside0.mk gl
  clear gl
  have hu25 := Tryd.underlying25
  have HR0 := Aside0.mk hr0
  have HC0 := Aside0.mk hc0
  clear hr0 hc0
  have HR1 := Aside0.mk hr1
  have HC1 := Aside0.mk hc1
  clear hr1 hc1
  have HB := Aside0.mk (Below.refl w.heap.size w)
  have H : (if (l0.length : Int) = (l1.length : Int) then (laws_eqThreadS.l0 k l0 l1 0) else (some false)) = some r := h
  clear h
  by_cases c3 : (l0.length : Int) = (l1.length : Int)
  · rw [if_pos c3] at H
    have c3b0 : ((l0.length : Int) == (l1.length : Int)) = true := beq_iff_eq.mpr c3
    have c3b1 : ((l0.length : Int) != (l1.length : Int)) = false := bne_eq_false_iff_eq.mpr c3
    have c3b2 : (l0.length == l1.length) = true := by first | simpa using c3 | (simp at c3 ⊢; omega)
    clear c3
    have H' := Aside0.mk H
    clear H
    go_enter Tryd.func12, Tryd.ntmps12
    go_wp2
    go_loopg [5] k (fun kq v5 w' => ∃ (x5_1 : Int), v5 = .int .i64 x5_1 ∧ Aside0 (laws_eqThreadS.l0 kq l0 l1 x5_1 = some r) ∧ Aside0 (kq ≤ k) ∧ Aside0 (Below w.heap.size w w'))
    case atStart => exact ⟨(0), (by first | rfl | (simp; done) | (simp [*]; done)), H', ⟨Nat.le_refl _⟩, ⟨by repeat (first | (with_reducible first | exact HB.out | apply below_alloc | apply pw_below_drewN | apply below_drew1) | exact HB.out)⟩⟩
    case round =>
      clear H'
      try clear c1
      try clear p2
      try clear c3
      try clear c3b0
      try clear c3b1
      try clear c3b2
      obtain ⟨x5_1, rfl, HA, HK1, HB⟩ := hrel
      cases gk with
      | zero => exact absurd HA.out (by simp [laws_eqThreadS.l0])
      | succ k1 =>
        have H := HA.out
        clear HA
        simp only [laws_eqThreadS.l0] at H
        by_cases c4 : x5_1 < (l0.length : Int)
        · rw [if_pos c4] at H
          have c4b0 : decide (x5_1 < (l0.length : Int)) = true := decide_eq_true c4
          clear c4
          by_cases c5 : 0 ≤ x5_1
          · rw [if_pos c5] at H
            have c5b0 : decide (0 ≤ x5_1) = true := decide_eq_true c5
            clear c5
            by_cases c6 : x5_1 < (l1.length : Int)
            · rw [if_pos c6] at H
              have c6b0 : decide (x5_1 < (l1.length : Int)) = true := decide_eq_true c6
              clear c6
              replace H := Option.bind_eq_some_iff.mp H
              obtain ⟨t141, A70, H⟩ := H
              replace H : (if t141 = true then (laws_eqThreadS.l0 k1 l0 l1 (wrap64 (x5_1 + 1))) else (some false)) = some r := H
              have A7 := Aside0.mk A70
              clear A70
              by_cases c8 : t141 = true
              · subst c8
                have H1 : (laws_eqThreadS.l0 k1 l0 l1 (wrap64 (x5_1 + 1))) = some r := by rw [if_pos rfl] at H; exact H
                clear H
                have H := H1
                clear H1
                have H' := Aside0.mk H
                clear H
                try go_wp2
                have n0_ := Aside0.mk (below_drew1 HB.out)
                clear HB
                have HB := n0_
                clear n0_
                have p139 : 0 ≤ (x5_1 : Int) := of_decide_eq_true (by first | (with_reducible assumption) | assumption)
                have q139 : x5_1 < (l0.length : Int) := of_decide_eq_true (by first | (with_reducible assumption) | assumption)
                obtain ⟨ad139, A139_0, c139_0, e139, hx139_0, hx139_1, hl139_0, hi139_0⟩ := at_T25 HR0.out x5_1 p139 q139
                have hw139_1 := hx139_1
                have hw139_0 := hx139_0
                cases e139
                replace hx139_0 := (HB.out.cell (World.block_lt_of_cell? w _ hx139_0)).trans hx139_0
                replace hx139_1 := (HB.out.cell (World.block_lt_of_cell? w _ hx139_1)).trans hx139_1
                have HR139_0 := Aside0.mk hi139_0
                have HC139_0 := Aside0.mk hl139_0
                clear hi139_0 hl139_0
                replace p139 := eq_true p139
                replace q139 := eq_true q139
                have p140 : 0 ≤ (x5_1 : Int) := of_decide_eq_true (by first | (with_reducible assumption) | assumption)
                have q140 : x5_1 < (l1.length : Int) := of_decide_eq_true (by first | (with_reducible assumption) | assumption)
                obtain ⟨ad140, A140_0, c140_0, e140, hx140_0, hx140_1, hl140_0, hi140_0⟩ := at_T25 HR1.out x5_1 p140 q140
                have hw140_1 := hx140_1
                have hw140_0 := hx140_0
                cases e140
                replace hx140_0 := (HB.out.cell (World.block_lt_of_cell? w _ hx140_0)).trans hx140_0
                replace hx140_1 := (HB.out.cell (World.block_lt_of_cell? w _ hx140_1)).trans hx140_1
                have HR140_0 := Aside0.mk hi140_0
                have HC140_0 := Aside0.mk hl140_0
                clear hi140_0 hl140_0
                replace p140 := eq_true p140
                replace q140 := eq_true q140
                refine start_ (n := 10) (S := fun w' => w'.cell? (ad139.add ((x5_1).toNat * 2)) = some (.slice A139_0 ((rd_T25 l0 x5_1).f0).length c139_0) ∧ w'.cell? ⟨(ad139.add ((x5_1).toNat * 2)).block, (ad139.add ((x5_1).toNat * 2)).off + 1, none⟩ = some (.float .f32 ((rd_T25 l0 x5_1).f1)) ∧ w'.cell? (ad140.add ((x5_1).toNat * 2)) = some (.slice A140_0 ((rd_T25 l1 x5_1).f0).length c140_0) ∧ w'.cell? ⟨(ad140.add ((x5_1).toNat * 2)).block, (ad140.add ((x5_1).toNat * 2)).off + 1, none⟩ = some (.float .f32 ((rd_T25 l1 x5_1).f1))) (ds := []) #[false, false, false, false, false, false, false, false, false, false] (by kernel_rfl) rfl rfl ⟨((HB.out.cell (World.block_lt_of_cell? w _ hw139_0)).trans hw139_0), ((HB.out.cell (World.block_lt_of_cell? w _ hw139_1)).trans hw139_1), ((HB.out.cell (World.block_lt_of_cell? w _ hw140_0)).trans hw140_0), ((HB.out.cell (World.block_lt_of_cell? w _ hw140_1)).trans hw140_1)⟩ (fun hHeld => ?_); refine with_tabW laws_eqThreadS.tab6 laws_eqThreadS.bits6 (fun HT_ HW_ => ?_)
                generalize wr.drew = w9 at HB HR139_0 HR140_0 hx139_0 hx139_1 hx140_0 hx140_1 hHeld ⊢
                refine pure_ (i := 0) (N := some 17) (v := ?_) (a' := ?_) #[true, false, false, false, false, false, false, false, false, false] rfl rfl (any_of HT_.out (by kernel_rfl)) (fun _ _ _ h => h) (Or.inl ⟨by rfl, ?_⟩) ?_ ?_
                rotate_left
                · intro w'
                  go_simp
                  with_reducible rfl
                rotate_left
                · simp only [Act.put, List.setIfInBounds_toArray, List.set_cons_zero, List.set_cons_succ, i64_w, i32_w]
                  rfl
                refine pure_ (i := 1) (N := some 18) (v := ?_) (a' := ?_) #[true, true, false, false, false, false, false, false, false, false] rfl rfl (any_of HT_.out (by kernel_rfl)) (fun _ _ _ h => h) (Or.inl ⟨by rfl, ?_⟩) ?_ ?_
                rotate_left
                · intro w'
                  go_simp
                  with_reducible rfl
                rotate_left
                · simp only [Act.put, List.setIfInBounds_toArray, List.set_cons_zero, List.set_cons_succ, i64_w, i32_w]
                  rfl
                refine pure_ (i := 2) (N := some 19) (v := ?_) (a' := ?_) #[true, true, true, false, false, false, false, false, false, false] rfl rfl (any_of HT_.out (by kernel_rfl)) (fun _ _ _ h => h) (Or.inl ⟨by rfl, ?_⟩) ?_ ?_
                rotate_left
                · intro w'
                  go_simp
                  with_reducible rfl
                rotate_left
                · simp only [Act.put, List.setIfInBounds_toArray, List.set_cons_zero, List.set_cons_succ, i64_w, i32_w]
                  rfl
                refine pure_ (i := 4) (N := some 21) (v := ?_) (a' := ?_) #[true, true, true, false, true, false, false, false, false, false] rfl rfl (any_of HT_.out (by kernel_rfl)) (fun _ _ _ h => h) (Or.inl ⟨by rfl, ?_⟩) ?_ ?_
                rotate_left
                · intro w'
                  go_simp
                  with_reducible rfl
                rotate_left
                · simp only [Act.put, List.setIfInBounds_toArray, List.set_cons_zero, List.set_cons_succ, i64_w, i32_w]
                  rfl
                refine pure_ (i := 5) (N := some 22) (v := ?_) (a' := ?_) #[true, true, true, false, true, true, false, false, false, false] rfl rfl (any_of HT_.out (by kernel_rfl)) (fun _ _ _ h => h) (Or.inl ⟨by rfl, ?_⟩) ?_ ?_
                rotate_left
                · intro w'
                  go_simp
                  with_reducible rfl
                rotate_left
                · simp only [Act.put, List.setIfInBounds_toArray, List.set_cons_zero, List.set_cons_succ, i64_w, i32_w]
                  rfl
                refine pure_ (i := 6) (N := some 23) (v := ?_) (a' := ?_) #[true, true, true, false, true, true, true, false, false, false] rfl rfl (any_of HT_.out (by kernel_rfl)) (fun _ _ _ h => h) (Or.inl ⟨by rfl, ?_⟩) ?_ ?_
                rotate_left
                · intro w'
                  go_simp
                  with_reducible rfl
                rotate_left
                · simp only [Act.put, List.setIfInBounds_toArray, List.set_cons_zero, List.set_cons_succ, i64_w, i32_w]
                  rfl
                refine take_ (i := 3) (N := some 20) (v := ?_) (a' := ?_) #[true, true, true, true, true, true, true, false, false, false] rfl rfl (take_ofW HT_.out HW_.out (by kernel_rfl)) (fun _ _ _ h => h) (Or.inl ⟨by rfl, ?_⟩) hHeld ?_ ?_
                rotate_left
                · rintro w' ⟨s0, s1, s2, s3⟩
                  go_simp
                  with_reducible rfl
                rotate_left
                · simp only [Act.put, List.setIfInBounds_toArray, List.set_cons_zero, List.set_cons_succ, i64_w, i32_w]
                  rfl
                refine take_ (i := 7) (N := some 24) (v := ?_) (a' := ?_) #[true, true, true, true, true, true, true, true, false, false] rfl rfl (take_ofW HT_.out HW_.out (by kernel_rfl)) (fun _ _ _ h => h) (Or.inl ⟨by rfl, ?_⟩) hHeld ?_ ?_
                rotate_left
                · rintro w' ⟨s0, s1, s2, s3⟩
                  go_simp
                  with_reducible rfl
                rotate_left
                · simp only [Act.put, List.setIfInBounds_toArray, List.set_cons_zero, List.set_cons_succ, i64_w, i32_w]
                  rfl
                refine one_ (i := 8) (N := some 25) #[true, true, true, true, true, true, true, true, true, false] rfl rfl (one_of HT_.out (by kernel_rfl)) (by decide) (fun K hK => ?_)
                refine goes_ Tryd.func7 (by kernel_rfl) rfl #[.agg #[.slice A139_0 ((rd_T25 l0 x5_1).f0).length c139_0, .float .f32 ((rd_T25 l0 x5_1).f1)], .agg #[.slice A140_0 ((rd_T25 l1 x5_1).f0).length c140_0, .float .f32 ((rd_T25 l1 x5_1).f1)]] (by rfl) rfl rfl (by (try simp only [List.map_toArray, List.map_cons, List.map_nil]); first | done | rfl | (simp only [List.length_drop, List.length_take]; rfl)) ?_
                with_reducible refine (XT.eqThread.calls _ _ ((rd_T25 l0 x5_1).f0) ((rd_T25 l0 x5_1).f1) _ _ ((rd_T25 l1 x5_1).f0) ((rd_T25 l1 x5_1).f1) true _ ?side1 ?side2 ?side3 ?side4 A7.out).mono ?_
                (case side1 => repeat (first | exact (Kd.C_below HR139_0.out HB.out) | (with_reducible refine Kd.C_alloc ?_ _) | (with_reducible refine Kd.C_drewN ?_ _) | (with_reducible refine Kd.C_drew ?_)))
                (case side2 => exact HC139_0.out)
                (case side3 => repeat (first | exact (Kd.C_below HR140_0.out HB.out) | (with_reducible refine Kd.C_alloc ?_ _) | (with_reducible refine Kd.C_drewN ?_ _) | (with_reducible refine Kd.C_drew ?_)))
                (case side4 => exact HC140_0.out)
                rintro e w10 ⟨rfl, hb⟩
                refine ⟨_, rfl, ?_⟩
                have n0_ := Aside0.mk (below_step (by repeat (first | (with_reducible first | exact HB.out | apply below_alloc | apply pw_below_drewN | apply below_drew1) | exact HB.out)) hb)
                clear HB
                have HB := n0_
                clear n0_
                (try clear hb)
                (try clear hb2)
                (try clear hk)
                (try clear hi)
                refine hK.out _ _ ⟨((HB.out.cell (World.block_lt_of_cell? w _ hw139_0)).trans hw139_0), ((HB.out.cell (World.block_lt_of_cell? w _ hw139_1)).trans hw139_1), ((HB.out.cell (World.block_lt_of_cell? w _ hw140_0)).trans hw140_0), ((HB.out.cell (World.block_lt_of_cell? w _ hw140_1)).trans hw140_1)⟩ (fun hHeld => ?_)
                clear hK K
                refine norm_ (a' := ?_) ?_ ?_
                rotate_left
                · show Act.put _ (some 25) _ = _
                  simp only [Act.put, List.setIfInBounds_toArray, List.set_cons_zero, List.set_cons_succ, i64_w, i32_w]
                  rfl
                refine pure_ (i := 9) (N := some 26) (v := ?_) (a' := ?_) #[true, true, true, true, true, true, true, true, true, true] rfl rfl (any_of HT_.out (by kernel_rfl)) (fun _ _ _ h => h) (Or.inl ⟨by rfl, ?_⟩) ?_ ?_
                rotate_left
                · intro w'
                  go_simp
                  with_reducible rfl
                rotate_left
                · simp only [Act.put, List.setIfInBounds_toArray, List.set_cons_zero, List.set_cons_succ, i64_w, i32_w]
                  rfl
                refine done_ (done_of HT_.out (by kernel_rfl)) ?_
                try go_wp2
                go_roundg k1
                case measure => have := HK1.out; omega
                case rel => exact ⟨(wrap64 (x5_1 + 1)), (by first | rfl | (simp; done) | (simp [*]; done)), H', ⟨by have := HK1.out; omega⟩, ⟨by repeat (first | (with_reducible first | exact HB.out | apply below_alloc | apply pw_below_drewN | apply below_drew1) | exact HB.out)⟩⟩
              · replace c8 := Bool.eq_false_iff.mpr c8
                subst c8
                have H1 : (some false) = some r := by rw [if_neg (show ¬ (false = true) by decide)] at H; exact H
                clear H
                have H := H1
                clear H1
                obtain rfl := Option.some.inj H
                try go_wp2
                have n0_ := Aside0.mk (below_drew1 HB.out)
                clear HB
                have HB := n0_
                clear n0_
                have p139 : 0 ≤ (x5_1 : Int) := of_decide_eq_true (by first | (with_reducible assumption) | assumption)
                have q139 : x5_1 < (l0.length : Int) := of_decide_eq_true (by first | (with_reducible assumption) | assumption)
                obtain ⟨ad139, A139_0, c139_0, e139, hx139_0, hx139_1, hl139_0, hi139_0⟩ := at_T25 HR0.out x5_1 p139 q139
                have hw139_1 := hx139_1
                have hw139_0 := hx139_0
                cases e139
                replace hx139_0 := (HB.out.cell (World.block_lt_of_cell? w _ hx139_0)).trans hx139_0
                replace hx139_1 := (HB.out.cell (World.block_lt_of_cell? w _ hx139_1)).trans hx139_1
                have HR139_0 := Aside0.mk hi139_0
                have HC139_0 := Aside0.mk hl139_0
                clear hi139_0 hl139_0
                replace p139 := eq_true p139
                replace q139 := eq_true q139
                have p140 : 0 ≤ (x5_1 : Int) := of_decide_eq_true (by first | (with_reducible assumption) | assumption)
                have q140 : x5_1 < (l1.length : Int) := of_decide_eq_true (by first | (with_reducible assumption) | assumption)
                obtain ⟨ad140, A140_0, c140_0, e140, hx140_0, hx140_1, hl140_0, hi140_0⟩ := at_T25 HR1.out x5_1 p140 q140
                have hw140_1 := hx140_1
                have hw140_0 := hx140_0
                cases e140
                replace hx140_0 := (HB.out.cell (World.block_lt_of_cell? w _ hx140_0)).trans hx140_0
                replace hx140_1 := (HB.out.cell (World.block_lt_of_cell? w _ hx140_1)).trans hx140_1
                have HR140_0 := Aside0.mk hi140_0
                have HC140_0 := Aside0.mk hl140_0
                clear hi140_0 hl140_0
                replace p140 := eq_true p140
                replace q140 := eq_true q140
                refine start_ (n := 10) (S := fun w' => w'.cell? (ad139.add ((x5_1).toNat * 2)) = some (.slice A139_0 ((rd_T25 l0 x5_1).f0).length c139_0) ∧ w'.cell? ⟨(ad139.add ((x5_1).toNat * 2)).block, (ad139.add ((x5_1).toNat * 2)).off + 1, none⟩ = some (.float .f32 ((rd_T25 l0 x5_1).f1)) ∧ w'.cell? (ad140.add ((x5_1).toNat * 2)) = some (.slice A140_0 ((rd_T25 l1 x5_1).f0).length c140_0) ∧ w'.cell? ⟨(ad140.add ((x5_1).toNat * 2)).block, (ad140.add ((x5_1).toNat * 2)).off + 1, none⟩ = some (.float .f32 ((rd_T25 l1 x5_1).f1))) (ds := []) #[false, false, false, false, false, false, false, false, false, false] (by kernel_rfl) rfl rfl ⟨((HB.out.cell (World.block_lt_of_cell? w _ hw139_0)).trans hw139_0), ((HB.out.cell (World.block_lt_of_cell? w _ hw139_1)).trans hw139_1), ((HB.out.cell (World.block_lt_of_cell? w _ hw140_0)).trans hw140_0), ((HB.out.cell (World.block_lt_of_cell? w _ hw140_1)).trans hw140_1)⟩ (fun hHeld => ?_); refine with_tabW laws_eqThreadS.tab6 laws_eqThreadS.bits6 (fun HT_ HW_ => ?_)
                generalize wr.drew = w11 at HB HR139_0 HR140_0 hx139_0 hx139_1 hx140_0 hx140_1 hHeld ⊢
                refine pure_ (i := 0) (N := some 17) (v := ?_) (a' := ?_) #[true, false, false, false, false, false, false, false, false, false] rfl rfl (any_of HT_.out (by kernel_rfl)) (fun _ _ _ h => h) (Or.inl ⟨by rfl, ?_⟩) ?_ ?_
                rotate_left
                · intro w'
                  go_simp
                  with_reducible rfl
                rotate_left
                · simp only [Act.put, List.setIfInBounds_toArray, List.set_cons_zero, List.set_cons_succ, i64_w, i32_w]
                  rfl
                refine pure_ (i := 1) (N := some 18) (v := ?_) (a' := ?_) #[true, true, false, false, false, false, false, false, false, false] rfl rfl (any_of HT_.out (by kernel_rfl)) (fun _ _ _ h => h) (Or.inl ⟨by rfl, ?_⟩) ?_ ?_
                rotate_left
                · intro w'
                  go_simp
                  with_reducible rfl
                rotate_left
                · simp only [Act.put, List.setIfInBounds_toArray, List.set_cons_zero, List.set_cons_succ, i64_w, i32_w]
                  rfl
                refine pure_ (i := 2) (N := some 19) (v := ?_) (a' := ?_) #[true, true, true, false, false, false, false, false, false, false] rfl rfl (any_of HT_.out (by kernel_rfl)) (fun _ _ _ h => h) (Or.inl ⟨by rfl, ?_⟩) ?_ ?_
                rotate_left
                · intro w'
                  go_simp
                  with_reducible rfl
                rotate_left
                · simp only [Act.put, List.setIfInBounds_toArray, List.set_cons_zero, List.set_cons_succ, i64_w, i32_w]
                  rfl
                refine pure_ (i := 4) (N := some 21) (v := ?_) (a' := ?_) #[true, true, true, false, true, false, false, false, false, false] rfl rfl (any_of HT_.out (by kernel_rfl)) (fun _ _ _ h => h) (Or.inl ⟨by rfl, ?_⟩) ?_ ?_
                rotate_left
                · intro w'
                  go_simp
                  with_reducible rfl
                rotate_left
                · simp only [Act.put, List.setIfInBounds_toArray, List.set_cons_zero, List.set_cons_succ, i64_w, i32_w]
                  rfl
                refine pure_ (i := 5) (N := some 22) (v := ?_) (a' := ?_) #[true, true, true, false, true, true, false, false, false, false] rfl rfl (any_of HT_.out (by kernel_rfl)) (fun _ _ _ h => h) (Or.inl ⟨by rfl, ?_⟩) ?_ ?_
                rotate_left
                · intro w'
                  go_simp
                  with_reducible rfl
                rotate_left
                · simp only [Act.put, List.setIfInBounds_toArray, List.set_cons_zero, List.set_cons_succ, i64_w, i32_w]
                  rfl
                refine pure_ (i := 6) (N := some 23) (v := ?_) (a' := ?_) #[true, true, true, false, true, true, true, false, false, false] rfl rfl (any_of HT_.out (by kernel_rfl)) (fun _ _ _ h => h) (Or.inl ⟨by rfl, ?_⟩) ?_ ?_
                rotate_left
                · intro w'
                  go_simp
                  with_reducible rfl
                rotate_left
                · simp only [Act.put, List.setIfInBounds_toArray, List.set_cons_zero, List.set_cons_succ, i64_w, i32_w]
                  rfl
                refine take_ (i := 3) (N := some 20) (v := ?_) (a' := ?_) #[true, true, true, true, true, true, true, false, false, false] rfl rfl (take_ofW HT_.out HW_.out (by kernel_rfl)) (fun _ _ _ h => h) (Or.inl ⟨by rfl, ?_⟩) hHeld ?_ ?_
                rotate_left
                · rintro w' ⟨s0, s1, s2, s3⟩
                  go_simp
                  with_reducible rfl
                rotate_left
                · simp only [Act.put, List.setIfInBounds_toArray, List.set_cons_zero, List.set_cons_succ, i64_w, i32_w]
                  rfl
                refine take_ (i := 7) (N := some 24) (v := ?_) (a' := ?_) #[true, true, true, true, true, true, true, true, false, false] rfl rfl (take_ofW HT_.out HW_.out (by kernel_rfl)) (fun _ _ _ h => h) (Or.inl ⟨by rfl, ?_⟩) hHeld ?_ ?_
                rotate_left
                · rintro w' ⟨s0, s1, s2, s3⟩
                  go_simp
                  with_reducible rfl
                rotate_left
                · simp only [Act.put, List.setIfInBounds_toArray, List.set_cons_zero, List.set_cons_succ, i64_w, i32_w]
                  rfl
                refine one_ (i := 8) (N := some 25) #[true, true, true, true, true, true, true, true, true, false] rfl rfl (one_of HT_.out (by kernel_rfl)) (by decide) (fun K hK => ?_)
                refine goes_ Tryd.func7 (by kernel_rfl) rfl #[.agg #[.slice A139_0 ((rd_T25 l0 x5_1).f0).length c139_0, .float .f32 ((rd_T25 l0 x5_1).f1)], .agg #[.slice A140_0 ((rd_T25 l1 x5_1).f0).length c140_0, .float .f32 ((rd_T25 l1 x5_1).f1)]] (by rfl) rfl rfl (by (try simp only [List.map_toArray, List.map_cons, List.map_nil]); first | done | rfl | (simp only [List.length_drop, List.length_take]; rfl)) ?_
                with_reducible refine (XT.eqThread.calls _ _ ((rd_T25 l0 x5_1).f0) ((rd_T25 l0 x5_1).f1) _ _ ((rd_T25 l1 x5_1).f0) ((rd_T25 l1 x5_1).f1) false _ ?side1 ?side2 ?side3 ?side4 A7.out).mono ?_
                (case side1 => repeat (first | exact (Kd.C_below HR139_0.out HB.out) | (with_reducible refine Kd.C_alloc ?_ _) | (with_reducible refine Kd.C_drewN ?_ _) | (with_reducible refine Kd.C_drew ?_)))
                (case side2 => exact HC139_0.out)
                (case side3 => repeat (first | exact (Kd.C_below HR140_0.out HB.out) | (with_reducible refine Kd.C_alloc ?_ _) | (with_reducible refine Kd.C_drewN ?_ _) | (with_reducible refine Kd.C_drew ?_)))
                (case side4 => exact HC140_0.out)
                rintro e w12 ⟨rfl, hb⟩
                refine ⟨_, rfl, ?_⟩
                have n0_ := Aside0.mk (below_step (by repeat (first | (with_reducible first | exact HB.out | apply below_alloc | apply pw_below_drewN | apply below_drew1) | exact HB.out)) hb)
                clear HB
                have HB := n0_
                clear n0_
                (try clear hb)
                (try clear hb2)
                (try clear hk)
                (try clear hi)
                refine hK.out _ _ ⟨((HB.out.cell (World.block_lt_of_cell? w _ hw139_0)).trans hw139_0), ((HB.out.cell (World.block_lt_of_cell? w _ hw139_1)).trans hw139_1), ((HB.out.cell (World.block_lt_of_cell? w _ hw140_0)).trans hw140_0), ((HB.out.cell (World.block_lt_of_cell? w _ hw140_1)).trans hw140_1)⟩ (fun hHeld => ?_)
                clear hK K
                refine norm_ (a' := ?_) ?_ ?_
                rotate_left
                · show Act.put _ (some 25) _ = _
                  simp only [Act.put, List.setIfInBounds_toArray, List.set_cons_zero, List.set_cons_succ, i64_w, i32_w]
                  rfl
                refine pure_ (i := 9) (N := some 26) (v := ?_) (a' := ?_) #[true, true, true, true, true, true, true, true, true, true] rfl rfl (any_of HT_.out (by kernel_rfl)) (fun _ _ _ h => h) (Or.inl ⟨by rfl, ?_⟩) ?_ ?_
                rotate_left
                · intro w'
                  go_simp
                  with_reducible rfl
                rotate_left
                · simp only [Act.put, List.setIfInBounds_toArray, List.set_cons_zero, List.set_cons_succ, i64_w, i32_w]
                  rfl
                refine done_ (done_of HT_.out (by kernel_rfl)) ?_
                try go_wp2
                go_ret
                exact ⟨by first | rfl | (simp [errW_none, errW_some] <;> rfl) | (simp [*, errW_none, errW_some] <;> rfl), by repeat (first | (with_reducible first | exact HB.out | apply below_alloc | apply pw_below_drewN | apply below_drew1) | exact HB.out)⟩
            · rw [if_neg c6] at H
              exact absurd H (by simp)
          · rw [if_neg c5] at H
            exact absurd H (by simp)
        · rw [if_neg c4] at H
          have c4b0 : decide (x5_1 < (l0.length : Int)) = false := decide_eq_false c4
          clear c4
          obtain rfl := Option.some.inj H
          go_wp2
          go_ret
          exact ⟨by first | rfl | (simp [errW_none, errW_some] <;> rfl) | (simp [*, errW_none, errW_some] <;> rfl), by repeat (first | (with_reducible first | exact HB.out | apply below_alloc | apply pw_below_drewN | apply below_drew1) | exact HB.out)⟩
  · rw [if_neg c3] at H
    have c3b0 : ((l0.length : Int) == (l1.length : Int)) = false := beq_eq_false_iff_ne.mpr c3
    have c3b1 : ((l0.length : Int) != (l1.length : Int)) = true := bne_iff_ne.mpr c3
    have c3b2 : (l0.length == l1.length) = false := by first | simpa using c3 | (simp at c3 ⊢; omega)
    obtain rfl := Option.some.inj H
    go_enter Tryd.func12, Tryd.ntmps12
    go_wp2
    go_ret
    exact ⟨by first | rfl | (simp [errW_none, errW_some] <;> rfl) | (simp [*, errW_none, errW_some] <;> rfl), by repeat (first | (with_reducible first | exact HB.out | apply below_alloc | apply pw_below_drewN | apply below_drew1) | exact HB.out)⟩
end Go.Proofs.YtffofpiejcolfaaDoor.FR
end
section
namespace Go.Proofs.YtffofpiejcolfaaDoor.FR
open Go.Proofs.YtffofpiejcolfaaDoor.F0
open Go.RowKit Go.Proofs.YtffofpiejcolfaaDoorW.PrintWords Go.Proofs.YtffofpiejcolfaaDoorW.PrintLast Go.Proofs.YtffofpiejcolfaaDoorW.PrintMore
attribute [local go_sem] max2_int min2_int max_two min_two max_three min_three max_four min_four
set_option linter.unusedVariables false
set_option linter.unusedSimpArgs false
def laws_heldThreadS.l0 : Nat → List (S25) → Int → Int → Option (Int)
  | 0, _, _, _ => none
  | k + 1, x0, x1, x5 => if x5 < (x0.length : Int) then (if 0 ≤ x5 then ((F1.laws_heldVectorS.f k ((rd_T25 x0 x5).f0) x1).bind fun t143 => (if t143 < 0 then (some (-1)) else (if (FloatKind.f32.format.order ((rd_T25 x0 x5).f1) (floatOfInt .f32 t143) != some .eq) = true then (some (-1)) else (laws_heldThreadS.l0 k x0 (wrap64 (t143 + 1)) (wrap64 (x5 + 1)))))) else (none)) else (some x1)
def laws_heldThreadS.f (k : Nat) (l0 : List (S25)) (a1 : Int) : Option (Int) := laws_heldThreadS.l0 k l0 a1 0
theorem laws_heldThreadS.mono_l : ∀ k, (∀ y0 y1 y2, LeO (laws_heldThreadS.l0 k y0 y1 y2) (laws_heldThreadS.l0 (k + 1) y0 y1 y2))
  | 0 => fun _ _ _ r h => by simp [laws_heldThreadS.l0] at h
  | k + 1 => by
    have ih0 := laws_heldThreadS.mono_l k
    · intro y0 y1 y2
      unfold laws_heldThreadS.l0
      repeat' first
      | (with_reducible exact ih0 _ _ _)
      | (with_reducible exact F1.laws_heldVectorS.mono _ _ _)
      | (with_reducible exact LeO.refl _)
      | (with_reducible exact LeO.none _)
      | (with_reducible refine LeO.ite ?_ ?_)
      | (with_reducible refine LeO.bind ?_ (fun _ => ?_))
      | exact ih0 _ _ _
      | exact F1.laws_heldVectorS.mono _ _ _
      | exact LeO.none _
      | refine LeO.ite ?_ ?_
      | refine LeO.bind ?_ (fun _ => ?_)
theorem laws_heldThreadS.mono : ∀ a0 a1 k, LeO (laws_heldThreadS.f k a0 a1) (laws_heldThreadS.f (k + 1) a0 a1) := by
  intro a0 a1 k
  have ih0 := laws_heldThreadS.mono_l k
  unfold laws_heldThreadS.f
  repeat' first
      | (with_reducible exact ih0 _ _ _)
      | (with_reducible exact F1.laws_heldVectorS.mono _ _ _)
      | (with_reducible exact LeO.refl _)
      | (with_reducible exact LeO.none _)
      | (with_reducible refine LeO.ite ?_ ?_)
      | (with_reducible refine LeO.bind ?_ (fun _ => ?_))
      | exact ih0 _ _ _
      | exact F1.laws_heldVectorS.mono _ _ _
      | exact LeO.none _
      | refine LeO.ite ?_ ?_
      | refine LeO.bind ?_ (fun _ => ?_)
set_option maxHeartbeats 8000000 in
set_option maxRecDepth 100000 in
theorem laws_heldThreadS.calls (k : Nat) (A0 : Option Addr) (c0 : Nat) (l0 : List (S25)) (a1 : Int) (r : Int) (w : World) (hr0 : Kd.C k25 w A0 l0.length l0) (hc0 : l0.length ≤ c0) (h : laws_heldThreadS.f k l0 a1 = some r) (gl : GL w := by first | exact (‹Aside0 (GL _)›).out | exact GL.of_below (‹Aside0 (GL _)›).out (by repeat (first | (with_reducible first | exact (‹Aside0 (Below _ _ _)›).out | apply below_alloc | apply pw_below_drewN | apply below_drew1 | refine below_set ?_ (Aside0.out (by assumption)) | exact Below.refl _ _) | exact (‹Aside0 (Below _ _ _)›).out))) :
    Calls Tryd.prog 14 #[.slice A0 l0.length c0, .int .i64 a1] w fun e w' => e = .returned (.int .i64 r) ∧ Drawn0 w w' := by
  have HG_ := Aside0.mk gl
  clear gl
  have HR0 := Aside0.mk hr0
  have HC0 := Aside0.mk hc0
  clear hr0 hc0
  have H : (laws_heldThreadS.l0 k l0 a1 0) = some r := h
  clear h
  have H' := Aside0.mk H
  clear H
  go_enter Tryd.func14, Tryd.ntmps14
  go_wp2
  go_loopg [1, 5] k (fun kq v1 v5 w' => ∃ (x1_1 : Int) (x5_1 : Int), v1 = .int .i64 x1_1 ∧ v5 = .int .i64 x5_1 ∧ Aside0 (laws_heldThreadS.l0 kq l0 x1_1 x5_1 = some r) ∧ Aside0 (kq ≤ k) ∧ Drawn0 w w')
  case atStart => exact ⟨(a1), (0), (by first | rfl | (simp; done) | (simp [*]; done)), (by first | rfl | (simp; done) | (simp [*]; done)), H', ⟨Nat.le_refl _⟩, by repeat (first | exact Drawn0.refl _ | apply Drawn0.step)⟩
  case round =>
    clear H'
    try clear c1
    try clear p2
    obtain ⟨x1_1, x5_1, rfl, rfl, HA, HK1, ⟨m1, rfl⟩⟩ := hrel
    cases gk with
    | zero => exact absurd HA.out (by simp [laws_heldThreadS.l0])
    | succ k1 =>
      have H := HA.out
      clear HA
      simp only [laws_heldThreadS.l0] at H
      by_cases c3 : x5_1 < (l0.length : Int)
      · rw [if_pos c3] at H
        have c3b0 : decide (x5_1 < (l0.length : Int)) = true := decide_eq_true c3
        clear c3
        by_cases c4 : 0 ≤ x5_1
        · rw [if_pos c4] at H
          have c4b0 : decide (0 ≤ x5_1) = true := decide_eq_true c4
          clear c4
          replace H := Option.bind_eq_some_iff.mp H
          obtain ⟨t143, A50, H⟩ := H
          replace H : (if t143 < 0 then (some (-1)) else (if (FloatKind.f32.format.order ((rd_T25 l0 x5_1).f1) (floatOfInt .f32 t143) != some .eq) = true then (some (-1)) else (laws_heldThreadS.l0 k1 l0 (wrap64 (t143 + 1)) (wrap64 (x5_1 + 1))))) = some r := H
          have A5 := Aside0.mk A50
          clear A50
          by_cases c6 : t143 < 0
          · rw [if_pos c6] at H
            have c6b0 : decide (t143 < 0) = true := decide_eq_true c6
            clear c6
            obtain rfl := Option.some.inj H
            have p142 : 0 ≤ (x5_1 : Int) := of_decide_eq_true (by first | (with_reducible assumption) | assumption)
            have q142 : x5_1 < (l0.length : Int) := of_decide_eq_true (by first | (with_reducible assumption) | assumption)
            obtain ⟨ad142, A142_0, c142_0, e142, hx142_0, hx142_1, hl142_0, hi142_0⟩ := at_T25 HR0.out x5_1 p142 q142
            cases e142
            have HR142_0 := Aside0.mk hi142_0
            have HC142_0 := Aside0.mk hl142_0
            clear hi142_0 hl142_0
            replace p142 := eq_true p142
            replace q142 := eq_true q142
            go_wp2_with (first | ((with_reducible refine gate_callee (f := 25) rfl ?_); refine goesL_ (some 18) rfl rfl Tryd.func25 (by kernel_rfl) rfl #[.slice A142_0 ((rd_T25 l0 x5_1).f0).length c142_0, .int .i64 x1_1] rfl (by (try simp only [List.map_toArray, List.map_cons, List.map_nil]); first | done | rfl | (simp only [List.length_drop, List.length_take]; rfl)) ?_; (with_reducible refine (F1.laws_heldVectorS.calls k1 _ _ ((rd_T25 l0 x5_1).f0) x1_1 t143 _ ?side1 ?side2 A5.out).mono ?_); (case side1 => repeat (first | exact HR142_0.out | (with_reducible refine Kd.C_alloc ?_ _) | (with_reducible refine Kd.C_drewN ?_ _) | (with_reducible refine Kd.C_drew ?_))); (case side2 => exact HC142_0.out); rintro e w' ⟨rfl, ⟨nd, rfl⟩⟩; refine ⟨_, rfl, ?_⟩))
            go_ret
            exact ⟨by first | rfl | (simp; done) | (simp [*]; done), by repeat (first | exact Drawn0.refl _ | apply Drawn0.step)⟩
          · rw [if_neg c6] at H
            have c6b0 : decide (t143 < 0) = false := decide_eq_false c6
            clear c6
            by_cases c7 : (FloatKind.f32.format.order ((rd_T25 l0 x5_1).f1) (floatOfInt .f32 t143) != some .eq) = true
            · rw [if_pos c7] at H
              have c7b0 : (FloatKind.f32.format.order ((rd_T25 l0 x5_1).f1) (floatOfInt .f32 t143) != some .eq) = true := c7
              (try (have c7b1 : decide (FloatKind.f32.format.order ((rd_T25 l0 x5_1).f1) (floatOfInt .f32 t143) = some .eq) = false := by simpa using c7))
              (try (have c7b2 : (FloatKind.f32.format.order ((rd_T25 l0 x5_1).f1) (floatOfInt .f32 t143) == some .eq) = false := by simpa using c7))
              (try (have c7b3 : ¬ (FloatKind.f32.format.order ((rd_T25 l0 x5_1).f1) (floatOfInt .f32 t143) = some .eq) := by simpa using c7))
              clear c7
              obtain rfl := Option.some.inj H
              have p142 : 0 ≤ (x5_1 : Int) := of_decide_eq_true (by first | (with_reducible assumption) | assumption)
              have q142 : x5_1 < (l0.length : Int) := of_decide_eq_true (by first | (with_reducible assumption) | assumption)
              obtain ⟨ad142, A142_0, c142_0, e142, hx142_0, hx142_1, hl142_0, hi142_0⟩ := at_T25 HR0.out x5_1 p142 q142
              cases e142
              have HR142_0 := Aside0.mk hi142_0
              have HC142_0 := Aside0.mk hl142_0
              clear hi142_0 hl142_0
              replace p142 := eq_true p142
              replace q142 := eq_true q142
              go_wp2_with (first | ((with_reducible refine gate_callee (f := 25) rfl ?_); refine goesL_ (some 18) rfl rfl Tryd.func25 (by kernel_rfl) rfl #[.slice A142_0 ((rd_T25 l0 x5_1).f0).length c142_0, .int .i64 x1_1] rfl (by (try simp only [List.map_toArray, List.map_cons, List.map_nil]); first | done | rfl | (simp only [List.length_drop, List.length_take]; rfl)) ?_; (with_reducible refine (F1.laws_heldVectorS.calls k1 _ _ ((rd_T25 l0 x5_1).f0) x1_1 t143 _ ?side1 ?side2 A5.out).mono ?_); (case side1 => repeat (first | exact HR142_0.out | (with_reducible refine Kd.C_alloc ?_ _) | (with_reducible refine Kd.C_drewN ?_ _) | (with_reducible refine Kd.C_drew ?_))); (case side2 => exact HC142_0.out); rintro e w' ⟨rfl, ⟨nd, rfl⟩⟩; refine ⟨_, rfl, ?_⟩; have p144 : 0 ≤ (x5_1 : Int) := of_decide_eq_true (by first | (with_reducible assumption) | assumption); have q144 : x5_1 < (l0.length : Int) := of_decide_eq_true (by first | (with_reducible assumption) | assumption); obtain ⟨ad144, A144_0, c144_0, e144, hx144_0, hx144_1, hl144_0, hi144_0⟩ := at_T25 HR0.out x5_1 p144 q144; obtain rfl : ad142 = ad144 := (by injection e144); have HR144_0 := Aside0.mk hi144_0; have HC144_0 := Aside0.mk hl144_0; clear hi144_0 hl144_0; replace p144 := eq_true p144; replace q144 := eq_true q144; have ea_ := Option.some.inj (hx142_0.symm.trans hx144_0); injection ea_ with ea_ en_ ec_; subst ea_; subst ec_; clear en_))
              go_ret
              exact ⟨by first | rfl | (simp; done) | (simp [*]; done), by repeat (first | exact Drawn0.refl _ | apply Drawn0.step)⟩
            · rw [if_neg c7] at H
              have c7b0 : (FloatKind.f32.format.order ((rd_T25 l0 x5_1).f1) (floatOfInt .f32 t143) != some .eq) = false := by simpa using c7
              (try (have c7b1 : decide (FloatKind.f32.format.order ((rd_T25 l0 x5_1).f1) (floatOfInt .f32 t143) = some .eq) = true := by simpa using c7))
              (try (have c7b2 : (FloatKind.f32.format.order ((rd_T25 l0 x5_1).f1) (floatOfInt .f32 t143) == some .eq) = true := by simpa using c7))
              clear c7
              have H' := Aside0.mk H
              clear H
              have p142 : 0 ≤ (x5_1 : Int) := of_decide_eq_true (by first | (with_reducible assumption) | assumption)
              have q142 : x5_1 < (l0.length : Int) := of_decide_eq_true (by first | (with_reducible assumption) | assumption)
              obtain ⟨ad142, A142_0, c142_0, e142, hx142_0, hx142_1, hl142_0, hi142_0⟩ := at_T25 HR0.out x5_1 p142 q142
              cases e142
              have HR142_0 := Aside0.mk hi142_0
              have HC142_0 := Aside0.mk hl142_0
              clear hi142_0 hl142_0
              replace p142 := eq_true p142
              replace q142 := eq_true q142
              go_wp2_with (first | ((with_reducible refine gate_callee (f := 25) rfl ?_); refine goesL_ (some 18) rfl rfl Tryd.func25 (by kernel_rfl) rfl #[.slice A142_0 ((rd_T25 l0 x5_1).f0).length c142_0, .int .i64 x1_1] rfl (by (try simp only [List.map_toArray, List.map_cons, List.map_nil]); first | done | rfl | (simp only [List.length_drop, List.length_take]; rfl)) ?_; (with_reducible refine (F1.laws_heldVectorS.calls k1 _ _ ((rd_T25 l0 x5_1).f0) x1_1 t143 _ ?side1 ?side2 A5.out).mono ?_); (case side1 => repeat (first | exact HR142_0.out | (with_reducible refine Kd.C_alloc ?_ _) | (with_reducible refine Kd.C_drewN ?_ _) | (with_reducible refine Kd.C_drew ?_))); (case side2 => exact HC142_0.out); rintro e w' ⟨rfl, ⟨nd, rfl⟩⟩; refine ⟨_, rfl, ?_⟩; have p144 : 0 ≤ (x5_1 : Int) := of_decide_eq_true (by first | (with_reducible assumption) | assumption); have q144 : x5_1 < (l0.length : Int) := of_decide_eq_true (by first | (with_reducible assumption) | assumption); obtain ⟨ad144, A144_0, c144_0, e144, hx144_0, hx144_1, hl144_0, hi144_0⟩ := at_T25 HR0.out x5_1 p144 q144; obtain rfl : ad142 = ad144 := (by injection e144); have HR144_0 := Aside0.mk hi144_0; have HC144_0 := Aside0.mk hl144_0; clear hi144_0 hl144_0; replace p144 := eq_true p144; replace q144 := eq_true q144; have ea_ := Option.some.inj (hx142_0.symm.trans hx144_0); injection ea_ with ea_ en_ ec_; subst ea_; subst ec_; clear en_))
              go_roundg k1
              case measure => have := HK1.out; omega
              case rel => exact ⟨(wrap64 (t143 + 1)), (wrap64 (x5_1 + 1)), (by first | rfl | (simp; done) | (simp [*]; done)), (by first | rfl | (simp; done) | (simp [*]; done)), H', ⟨by have := HK1.out; omega⟩, by repeat (first | exact Drawn0.refl _ | apply Drawn0.step)⟩
        · rw [if_neg c4] at H
          exact absurd H (by simp)
      · rw [if_neg c3] at H
        have c3b0 : decide (x5_1 < (l0.length : Int)) = false := decide_eq_false c3
        clear c3
        obtain rfl := Option.some.inj H
        go_wp2
        go_ret
        exact ⟨by first | rfl | (simp; done) | (simp [*]; done), by repeat (first | exact Drawn0.refl _ | apply Drawn0.step)⟩
end Go.Proofs.YtffofpiejcolfaaDoor.FR
end
section
set_option linter.unusedVariables false
set_option linter.unusedSimpArgs false
namespace Go.Proofs.YtffofpiejcolfaaDoor
open Go.RowKit Go.Proofs.YtffofpiejcolfaaDoorW.PrintWords Go.Proofs.YtffofpiejcolfaaDoorW.PrintLast Go.Proofs.YtffofpiejcolfaaDoorW.PrintMore
attribute [local go_sem] max2_int min2_int max_two min_two max_three min_three max_four min_four
namespace XRT
open XF XL XC XT XG XA F0 FR
set_option maxHeartbeats 4000000 in
set_option maxRecDepth 100000 in
theorem law.calls (k : Nat) (a0 : ByteArray) (R R' : List S25) (rb : Bool) (m1 : Int) (w : World)
    (hrest : (a0.size : Int) > 1048576 ∨ (¬ (a0.size : Int) > 1048576 ∧ FR.spec_ReadThreads.f k a0 = some (R, rb) ∧ FR.impl_ReadThreads.f k a0 = some (R, rb) ∧ FR.laws_eqThreadS.f k R R = some true ∧ XA.markThreadS.f k R 1 = some (m1, R') ∧ 0 ≤ m1 ∧ FR.laws_heldThreadS.f k R' 1 = some m1)) (gl : GL w) :
    Calls Tryd.prog 4 #[.string a0] w fun e w' => e = .returned (.bool true) ∧ Below w.heap.size w w' := by
  have HG_ := Aside0.mk gl
  clear gl
  by_cases c2 : (a0.size : Int) > 1048576
  · have c2b0 : decide (1048576 < (a0.size : Int)) = true := decide_eq_true c2
    have c2b1 : decide (1048576 < a0.size) = true := decide_eq_true (by omega)
    clear c2 hrest
    go_enter Tryd.func4, Tryd.ntmps4
    go_wp2
    go_ret
    exact ⟨rfl, Below.refl _ _⟩
  · obtain ⟨_, hsp, him, heR, hm, hp, hh⟩ := hrest.resolve_left c2
    have c2b0 : decide (1048576 < (a0.size : Int)) = false := decide_eq_false c2
    have c2b1 : decide (1048576 < a0.size) = false := decide_eq_false (by omega)
    have hd : decide (m1 < 0) = false := decide_eq_false (by omega)
    clear c2 hrest hp
    cases rb <;>
    · go_enter Tryd.func4, Tryd.ntmps4
      go_wp2_with (first | (go_at_call 14; have _m := HQ8; clear _m; (have hcall := FR.laws_heldThreadS.calls k A4 c4 R' 1 m1 w7 (Kd.S_reads' HV8.out).2.2 (by rw [← HRL.out]; exact (Kd.S_reads' HV8.out).2.1) hh (GL.of_below HG_.out (below_step HB1.out HQ8.out)); rw [← HRL.out] at hcall; (with_reducible refine hcall.mono ?_); clear hcall; rintro e wd ⟨rfl, hb⟩; obtain ⟨ne, rfl⟩ := hb; have HQ9 := Aside0.mk (pw_below_drewN HQ8.out ne))) | (go_at_call 12; have _m := HQ7; clear _m; ((with_reducible refine (FR.laws_eqThreadS.calls k A7 c7 R A2 c2 R true _ (Kd.S_reads' HS7.out).2.2 (Kd.S_reads' HS7.out).2.1 (Kd.C_below (Kd.S_reads' HS2.out).2.2 HQ7.out) (Kd.S_reads' HS2.out).2.1 heR (GL.of_below HG_.out (below_step HB1.out HQ7.out))).mono ?_); rintro e w7 ⟨rfl, hb⟩; have HV8 := Aside0.mk (Kd.S_below HV7.out hb); have HQ8 := Aside0.mk (below_step HQ7.out hb); clear hb)) | (go_at_call 11; have _m := HQ6; clear _m; ((with_reducible refine (FR.impl_ReadThreads.calls k a0 R _ _ him (GL.of_below HG_.out (below_step HB1.out HQ6.out))).mono ?_); rintro e w6 ⟨v6, rfl, ho6, hb⟩; have HV7 := Aside0.mk (Kd.S_below HV6.out hb); have HQ7 := Aside0.mk (below_step HQ6.out hb); clear hb; obtain ⟨A7, c7, e7⟩ := Kd.S_slice ho6; subst e7; have HS7 := Aside0.mk ho6; clear ho6; skip)) | (go_at_call 14; have _m := HQ5; clear _m; (have hcall := FR.laws_heldThreadS.calls k A4 c4 R' 1 m1 w4 (Kd.S_reads' HV5.out).2.2 (by rw [← HRL.out]; exact (Kd.S_reads' HV5.out).2.1) hh (GL.of_below HG_.out (below_step HB1.out HQ5.out)); rw [← HRL.out] at hcall; (with_reducible refine hcall.mono ?_); clear hcall; rintro e wd ⟨rfl, hb⟩; obtain ⟨nd, rfl⟩ := hb; have HQ6 := Aside0.mk (pw_below_drewN HQ5.out nd); have HV6 := Aside0.mk (Kd.S_drewN HV5.out nd); clear HV5)) | (go_at_call 13; have _m := HQ4; clear _m; ((with_reducible refine (XA.markThreadS.calls k (fun _ => True) (.slice A4 R.length c4) R 1 m1 R' w1 _ HQ4.out HV4.out hm (GL.of_below HG_.out HB1.out)).mono ?_); rintro e w4 ⟨rfl, hs4, hb, hk⟩; have HQ5 := Aside0.mk hb; have HV5 := Aside0.mk hs4; have HRL := Aside0.mk (Kd.S_reads' HV5.out).1; clear hb hk hs4)) | (go_at_call 12; have _m := HQ3; clear _m; ((with_reducible refine (FR.laws_eqThreadS.calls k A4 c4 R A2 c2 R true _ (Kd.S_reads' HS4.out).2.2 (Kd.S_reads' HS4.out).2.1 (Kd.C_below (Kd.S_reads' HS2.out).2.2 HQ3.out) (Kd.S_reads' HS2.out).2.1 heR (GL.of_below HG_.out (below_step HB1.out HQ3.out))).mono ?_); rintro e w3 ⟨rfl, hb⟩; have HV4 := Aside0.mk (Kd.S_below HS4.out hb); have HQ4 := Aside0.mk (below_step HQ3.out hb); clear hb)) | (go_at_call 11; have _m := HB1; clear _m; ((with_reducible refine (FR.impl_ReadThreads.calls k a0 R _ _ him (GL.of_below HG_.out HB1.out)).mono ?_); rintro e w2 ⟨v2, rfl, ho2, hb⟩; have HQ3 := Aside0.mk hb; clear hb; obtain ⟨A4, c4, e4⟩ := Kd.S_slice ho2; subst e4; have HS4 := Aside0.mk ho2; clear ho2; skip)) | (go_at_call 10; ((with_reducible refine (FR.spec_ReadThreads.calls k a0 R _ _ hsp HG_.out).mono ?_); rintro e w1 ⟨v1, rfl, ho1, hb⟩; have HB1 := Aside0.mk hb; clear hb; obtain ⟨A2, c2, e2⟩ := Kd.S_slice ho1; subst e2; have HS2 := Aside0.mk ho1; clear ho1; skip)))
      go_ret
      exact ⟨by first | rfl | (simp; done), below_step HB1.out HQ9.out⟩
end XRT
end Go.Proofs.YtffofpiejcolfaaDoor
end
section
namespace Go.Proofs.YtffofpiejcolfaaDoor.T
open Go.Lib
def sp (c : UInt8) : List UInt8 → List (List UInt8)
  | [] => [[]]
  | x :: xs => if x = c then [] :: sp c xs else match sp c xs with
    | [] => [[x]]
    | p :: ps => (x :: p) :: ps
theorem sp_ne (c : UInt8) (l : List UInt8) : sp c l ≠ [] := by
  cases l with
  | nil => simp [sp]
  | cons x xs => unfold sp; split; · simp
                 · split <;> simp
def spp (c : UInt8) (p q : List UInt8) : List (List UInt8) := match sp c q with
  | [] => [p]
  | h :: t => (p ++ h) :: t
theorem spp_nil (c : UInt8) (p : List UInt8) : spp c p [] = [p] := by simp [spp, sp]
theorem spp_hit (c : UInt8) (p q : List UInt8) : spp c p (c :: q) = p :: sp c q := by simp [spp, sp]
theorem spp_miss (c x : UInt8) (p q : List UInt8) (h : x ≠ c) : spp c p (x :: q) = spp c (p ++ [x]) q := by
  unfold spp
  conv => lhs; unfold sp
  rw [if_neg h]
  cases hq : sp c q with
  | nil => exact absurd hq (sp_ne c q)
  | cons a t => simp
theorem spp_start (c : UInt8) (q : List UInt8) : spp c [] q = sp c q := by
  unfold spp
  cases hq : sp c q with
  | nil => exact absurd hq (sp_ne c q)
  | cons a t => simp
theorem sp_spec (c : UInt8) : ∀ s : List UInt8, (index s [c] = -1 ∧ sp c s = [s]) ∨ ∃ i : Nat, index s [c] = i ∧ i < s.length ∧ sp c s = s.take i :: sp c (s.drop (i + 1))
  | [] => .inl ⟨rfl, rfl⟩
  | b :: l => by
    by_cases hb : b = c
    · subst hb
      refine .inr ⟨0, ?_, by simp, by simp [sp]⟩
      unfold index
      simp
    · have e : index (b :: l) [c] = if index l [c] == -1 then -1 else index l [c] + 1 := by
        conv => lhs; unfold index
        rw [if_neg]
        simp only [List.isPrefixOf, Bool.and_true, beq_iff_eq]
        exact fun h => hb h.symm
      rcases sp_spec c l with ⟨h1, h2⟩ | ⟨i, h1, h2, h3⟩
      · refine .inl ⟨by rw [e, h1]; rfl, ?_⟩
        unfold sp
        rw [if_neg hb, h2]
      · refine .inr ⟨i + 1, ?_, by simp; omega, ?_⟩
        · rw [e, h1, if_neg (by simp)]
          rfl
        · conv => lhs; unfold sp
          rw [if_neg hb, h3]
          simp
theorem splitK_sp (c : UInt8) : ∀ (n : Nat) (s : List UInt8), s.length ≤ n → splitK [c] 0 (count s [c]) s = sp c s := by
  intro n
  induction n with
  | zero =>
    intro s hs
    have : s = [] := List.length_eq_zero_iff.1 (by omega)
    subst this
    rfl
  | succ n ih =>
    intro s hs
    rcases sp_spec c s with ⟨h1, h2⟩ | ⟨i, h1, h2, h3⟩
    · rw [count_miss h1, h2]; rfl
    · rw [count_hit (by simp) h1, Nat.add_comm, h3]
      unfold splitK
      have hm : ¬ (index s [c] == -1) = true := by rw [h1]; simp
      rw [if_neg hm]
      have e : (index s [c]).toNat = i := by rw [h1]; rfl
      rw [e]
      simp only [List.length_cons, List.length_nil, Nat.zero_add, Nat.add_zero]
      rw [ih (s.drop (i + 1)) (by simp; omega)]
def B (l : List UInt8) : ByteArray := ⟨l.toArray⟩
theorem B_data (s : ByteArray) : B s.data.toList = s := by cases s; simp [B]
theorem B_toList (l : List UInt8) : (B l).data.toList = l := by simp [B]
theorem B_size (l : List UInt8) : (B l).size = l.length := by simp [B, ByteArray.size]
theorem size_list (s : ByteArray) : s.size = s.data.toList.length := by rw [Array.length_toList]; rfl
theorem extract_B (s : ByteArray) (a b : Nat) : s.extract a b = B ((s.data.toList.drop a).take (b - a)) :=
  (B_data (s.extract a b)).symm.trans (congrArg B (extract_data s a b))
theorem splitB_sp (c : UInt8) (s : ByteArray) : splitB ⟨#[c]⟩ 0 (countB s ⟨#[c]⟩) s = (sp c s.data.toList).map B := by
  have h := splitB_data ⟨#[c]⟩ 0 (countB s ⟨#[c]⟩) s
  have h2 : (([⟨#[c]⟩] : List ByteArray).map (·.data.toList)) = [[c]] := rfl
  have e : splitK [c] 0 (countB s ⟨#[c]⟩) s.data.toList = sp c s.data.toList := splitK_sp c _ _ (Nat.le_refl _)
  have h' : (splitB ⟨#[c]⟩ 0 (countB s ⟨#[c]⟩) s).map (·.data.toList) = sp c s.data.toList := h.trans e
  rw [← h', List.map_map]
  have : (B ∘ fun (x : ByteArray) => x.data.toList) = id := by funext x; exact B_data x
  rw [this, List.map_id]
theorem wrap_id {i : Int} (h0 : -9223372036854775808 ≤ i) (h : i ≤ 9223372036854775807) : RowKit.wrap64 i = i := by unfold RowKit.wrap64; omega
end Go.Proofs.YtffofpiejcolfaaDoor.T
end
section
set_option linter.unusedVariables false
namespace Go.Proofs.YtffofpiejcolfaaDoor.PN
open Go.RowKit Go.Proofs.YtffofpiejcolfaaDoor Go.Proofs.YtffofpiejcolfaaDoorW.PrintWords Go.Proofs.YtffofpiejcolfaaDoorW.PrintLast Go.Proofs.YtffofpiejcolfaaDoorW.PrintMore
open T XF XL XC XT F0 F1
theorem w1 (i : Nat) (h : i ≤ 9223372036854775806) : wrap64 ((i : Int) + 1) = ((i + 1 : Nat) : Int) := by rw [wrap_id (by omega) (by omega)]; rfl
theorem bt_nat (s : ByteArray) (i : Nat) (h : i < s.size) : bt s (i : Int) = ((s.data.toList[i]'(by rw [← size_list]; exact h)).toNat : Int) := by
  unfold bt
  rw [dif_pos (by simpa using h)]
  simp only [Int.toNat_natCast]
  rfl
theorem bt_mid (p r : List UInt8) (b : UInt8) : bt (B (p ++ b :: r)) (p.length : Int) = (b.toNat : Int) := by
  rw [bt_nat _ _ (by rw [B_size]; simp)]
  simp [B]
theorem cut_l0 (s : ByteArray) (c : UInt8) (hs : s.size ≤ 1073741824) : ∀ (d k i fr : Nat) (out : List ByteArray), fr ≤ i → i ≤ s.size → s.size - i = d → d + 1 < k → out.length ≤ fr →
    F1.spec_l01Cut.l0 k s (c.toNat : Int) out (fr : Int) (i : Int) = some (out ++ (spp c ((s.data.toList.drop fr).take (i - fr)) (s.data.toList.drop i)).map B) := by
  intro d
  induction d with
  | zero =>
    intro k i fr out hfi hi hd hk ho
    obtain ⟨k, rfl⟩ : ∃ m, k = m + 2 := ⟨k - 2, by omega⟩
    have e : i = s.size := by omega
    subst e
    have hw : wrap64 ((s.size : Int) + 1) = ((s.size + 1 : Nat) : Int) := by rw [wrap_id (by omega) (by omega)]; rfl
    simp only [F1.spec_l01Cut.l0]
    rw [if_pos (Int.le_refl _), if_pos trivial, if_pos (by omega), if_pos (by omega), if_pos (by omega), hw, if_neg (by omega)]
    have hn : s.data.toList.drop s.size = [] := by rw [size_list]; simp
    rw [hn, spp_nil]
    simp only [Int.toNat_natCast, List.map_cons, List.map_nil, extract_B]
  | succ d ih =>
    intro k i fr out hfi hi hd hk ho
    obtain ⟨k, rfl⟩ : ∃ m, k = m + 1 := ⟨k - 1, by omega⟩
    have hlt : i < s.size := by omega
    have hlt' : i < s.data.toList.length := by rw [← size_list]; exact hlt
    have hw : wrap64 ((i : Int) + 1) = ((i + 1 : Nat) : Int) := by rw [wrap_id (by omega) (by omega)]; rfl
    simp only [F1.spec_l01Cut.l0]
    rw [if_pos (by omega), if_neg (by omega), if_pos (by omega), if_pos (by omega), bt_nat s i hlt]
    have hdrop : s.data.toList.drop i = s.data.toList[i] :: s.data.toList.drop (i + 1) := List.drop_eq_getElem_cons hlt'
    by_cases hc : s.data.toList[i] = c
    · rw [hc, if_pos rfl, if_pos (by omega), if_pos (by omega), if_pos (by omega), hw]
      rw [ih k (i + 1) (i + 1) _ (Nat.le_refl _) (by omega) (by omega) (by omega) (by simp; omega)]
      rw [hdrop, hc, spp_hit, Nat.sub_self, List.take_zero, spp_start]
      simp [extract_B]
    · rw [if_neg (fun h => hc (UInt8.toNat_inj.1 (by omega))), hw]
      rw [ih k (i + 1) fr _ (by omega) (by omega) (by omega) (by omega) ho]
      rw [hdrop, spp_miss c _ _ _ hc]
      have : (s.data.toList.drop fr).take (i + 1 - fr) = (s.data.toList.drop fr).take (i - fr) ++ [s.data.toList[i]] := by
        rw [show i + 1 - fr = (i - fr) + 1 by omega, List.take_succ_eq_append_getElem (by simp; omega)]
        simp [show fr + (i - fr) = i by omega]
      rw [this]
theorem cut_f (s : List UInt8) (c : UInt8) (k : Nat) (hs : s.length ≤ 1073741824) (hk : s.length + 2 ≤ k) : F1.spec_l01Cut.f k (B s) (c.toNat : Int) = some ((sp c s).map B) := by
  have := cut_l0 (B s) c (by rw [B_size]; exact hs) (B s).size k 0 0 [] (Nat.le_refl _) (Nat.zero_le _) rfl (by rw [B_size]; omega) (by simp)
  simp only [Nat.sub_self, List.take_zero, List.drop_zero, spp_start, List.nil_append, B_toList] at this
  exact this
def dv (b : UInt8) : Option Nat := if 48 ≤ b.toNat ∧ b.toNat ≤ 57 then some (b.toNat - 48) else if 97 ≤ b.toNat ∧ b.toNat ≤ 102 then some (b.toNat - 87) else none
def ph : List UInt8 → Nat → Option Nat
  | [], n => some n
  | b :: r, n => match dv b with
    | none => none
    | some d => ph r (16 * n + d)
theorem dv_lt {b : UInt8} {d : Nat} (h : dv b = some d) : d < 16 := by
  unfold dv at h
  split at h
  · cases h; omega
  · split at h
    · cases h; omega
    · cases h
def pn (p : List UInt8) : Option Nat := if p.length = 8 then match ph p 0 with
    | none => none
    | some m => if XL.bits m = (m : Int) then some m else none
  else none
def pns : List (List UInt8) → Option (List Nat)
  | [] => some []
  | p :: r => match pn p with
    | none => none
    | some m => match pns r with
      | none => none
      | some l => some (m :: l)
def numsOf (o : Option (List Nat)) : List Nat × Bool := match o with
  | some l => (l, true)
  | none => ([], false)
theorem pw (e : Nat) (h : e ≤ 8) : 16 ^ e ≤ 4294967296 := by
  have : 16 ^ e ≤ 16 ^ 8 := Nat.pow_le_pow_right (by omega) h
  simpa using this
theorem spec_dig (x4 : List Nat) (x5 : List ByteArray) (i6 : Nat) (s : List UInt8) (hs : rdOf ByteArray.empty x5 (i6 : Int) = B s) (h6 : i6 < x5.length) (h8 : s.length = 8) (kk : Nat) :
    ∀ (rest pre : List UInt8) (n : Nat), s = pre ++ rest → n < 16 ^ pre.length →
      F1.spec_l01NRead.l1 (kk + 4 * rest.length + 1) x4 x5 (i6 : Int) (n : Int) (pre.length : Int) =
        match ph rest n with
        | none => some ([], false)
        | some m => if XL.bits m = (m : Int) then (if x4.length < 35184372088832 then F1.spec_l01NRead.l0 kk (x4 ++ [m]) x5 (wrap64 ((i6 : Int) + 1)) else none) else some ([], false) := by
  intro rest
  induction rest with
  | nil =>
    intro pre n hp hn
    rw [List.append_nil] at hp
    subst hp
    rw [h8] at hn
    have hm : ((n : Int) % 4294967296).toNat = n := by
      have : (16 : Nat) ^ 8 = 4294967296 := by decide
      omega
    simp only [ph, List.length_nil, Nat.mul_zero, Nat.add_zero, F1.spec_l01NRead.l1]
    rw [if_neg (by omega)]
    simp only [XM.l01From.f, XL.l01Bits.f, Option.bind_some, hm]
  | cons b rest ih =>
    intro pre n hp hn
    have hlen : pre.length + (rest.length + 1) = 8 := by
      rw [← h8, hp]
      simp
    have hb : bt (B s) (pre.length : Int) = (b.toNat : Int) := by rw [hp]; exact bt_mid pre rest b
    have hbl : b.toNat < 256 := b.toNat_lt
    have hpw := pw pre.length (by omega)
    rw [List.length_cons, show kk + 4 * (rest.length + 1) + 1 = ((kk + 4 * rest.length + 1) + 3) + 1 by omega]
    have step (d : Nat) (hd : dv b = some d) : (wrap64 ((wrap64 (16 * (n : Int))) + (d : Int))) = ((16 * n + d : Nat) : Int) := by
      have := dv_lt hd
      rw [wrap_id (i := 16 * (n : Int)) (by omega) (by omega), wrap_id (by omega) (by omega)]
      omega
    have hw := w1 pre.length (by omega)
    have e2 : pre.length + 1 = (pre ++ [b]).length := by simp
    have ih2 (d : Nat) (hd : dv b = some d) := ih (pre ++ [b]) (16 * n + d) (by rw [hp]; simp) (by have := dv_lt hd; rw [← e2, Nat.pow_succ]; omega)
    have key : F1.spec_l01NRead.j2 (kk + 4 * rest.length + 1 + 3) x4 x5 (i6 : Int) (n : Int) (pre.length : Int) (b.toNat : Int) (-1) (decide (48 ≤ b.toNat ∧ b.toNat ≤ 57)) =
        match ph (b :: rest) n with
        | none => some ([], false)
        | some m => if XL.bits m = (m : Int) then (if x4.length < 35184372088832 then F1.spec_l01NRead.l0 kk (x4 ++ [m]) x5 (wrap64 ((i6 : Int) + 1)) else none) else some ([], false) := by
      simp only [F1.spec_l01NRead.j2, ph]
      by_cases c1 : 48 ≤ b.toNat ∧ b.toNat ≤ 57
      · have hd : dv b = some (b.toNat - 48) := by unfold dv; rw [if_pos c1]
        have e3 : ((b.toNat : Int) - 48) % 256 = ((b.toNat - 48 : Nat) : Int) := by omega
        rw [decide_eq_true c1, if_pos rfl, hd]
        simp only [F1.spec_l01NRead.j3]
        rw [if_neg (by omega)]
        simp only [F1.spec_l01NRead.j4]
        rw [if_neg (by decide), e3, if_neg (by omega), step _ hd, hw, e2]
        exact ih2 _ hd
      · rw [decide_eq_false c1, if_neg (by decide)]
        by_cases c2 : 97 ≤ b.toNat ∧ b.toNat ≤ 102
        · have hd : dv b = some (b.toNat - 87) := by unfold dv; rw [if_neg c1, if_pos c2]
          have e3 : ((b.toNat : Int) - 97) % 256 + 10 = ((b.toNat - 87 : Nat) : Int) := by omega
          rw [hd]
          simp only [F1.spec_l01NRead.j3]
          rw [if_pos (by omega), decide_eq_true (by omega)]
          simp only [F1.spec_l01NRead.j4]
          rw [if_pos trivial, e3, if_neg (by omega), step _ hd, hw, e2]
          exact ih2 _ hd
        · have hd : dv b = none := by unfold dv; rw [if_neg c1, if_neg c2]
          rw [hd]
          simp only [F1.spec_l01NRead.j3]
          by_cases c3 : (b.toNat : Int) ≥ 97
          · rw [if_pos c3, decide_eq_false (by omega)]
            simp only [F1.spec_l01NRead.j4]
            rw [if_neg (by decide), if_pos (by decide)]
          · rw [if_neg c3]
            simp only [F1.spec_l01NRead.j4]
            rw [if_neg (by decide), if_pos (by decide)]
    rw [F1.spec_l01NRead.l1]
    rw [if_pos (by omega), if_pos (by omega), if_pos (by omega), if_pos (by omega), hs, if_pos (by rw [B_size, h8]; omega), hb]
    rw [← key]
    by_cases c4 : (b.toNat : Int) ≥ 48
    · rw [if_pos c4]
      congr 1
      exact decide_eq_decide.2 ⟨fun h => ⟨by omega, by omega⟩, fun h => by omega⟩
    · rw [if_neg c4]
      congr 1
      exact (decide_eq_false (by omega)).symm
theorem spec_parts : ∀ (rest pre : List (List UInt8)) (out : List Nat) (k : Nat), 34 * rest.length < k → pre.length + rest.length ≤ 256 → out.length ≤ pre.length →
    F1.spec_l01NRead.l0 k out ((pre ++ rest).map B) (pre.length : Int) = some (match pns rest with | some l => (out ++ l, true) | none => ([], false)) := by
  intro rest
  induction rest with
  | nil =>
    intro pre out k hk hp ho
    obtain ⟨k, rfl⟩ : ∃ m, k = m + 1 := ⟨k - 1, by omega⟩
    simp only [F1.spec_l01NRead.l0]
    rw [if_neg (by simp)]
    simp [pns]
  | cons p rest ih =>
    intro pre out k hk hp ho
    simp only [List.length_cons] at hk hp
    obtain ⟨k, rfl⟩ : ∃ m, k = m + 4 * 8 + 1 + 1 := ⟨k - 34, by omega⟩
    have hrd : rdOf ByteArray.empty ((pre ++ p :: rest).map B) (pre.length : Int) = B p := by simp [rdOf]
    have hlt : pre.length < ((pre ++ p :: rest).map B).length := by simp
    rw [F1.spec_l01NRead.l0]
    rw [if_pos (by omega), if_pos (by omega), hrd, B_size]
    by_cases h8 : p.length = 8
    · rw [if_pos (by omega)]
      have := spec_dig out ((pre ++ p :: rest).map B) pre.length p hrd hlt h8 k p [] 0 rfl (by simp)
      rw [h8] at this
      simp only [List.length_nil, Int.ofNat_zero] at this
      refine Eq.trans this ?_
      simp only [pns, pn, h8, if_true]
      cases hph : ph p 0 with
      | none => rfl
      | some m =>
        simp only
        by_cases hb : XL.bits m = (m : Int)
        · rw [if_pos hb, if_pos hb, if_pos (by omega), w1 pre.length (by omega)]
          have e : pre ++ p :: rest = (pre ++ [p]) ++ rest := by simp
          have e2 : pre.length + 1 = (pre ++ [p]).length := by simp
          rw [e, e2, ih (pre ++ [p]) (out ++ [m]) k (by omega) (by simp; omega) (by simp; omega)]
          cases pns rest with
          | none => rfl
          | some l => simp
        · rw [if_neg hb, if_neg hb]
    · rw [if_neg (by omega)]
      simp [pns, pn, h8]
def RN (s : List UInt8) : Option (List Nat) := if s = [110, 111, 110, 101] then some [] else if (sp 44 s).length ≤ 256 then pns (sp 44 s) else none
theorem B_toList' (s : List UInt8) : (B s).toList = s := by rw [Lib.toList_data, B_toList]
theorem spec_N (s : List UInt8) (k : Nat) (hs : s.length ≤ 1073741824) (hk : s.length + 10000 ≤ k) : F1.spec_l01NRead.f k (B s) = some (numsOf (RN s)) := by
  unfold F1.spec_l01NRead.f RN
  simp only [Option.bind_some]
  rw [B_toList']
  by_cases h : s = [110, 111, 110, 101]
  · rw [if_pos h, if_pos h]
    rfl
  · rw [if_neg h, if_neg h]
    have hc := cut_f s 44 k hs (by omega)
    rw [show ((44 : UInt8).toNat : Int) = 44 from rfl] at hc
    rw [hc]
    simp only [Option.bind_some]
    by_cases h2 : (sp 44 s).length ≤ 256
    · rw [if_neg (by simp; omega), if_pos h2]
      have := spec_parts (sp 44 s) [] [] k (by omega) (by simpa using h2) (by simp)
      simp only [List.nil_append, List.length_nil, Int.ofNat_zero] at this
      refine Eq.trans this ?_
      cases pns (sp 44 s) <;> rfl
    · rw [if_pos (by simp; omega), if_neg h2]
      rfl
abbrev dg : ByteArray := ⟨#[48, 49, 50, 51, 52, 53, 54, 55, 56, 57, 97, 98, 99, 100, 101, 102]⟩
theorem ix_fin : ∀ n : Fin 256, Lib.indexByte dg.data.toList (UInt8.ofNat n.val) = match dv (UInt8.ofNat n.val) with | none => -1 | some d => (d : Int) := by decide +kernel
theorem ix_dv (b : UInt8) : Lib.indexByte dg.data.toList b = match dv b with | none => -1 | some d => (d : Int) := by
  have := ix_fin ⟨b.toNat, b.toNat_lt⟩
  simpa using this
theorem ix_f (b : UInt8) : XS.strings_IndexByte.f dg (b.toNat : Int) = some (match dv b with | none => -1 | some d => (d : Int)) := by
  unfold XS.strings_IndexByte.f
  rw [← ix_dv b]
  simp
theorem rn_ok (s : List UInt8) (h8 : s.length ≤ 8) : ∀ (rest pre : List UInt8) (n k : Nat), s = pre ++ rest → n < 16 ^ pre.length → rest.length < k →
    F1.impl_readNumber.l0 k (B s) (n : Int) ((B s).size : Int) (pre.length : Int) = match ph rest n with
      | none => some (0, false)
      | some m => if s.length = 8 then some (m, XL.bits m == (m : Int)) else some (m, false) := by
  intro rest
  induction rest with
  | nil =>
    intro pre n k hp hn hk
    rw [List.append_nil] at hp
    subst hp
    obtain ⟨k, rfl⟩ : ∃ m, k = m + 1 := ⟨k - 1, by omega⟩
    have hpw := pw s.length h8
    have hm : ((n : Int) % 4294967296).toNat = n := by omega
    simp only [F1.impl_readNumber.l0]
    rw [if_neg (by rw [B_size]; omega)]
    unfold XM.FromBits.f
    rw [if_pos ⟨by omega, by omega⟩]
    simp only [Option.bind_some, XL.BitsOf.f, hm, ph, B_size]
    by_cases h : s.length = 8
    · rw [if_pos h, if_pos (by omega)]
    · rw [if_neg h, if_neg (by omega)]
  | cons b rest ih =>
    intro pre n k hp hn hk
    simp only [List.length_cons] at hk
    obtain ⟨k, rfl⟩ : ∃ m, k = m + 1 := ⟨k - 1, by omega⟩
    have hlen : pre.length + (rest.length + 1) = s.length := by
      rw [hp]
      simp
    have hb : bt (B s) (pre.length : Int) = (b.toNat : Int) := by rw [hp]; exact bt_mid pre rest b
    have hpw := pw pre.length (by omega)
    simp only [F1.impl_readNumber.l0]
    rw [if_pos (by rw [B_size]; omega), if_pos (by omega), if_pos (by rw [B_size]; omega), hb, ix_f b]
    simp only [Option.bind_some, ph]
    cases hd : dv b with
    | none =>
      simp only
      rw [if_pos (by decide)]
    | some d =>
      have := dv_lt hd
      simp only
      have e1 : wrap64 (wrap64 ((n : Int) * 16) + (d : Int)) = ((16 * n + d : Nat) : Int) := by
        rw [wrap_id (i := (n : Int) * 16) (by omega) (by omega), wrap_id (by omega) (by omega)]
        omega
      have e2 : pre.length + 1 = (pre ++ [b]).length := by simp
      rw [if_neg (by omega), if_neg (by omega), e1, w1 pre.length (by omega), e2]
      exact ih (pre ++ [b]) (16 * n + d) k (by rw [hp]; simp) (by rw [← e2, Nat.pow_succ]; omega) (by omega)
theorem rn_long (s : List UInt8) (h8 : 8 < s.length) : ∀ (d : Nat) (rest pre : List UInt8) (n k : Nat), s = pre ++ rest → pre.length + d = 8 → n < 16 ^ pre.length → d < k →
    ∃ x, F1.impl_readNumber.l0 k (B s) (n : Int) ((B s).size : Int) (pre.length : Int) = some (x, false) := by
  intro d
  induction d with
  | zero =>
    intro rest pre n k hp hd8 hn hk
    obtain ⟨k, rfl⟩ : ∃ m, k = m + 1 := ⟨k - 1, by omega⟩
    cases rest with
    | nil =>
      rw [List.append_nil] at hp
      rw [hp] at h8
      omega
    | cons b rest =>
      have hb : bt (B s) (pre.length : Int) = (b.toNat : Int) := by rw [hp]; exact bt_mid pre rest b
      simp only [F1.impl_readNumber.l0]
      rw [if_pos (by rw [B_size]; omega), if_pos (by omega), if_pos (by rw [B_size]; omega), hb, ix_f b]
      simp only [Option.bind_some]
      cases hd : dv b with
      | none =>
        simp only
        rw [if_pos (by decide)]
        exact ⟨_, rfl⟩
      | some e =>
        simp only
        rw [if_neg (by omega), if_pos (by omega)]
        exact ⟨_, rfl⟩
  | succ d ih =>
    intro rest pre n k hp hd8 hn hk
    obtain ⟨k, rfl⟩ : ∃ m, k = m + 1 := ⟨k - 1, by omega⟩
    cases rest with
    | nil =>
      rw [List.append_nil] at hp
      rw [hp] at h8
      omega
    | cons b rest =>
      have hb : bt (B s) (pre.length : Int) = (b.toNat : Int) := by rw [hp]; exact bt_mid pre rest b
      have hpw := pw pre.length (by omega)
      simp only [F1.impl_readNumber.l0]
      rw [if_pos (by rw [B_size]; omega), if_pos (by omega), if_pos (by rw [B_size]; omega), hb, ix_f b]
      simp only [Option.bind_some]
      cases hd : dv b with
      | none =>
        simp only
        rw [if_pos (by decide)]
        exact ⟨_, rfl⟩
      | some e =>
        have := dv_lt hd
        simp only
        have e1 : wrap64 (wrap64 ((n : Int) * 16) + (e : Int)) = ((16 * n + e : Nat) : Int) := by
          rw [wrap_id (i := (n : Int) * 16) (by omega) (by omega), wrap_id (by omega) (by omega)]
          omega
        have e2 : pre.length + 1 = (pre ++ [b]).length := by simp
        rw [if_neg (by omega), if_neg (by omega), e1, w1 pre.length (by omega), e2]
        exact ih rest (pre ++ [b]) (16 * n + e) k (by rw [hp]; simp) (by rw [← e2]; omega) (by rw [← e2, Nat.pow_succ]; omega) (by omega)
theorem rn_f (s : List UInt8) (k : Nat) (hk : 10 ≤ k) : (∃ m, pn s = some m ∧ F1.impl_readNumber.f k (B s) = some (m, true)) ∨ (pn s = none ∧ ∃ x, F1.impl_readNumber.f k (B s) = some (x, false)) := by
  unfold F1.impl_readNumber.f
  by_cases h : s.length ≤ 8
  · have := rn_ok s h s [] 0 k rfl (by simp) (by omega)
    simp only [List.length_nil, Int.ofNat_zero] at this
    rw [this]
    unfold pn
    cases hp : ph s 0 with
    | none =>
      refine .inr ⟨?_, _, rfl⟩
      split <;> rfl
    | some m =>
      simp only
      by_cases h8 : s.length = 8
      · rw [if_pos h8, if_pos h8]
        by_cases hb : XL.bits m = (m : Int)
        · rw [if_pos hb]
          exact .inl ⟨m, rfl, by rw [beq_iff_eq.2 hb]⟩
        · rw [if_neg hb]
          exact .inr ⟨rfl, m, by rw [beq_eq_false_iff_ne.2 hb]⟩
      · rw [if_neg h8, if_neg h8]
        exact .inr ⟨rfl, _, rfl⟩
  · obtain ⟨x, hx⟩ := rn_long s (by omega) 8 s [] 0 k rfl (by simp) (by simp) (by omega)
    simp only [List.length_nil, Int.ofNat_zero] at hx
    refine .inr ⟨?_, x, hx⟩
    unfold pn
    rw [if_neg (by omega)]
theorem impl_parts : ∀ (rest pre : List (List UInt8)) (out : List Nat) (k : Nat), rest.length + 10 < k → pre.length + rest.length ≤ 1073741825 → out.length = pre.length → out.length ≤ 256 →
    F1.impl_ReadNumbers.l0 k out ((pre ++ rest).map B) (((pre ++ rest).map B).length : Int) (pre.length : Int) = some (if pre.length + rest.length ≤ 256 then match pns rest with | some l => (out ++ l, true) | none => ([], false) else ([], false)) := by
  intro rest
  induction rest with
  | nil =>
    intro pre out k hk hp ho h256
    obtain ⟨k, rfl⟩ : ∃ m, k = m + 1 := ⟨k - 1, by omega⟩
    simp only [F1.impl_ReadNumbers.l0]
    rw [if_neg (by simp), if_pos (by simp; omega)]
    simp [pns]
  | cons p rest ih =>
    intro pre out k hk hp ho h256
    simp only [List.length_cons] at hk hp
    obtain ⟨k, rfl⟩ : ∃ m, k = m + 1 := ⟨k - 1, by omega⟩
    have hrd : rdOf ByteArray.empty ((pre ++ p :: rest).map B) (pre.length : Int) = B p := by simp [rdOf]
    have hlt : (pre.length : Int) < (((pre ++ p :: rest).map B).length : Int) := by simp; omega
    have e : pre ++ p :: rest = (pre ++ [p]) ++ rest := by simp
    have e2 : pre.length + 1 = (pre ++ [p]).length := by simp
    simp only [F1.impl_ReadNumbers.l0]
    rw [if_pos hlt, if_pos (by omega), if_pos hlt, hrd]
    rcases rn_f p k (by omega) with ⟨m, h1, h2⟩ | ⟨h1, x, h2⟩
    · rw [h2]
      simp only [Option.bind_some, pns, h1, if_true]
      by_cases h3 : out.length = 256
      · rw [if_pos (by omega), if_neg (by simp; omega)]
      · rw [if_neg (by omega), if_pos (by omega), w1 pre.length (by omega), e2]
        rw [e, ih (pre ++ [p]) (out ++ [m]) k (by omega) (by simp; omega) (by simp; omega) (by simp; omega)]
        congr 1
        rw [← e2]
        simp only [List.length_cons]
        by_cases h4 : pre.length + (rest.length + 1) ≤ 256
        · rw [if_pos h4, if_pos (by omega)]
          cases pns rest with
          | none => rfl
          | some l => simp
        · rw [if_neg h4, if_neg (by omega)]
    · rw [h2]
      simp only [Option.bind_some, pns, h1]
      rw [if_neg (by decide)]
      split <;> rfl
theorem sp_len (c : UInt8) : ∀ l : List UInt8, (sp c l).length = l.count c + 1
  | [] => by simp [sp]
  | x :: xs => by
    have := sp_len c xs
    unfold sp
    split
    · rename_i h; subst h; simp [this]
    · rename_i h
      split
      · rename_i h2; rw [h2] at this; simp at this
      · rename_i h2; rw [h2] at this; simp only [List.length_cons] at this ⊢; rw [this, List.count_cons_of_ne h]
theorem split_f (s : List UInt8) (c : UInt8) (hs : s.length ≤ 1073741824) : XS.strings_Split.f (B s) ⟨#[c]⟩ = some ((sp c s).map B) := by
  unfold XS.strings_Split.f
  rw [if_pos (by rw [B_size]; exact hs), if_pos (by exact Nat.le_refl 1), splitB_sp, B_toList]
theorem impl_N (s : List UInt8) (k : Nat) (hs : s.length ≤ 1073741824) (hk : s.length + 10000 ≤ k) : F1.impl_ReadNumbers.f k (B s) = some (numsOf (RN s)) := by
  unfold F1.impl_ReadNumbers.f F1.impl_parted.f RN
  rw [B_toList']
  by_cases h : s = [110, 111, 110, 101]
  · rw [if_pos h, if_pos h]
    simp only [Option.bind_some]
    obtain ⟨k, rfl⟩ : ∃ m, k = m + 1 := ⟨k - 1, by omega⟩
    simp only [F1.impl_ReadNumbers.l0]
    rw [if_neg (by simp)]
    rfl
  · rw [if_neg h, if_neg h, split_f s 44 hs]
    simp only [Option.bind_some]
    have hc : s.count 44 ≤ s.length := List.count_le_length
    have := impl_parts (sp 44 s) [] [] k (by rw [sp_len]; omega) (by rw [sp_len]; simp; omega) rfl (by simp)
    simp only [List.nil_append, List.length_nil, Int.ofNat_zero, Nat.zero_add] at this
    refine Eq.trans this ?_
    congr 1
    split
    · cases pns (sp 44 s) <;> rfl
    · rfl
def RV (s : List UInt8) : Option S45 := match RN s with
  | some [x, y, z] => some ⟨x, y, z⟩
  | _ => none
def R1 (s : List UInt8) : Option Nat := match RN s with
  | some [x] => some x
  | _ => none
def vecOf (o : Option S45) : Nat × Nat × Nat × Bool := match o with
  | some v => (v.f0, v.f1, v.f2, true)
  | none => (0, 0, 0, false)
theorem spec_V (s : List UInt8) (k : Nat) (hs : s.length ≤ 1073741824) (hk : s.length + 10000 ≤ k) : F1.spec_l01VRead.f k (B s) = some (vecOf (RV s)) := by
  unfold F1.spec_l01VRead.f RV
  rw [spec_N s k hs hk]
  cases RN s with
  | none => rfl
  | some l =>
    match l with
    | [] => rfl
    | [_] => rfl
    | [_, _] => rfl
    | [x, y, z] => rfl
    | _ :: _ :: _ :: _ :: l =>
      simp only [numsOf, Option.bind_some, vecOf, if_true]
      rw [if_neg (by simp only [List.length_cons]; omega)]
theorem impl_V (s : List UInt8) (k : Nat) (hs : s.length ≤ 1073741824) (hk : s.length + 10000 ≤ k) : F1.impl_ReadVector.f k (B s) = some (vecOf (RV s)) := by
  unfold F1.impl_ReadVector.f RV
  rw [impl_N s k hs hk]
  cases RN s with
  | none => rfl
  | some l =>
    match l with
    | [] => rfl
    | [_] => rfl
    | [_, _] => rfl
    | [x, y, z] => rfl
    | _ :: _ :: _ :: _ :: l =>
      simp only [numsOf, Option.bind_some, vecOf, if_true]
      rw [if_neg (by simp only [List.length_cons]; omega)]
theorem spec_1 (s : List UInt8) (k : Nat) (hs : s.length ≤ 1073741824) (hk : s.length + 10000 ≤ k) : F1.spec_l08Number.f k (B s) = some (match R1 s with | some x => (x, true) | none => (0, false)) := by
  unfold F1.spec_l08Number.f R1
  rw [spec_N s k hs hk]
  cases RN s with
  | none => rfl
  | some l =>
    match l with
    | [] => rfl
    | [_] => rfl
    | _ :: _ :: l =>
      simp only [numsOf, Option.bind_some, if_true]
      rw [if_neg (by simp only [List.length_cons]; omega)]
def rvs : List (List UInt8) → Option (List S45)
  | [] => some []
  | p :: r => match RV p with
    | none => none
    | some m => match rvs r with
      | none => none
      | some l => some (m :: l)
theorem rvs_len : ∀ (l : List (List UInt8)) (r : List S45), rvs l = some r → r.length = l.length
  | [], r, h => by cases h; rfl
  | p :: l, r, h => by
    simp only [rvs] at h
    cases h1 : RV p with
    | none => rw [h1] at h; cases h
    | some m =>
      rw [h1] at h
      cases h2 : rvs l with
      | none => rw [h2] at h; cases h
      | some l' =>
        rw [h2] at h
        cases h
        simp [rvs_len l l' h2]
def thOf (o : Option (List S45 × Nat)) : List S45 × Nat × Bool := match o with
  | some (l, x) => (l, x, true)
  | none => ([], 0, false)
def give (l : List S45) (x : Nat) : Option (List S45 × Nat) := if isThread l x = true then some (l, x) else none
theorem told_f (l : List S45) (x : Nat) : F1.impl_toldThread.f l x = some (thOf (give l x)) := by
  unfold F1.impl_toldThread.f XC.IsThread.f give
  simp only [Option.bind_some]
  split <;> rfl
theorem give_f (l : List S45) (x : Nat) : XG.l06Give.f l x = some (thOf (give l x)) := by
  unfold XG.l06Give.f give
  split <;> rfl
theorem spec_pts (x : Nat) (N : Nat) (hN : N ≤ 1073741824) : ∀ (rest pre : List (List UInt8)) (out : List S45) (k : Nat), (∀ p ∈ rest, p.length ≤ N) → rest.length + N + 10001 ≤ k → pre.length + rest.length ≤ 1073741825 → out.length ≤ pre.length →
    F1.spec_l08ReadThread.l0 k ((pre ++ rest).map B) (pre.length : Int) out x = some (thOf (match rvs rest with | some l => give (out ++ l) x | none => none)) := by
  intro rest
  induction rest with
  | nil =>
    intro pre out k hm hk hp ho
    obtain ⟨k, rfl⟩ : ∃ m, k = m + 1 := ⟨k - 1, by omega⟩
    simp only [F1.spec_l08ReadThread.l0]
    rw [if_neg (by simp), give_f]
    simp [rvs]
  | cons p rest ih =>
    intro pre out k hm hk hp ho
    simp only [List.length_cons] at hk hp
    obtain ⟨k, rfl⟩ : ∃ m, k = m + 1 := ⟨k - 1, by omega⟩
    have hrd : rdOf ByteArray.empty ((pre ++ p :: rest).map B) (pre.length : Int) = B p := by simp [rdOf]
    have hlt : (pre.length : Int) < (((pre ++ p :: rest).map B).length : Int) := by simp; omega
    have e : pre ++ p :: rest = (pre ++ [p]) ++ rest := by simp
    have e2 : pre.length + 1 = (pre ++ [p]).length := by simp
    have hpN := hm p (by simp)
    simp only [F1.spec_l08ReadThread.l0]
    rw [if_pos hlt, if_pos (by omega), hrd, spec_V p k (by omega) (by omega)]
    simp only [Option.bind_some, rvs]
    cases hv : RV p with
    | none => rfl
    | some v =>
      simp only [vecOf, if_true]
      rw [if_pos (by omega), w1 pre.length (by omega), e2, e, ih (pre ++ [p]) (out ++ [v]) k (fun q hq => hm q (by simp [hq])) (by omega) (by simp; omega) (by simp; omega)]
      cases rvs rest with
      | none => rfl
      | some l => simp
theorem impl_pts (x7 : List Nat) (x : Nat) (hx : x7 = [x]) (N : Nat) (hN : N ≤ 1073741824) : ∀ (rest pre : List (List UInt8)) (out : List S45) (k : Nat), (∀ p ∈ rest, p.length ≤ N) → rest.length + N + 10001 ≤ k → pre.length + rest.length ≤ 1073741825 → out.length ≤ pre.length →
    F1.impl_ReadThread.l0 k x7 out ((pre ++ rest).map B) (((pre ++ rest).map B).length : Int) (pre.length : Int) = some (thOf (match rvs rest with | some l => give (out ++ l) x | none => none)) := by
  subst hx
  intro rest
  induction rest with
  | nil =>
    intro pre out k hm hk hp ho
    obtain ⟨k, rfl⟩ : ∃ m, k = m + 1 := ⟨k - 1, by omega⟩
    simp only [F1.impl_ReadThread.l0]
    rw [if_neg (by simp), if_pos (by simp), show rdOf (0 : Nat) [x] 0 = x from rfl, told_f]
    simp [rvs]
  | cons p rest ih =>
    intro pre out k hm hk hp ho
    simp only [List.length_cons] at hk hp
    obtain ⟨k, rfl⟩ : ∃ m, k = m + 1 := ⟨k - 1, by omega⟩
    have hrd : rdOf ByteArray.empty ((pre ++ p :: rest).map B) (pre.length : Int) = B p := by simp [rdOf]
    have hlt : (pre.length : Int) < (((pre ++ p :: rest).map B).length : Int) := by simp; omega
    have e : pre ++ p :: rest = (pre ++ [p]) ++ rest := by simp
    have e2 : pre.length + 1 = (pre ++ [p]).length := by simp
    have hpN := hm p (by simp)
    simp only [F1.impl_ReadThread.l0]
    rw [if_pos hlt, if_pos (by omega), if_pos hlt, hrd, impl_V p k (by omega) (by omega)]
    simp only [Option.bind_some, rvs]
    cases hv : RV p with
    | none => rfl
    | some v =>
      simp only [vecOf, if_true]
      rw [if_pos (by omega), w1 pre.length (by omega), e2, e, ih (pre ++ [p]) (out ++ [v]) k (fun q hq => hm q (by simp [hq])) (by omega) (by simp; omega) (by simp; omega)]
      cases rvs rest with
      | none => rfl
      | some l => simp
theorem sp_mem (c : UInt8) : ∀ (s : List UInt8) (b : UInt8), b ∈ s → b = c ∨ ∃ p ∈ sp c s, b ∈ p
  | x :: xs, b, h => by
    have ih := sp_mem c xs
    unfold sp
    split
    · rename_i hx
      rcases List.mem_cons.1 h with rfl | h
      · exact .inl hx
      · rcases ih b h with h | ⟨p, hp, hb⟩
        · exact .inl h
        · exact .inr ⟨p, by simp [hp], hb⟩
    · split
      · rename_i h2; exact absurd h2 (sp_ne c xs)
      · rename_i q qs h2
        rw [h2] at ih
        rcases List.mem_cons.1 h with rfl | h
        · exact .inr ⟨_, List.mem_cons_self .., by simp⟩
        · rcases ih b h with h | ⟨p, hp, hb⟩
          · exact .inl h
          · rcases List.mem_cons.1 hp with rfl | hp
            · exact .inr ⟨_, List.mem_cons_self .., by simp [hb]⟩
            · exact .inr ⟨p, by simp [hp], hb⟩
theorem sp_le (c : UInt8) : ∀ (s : List UInt8) (p : List UInt8), p ∈ sp c s → p.length ≤ s.length
  | [], p, h => by simp [sp] at h; simp [h]
  | x :: xs, p, h => by
    have ih := sp_le c xs
    unfold sp at h
    split at h
    · rcases List.mem_cons.1 h with rfl | h
      · simp
      · have := ih p h; simp; omega
    · split at h
      · rename_i h2; exact absurd h2 (sp_ne c xs)
      · rename_i q qs h2
        rw [h2] at ih
        rcases List.mem_cons.1 h with rfl | h
        · have := ih q (by simp); simp; omega
        · have := ih p (by simp [h]); simp; omega
theorem ph_dv : ∀ (p : List UInt8) (n m : Nat), ph p n = some m → ∀ b ∈ p, ∃ d, dv b = some d
  | b :: r, n, m, h, x, hx => by
    simp only [ph] at h
    cases hd : dv b with
    | none => rw [hd] at h; cases h
    | some d =>
      rw [hd] at h
      rcases List.mem_cons.1 hx with rfl | hx
      · exact ⟨d, hd⟩
      · exact ph_dv r _ m h x hx
theorem pns_dv : ∀ (l : List (List UInt8)) (r : List Nat), pns l = some r → ∀ p ∈ l, ∀ b ∈ p, ∃ d, dv b = some d
  | q :: l, r, h, p, hp, b, hb => by
    simp only [pns] at h
    cases h1 : pn q with
    | none => rw [h1] at h; cases h
    | some m =>
      rw [h1] at h
      cases h2 : pns l with
      | none => rw [h2] at h; cases h
      | some l' =>
        rcases List.mem_cons.1 hp with rfl | hp
        · unfold pn at h1
          split at h1
          · cases h3 : ph p 0 with
            | none => rw [h3] at h1; cases h1
            | some m => exact ph_dv p 0 m h3 b hb
          · cases h1
        · exact pns_dv l l' h2 p hp b hb
theorem RN_no (s : List UInt8) (l : List Nat) (h : RN s = some l) (c : UInt8) (hc : dv c = none) (h44 : c ≠ 44) (hn : c ∉ ([110, 111, 110, 101] : List UInt8)) : c ∉ s := by
  intro hm
  unfold RN at h
  split at h
  · rename_i e
    rw [e] at hm
    exact hn hm
  · split at h
    · rcases sp_mem 44 s c hm with e | ⟨p, hp, hb⟩
      · exact h44 e
      · obtain ⟨d, hd⟩ := pns_dv _ _ h p hp c hb
        rw [hc] at hd
        cases hd
    · cases h
def RT (s : List UInt8) : Option (List S45 × Nat) := match sp 59 s with
  | [a, b] => match R1 b with
    | some x => match rvs (sp 47 a) with
      | some l => give l x
      | none => none
    | none => none
  | _ => none
theorem spec_RT (s : List UInt8) (k : Nat) (hs : s.length ≤ 1073741824) (hk : 2 * s.length + 10010 ≤ k) : F1.spec_l08ReadThread.f k (B s) = some (thOf (RT s)) := by
  unfold F1.spec_l08ReadThread.f RT
  have hc := cut_f s 59 k hs (by omega)
  rw [show ((59 : UInt8).toNat : Int) = 59 from rfl] at hc
  rw [hc]
  simp only [Option.bind_some]
  have hle := sp_le 59 s
  match hsp : sp 59 s with
  | [] => exact absurd hsp (sp_ne 59 s)
  | [_] => rfl
  | _ :: _ :: _ :: l =>
    rw [if_neg (by simp only [List.map_cons, List.length_cons]; omega)]
    rfl
  | [a, b] =>
    rw [hsp] at hle
    have ha := hle a (by simp)
    have hb := hle b (by simp)
    simp only [List.map_cons, List.map_nil]
    rw [if_pos (by rfl), if_pos (by simp), show rdOf ByteArray.empty [B a, B b] 1 = B b from rfl, show rdOf ByteArray.empty [B a, B b] 0 = B a from rfl, spec_1 b k (by omega) (by omega)]
    simp only [Option.bind_some]
    cases R1 b with
    | none => rfl
    | some x =>
      simp only [if_true]
      have hc2 := cut_f a 47 k (by omega) (by omega)
      rw [show ((47 : UInt8).toNat : Int) = 47 from rfl] at hc2
      rw [if_pos (by simp), hc2]
      simp only [Option.bind_some]
      have hcl : a.count 47 ≤ a.length := List.count_le_length
      have := spec_pts x a.length (by omega) (sp 47 a) [] [] k (sp_le 47 a) (by rw [sp_len]; omega) (by rw [sp_len]; simp; omega) (by simp)
      simp only [List.nil_append, List.length_nil, Int.ofNat_zero] at this
      exact this
theorem sp_no (c : UInt8) : ∀ s : List UInt8, c ∉ s → sp c s = [s]
  | [], _ => rfl
  | x :: xs, h => by
    simp only [List.mem_cons, not_or] at h
    unfold sp
    rw [if_neg (Ne.symm h.1), sp_no c xs h.2]
theorem impl_RT (s : List UInt8) (k : Nat) (hs : s.length ≤ 1073741824) (hk : 2 * s.length + 10010 ≤ k) : F1.impl_ReadThread.f k (B s) = some (thOf (RT s)) := by
  obtain ⟨k, rfl⟩ : ∃ m, k = m + 1 := ⟨k - 1, by omega⟩
  unfold F1.impl_ReadThread.f RT XS.strings_Cut.f
  rw [if_pos (by rw [B_size]; exact hs)]
  simp only [Option.bind_some, B_toList, show (⟨#[59]⟩ : ByteArray).data.toList = [59] from rfl]
  rcases sp_spec 59 s with ⟨h1, h2⟩ | ⟨i, h1, h2, h3⟩
  · have hcut : Lib.cut s [59] = (s, [], false) := by
      unfold Lib.cut
      rw [if_neg (by rw [h1]; decide)]
    rw [hcut, h2]
    simp only
    rw [show (⟨([] : List UInt8).toArray⟩ : ByteArray) = B [] from rfl, impl_N [] (k + 1) (by simp) (by simp only [List.length_nil]; omega)]
    simp only [Option.bind_some, if_false, F1.impl_ReadThread.j0, if_true]
    rfl
  · have hcut : Lib.cut s [59] = (s.take i, s.drop (i + 1), true) := by
      unfold Lib.cut
      rw [if_pos (by rw [h1]; omega), h1]
      rfl
    rw [hcut, h3]
    simp only [if_true]
    have hbl : (s.drop (i + 1)).length ≤ s.length := by rw [List.length_drop]; omega
    have hal : (s.take i).length ≤ s.length := by rw [List.length_take]; omega
    rw [show (⟨(s.drop (i + 1)).toArray⟩ : ByteArray) = B (s.drop (i + 1)) from rfl, show (⟨(s.take i).toArray⟩ : ByteArray) = B (s.take i) from rfl, impl_N _ (k + 1) (by omega) (by omega)]
    generalize s.drop (i + 1) = b at hbl
    generalize s.take i = a at hal
    simp only [Option.bind_some]
    cases hR : RN b with
    | none =>
      have hR1 : R1 b = none := by unfold R1; rw [hR]
      simp only [numsOf, F1.impl_ReadThread.j0, if_true]
      rw [if_neg (by decide)]
      cases hsp : sp 59 b with
      | nil => rfl
      | cons q qs =>
        cases qs with
        | nil =>
          have : q = b := by
            by_cases h59 : (59 : UInt8) ∈ b
            · have := sp_len 59 b
              rw [hsp] at this
              have h0 : 0 < b.count 59 := List.count_pos_iff.2 h59
              simp at this
              omega
            · rw [sp_no 59 b h59] at hsp
              cases hsp
              rfl
          subst this
          simp only [hR1]
          rfl
        | cons q2 qs => rfl
    | some l =>
      have hno := RN_no b l hR 59 (by decide) (by decide) (by decide)
      rw [sp_no 59 b hno]
      simp only [numsOf, if_true]
      unfold R1
      rw [hR]
      match l with
      | [] =>
        simp only [F1.impl_ReadThread.j0]
        rw [if_neg (by decide), if_pos trivial]
        rfl
      | _ :: _ :: l =>
        simp only [F1.impl_ReadThread.j0]
        rw [if_neg (by simp only [List.length_cons]; omega), if_pos trivial]
        rfl
      | [x] =>
        have hx1 : ((([x] : List Nat).length : Nat) : Int) = 1 := rfl
        refine Eq.trans (if_pos hx1) ?_
        have hcnt : XS.strings_Count.f (B a) ⟨#[47]⟩ = some ((a.count 47 : Nat) : Int) := by
          unfold XS.strings_Count.f
          rw [dif_pos (by rfl)]
          unfold Lib.countByte
          rw [B_toList]
          rfl
        rw [hcnt]
        simp only [Option.bind_some, F1.impl_ReadThread.j0]
        have hcl : a.count 47 ≤ a.length := List.count_le_length
        by_cases h32 : ((a.count 47 : Nat) : Int) ≥ 32
        · rw [decide_eq_true h32, if_pos rfl]
          cases hv : rvs (sp 47 a) with
          | none => rfl
          | some l =>
            have hl := rvs_len _ _ hv
            rw [sp_len] at hl
            have : isThread l x = false := by
              unfold isThread
              rw [decide_eq_false (p := l.length ≤ 32) (by omega)]
              simp
            simp only [give, this]
            rfl
        · rw [decide_eq_false h32, if_neg (by decide), split_f a 47 (by omega)]
          simp only [Option.bind_some]
          have := impl_pts [x] x rfl a.length (by omega) (sp 47 a) [] [] k (sp_le 47 a) (by rw [sp_len]; omega) (by rw [sp_len]; simp; omega) (by simp)
          simp only [List.nil_append, List.length_nil, Int.ofNat_zero] at this
          exact this
end Go.Proofs.YtffofpiejcolfaaDoor.PN
end
section
set_option linter.unusedVariables false
set_option linter.unusedSimpArgs false
namespace Go.Proofs.YtffofpiejcolfaaDoor.PRT
open Go.RowKit Go.Proofs.YtffofpiejcolfaaDoor Go.Proofs.YtffofpiejcolfaaDoorW.PrintWords Go.Proofs.YtffofpiejcolfaaDoorW.PrintLast Go.Proofs.YtffofpiejcolfaaDoorW.PrintMore
open T XF XL XC XT XA F0 F1 FR PN
def fl (x : Nat) : Nat := floatOfInt .f32 (x : Int)
def mkd : Nat → Nat → List S45
  | 0, _ => []
  | n + 1, x => ⟨fl x, fl (x + 1), fl (x + 2)⟩ :: mkd n (x + 3)
theorem fl_ord_fin : ∀ x : Fin 1000, FloatKind.f32.format.order (floatOfInt .f32 (x.val : Int)) (floatOfInt .f32 (x.val : Int)) = some .eq := by decide +kernel
theorem fl_ord (x : Nat) (h : x < 1000) : FloatKind.f32.format.order (fl x) (fl x) = some .eq := fl_ord_fin ⟨x, h⟩
theorem mark_l0 : ∀ (rest pre : List S45) (x k : Nat), rest.length < k → pre.length + rest.length ≤ 1000000000 → x + 3 * rest.length ≤ 100000000000 →
    F1.laws_markVectorS.l0 k (pre ++ rest) (x : Int) (pre.length : Int) = some (((x + 3 * rest.length : Nat) : Int), pre ++ mkd rest.length x) := by
  intro rest
  induction rest with
  | nil =>
    intro pre x k hk hp hx
    obtain ⟨k, rfl⟩ : ∃ m, k = m + 1 := ⟨k - 1, by omega⟩
    simp only [F1.laws_markVectorS.l0]
    rw [if_neg (by simp)]
    simp [mkd]
  | cons L rest ih =>
    intro pre x k hk hp hx
    simp only [List.length_cons] at hk hp hx
    obtain ⟨k, rfl⟩ : ∃ m, k = m + 1 := ⟨k - 1, by omega⟩
    have hlt : (pre.length : Int) < (((pre ++ L :: rest).length : Nat) : Int) := by simp; omega
    have hset (u v : S45) : (pre ++ u :: rest).set (pre.length : Int).toNat v = pre ++ v :: rest := by
      rw [Int.toNat_natCast, List.set_append_right _ _ (Nat.le_refl _), Nat.sub_self]
      rfl
    have hrd (u : S45) : rd_T45 (pre ++ u :: rest) (pre.length : Int) = u := by simp [rd_T45]
    simp only [F1.laws_markVectorS.l0, Option.bind_some, hset, hrd]
    rw [if_pos hlt, if_pos (by omega), w1 x (by omega), w1 (x + 1) (by omega), w1 (x + 1 + 1) (by omega), w1 pre.length (by omega)]
    have e (u : S45) : pre ++ u :: rest = (pre ++ [u]) ++ rest := by simp
    have e2 (u : S45) : pre.length + 1 = (pre ++ [u]).length := by simp
    rw [e, e2 (⟨floatOfInt .f32 (x : Int), floatOfInt .f32 ((x + 1 : Nat) : Int), floatOfInt .f32 ((x + 1 + 1 : Nat) : Int)⟩ : S45)]
    rw [ih _ (x + 3) k (by omega) (by simp; omega) (by omega)]
    simp only [List.length_cons, mkd, fl]
    congr 1
    rw [List.append_assoc, show x + 3 + 3 * rest.length = x + 3 * (rest.length + 1) by omega]
    rfl
theorem markV_f (l : List S45) (x k : Nat) (hk : l.length < k) (hl : l.length ≤ 1000000000) (hx : x + 3 * l.length ≤ 100000000000) : F1.laws_markVectorS.f k l (x : Int) = some (((x + 3 * l.length : Nat) : Int), mkd l.length x) := by
  unfold F1.laws_markVectorS.f
  have := mark_l0 l [] x k hk (by simp; omega) hx
  simp only [List.nil_append, List.length_nil] at this
  exact this
theorem held_l0 : ∀ (n x : Nat) (pre : List S45) (k : Nat), n < k → pre.length + n ≤ 1000000000 → x + 3 * n ≤ 990 →
    F1.laws_heldVectorS.l0 k (pre ++ mkd n x) (x : Int) (pre.length : Int) = some ((x + 3 * n : Nat) : Int) := by
  intro n
  induction n with
  | zero =>
    intro x pre k hk hp hx
    obtain ⟨k, rfl⟩ : ∃ m, k = m + 1 := ⟨k - 1, by omega⟩
    simp only [F1.laws_heldVectorS.l0]
    rw [if_neg (by simp [mkd])]
    rfl
  | succ n ih =>
    intro x pre k hk hp hx
    obtain ⟨k, rfl⟩ : ∃ m, k = m + 1 := ⟨k - 1, by omega⟩
    have hlt : (pre.length : Int) < (((pre ++ mkd (n + 1) x).length : Nat) : Int) := by simp [mkd]; omega
    have hrd : rd_T45 (pre ++ mkd (n + 1) x) (pre.length : Int) = ⟨fl x, fl (x + 1), fl (x + 2)⟩ := by simp [rd_T45, mkd]
    have h0 := fl_ord x (by omega)
    have h1 := fl_ord (x + 1) (by omega)
    have h2 := fl_ord (x + 2) (by omega)
    simp only [F1.laws_heldVectorS.l0, hrd]
    rw [if_pos hlt, if_pos (by omega), w1 x (by omega), w1 (x + 1) (by omega), w1 (x + 1 + 1) (by omega), w1 pre.length (by omega)]
    rw [show floatOfInt .f32 (x : Int) = fl x from rfl, show floatOfInt .f32 ((x + 1 : Nat) : Int) = fl (x + 1) from rfl, show floatOfInt .f32 ((x + 1 + 1 : Nat) : Int) = fl (x + 2) from rfl, h0, h1, h2]
    rw [if_neg (by decide), if_neg (by decide), if_neg (by decide)]
    have e : pre ++ mkd (n + 1) x = (pre ++ [⟨fl x, fl (x + 1), fl (x + 2)⟩]) ++ mkd n (x + 3) := by simp [mkd]
    have e2 : pre.length + 1 = (pre ++ [(⟨fl x, fl (x + 1), fl (x + 2)⟩ : S45)]).length := by simp
    rw [e, e2]
    have := ih (x + 3) (pre ++ [⟨fl x, fl (x + 1), fl (x + 2)⟩]) k (by omega) (by simp; omega) (by omega)
    refine Eq.trans this ?_
    rw [show x + 3 + 3 * n = x + 3 * (n + 1) by omega]
theorem heldV_f (n x k : Nat) (hk : n < k) (hl : n ≤ 1000000000) (hx : x + 3 * n ≤ 990) : F1.laws_heldVectorS.f k (mkd n x) (x : Int) = some ((x + 3 * n : Nat) : Int) := by
  unfold F1.laws_heldVectorS.f
  have := held_l0 n x [] k hk (by simp; omega) hx
  simp only [List.nil_append, List.length_nil] at this
  exact this
def mkT : List S25 → Nat → List S25
  | [], _ => []
  | t :: r, x => ⟨mkd t.f0.length x, fl (x + 3 * t.f0.length)⟩ :: mkT r (x + 3 * t.f0.length + 1)
def endT : List S25 → Nat → Nat
  | [], x => x
  | t :: r, x => endT r (x + 3 * t.f0.length + 1)
def tot : List S25 → Nat
  | [] => 0
  | t :: r => t.f0.length + tot r
theorem markT_f (k : Nat) : ∀ (l : List S25) (x : Nat), tot l < k → tot l ≤ 100000000 → l.length ≤ 100000000 → x + 3 * tot l + l.length ≤ 10000000000 → markTs k l (x : Int) = some ((endT l x : Int), mkT l x)
  | [], x, _, _, _, _ => rfl
  | t :: r, x, hk, h1, h2, h3 => by
    simp only [tot, List.length_cons] at hk h1 h2 h3
    unfold markTs
    rw [markV_f t.f0 x k (by omega) (by omega) (by omega)]
    simp only [Option.bind_some]
    rw [w1 _ (by omega), markT_f k r (x + 3 * t.f0.length + 1) (by omega) (by omega) (by omega) (by omega)]
    rfl
theorem heldT_l0 : ∀ (l pre : List S25) (x k : Nat), l.length + tot l + 1 < k → pre.length + l.length ≤ 100000000 → tot l ≤ 100000000 → x + 3 * tot l + l.length ≤ 990 →
    FR.laws_heldThreadS.l0 k (pre ++ mkT l x) (x : Int) (pre.length : Int) = some (endT l x : Int) := by
  intro l
  induction l with
  | nil =>
    intro pre x k hk hp h1 h2
    obtain ⟨k, rfl⟩ : ∃ m, k = m + 1 := ⟨k - 1, by omega⟩
    simp only [FR.laws_heldThreadS.l0]
    rw [if_neg (by simp [mkT])]
    rfl
  | cons t r ih =>
    intro pre x k hk hp h1 h2
    simp only [tot, List.length_cons] at hk hp h1 h2
    obtain ⟨k, rfl⟩ : ∃ m, k = m + 1 := ⟨k - 1, by omega⟩
    have hrd : rd_T25 (pre ++ mkT (t :: r) x) (pre.length : Int) = ⟨mkd t.f0.length x, fl (x + 3 * t.f0.length)⟩ := by simp [rd_T25, mkT]
    simp only [FR.laws_heldThreadS.l0, hrd]
    rw [if_pos (by simp [mkT]; omega), if_pos (by omega), heldV_f t.f0.length x k (by omega) (by omega) (by omega)]
    simp only [Option.bind_some]
    rw [if_neg (by omega), show floatOfInt .f32 ((x + 3 * t.f0.length : Nat) : Int) = fl (x + 3 * t.f0.length) from rfl, fl_ord _ (by omega), if_neg (by decide), w1 _ (by omega), w1 pre.length (by omega)]
    have e : pre ++ mkT (t :: r) x = (pre ++ [⟨mkd t.f0.length x, fl (x + 3 * t.f0.length)⟩]) ++ mkT r (x + 3 * t.f0.length + 1) := by simp [mkT]
    have e2 : pre.length + 1 = (pre ++ [(⟨mkd t.f0.length x, fl (x + 3 * t.f0.length)⟩ : S25)]).length := by simp
    rw [e, e2]
    exact ih _ (x + 3 * t.f0.length + 1) k (by omega) (by simp; omega) (by omega) (by omega)
theorem heldT_f (l : List S25) (k : Nat) (hk : l.length + tot l + 1 < k) (hp : l.length ≤ 100000000) (h1 : tot l ≤ 300) (h2 : 3 * tot l + l.length ≤ 980) : FR.laws_heldThreadS.f k (mkT l 1) 1 = some (endT l 1 : Int) := by
  unfold FR.laws_heldThreadS.f
  have := heldT_l0 l [] 1 k hk (by simp; omega) (by omega) (by omega)
  simp only [List.nil_append, List.length_nil] at this
  exact this
theorem eqV_l0 : ∀ (rest pre : List S45) (k : Nat), rest.length < k → pre.length + rest.length ≤ 1073741824 → F0.laws_eqVectorS.l0 k (pre ++ rest) (pre ++ rest) (pre.length : Int) = some true := by
  intro rest
  induction rest with
  | nil =>
    intro pre k hk hp
    obtain ⟨k, rfl⟩ : ∃ m, k = m + 1 := ⟨k - 1, by omega⟩
    simp only [F0.laws_eqVectorS.l0]
    rw [if_neg (by simp)]
  | cons L rest ih =>
    intro pre k hk hp
    simp only [List.length_cons] at hk hp
    obtain ⟨k, rfl⟩ : ∃ m, k = m + 1 := ⟨k - 1, by omega⟩
    have hrd : rd_T45 (pre ++ L :: rest) (pre.length : Int) = L := by simp [rd_T45]
    simp only [F0.laws_eqVectorS.l0, XL.eqVector.f, hrd, sfc_self]
    have e : pre ++ L :: rest = (pre ++ [L]) ++ rest := by simp
    have e2 : pre.length + 1 = (pre ++ [L]).length := by simp
    have hlt : (pre.length : Int) < (((pre ++ L :: rest).length : Nat) : Int) := by simp; omega
    rw [if_pos hlt, if_pos (by omega), if_pos hlt]
    simp only [Option.bind_some]
    rw [if_pos (by rfl), w1 pre.length (by omega), e, e2]
    exact ih (pre ++ [L]) k (by omega) (by simp; omega)
theorem eqT_f (l : List S45) (a : Nat) (h : l.length ≤ 1000000000) : XT.eqThread.f l a l a = some true := by
  unfold XT.eqThread.f F0.laws_eqVectorS.f
  rw [if_pos rfl]
  have := eqV_l0 l [] (l.length + 1) (by omega) (by simp; omega)
  simp only [List.nil_append, List.length_nil, Int.ofNat_zero] at this
  refine Eq.trans (congrArg (fun o => Option.bind o _) this) ?_
  simp only [Option.bind_some, sfc_self]
  rfl
theorem eqTS_l0 : ∀ (rest pre : List S25) (k : Nat), (∀ t ∈ rest, t.f0.length ≤ 1000000000) → rest.length < k → pre.length + rest.length ≤ 1073741824 → FR.laws_eqThreadS.l0 k (pre ++ rest) (pre ++ rest) (pre.length : Int) = some true := by
  intro rest
  induction rest with
  | nil =>
    intro pre k hm hk hp
    obtain ⟨k, rfl⟩ : ∃ m, k = m + 1 := ⟨k - 1, by omega⟩
    simp only [FR.laws_eqThreadS.l0]
    rw [if_neg (by simp)]
  | cons L rest ih =>
    intro pre k hm hk hp
    simp only [List.length_cons] at hk hp
    obtain ⟨k, rfl⟩ : ∃ m, k = m + 1 := ⟨k - 1, by omega⟩
    have hrd : rd_T25 (pre ++ L :: rest) (pre.length : Int) = L := by simp [rd_T25]
    simp only [FR.laws_eqThreadS.l0, hrd]
    have e : pre ++ L :: rest = (pre ++ [L]) ++ rest := by simp
    have e2 : pre.length + 1 = (pre ++ [L]).length := by simp
    have hlt : (pre.length : Int) < (((pre ++ L :: rest).length : Nat) : Int) := by simp; omega
    rw [if_pos hlt, if_pos (by omega), if_pos hlt, eqT_f _ _ (hm L (by simp))]
    simp only [Option.bind_some, if_true]
    rw [w1 pre.length (by omega), e, e2]
    exact ih (pre ++ [L]) k (fun t ht => hm t (by simp [ht])) (by omega) (by simp; omega)
theorem eqTS_f (l : List S25) (k : Nat) (hm : ∀ t ∈ l, t.f0.length ≤ 1000000000) (hk : l.length < k) (h : l.length ≤ 1000000000) : FR.laws_eqThreadS.f k l l = some true := by
  unfold FR.laws_eqThreadS.f
  rw [if_pos rfl]
  have := eqTS_l0 l [] k hm hk (by simp; omega)
  simp only [List.nil_append, List.length_nil, Int.ofNat_zero] at this
  exact this
def rts : List (List UInt8) → Option (List S25)
  | [] => some []
  | p :: r => match RT p with
    | none => none
    | some m => match rts r with
      | none => none
      | some l => some (⟨m.1, m.2⟩ :: l)
def listOf (o : Option (List S25)) : List S25 × Bool := match o with
  | some l => (l, true)
  | none => ([], false)
theorem RT_is {s : List UInt8} {m : List S45 × Nat} (h : RT s = some m) : isThread m.1 m.2 = true := by
  unfold RT at h
  split at h
  · split at h
    · split at h
      · unfold give at h
        split at h
        · rename_i hh
          cases h
          exact hh
        · cases h
      · cases h
    · cases h
  · cases h
theorem rts_len : ∀ (l : List (List UInt8)) (r : List S25), rts l = some r → r.length = l.length ∧ ∀ t ∈ r, tis t = true
  | [], r, h => by cases h; exact ⟨rfl, by simp⟩
  | p :: l, r, h => by
    simp only [rts] at h
    cases h1 : RT p with
    | none => rw [h1] at h; cases h
    | some m =>
      rw [h1] at h
      cases h2 : rts l with
      | none => rw [h2] at h; cases h
      | some l' =>
        rw [h2] at h
        cases h
        obtain ⟨h3, h4⟩ := rts_len l l' h2
        refine ⟨by simp [h3], fun t ht => ?_⟩
        rcases List.mem_cons.1 ht with rfl | ht
        · exact RT_is h1
        · exact h4 t ht
theorem are_ok (l : List S25) (h : ∀ t ∈ l, tis t = true) : XA.l06Are.f l = some (decide (l.length ≤ 4)) := by
  unfold XA.l06Are.f XA.are
  have : (l.any fun x => !tis x) = false := by
    rw [List.any_eq_false]
    intro t ht
    rw [h t ht]
    decide
  rw [this]
  simp
theorem spec_l0 (N : Nat) (hN : N ≤ 1073741824) : ∀ (rest pre : List (List UInt8)) (out : List S25) (k : Nat), (∀ p ∈ rest, p.length ≤ N) → rest.length + 2 * N + 10012 ≤ k → pre.length + rest.length ≤ 1073741825 → out.length ≤ pre.length → (∀ t ∈ out, tis t = true) →
    FR.spec_l08ReadThreads.l0 k out ((pre ++ rest).map B) (pre.length : Int) = some (match rts rest with | some l => (if (out ++ l).length ≤ 4 then (out ++ l, true) else ([], false)) | none => ([], false)) := by
  intro rest
  induction rest with
  | nil =>
    intro pre out k hm hk hp ho ht
    obtain ⟨k, rfl⟩ : ∃ m, k = m + 1 := ⟨k - 1, by omega⟩
    simp only [FR.spec_l08ReadThreads.l0]
    rw [if_neg (by simp), are_ok out ht]
    simp only [Option.bind_some, rts, List.append_nil, decide_eq_true_eq]
    split <;> rfl
  | cons p rest ih =>
    intro pre out k hm hk hp ho ht
    simp only [List.length_cons] at hk hp
    obtain ⟨k, rfl⟩ : ∃ m, k = m + 1 := ⟨k - 1, by omega⟩
    have hrd : rdOf ByteArray.empty ((pre ++ p :: rest).map B) (pre.length : Int) = B p := by simp [rdOf]
    have hlt : (pre.length : Int) < (((pre ++ p :: rest).map B).length : Int) := by simp; omega
    have e : pre ++ p :: rest = (pre ++ [p]) ++ rest := by simp
    have e2 : pre.length + 1 = (pre ++ [p]).length := by simp
    have hpN := hm p (by simp)
    simp only [FR.spec_l08ReadThreads.l0]
    rw [if_pos hlt, if_pos (by omega), hrd, spec_RT p k (by omega) (by omega)]
    simp only [Option.bind_some, rts]
    cases hv : RT p with
    | none => rfl
    | some v =>
      have hi := RT_is hv
      obtain ⟨v1, v2⟩ := v
      simp only [thOf, if_true]
      rw [if_pos (by omega), w1 pre.length (by omega), e2, e, ih (pre ++ [p]) (out ++ [(⟨v1, v2⟩ : S25)]) k (fun q hq => hm q (by simp [hq])) (by omega) (by simp; omega) (by simp; omega) (by
        intro t ht2
        rcases List.mem_append.1 ht2 with h | h
        · exact ht t h
        · rw [List.mem_singleton.1 h]
          exact hi)]
      cases rts rest with
      | none => rfl
      | some l => simp
theorem impl_l0 (N : Nat) (hN : N ≤ 1073741824) : ∀ (rest pre : List (List UInt8)) (out : List S25) (k : Nat), (∀ p ∈ rest, p.length ≤ N) → rest.length + 2 * N + 10012 ≤ k → pre.length + rest.length ≤ 1073741825 → out.length ≤ pre.length →
    FR.impl_ReadThreads.l0 k out ((pre ++ rest).map B) (((pre ++ rest).map B).length : Int) (pre.length : Int) = some (match rts rest with | some l => (out ++ l, true) | none => ([], false)) := by
  intro rest
  induction rest with
  | nil =>
    intro pre out k hm hk hp ho
    obtain ⟨k, rfl⟩ : ∃ m, k = m + 1 := ⟨k - 1, by omega⟩
    simp only [FR.impl_ReadThreads.l0]
    rw [if_neg (by simp)]
    simp [rts]
  | cons p rest ih =>
    intro pre out k hm hk hp ho
    simp only [List.length_cons] at hk hp
    obtain ⟨k, rfl⟩ : ∃ m, k = m + 1 := ⟨k - 1, by omega⟩
    have hrd : rdOf ByteArray.empty ((pre ++ p :: rest).map B) (pre.length : Int) = B p := by simp [rdOf]
    have hlt : (pre.length : Int) < (((pre ++ p :: rest).map B).length : Int) := by simp; omega
    have e : pre ++ p :: rest = (pre ++ [p]) ++ rest := by simp
    have e2 : pre.length + 1 = (pre ++ [p]).length := by simp
    have hpN := hm p (by simp)
    simp only [FR.impl_ReadThreads.l0]
    rw [if_pos hlt, if_pos (by omega), if_pos hlt, hrd, impl_RT p k (by omega) (by omega)]
    simp only [Option.bind_some, rts]
    cases hv : RT p with
    | none => rfl
    | some v =>
      obtain ⟨v1, v2⟩ := v
      simp only [thOf, if_true]
      rw [if_pos (by omega), w1 pre.length (by omega), e2, e, ih (pre ++ [p]) (out ++ [(⟨v1, v2⟩ : S25)]) k (fun q hq => hm q (by simp [hq])) (by omega) (by simp; omega) (by simp; omega)]
      cases rts rest with
      | none => rfl
      | some l => simp
def RTS (s : List UInt8) : Option (List S25) := if s = [110, 111, 110, 101] then some [] else if (sp 124 s).length ≤ 4 then rts (sp 124 s) else none
theorem spec_f (s : List UInt8) (k : Nat) (hs : s.length ≤ 1073741824) (hk : 4 * s.length + 20020 ≤ k) : FR.spec_ReadThreads.f k (B s) = some (listOf (RTS s)) := by
  unfold FR.spec_ReadThreads.f FR.spec_l08ReadThreads.f RTS
  simp only [Option.bind_some]
  rw [B_toList']
  by_cases h : s = [110, 111, 110, 101]
  · rw [if_pos h, if_pos h]
    rfl
  · rw [if_neg h, if_neg h]
    have hc := cut_f s 124 k hs (by omega)
    rw [show ((124 : UInt8).toNat : Int) = 124 from rfl] at hc
    rw [hc]
    simp only [Option.bind_some]
    have hcl : s.count 124 ≤ s.length := List.count_le_length
    have := spec_l0 s.length hs (sp 124 s) [] [] k (sp_le 124 s) (by rw [sp_len]; omega) (by rw [sp_len]; simp; omega) (by simp) (by simp)
    simp only [List.nil_append, List.length_nil, Int.ofNat_zero] at this
    rw [this]
    simp only [Option.bind_some]
    congr 1
    cases hr : rts (sp 124 s) with
    | none => simp only; split <;> rfl
    | some l =>
      have hl := (rts_len _ _ hr).1
      simp only
      rw [hl]
      split <;> rfl
theorem impl_f (s : List UInt8) (k : Nat) (hs : s.length ≤ 1073741824) (hk : 4 * s.length + 20020 ≤ k) : FR.impl_ReadThreads.f k (B s) = some (listOf (RTS s)) := by
  unfold FR.impl_ReadThreads.f RTS
  rw [B_toList']
  by_cases h : s = [110, 111, 110, 101]
  · rw [if_pos h, if_pos h]
    rfl
  · rw [if_neg h, if_neg h]
    have hcnt : XS.strings_Count.f (B s) ⟨#[124]⟩ = some ((s.count 124 : Nat) : Int) := by
      unfold XS.strings_Count.f
      rw [dif_pos (by rfl)]
      unfold Lib.countByte
      rw [B_toList]
      rfl
    rw [hcnt]
    simp only [Option.bind_some]
    have hcl : s.count 124 ≤ s.length := List.count_le_length
    by_cases h4 : ((s.count 124 : Nat) : Int) ≥ 4
    · rw [if_pos h4, if_neg (by rw [sp_len]; omega)]
      rfl
    · rw [if_neg h4, if_pos (by rw [sp_len]; omega), split_f s 124 hs]
      simp only [Option.bind_some]
      have := impl_l0 s.length hs (sp 124 s) [] [] k (sp_le 124 s) (by rw [sp_len]; omega) (by rw [sp_len]; simp; omega) (by simp)
      simp only [List.nil_append, List.length_nil, Int.ofNat_zero] at this
      refine Eq.trans this ?_
      cases rts (sp 124 s) <;> rfl
theorem tot_le : ∀ (l : List S25), (∀ t ∈ l, t.f0.length ≤ 32) → tot l ≤ 32 * l.length
  | [], _ => by simp [tot]
  | t :: r, h => by
    have h1 := h t (by simp)
    have h2 := tot_le r (fun x hx => h x (by simp [hx]))
    simp only [tot, List.length_cons]
    omega
theorem RTS_le (s : List UInt8) : (listOf (RTS s)).1.length ≤ 4 ∧ ∀ t ∈ (listOf (RTS s)).1, t.f0.length ≤ 32 := by
  unfold RTS
  split
  · exact ⟨by simp [listOf], by simp [listOf]⟩
  · split
    · rename_i h4
      cases hr : rts (sp 124 s) with
      | none => exact ⟨by simp [listOf], by simp [listOf]⟩
      | some l =>
        obtain ⟨h1, h2⟩ := rts_len _ _ hr
        refine ⟨by simp only [listOf]; omega, fun t ht => ?_⟩
        have := h2 t ht
        unfold tis isThread at this
        simp only [Bool.and_eq_true, decide_eq_true_eq] at this
        exact this.2.1
    · exact ⟨by simp [listOf], by simp [listOf]⟩
theorem law (a0 : ByteArray) (h0 : ¬ (a0.size : Int) > 1048576) : ∃ (k : Nat) (R R' : List S25) (rb : Bool) (m1 : Int), FR.spec_ReadThreads.f k a0 = some (R, rb) ∧ FR.impl_ReadThreads.f k a0 = some (R, rb) ∧ FR.laws_eqThreadS.f k R R = some true ∧ XA.markThreadS.f k R 1 = some (m1, R') ∧ 0 ≤ m1 ∧ FR.laws_heldThreadS.f k R' 1 = some m1 := by
  obtain ⟨s, rfl⟩ : ∃ s, a0 = B s := ⟨a0.data.toList, (B_data a0).symm⟩
  rw [B_size] at h0
  obtain ⟨K, hK⟩ : ∃ K : Nat, 10000000 < K := ⟨10000001, by omega⟩
  obtain ⟨h1, h2⟩ := RTS_le s
  have hs := spec_f s K (by omega) (by omega)
  have hi := impl_f s K (by omega) (by omega)
  generalize listOf (RTS s) = r at h1 h2 hs hi
  obtain ⟨R, rb⟩ := r
  simp only at h1 h2
  have ht := tot_le R h2
  refine ⟨K, R, mkT R 1, rb, (endT R 1 : Int), hs, hi, eqTS_f R K (fun t ht => by have := h2 t ht; omega) (by omega) (by omega), ?_, by omega, heldT_f R K (by omega) (by omega) (by omega) (by omega)⟩
  unfold XA.markThreadS.f
  exact markT_f K R 1 (by omega) (by omega) (by omega) (by omega)
end Go.Proofs.YtffofpiejcolfaaDoor.PRT
end
