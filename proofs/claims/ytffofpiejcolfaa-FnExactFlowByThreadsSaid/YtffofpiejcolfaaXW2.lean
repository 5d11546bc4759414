/- The reference's l06Flow. -/
import Derived.Test.YtffofpiejcolfaaXW
set_option linter.unusedVariables false
set_option linter.unusedSimpArgs false
namespace Go.Proofs.Ytffofpiejcolfaa
open Go.RowKit Go.Proofs.YtffofpiejcolfaaW.PrintWords Go.Proofs.YtffofpiejcolfaaW.PrintLast Go.Proofs.YtffofpiejcolfaaW.PrintMore
attribute [local go_sem] max2_int min2_int max_two min_two max_three min_three max_four min_four   -- for this text's walks alone
namespace XW
open XF XL XC XY XE XN XK XG XV L0 L3
set_option maxHeartbeats 4000000 in
set_option maxRecDepth 100000 in
theorem flow72 (A : Option Addr) (c : Nat) (l : List S31) (at_ : S46) (core : Nat) (w : World) (hle : l.length ≤ c) (hC : Kd.C k31 w A l.length l) (hare : are l = true) (hat : vfin at_ = true) :
    Calls Try.prog 72 #[.slice A l.length c, vv at_, .float .f32 core] w fun e w' => ∃ v, e = .returned (vv v) ∧ EV (allV at_ core l) v ∧ Below w.heap.size w w' := by
  have hmx : l.length ≤ 9223372036854775807 := Kd.C_max hC
  have HC := Aside0.mk hC
  have HAR := Aside0.mk hare
  clear hC hare
  have hB := below_alloc (below_alloc (below_alloc (Below.refl w.heap.size w) (.cells #[.float .f32 at_.f0, .float .f32 at_.f1, .float .f32 at_.f2] 46 (0, 0))) (.cells #[.float .f32 0, .float .f32 0, .float .f32 0] 46 (0, 0))) (.cells #[.float .f32 0, .float .f32 0, .float .f32 0] 46 (0, 0))
  go_enter Try.func72, Try.ntmps72
  go_wp2
  have B4 : (((w.alloc (.cells #[.float .f32 at_.f0, .float .f32 at_.f1, .float .f32 at_.f2] 46 (0, 0))).alloc (.cells #[.float .f32 0, .float .f32 0, .float .f32 0] 46 (0, 0))).alloc (.cells #[.float .f32 0, .float .f32 0, .float .f32 0] 46 (0, 0))).heap[w.heap.size]? = some (.cells #[.float .f32 at_.f0, .float .f32 at_.f1, .float .f32 at_.f2] 46 (0, 0)) := blk_alloc (blk_alloc (heap_alloc_new _ _) _) _
  have B6 : (((w.alloc (.cells #[.float .f32 at_.f0, .float .f32 at_.f1, .float .f32 at_.f2] 46 (0, 0))).alloc (.cells #[.float .f32 0, .float .f32 0, .float .f32 0] 46 (0, 0))).alloc (.cells #[.float .f32 0, .float .f32 0, .float .f32 0] 46 (0, 0))).heap[w.heap.size + 1]? = some (.cells #[.float .f32 0, .float .f32 0, .float .f32 0] 46 (0, 0)) := blk_alloc (by simpa using heap_alloc_new (w.alloc (.cells #[.float .f32 at_.f0, .float .f32 at_.f1, .float .f32 at_.f2] 46 (0, 0))) (.cells #[.float .f32 0, .float .f32 0, .float .f32 0] 46 (0, 0))) _
  have B7 : (((w.alloc (.cells #[.float .f32 at_.f0, .float .f32 at_.f1, .float .f32 at_.f2] 46 (0, 0))).alloc (.cells #[.float .f32 0, .float .f32 0, .float .f32 0] 46 (0, 0))).alloc (.cells #[.float .f32 0, .float .f32 0, .float .f32 0] 46 (0, 0))).heap[w.heap.size + 2]? = some (.cells #[.float .f32 0, .float .f32 0, .float .f32 0] 46 (0, 0)) := by simpa using heap_alloc_new ((w.alloc (.cells #[.float .f32 at_.f0, .float .f32 at_.f1, .float .f32 at_.f2] 46 (0, 0))).alloc (.cells #[.float .f32 0, .float .f32 0, .float .f32 0] 46 (0, 0))) (.cells #[.float .f32 0, .float .f32 0, .float .f32 0] 46 (0, 0))
  go_loopg [8] l.length (fun kq v22 w' => ∃ (i : Nat) (v a : S46), v22 = .int .i64 (i : Int) ∧ Aside0 (i + kq = l.length) ∧ Aside0 (EV v a) ∧ Aside0 (iterV (allI at_ core l) kq i v = allV at_ core l) ∧ Aside0 (Below w.heap.size w w') ∧ Aside0 (w'.heap[w.heap.size]? = some (.cells #[.float .f32 at_.f0, .float .f32 at_.f1, .float .f32 at_.f2] 46 (0, 0))) ∧ Aside0 (w'.heap[w.heap.size + 1]? = some (.cells #[.float .f32 0, .float .f32 0, .float .f32 0] 46 (0, 0))) ∧ Aside0 (w'.heap[w.heap.size + 2]? = some (.cells #[.float .f32 a.f0, .float .f32 a.f1, .float .f32 a.f2] 46 (0, 0))))
  case atStart => exact ⟨0, ⟨0, 0, 0⟩, ⟨0, 0, 0⟩, rfl, ⟨by simp⟩, ⟨EV.refl _⟩, ⟨rfl⟩, ⟨hB⟩, ⟨B4⟩, ⟨B6⟩, ⟨B7⟩⟩
  case round =>
    clear B4 B6 B7 hB
    obtain ⟨i, v, a, rfl, HI, HA, HX, HBW, B4, B6, B7⟩ := hrel
    have hi := HI.out
    cases gk with
    | zero =>
      have hc : decide ((i : Int) < (l.length : Int)) = false := by simp; omega
      have hx0 := HX.out
      replace hx0 : v = allV at_ core l := hx0
      subst hx0
      have z0 : wr.cell? ⟨w.heap.size + 2, 0, none⟩ = some (.float .f32 a.f0) := (blk_cell B7.out 0).trans rfl
      have z1 : wr.cell? ⟨w.heap.size + 2, 1, none⟩ = some (.float .f32 a.f1) := (blk_cell B7.out 1).trans rfl
      have z2 : wr.cell? ⟨w.heap.size + 2, 2, none⟩ = some (.float .f32 a.f2) := (blk_cell B7.out 2).trans rfl
      have y0 : wr.cell? ⟨w.heap.size + 1, 0, none⟩ = some (.float .f32 0) := (blk_cell B6.out 0).trans rfl
      have y1 : wr.cell? ⟨w.heap.size + 1, 1, none⟩ = some (.float .f32 0) := (blk_cell B6.out 1).trans rfl
      have y2 : wr.cell? ⟨w.heap.size + 1, 2, none⟩ = some (.float .f32 0) := (blk_cell B6.out 2).trans rfl
      have hf0 := blk_frozen B6.out 0
      have hf1 := blk_frozen B6.out 1
      have hf2 := blk_frozen B6.out 2
      go_wp2
      refine bodyPost_ret (results_cell_row rfl _ _ (w.heap.size + 1) 46 #[.float .f32 a.f0, .float .f32 a.f1, .float .f32 a.f2] (0, 0) _ rfl (by
        refine blk_put (cs := #[.float .f32 a.f0, .float .f32 a.f1, .float .f32 0]) ?_ 2 _ rfl
        refine blk_put (cs := #[.float .f32 a.f0, .float .f32 0, .float .f32 0]) ?_ 1 _ rfl
        refine blk_put (cs := #[.float .f32 0, .float .f32 0, .float .f32 0]) ?_ 0 _ rfl
        exact B6.out) Try.underlying46 rfl (by kernel_rfl)) rfl ?_
      exact ⟨a, rfl, HA.out, below_set (below_set (below_set HBW.out (Nat.le_succ _)) (Nat.le_succ _)) (Nat.le_succ _)⟩
    | succ k1 =>
      have hil : i < l.length := by omega
      have hc : decide ((i : Int) < (l.length : Int)) = true := by simp; omega
      have hwi : wrap64 ((i : Int) + 1) = ((i + 1 : Nat) : Int) := by unfold wrap64; omega
      have hx0 := HX.out
      replace hx0 : iterV (allI at_ core l) k1 (i + 1) (allI at_ core l i v) = allV at_ core l := hx0
      have HX1 := Aside0.mk hx0
      clear hx0 HX
      obtain ⟨ad, Ae, ce, ead, hx_0, hx_1, hlx, hCe⟩ := at_T31 (Kd.C_below HC.out HBW.out) (i : Int) (by omega) (by omega)
      subst ead
      have hfx := thr_fin HAR.out i hil
      rw [Int.toNat_natCast] at hx_0 hx_1
      have hilI : (i : Int) < (l.length : Int) := by omega
      unfold allI at HX1
      change wr.cell? _ = some (.slice Ae (thr l i).f0.length ce) at hx_0
      change wr.cell? _ = some (.float .f32 (thr l i).f1) at hx_1
      change (thr l i).f0.length ≤ ce at hlx
      change Kd.C k46 wr Ae (thr l i).f0.length (thr l i).f0 at hCe
      generalize thr l i = x at hx_0 hx_1 hlx hCe hfx HX1
      have KCx := Aside0.mk hCe
      clear hCe
      obtain ⟨hq1, hq2⟩ := quo_ok hfx.2
      have HQ2 := Aside0.mk hq2
      clear hq2
      obtain ⟨wo, rfl⟩ : ∃ wo, wo = wr := ⟨_, rfl⟩
      go_wp2
      go_loopg [11] x.f0.length (fun kq v11 w' => ∃ (k : Nat) (v2 a2 : S46), v11 = .int .i64 (k : Int) ∧ Aside0 (k + kq = x.f0.length) ∧ Aside0 (EV v2 a2) ∧ Aside0 (iterV (flowI at_ core x.f0) kq k v2 = flowV at_ core x.f0) ∧ Aside0 (Below wo.heap.size wo w') ∧ Aside0 (w'.heap[wo.heap.size]? = some (.cells #[.float .f32 a2.f0, .float .f32 a2.f1, .float .f32 a2.f2] 46 (0, 0))))
      case atStart => exact ⟨0, ⟨0, 0, 0⟩, ⟨0, 0, 0⟩, rfl, ⟨by simp⟩, ⟨EV.refl _⟩, ⟨rfl⟩, ⟨below_alloc (Below.refl _ _) _⟩, ⟨heap_alloc_new _ _⟩⟩
      case round =>
        obtain ⟨k, v2, a2, rfl, HK, HA2, HY, HZ, B10⟩ := hrel
        have hk := HK.out
        obtain ⟨wi, rfl⟩ : ∃ wi, wi = wr := ⟨_, rfl⟩
        have f0 := cell_b HZ.out hx_0
        have hmx2 : x.f0.length ≤ 9223372036854775807 := Kd.C_max KCx.out
        cases gk with
        | zero =>
          have hck : decide ((k : Int) < (x.f0.length : Int)) = false := by simp; omega
          have hy0 := HY.out
          replace hy0 : v2 = flowV at_ core x.f0 := hy0
          subst hy0
          go_wp2
          have z0 : wi.cell? ⟨w.heap.size + 2, 0, none⟩ = some (.float .f32 a.f0) := (blk_cell (blk_below B7.out HZ.out) 0).trans rfl
          have z1 : wi.cell? ⟨w.heap.size + 2, 1, none⟩ = some (.float .f32 a.f1) := (blk_cell (blk_below B7.out HZ.out) 1).trans rfl
          have z2 : wi.cell? ⟨w.heap.size + 2, 2, none⟩ = some (.float .f32 a.f2) := (blk_cell (blk_below B7.out HZ.out) 2).trans rfl
          have y0 : wi.cell? ⟨wo.heap.size, 0, none⟩ = some (.float .f32 a2.f0) := (blk_cell B10.out 0).trans rfl
          have y1 : wi.cell? ⟨wo.heap.size, 1, none⟩ = some (.float .f32 a2.f1) := (blk_cell B10.out 1).trans rfl
          have y2 : wi.cell? ⟨wo.heap.size, 2, none⟩ = some (.float .f32 a2.f2) := (blk_cell B10.out 2).trans rfl
          have hx1 := cell_b HZ.out hx_1
          refine start_ (n := 10) (S := fun w' => Below wi.heap.size wi w') (ds := [9]) #[false, false, false, false, false, false, false, false, false, false] (by kernel_rfl) rfl rfl (below_drew1 (Below.refl _ _)) (fun hHeld => ?_)
          refine pure_ (i := 2) (N := some 85) (v := ?_) (a' := ?_) #[false, false, true, false, false, false, false, false, false, false] rfl rfl (by kernel_rfl) (fun _ _ _ h => h) (Or.inl ⟨by rfl, ?_⟩) ?_ ?_
          rotate_left
          · intro w'
            go_simp
            with_reducible rfl
          rotate_left
          · simp only [Act.put, List.setIfInBounds_toArray, List.set_cons_zero, List.set_cons_succ, i64_w, i32_w]
            rfl
          refine pure_ (i := 3) (N := some 86) (v := ?_) (a' := ?_) #[false, false, true, true, false, false, false, false, false, false] rfl rfl (by kernel_rfl) (fun _ _ _ h => h) (Or.inl ⟨by rfl, ?_⟩) ?_ ?_
          rotate_left
          · intro w'
            go_simp
            with_reducible rfl
          rotate_left
          · simp only [Act.put, List.setIfInBounds_toArray, List.set_cons_zero, List.set_cons_succ, i64_w, i32_w]
            rfl
          refine pure_ (i := 4) (N := some 87) (v := ?_) (a' := ?_) #[false, false, true, true, true, false, false, false, false, false] rfl rfl (by kernel_rfl) (fun _ _ _ h => h) (Or.inl ⟨by rfl, ?_⟩) ?_ ?_
          rotate_left
          · intro w'
            go_simp
            with_reducible rfl
          rotate_left
          · simp only [Act.put, List.setIfInBounds_toArray, List.set_cons_zero, List.set_cons_succ, i64_w, i32_w]
            rfl
          refine take_ (i := 0) (N := some 83) (v := ?_) (a' := ?_) #[true, false, true, true, true, false, false, false, false, false] rfl rfl (by kernel_rfl) (fun _ _ _ h => h) (Or.inl ⟨by rfl, ?_⟩) hHeld ?_ ?_
          rotate_left
          · rintro w' s0
            have c0 := cell_b s0 z0
            have c1 := cell_b s0 z1
            have c2 := cell_b s0 z2
            go_simp
            with_reducible rfl
          rotate_left
          · simp only [Act.put, List.setIfInBounds_toArray, List.set_cons_zero, List.set_cons_succ, i64_w, i32_w]
            rfl
          refine take_ (i := 1) (N := some 84) (v := ?_) (a' := ?_) #[true, true, true, true, true, false, false, false, false, false] rfl rfl (by kernel_rfl) (fun _ _ _ h => h) (Or.inl ⟨by rfl, ?_⟩) hHeld ?_ ?_
          rotate_left
          · rintro w' s0
            have c0 := cell_b s0 y0
            have c1 := cell_b s0 y1
            have c2 := cell_b s0 y2
            go_simp
            with_reducible rfl
          rotate_left
          · simp only [Act.put, List.setIfInBounds_toArray, List.set_cons_zero, List.set_cons_succ, i64_w, i32_w]
            rfl
          refine take_ (i := 5) (N := some 88) (v := ?_) (a' := ?_) #[true, true, true, true, true, true, false, false, false, false] rfl rfl (by kernel_rfl) (fun _ _ _ h => h) (Or.inl ⟨by rfl, ?_⟩) hHeld ?_ ?_
          rotate_left
          · rintro w' s0
            have c0 := cell_b s0 hx1
            go_simp
            with_reducible rfl
          rotate_left
          · simp only [Act.put, List.setIfInBounds_toArray, List.set_cons_zero, List.set_cons_succ, i64_w, i32_w]
            rfl
          refine pure_ (i := 6) (N := some 89) (v := ?_) (a' := ?_) #[true, true, true, true, true, true, true, false, false, false] rfl rfl (by kernel_rfl) (fun _ _ _ h => h) (Or.inl ⟨by rfl, ?_⟩) ?_ ?_
          rotate_left
          · intro w'
            go_simp
            with_reducible rfl
          rotate_left
          · simp only [Act.put, List.setIfInBounds_toArray, List.set_cons_zero, List.set_cons_succ, i64_w, i32_w]
            rfl
          refine one_ (i := 7) (N := some 90) #[true, true, true, true, true, true, true, true, false, false] rfl rfl (by kernel_rfl) (by decide) (fun K hK => ?_)
          refine goes_ Try.func83 (by kernel_rfl) rfl #[vv a2, .float .f32 (fop .quo .f32 x.f1 1095307227)] (by rfl) rfl rfl (by (try simp only [List.map_toArray, List.map_cons, List.map_nil]); first | done | rfl) ?_
          refine (scale83 _ a2 _ _ HA2.out (E.refl _) _).mono ?_
          rintro e w2 ⟨sc, rfl, hsc, hb2⟩
          refine ⟨_, rfl, ?_⟩
          have L2 := Aside0.mk (below_step (below_drew1 (Below.refl wi.heap.size wi)) hb2)
          clear hb2
          refine hK.out _ _ L2.out (fun _ => ?_)
          clear hK K
          refine norm_ (a' := ?_) ?_ ?_
          rotate_left
          · show Act.put _ (some 90) _ = _
            simp only [Act.put, List.setIfInBounds_toArray, List.set_cons_zero, List.set_cons_succ]
            rfl
          refine one_ (i := 8) (N := some 91) #[true, true, true, true, true, true, true, true, true, false] rfl rfl (by kernel_rfl) (by decide) (fun K hK => ?_)
          refine goes_ Try.func82 (by kernel_rfl) rfl #[vv a, vv sc] (by rfl) rfl rfl (by (try simp only [List.map_toArray, List.map_cons, List.map_nil]); first | done | rfl) ?_
          refine (add82 _ _ a sc HA.out hsc _).mono ?_
          rintro e w3 ⟨nw, rfl, hnw, hb3⟩
          refine ⟨_, rfl, ?_⟩
          have L3 := Aside0.mk (below_step L2.out hb3)
          clear hb3
          refine hK.out _ _ L3.out (fun _ => ?_)
          clear hK K
          refine norm_ (a' := ?_) ?_ ?_
          rotate_left
          · show Act.put _ (some 91) _ = _
            simp only [Act.put, List.setIfInBounds_toArray, List.set_cons_zero, List.set_cons_succ]
            rfl
          have E4 := Aside0.mk (blk_below B4.out (below_step HZ.out L3.out))
          have E6 := Aside0.mk (blk_below B6.out (below_step HZ.out L3.out))
          have E7 := Aside0.mk (blk_below B7.out (below_step HZ.out L3.out))
          have y0 : w3.cell? ⟨w.heap.size + 2, 0, none⟩ = some (.float .f32 a.f0) := (blk_cell E7.out 0).trans rfl
          have y1 : w3.cell? ⟨w.heap.size + 2, 1, none⟩ = some (.float .f32 a.f1) := (blk_cell E7.out 1).trans rfl
          have y2 : w3.cell? ⟨w.heap.size + 2, 2, none⟩ = some (.float .f32 a.f2) := (blk_cell E7.out 2).trans rfl
          have fy0 := blk_frozen E7.out 0
          have fy1 := blk_frozen E7.out 1
          have fy2 := blk_frozen E7.out 2
          refine last_ (i := 9) (N := none) #[true, true, true, true, true, true, true, true, true, true] rfl rfl (by kernel_rfl) (by decide) (fun K hK => ?_)
          refine skip_ (w1 := ?_) (by rfl) rfl ?_ ?_
          rotate_left
          · go_simp
            rfl
          refine hK.out _ _ ?_
          clear hK K
          refine done_ (by kernel_rfl) ?_
          go_wp2
          go_roundg k1
          case measure => omega
          case rel =>
            refine ⟨i + 1, _, nw, rfl, ⟨by omega⟩, ⟨?_⟩, HX1, ⟨?_⟩, ⟨?_⟩, ⟨?_⟩, ⟨?_⟩⟩
            · rw [← HQ2.out]
              exact hnw
            · have hle2 : w.heap.size ≤ w.heap.size + 2 := by omega
              exact below_set (below_set (below_set (below_step HBW.out (below_step HZ.out L3.out)) hle2) hle2) hle2
            · refine blk_far ?_ (by show w.heap.size ≠ w.heap.size + 2; omega) _
              refine blk_far ?_ (by show w.heap.size ≠ w.heap.size + 2; omega) _
              refine blk_far ?_ (by show w.heap.size ≠ w.heap.size + 2; omega) _
              exact E4.out
            · refine blk_far ?_ (by show w.heap.size + 1 ≠ w.heap.size + 2; omega) _
              refine blk_far ?_ (by show w.heap.size + 1 ≠ w.heap.size + 2; omega) _
              refine blk_far ?_ (by show w.heap.size + 1 ≠ w.heap.size + 2; omega) _
              exact E6.out
            · refine blk_put (cs := #[.float .f32 nw.f0, .float .f32 nw.f1, .float .f32 a.f2]) ?_ 2 _ rfl
              refine blk_put (cs := #[.float .f32 nw.f0, .float .f32 a.f1, .float .f32 a.f2]) ?_ 1 _ rfl
              refine blk_put (cs := #[.float .f32 a.f0, .float .f32 a.f1, .float .f32 a.f2]) ?_ 0 _ rfl
              exact E7.out
        | succ k2 =>
          have hkl : k < x.f0.length := by omega
          have hck : decide ((k : Int) < (x.f0.length : Int)) = true := by simp; omega
          have hwk : wrap64 ((k : Int) + 1) = ((k + 1 : Nat) : Int) := by unfold wrap64; omega
          have hy0 := HY.out
          replace hy0 : iterV (flowI at_ core x.f0) k2 (k + 1) (flowI at_ core x.f0 k v2) = flowV at_ core x.f0 := hy0
          have HY1 := Aside0.mk hy0
          clear hy0 HY
          have hfx1 := hfx.1 k hkl
          have hfy1 := hfx.1 ((k + 1) % x.f0.length) (Nat.mod_lt _ (by omega))
          obtain ⟨x1, hx1⟩ : ∃ x1, rd_T46 x.f0 (k : Int) = x1 := ⟨_, rfl⟩
          obtain ⟨y1, hy1⟩ : ∃ y1, rd_T46 x.f0 (((k + 1) % x.f0.length : Nat) : Int) = y1 := ⟨_, rfl⟩
          have HX1r : Aside0 (pt x.f0 k = x1) := ⟨hx1⟩
          have HY1r : Aside0 (nx x.f0 k = y1) := ⟨hy1⟩
          change vfin (rd_T46 x.f0 (k : Int)) = true at hfx1
          change vfin (rd_T46 x.f0 (((k + 1) % x.f0.length : Nat) : Int)) = true at hfy1
          rw [hx1] at hfx1
          rw [hy1] at hfy1
          cases hgt : (FloatKind.f32.format.order (dnV (opV .sub at_ x1) (opV .sub at_ y1) core) 0 == some .gt) with
          | false =>
            have HG0 := Aside0.mk hgt
            clear hgt
            go_wp2_with (first | (go_at_call 80; (with_reducible refine (ends80 (ad.add (i * 2)) Ae ce x.f0 k ((k + 1) % x.f0.length) _ f0 hlx (Kd.C_below KCx.out HZ.out) hkl rfl x1 y1 hx1 hy1).mono ?_); rintro e w3 ⟨rfl, hb3⟩; have H3 := Aside0.mk (below_alloc (below_alloc (below_step HZ.out hb3) (.cells #[.float .f32 x1.f0, .float .f32 x1.f1, .float .f32 x1.f2] 46 (0, 0))) (.cells #[.float .f32 y1.f0, .float .f32 y1.f1, .float .f32 y1.f2] 46 (0, 0))); have D10a := Aside0.mk (blk_alloc (blk_alloc (blk_below B10.out hb3) (.cells #[.float .f32 x1.f0, .float .f32 x1.f1, .float .f32 x1.f2] 46 (0, 0))) (.cells #[.float .f32 y1.f0, .float .f32 y1.f1, .float .f32 y1.f2] 46 (0, 0))); have EX := Aside0.mk (blk_alloc (heap_alloc_new w3 (.cells #[.float .f32 x1.f0, .float .f32 x1.f1, .float .f32 x1.f2] 46 (0, 0))) (.cells #[.float .f32 y1.f0, .float .f32 y1.f1, .float .f32 y1.f2] 46 (0, 0))); have EY := Aside0.mk (heap_two w3 (.cells #[.float .f32 x1.f0, .float .f32 x1.f1, .float .f32 x1.f2] 46 (0, 0)) (.cells #[.float .f32 y1.f0, .float .f32 y1.f1, .float .f32 y1.f2] 46 (0, 0))); clear hb3 f0; have p0 : ((w3.alloc (.cells #[.float .f32 x1.f0, .float .f32 x1.f1, .float .f32 x1.f2] 46 (0, 0))).alloc (.cells #[.float .f32 y1.f0, .float .f32 y1.f1, .float .f32 y1.f2] 46 (0, 0))).cell? ⟨w.heap.size, 0, none⟩ = some (.float .f32 at_.f0) := (blk_cell (blk_below B4.out H3.out) 0).trans rfl; have p1 : ((w3.alloc (.cells #[.float .f32 x1.f0, .float .f32 x1.f1, .float .f32 x1.f2] 46 (0, 0))).alloc (.cells #[.float .f32 y1.f0, .float .f32 y1.f1, .float .f32 y1.f2] 46 (0, 0))).cell? ⟨w.heap.size, 1, none⟩ = some (.float .f32 at_.f1) := (blk_cell (blk_below B4.out H3.out) 1).trans rfl; have p2 : ((w3.alloc (.cells #[.float .f32 x1.f0, .float .f32 x1.f1, .float .f32 x1.f2] 46 (0, 0))).alloc (.cells #[.float .f32 y1.f0, .float .f32 y1.f1, .float .f32 y1.f2] 46 (0, 0))).cell? ⟨w.heap.size, 2, none⟩ = some (.float .f32 at_.f2) := (blk_cell (blk_below B4.out H3.out) 2).trans rfl; skip) | (go_at_call 54; have _m := H4; clear _m; refine (less54 at_ y1 at_ y1 (EV.refl _) (EV.refl _) _).mono ?_; rintro e w5 ⟨t, rfl, ht, hb5⟩; have HT := Aside0.mk (EV_is ht (sub_v hat hfy1)); have H5 := Aside0.mk (below_alloc (below_step H4.out hb5) (.cells #[.float .f32 t.f0, .float .f32 t.f1, .float .f32 t.f2] 46 (0, 0))); have ER5 := Aside0.mk (blk_alloc (blk_below ER.out hb5) (.cells #[.float .f32 t.f0, .float .f32 t.f1, .float .f32 t.f2] 46 (0, 0))); have D10c := Aside0.mk (blk_alloc (blk_below D10b.out hb5) (.cells #[.float .f32 t.f0, .float .f32 t.f1, .float .f32 t.f2] 46 (0, 0))); have ES := Aside0.mk (heap_alloc_new w5 (.cells #[.float .f32 t.f0, .float .f32 t.f1, .float .f32 t.f2] 46 (0, 0))); clear ht hb5 p0 p1 p2 q0 q1 q2 EY4 ER D10b; have u0 : (w5.alloc (.cells #[.float .f32 t.f0, .float .f32 t.f1, .float .f32 t.f2] 46 (0, 0))).cell? ⟨w4.heap.size, 0, none⟩ = some (.float .f32 r.f0) := (blk_cell ER5.out 0).trans rfl; have u1 : (w5.alloc (.cells #[.float .f32 t.f0, .float .f32 t.f1, .float .f32 t.f2] 46 (0, 0))).cell? ⟨w4.heap.size, 1, none⟩ = some (.float .f32 r.f1) := (blk_cell ER5.out 1).trans rfl; have u2 : (w5.alloc (.cells #[.float .f32 t.f0, .float .f32 t.f1, .float .f32 t.f2] 46 (0, 0))).cell? ⟨w4.heap.size, 2, none⟩ = some (.float .f32 r.f2) := (blk_cell ER5.out 2).trans rfl; skip) | (go_at_call 54; refine (less54 at_ x1 at_ x1 (EV.refl _) (EV.refl _) _).mono ?_; rintro e w4 ⟨r, rfl, hr, hb4⟩; have HR := Aside0.mk (EV_is hr (sub_v hat hfx1)); have H4 := Aside0.mk (below_alloc (below_step H3.out hb4) (.cells #[.float .f32 r.f0, .float .f32 r.f1, .float .f32 r.f2] 46 (0, 0))); have EY4 := Aside0.mk (blk_alloc (blk_below EY.out hb4) (.cells #[.float .f32 r.f0, .float .f32 r.f1, .float .f32 r.f2] 46 (0, 0))); have D10b := Aside0.mk (blk_alloc (blk_below D10a.out hb4) (.cells #[.float .f32 r.f0, .float .f32 r.f1, .float .f32 r.f2] 46 (0, 0))); have ER := Aside0.mk (heap_alloc_new w4 (.cells #[.float .f32 r.f0, .float .f32 r.f1, .float .f32 r.f2] 46 (0, 0))); clear hr hb4 p0 p1 p2 EX EY D10a; have p0 : (w4.alloc (.cells #[.float .f32 r.f0, .float .f32 r.f1, .float .f32 r.f2] 46 (0, 0))).cell? ⟨w.heap.size, 0, none⟩ = some (.float .f32 at_.f0) := (blk_cell (blk_below B4.out H4.out) 0).trans rfl; have p1 : (w4.alloc (.cells #[.float .f32 r.f0, .float .f32 r.f1, .float .f32 r.f2] 46 (0, 0))).cell? ⟨w.heap.size, 1, none⟩ = some (.float .f32 at_.f1) := (blk_cell (blk_below B4.out H4.out) 1).trans rfl; have p2 : (w4.alloc (.cells #[.float .f32 r.f0, .float .f32 r.f1, .float .f32 r.f2] 46 (0, 0))).cell? ⟨w.heap.size, 2, none⟩ = some (.float .f32 at_.f2) := (blk_cell (blk_below B4.out H4.out) 2).trans rfl; have q0 : (w4.alloc (.cells #[.float .f32 r.f0, .float .f32 r.f1, .float .f32 r.f2] 46 (0, 0))).cell? ⟨(w3.heap.size + 1), 0, none⟩ = some (.float .f32 y1.f0) := (blk_cell EY4.out 0).trans rfl; have q1 : (w4.alloc (.cells #[.float .f32 r.f0, .float .f32 r.f1, .float .f32 r.f2] 46 (0, 0))).cell? ⟨(w3.heap.size + 1), 1, none⟩ = some (.float .f32 y1.f1) := (blk_cell EY4.out 1).trans rfl; have q2 : (w4.alloc (.cells #[.float .f32 r.f0, .float .f32 r.f1, .float .f32 r.f2] 46 (0, 0))).cell? ⟨(w3.heap.size + 1), 2, none⟩ = some (.float .f32 y1.f2) := (blk_cell EY4.out 2).trans rfl; skip) | (go_at_call 81; have _m := H6; clear _m; refine (spec_l01VLong.calls t.f0 t.f1 t.f2 (szV t) _ (size_ok (by rw [HT.out]; exact sub_v hat hfy1)).2.1).mono ?_; rintro e w7 ⟨rfl, hb7⟩; have H7 := Aside0.mk (below_step H6.out hb7); have C10 := Aside0.mk (blk_below ER6.out hb7); have C11 := Aside0.mk (blk_below ES6.out hb7); have C9 := Aside0.mk (blk_below D10d.out hb7); clear hb7 sv0 sv1 sv2 ER6 ES6 D10d; have u0 : w7.cell? ⟨w4.heap.size, 0, none⟩ = some (.float .f32 r.f0) := (blk_cell C10.out 0).trans rfl; have u1 : w7.cell? ⟨w4.heap.size, 1, none⟩ = some (.float .f32 r.f1) := (blk_cell C10.out 1).trans rfl; have u2 : w7.cell? ⟨w4.heap.size, 2, none⟩ = some (.float .f32 r.f2) := (blk_cell C10.out 2).trans rfl; have sv0 : w7.cell? ⟨w5.heap.size, 0, none⟩ = some (.float .f32 t.f0) := (blk_cell C11.out 0).trans rfl; have sv1 : w7.cell? ⟨w5.heap.size, 1, none⟩ = some (.float .f32 t.f1) := (blk_cell C11.out 1).trans rfl; have sv2 : w7.cell? ⟨w5.heap.size, 2, none⟩ = some (.float .f32 t.f2) := (blk_cell C11.out 2).trans rfl; skip) | (go_at_call 81; refine (spec_l01VLong.calls r.f0 r.f1 r.f2 (szV r) _ (size_ok (by rw [HR.out]; exact sub_v hat hfx1)).2.1).mono ?_; rintro e w6 ⟨rfl, hb6⟩; have H6 := Aside0.mk (below_step H5.out hb6); have ER6 := Aside0.mk (blk_below ER5.out hb6); have ES6 := Aside0.mk (blk_below ES.out hb6); have D10d := Aside0.mk (blk_below D10c.out hb6); clear hb6 u0 u1 u2 ER5 ES D10c; have sv0 : w6.cell? ⟨w5.heap.size, 0, none⟩ = some (.float .f32 t.f0) := (blk_cell ES6.out 0).trans rfl; have sv1 : w6.cell? ⟨w5.heap.size, 1, none⟩ = some (.float .f32 t.f1) := (blk_cell ES6.out 1).trans rfl; have sv2 : w6.cell? ⟨w5.heap.size, 2, none⟩ = some (.float .f32 t.f2) := (blk_cell ES6.out 2).trans rfl; skip) | (go_at_call 55; refine (inner55 r t r t (EV.refl r) (EV.refl t) _).mono ?_; rintro e w9 ⟨nn, rfl, hnn, hb9⟩) | ((with_reducible refine gate_dst (N := 58) rfl ?_); refine wpList_ar rfl _ _ _ _ _ rfl arM _ _ rfl rfl (E.refl _) (E.refl _) ?_; intro ca nca hca) | ((with_reducible refine gate_dst (N := 64) rfl ?_); refine wpList_ar rfl _ _ _ _ _ rfl arA _ _ rfl rfl hca hnn ?_; intro cb ncb hcb) | ((with_reducible refine gate_dst (N := 65) rfl ?_); refine wpList_ar rfl _ _ _ _ _ rfl arM _ _ rfl rfl hca hcb ?_; intro cc ncc hcc) | ((with_reducible refine gate_dst (N := 68) rfl ?_); refine wpList_ar rfl _ _ _ _ _ rfl arM _ _ rfl rfl (E.refl _) (E.refl _) ?_; intro cd ncd hcd) | ((with_reducible refine gate_dst (N := 69) rfl ?_); refine wpList_ar rfl _ _ _ _ _ rfl arA _ _ rfl rfl hcc hcd ?_; intro dd ndd hdd; have hqg : (FloatKind.f32.format.order dd 0 == some .gt) = false := by rw [order_E hdd]; rw [HR.out, HT.out]; exact HG0.out))
            go_roundg k2
            case measure => omega
            case rel =>
              have HE := below_step (pw_below_drewN (Below.refl w7.heap.size w7) _) hb9
              refine ⟨k + 1, v2, a2, rfl, ⟨by omega⟩, HA2, ⟨?_⟩, ⟨pw_below_drewN (below_step H7.out HE) _⟩, ⟨blk_drewN (blk_below C9.out HE) _⟩⟩
              have := HY1.out
              unfold flowI at this
              rw [HX1r.out, HY1r.out] at this
              unfold flowS at this
              rw [HG0.out, if_neg (by decide)] at this
              exact this
          | true =>
            have HG0 := Aside0.mk hgt
            clear hgt
            go_wp2_with (first | (go_at_call 80; (with_reducible refine (ends80 (ad.add (i * 2)) Ae ce x.f0 k ((k + 1) % x.f0.length) _ f0 hlx (Kd.C_below KCx.out HZ.out) hkl rfl x1 y1 hx1 hy1).mono ?_); rintro e w3 ⟨rfl, hb3⟩; have H3 := Aside0.mk (below_alloc (below_alloc (below_step HZ.out hb3) (.cells #[.float .f32 x1.f0, .float .f32 x1.f1, .float .f32 x1.f2] 46 (0, 0))) (.cells #[.float .f32 y1.f0, .float .f32 y1.f1, .float .f32 y1.f2] 46 (0, 0))); have D10a := Aside0.mk (blk_alloc (blk_alloc (blk_below B10.out hb3) (.cells #[.float .f32 x1.f0, .float .f32 x1.f1, .float .f32 x1.f2] 46 (0, 0))) (.cells #[.float .f32 y1.f0, .float .f32 y1.f1, .float .f32 y1.f2] 46 (0, 0))); have EX := Aside0.mk (blk_alloc (heap_alloc_new w3 (.cells #[.float .f32 x1.f0, .float .f32 x1.f1, .float .f32 x1.f2] 46 (0, 0))) (.cells #[.float .f32 y1.f0, .float .f32 y1.f1, .float .f32 y1.f2] 46 (0, 0))); have EY := Aside0.mk (heap_two w3 (.cells #[.float .f32 x1.f0, .float .f32 x1.f1, .float .f32 x1.f2] 46 (0, 0)) (.cells #[.float .f32 y1.f0, .float .f32 y1.f1, .float .f32 y1.f2] 46 (0, 0))); clear hb3 f0; have p0 : ((w3.alloc (.cells #[.float .f32 x1.f0, .float .f32 x1.f1, .float .f32 x1.f2] 46 (0, 0))).alloc (.cells #[.float .f32 y1.f0, .float .f32 y1.f1, .float .f32 y1.f2] 46 (0, 0))).cell? ⟨w.heap.size, 0, none⟩ = some (.float .f32 at_.f0) := (blk_cell (blk_below B4.out H3.out) 0).trans rfl; have p1 : ((w3.alloc (.cells #[.float .f32 x1.f0, .float .f32 x1.f1, .float .f32 x1.f2] 46 (0, 0))).alloc (.cells #[.float .f32 y1.f0, .float .f32 y1.f1, .float .f32 y1.f2] 46 (0, 0))).cell? ⟨w.heap.size, 1, none⟩ = some (.float .f32 at_.f1) := (blk_cell (blk_below B4.out H3.out) 1).trans rfl; have p2 : ((w3.alloc (.cells #[.float .f32 x1.f0, .float .f32 x1.f1, .float .f32 x1.f2] 46 (0, 0))).alloc (.cells #[.float .f32 y1.f0, .float .f32 y1.f1, .float .f32 y1.f2] 46 (0, 0))).cell? ⟨w.heap.size, 2, none⟩ = some (.float .f32 at_.f2) := (blk_cell (blk_below B4.out H3.out) 2).trans rfl; skip) | (go_at_call 54; have _m := H4; clear _m; refine (less54 at_ y1 at_ y1 (EV.refl _) (EV.refl _) _).mono ?_; rintro e w5 ⟨t, rfl, ht, hb5⟩; have HT := Aside0.mk (EV_is ht (sub_v hat hfy1)); have H5 := Aside0.mk (below_alloc (below_step H4.out hb5) (.cells #[.float .f32 t.f0, .float .f32 t.f1, .float .f32 t.f2] 46 (0, 0))); have ER5 := Aside0.mk (blk_alloc (blk_below ER.out hb5) (.cells #[.float .f32 t.f0, .float .f32 t.f1, .float .f32 t.f2] 46 (0, 0))); have D10c := Aside0.mk (blk_alloc (blk_below D10b.out hb5) (.cells #[.float .f32 t.f0, .float .f32 t.f1, .float .f32 t.f2] 46 (0, 0))); have ES := Aside0.mk (heap_alloc_new w5 (.cells #[.float .f32 t.f0, .float .f32 t.f1, .float .f32 t.f2] 46 (0, 0))); clear ht hb5 p0 p1 p2 q0 q1 q2 EY4 ER D10b; have u0 : (w5.alloc (.cells #[.float .f32 t.f0, .float .f32 t.f1, .float .f32 t.f2] 46 (0, 0))).cell? ⟨w4.heap.size, 0, none⟩ = some (.float .f32 r.f0) := (blk_cell ER5.out 0).trans rfl; have u1 : (w5.alloc (.cells #[.float .f32 t.f0, .float .f32 t.f1, .float .f32 t.f2] 46 (0, 0))).cell? ⟨w4.heap.size, 1, none⟩ = some (.float .f32 r.f1) := (blk_cell ER5.out 1).trans rfl; have u2 : (w5.alloc (.cells #[.float .f32 t.f0, .float .f32 t.f1, .float .f32 t.f2] 46 (0, 0))).cell? ⟨w4.heap.size, 2, none⟩ = some (.float .f32 r.f2) := (blk_cell ER5.out 2).trans rfl; skip) | (go_at_call 54; refine (less54 at_ x1 at_ x1 (EV.refl _) (EV.refl _) _).mono ?_; rintro e w4 ⟨r, rfl, hr, hb4⟩; have HR := Aside0.mk (EV_is hr (sub_v hat hfx1)); have H4 := Aside0.mk (below_alloc (below_step H3.out hb4) (.cells #[.float .f32 r.f0, .float .f32 r.f1, .float .f32 r.f2] 46 (0, 0))); have EY4 := Aside0.mk (blk_alloc (blk_below EY.out hb4) (.cells #[.float .f32 r.f0, .float .f32 r.f1, .float .f32 r.f2] 46 (0, 0))); have D10b := Aside0.mk (blk_alloc (blk_below D10a.out hb4) (.cells #[.float .f32 r.f0, .float .f32 r.f1, .float .f32 r.f2] 46 (0, 0))); have ER := Aside0.mk (heap_alloc_new w4 (.cells #[.float .f32 r.f0, .float .f32 r.f1, .float .f32 r.f2] 46 (0, 0))); clear hr hb4 p0 p1 p2 EX EY D10a; have p0 : (w4.alloc (.cells #[.float .f32 r.f0, .float .f32 r.f1, .float .f32 r.f2] 46 (0, 0))).cell? ⟨w.heap.size, 0, none⟩ = some (.float .f32 at_.f0) := (blk_cell (blk_below B4.out H4.out) 0).trans rfl; have p1 : (w4.alloc (.cells #[.float .f32 r.f0, .float .f32 r.f1, .float .f32 r.f2] 46 (0, 0))).cell? ⟨w.heap.size, 1, none⟩ = some (.float .f32 at_.f1) := (blk_cell (blk_below B4.out H4.out) 1).trans rfl; have p2 : (w4.alloc (.cells #[.float .f32 r.f0, .float .f32 r.f1, .float .f32 r.f2] 46 (0, 0))).cell? ⟨w.heap.size, 2, none⟩ = some (.float .f32 at_.f2) := (blk_cell (blk_below B4.out H4.out) 2).trans rfl; have q0 : (w4.alloc (.cells #[.float .f32 r.f0, .float .f32 r.f1, .float .f32 r.f2] 46 (0, 0))).cell? ⟨(w3.heap.size + 1), 0, none⟩ = some (.float .f32 y1.f0) := (blk_cell EY4.out 0).trans rfl; have q1 : (w4.alloc (.cells #[.float .f32 r.f0, .float .f32 r.f1, .float .f32 r.f2] 46 (0, 0))).cell? ⟨(w3.heap.size + 1), 1, none⟩ = some (.float .f32 y1.f1) := (blk_cell EY4.out 1).trans rfl; have q2 : (w4.alloc (.cells #[.float .f32 r.f0, .float .f32 r.f1, .float .f32 r.f2] 46 (0, 0))).cell? ⟨(w3.heap.size + 1), 2, none⟩ = some (.float .f32 y1.f2) := (blk_cell EY4.out 2).trans rfl; skip) | (go_at_call 81; have _m := H6; clear _m; refine (spec_l01VLong.calls t.f0 t.f1 t.f2 (szV t) _ (size_ok (by rw [HT.out]; exact sub_v hat hfy1)).2.1).mono ?_; rintro e w7 ⟨rfl, hb7⟩; have H7 := Aside0.mk (below_step H6.out hb7); have C10 := Aside0.mk (blk_below ER6.out hb7); have C11 := Aside0.mk (blk_below ES6.out hb7); have C9 := Aside0.mk (blk_below D10d.out hb7); clear hb7 sv0 sv1 sv2 ER6 ES6 D10d; have u0 : w7.cell? ⟨w4.heap.size, 0, none⟩ = some (.float .f32 r.f0) := (blk_cell C10.out 0).trans rfl; have u1 : w7.cell? ⟨w4.heap.size, 1, none⟩ = some (.float .f32 r.f1) := (blk_cell C10.out 1).trans rfl; have u2 : w7.cell? ⟨w4.heap.size, 2, none⟩ = some (.float .f32 r.f2) := (blk_cell C10.out 2).trans rfl; have sv0 : w7.cell? ⟨w5.heap.size, 0, none⟩ = some (.float .f32 t.f0) := (blk_cell C11.out 0).trans rfl; have sv1 : w7.cell? ⟨w5.heap.size, 1, none⟩ = some (.float .f32 t.f1) := (blk_cell C11.out 1).trans rfl; have sv2 : w7.cell? ⟨w5.heap.size, 2, none⟩ = some (.float .f32 t.f2) := (blk_cell C11.out 2).trans rfl; skip) | (go_at_call 81; refine (spec_l01VLong.calls r.f0 r.f1 r.f2 (szV r) _ (size_ok (by rw [HR.out]; exact sub_v hat hfx1)).2.1).mono ?_; rintro e w6 ⟨rfl, hb6⟩; have H6 := Aside0.mk (below_step H5.out hb6); have ER6 := Aside0.mk (blk_below ER5.out hb6); have ES6 := Aside0.mk (blk_below ES.out hb6); have D10d := Aside0.mk (blk_below D10c.out hb6); clear hb6 u0 u1 u2 ER5 ES D10c; have sv0 : w6.cell? ⟨w5.heap.size, 0, none⟩ = some (.float .f32 t.f0) := (blk_cell ES6.out 0).trans rfl; have sv1 : w6.cell? ⟨w5.heap.size, 1, none⟩ = some (.float .f32 t.f1) := (blk_cell ES6.out 1).trans rfl; have sv2 : w6.cell? ⟨w5.heap.size, 2, none⟩ = some (.float .f32 t.f2) := (blk_cell ES6.out 2).trans rfl; skip) | (go_at_call 55; refine (inner55 r t r t (EV.refl r) (EV.refl t) _).mono ?_; rintro e w9 ⟨nn, rfl, hnn, hb9⟩) | ((with_reducible refine gate_dst (N := 58) rfl ?_); refine wpList_ar rfl _ _ _ _ _ rfl arM _ _ rfl rfl (E.refl _) (E.refl _) ?_; intro ca nca hca) | ((with_reducible refine gate_dst (N := 64) rfl ?_); refine wpList_ar rfl _ _ _ _ _ rfl arA _ _ rfl rfl hca hnn ?_; intro cb ncb hcb) | ((with_reducible refine gate_dst (N := 65) rfl ?_); refine wpList_ar rfl _ _ _ _ _ rfl arM _ _ rfl rfl hca hcb ?_; intro cc ncc hcc) | ((with_reducible refine gate_dst (N := 68) rfl ?_); refine wpList_ar rfl _ _ _ _ _ rfl arM _ _ rfl rfl (E.refl _) (E.refl _) ?_; intro cd ncd hcd) | ((with_reducible refine gate_dst (N := 69) rfl ?_); refine wpList_ar rfl _ _ _ _ _ rfl arA _ _ rfl rfl hcc hcd ?_; intro dd ndd hdd; have hqg : (FloatKind.f32.format.order dd 0 == some .gt) = true := by rw [order_E hdd]; rw [HR.out, HT.out]; exact HG0.out))
            have HG : Aside0 ((FloatKind.f32.format.order (dnV r t core) 0 == some .gt) = true) := ⟨by rw [HR.out, HT.out]; exact HG0.out⟩
            have HE := Aside0.mk (below_step (pw_below_drewN (Below.refl w7.heap.size w7) _) hb9)
            have D6 := Aside0.mk (blk_below C9.out HE.out)
            have D10 := Aside0.mk (blk_below C10.out HE.out)
            have D11 := Aside0.mk (blk_below C11.out HE.out)
            have HW9 := Aside0.mk (below_step H7.out HE.out)
            have hdq : dd = dnV r t core := E_gt hdd HG.out
            have RV : isV r := by rw [HR.out]; exact sub_v hat hfx1
            have TV : isV t := by rw [HT.out]; exact sub_v hat hfy1
            obtain ⟨fa, hfa, _⟩ := add_nn (size_ok RV).2.2 (size_ok TV).2.2
            have hfk := (fok_of hfa).1
            have hfv : fop .add .f32 (szV r) (szV t) = ar .add (szV r) (szV t) := by
              unfold ar
              rw [hfa, (fok_of hfa).2]
              rfl
            have HFV := Aside0.mk hfv
            have HDQ := Aside0.mk hdq
            clear hfv hdq hfa HE hb9 u0 u1 u2 sv0 sv1 sv2 C9 C10 C11 H3 H4 H5 H6
            have u0 : w9.cell? ⟨w4.heap.size, 0, none⟩ = some (.float .f32 r.f0) := (blk_cell D10.out 0).trans rfl
            have u1 : w9.cell? ⟨w4.heap.size, 1, none⟩ = some (.float .f32 r.f1) := (blk_cell D10.out 1).trans rfl
            have u2 : w9.cell? ⟨w4.heap.size, 2, none⟩ = some (.float .f32 r.f2) := (blk_cell D10.out 2).trans rfl
            have sv0 : w9.cell? ⟨w5.heap.size, 0, none⟩ = some (.float .f32 t.f0) := (blk_cell D11.out 0).trans rfl
            have sv1 : w9.cell? ⟨w5.heap.size, 1, none⟩ = some (.float .f32 t.f1) := (blk_cell D11.out 1).trans rfl
            have sv2 : w9.cell? ⟨w5.heap.size, 2, none⟩ = some (.float .f32 t.f2) := (blk_cell D11.out 2).trans rfl
            have z0 : w9.cell? ⟨wo.heap.size, 0, none⟩ = some (.float .f32 a2.f0) := (blk_cell D6.out 0).trans rfl
            have z1 : w9.cell? ⟨wo.heap.size, 1, none⟩ = some (.float .f32 a2.f1) := (blk_cell D6.out 1).trans rfl
            have z2 : w9.cell? ⟨wo.heap.size, 2, none⟩ = some (.float .f32 a2.f2) := (blk_cell D6.out 2).trans rfl
            refine start_ (n := 12) (S := fun w' => Below w9.heap.size w9 w') (ds := [11]) #[false, false, false, false, false, false, false, false, false, false, false, false] (by kernel_rfl) rfl rfl (below_drew1 (pw_below_drewN (Below.refl _ _) _)) (fun hHeld => ?_)
            refine pure_ (i := 4) (N := some 76) (v := ?_) (a' := ?_) #[false, false, false, false, true, false, false, false, false, false, false, false] rfl rfl (by kernel_rfl) (fun _ _ _ h => h) (Or.inl ⟨by rfl, ?_⟩) ?_ ?_
            rotate_left
            · intro w'
              go_simp
              with_reducible rfl
            rotate_left
            · simp only [Act.put, List.setIfInBounds_toArray, List.set_cons_zero, List.set_cons_succ, i64_w, i32_w]
              rfl
            refine pure_ (i := 5) (N := some 77) (v := ?_) (a' := ?_) #[false, false, false, false, true, true, false, false, false, false, false, false] rfl rfl (by kernel_rfl) (fun _ _ _ h => h) (Or.inl ⟨by rfl, ?_⟩) ?_ ?_
            rotate_left
            · intro w'
              go_simp
              with_reducible rfl
            rotate_left
            · simp only [Act.put, List.setIfInBounds_toArray, List.set_cons_zero, List.set_cons_succ, i64_w, i32_w]
              rfl
            refine pure_ (i := 7) (N := some 79) (v := ?_) (a' := ?_) #[false, false, false, false, true, true, false, true, false, false, false, false] rfl rfl (by kernel_rfl) (fun _ _ _ h => h) (Or.inl ⟨by rfl, ?_⟩) ?_ ?_
            rotate_left
            · intro w'
              go_simp
              with_reducible rfl
            rotate_left
            · simp only [Act.put, List.setIfInBounds_toArray, List.set_cons_zero, List.set_cons_succ, i64_w, i32_w]
              rfl
            refine pure_ (i := 6) (N := some 78) (v := ?_) (a' := ?_) #[false, false, false, false, true, true, true, true, false, false, false, false] rfl rfl (by kernel_rfl) (fun _ _ _ h => h) (Or.inl ⟨by rfl, ?_⟩) ?_ ?_
            rotate_left
            · intro w'
              go_simp
              with_reducible rfl
            rotate_left
            · simp only [Act.put, List.setIfInBounds_toArray, List.set_cons_zero, List.set_cons_succ, i64_w, i32_w]
              rfl
            refine take_ (i := 0) (N := some 72) (v := ?_) (a' := ?_) #[true, false, false, false, true, true, true, true, false, false, false, false] rfl rfl (by kernel_rfl) (fun _ _ _ h => h) (Or.inl ⟨by rfl, ?_⟩) hHeld ?_ ?_
            rotate_left
            · rintro w' s0
              have c0 := cell_b s0 z0
              have c1 := cell_b s0 z1
              have c2 := cell_b s0 z2
              go_simp
              with_reducible rfl
            rotate_left
            · simp only [Act.put, List.setIfInBounds_toArray, List.set_cons_zero, List.set_cons_succ, i64_w, i32_w]
              rfl
            refine take_ (i := 1) (N := some 73) (v := ?_) (a' := ?_) #[true, true, false, false, true, true, true, true, false, false, false, false] rfl rfl (by kernel_rfl) (fun _ _ _ h => h) (Or.inl ⟨by rfl, ?_⟩) hHeld ?_ ?_
            rotate_left
            · rintro w' s0
              have c0 := cell_b s0 u0
              have c1 := cell_b s0 u1
              have c2 := cell_b s0 u2
              go_simp
              with_reducible rfl
            rotate_left
            · simp only [Act.put, List.setIfInBounds_toArray, List.set_cons_zero, List.set_cons_succ, i64_w, i32_w]
              rfl
            refine take_ (i := 2) (N := some 74) (v := ?_) (a' := ?_) #[true, true, true, false, true, true, true, true, false, false, false, false] rfl rfl (by kernel_rfl) (fun _ _ _ h => h) (Or.inl ⟨by rfl, ?_⟩) hHeld ?_ ?_
            rotate_left
            · rintro w' s0
              have c0 := cell_b s0 sv0
              have c1 := cell_b s0 sv1
              have c2 := cell_b s0 sv2
              go_simp
              with_reducible rfl
            rotate_left
            · simp only [Act.put, List.setIfInBounds_toArray, List.set_cons_zero, List.set_cons_succ, i64_w, i32_w]
              rfl
            refine join_ (σ := S46 × Nat) 3 #[true, true, true, true, true, true, true, true, true, false, false, false] (fun s => [(75, vv s.1), (80, .float .f32 s.2)]) (fun s w' => Aside0 (Below w9.heap.size w9 w') ∧ Aside0 (EV (crossV r t) s.1) ∧ Aside0 (E (ar .quo (fop .add .f32 (szV r) (szV t)) dd) s.2)) ?_ (fun hcont => ?_)
            · rintro ⟨cr, qu⟩ w' ⟨HB, HC1, HQ1⟩
              refine norm_ (a' := ?_) ?_ ?_
              rotate_left
              · simp only [putAll, Act.put, List.setIfInBounds_toArray, List.set_cons_zero, List.set_cons_succ]
                rfl
              refine one_ (i := 9) (N := some 81) #[true, true, true, true, true, true, true, true, true, true, false, false] rfl rfl (by kernel_rfl) (by decide) (fun K hK => ?_)
              refine goes_ Try.func83 (by kernel_rfl) rfl #[vv cr, .float .f32 qu] (by rfl) rfl rfl (by (try simp only [List.map_toArray, List.map_cons, List.map_nil]); first | done | rfl) ?_
              refine (scale83 _ cr _ qu HC1.out HQ1.out _).mono ?_
              rintro e w10 ⟨sc, rfl, hsc, hb10⟩
              refine ⟨_, rfl, ?_⟩
              have L10 := Aside0.mk (below_step HB.out hb10)
              clear hb10
              refine hK.out _ _ L10.out (fun _ => ?_)
              clear hK K
              refine norm_ (a' := ?_) ?_ ?_
              rotate_left
              · show Act.put _ (some 81) _ = _
                simp only [Act.put, List.setIfInBounds_toArray, List.set_cons_zero, List.set_cons_succ]
                rfl
              refine one_ (i := 10) (N := some 82) #[true, true, true, true, true, true, true, true, true, true, true, false] rfl rfl (by kernel_rfl) (by decide) (fun K hK => ?_)
              refine goes_ Try.func82 (by kernel_rfl) rfl #[vv a2, vv sc] (by rfl) rfl rfl (by (try simp only [List.map_toArray, List.map_cons, List.map_nil]); first | done | rfl) ?_
              refine (add82 _ _ a2 sc HA2.out hsc _).mono ?_
              rintro e w11 ⟨nw, rfl, hnw, hb11⟩
              refine ⟨_, rfl, ?_⟩
              have L11 := Aside0.mk (below_step L10.out hb11)
              clear hb11
              refine hK.out _ _ L11.out (fun _ => ?_)
              clear hK K
              refine norm_ (a' := ?_) ?_ ?_
              rotate_left
              · show Act.put _ (some 82) _ = _
                simp only [Act.put, List.setIfInBounds_toArray, List.set_cons_zero, List.set_cons_succ]
                rfl
              have E7 := Aside0.mk (blk_below D6.out L11.out)
              have y0 : w11.cell? ⟨wo.heap.size, 0, none⟩ = some (.float .f32 a2.f0) := (blk_cell E7.out 0).trans rfl
              have y1 : w11.cell? ⟨wo.heap.size, 1, none⟩ = some (.float .f32 a2.f1) := (blk_cell E7.out 1).trans rfl
              have y2 : w11.cell? ⟨wo.heap.size, 2, none⟩ = some (.float .f32 a2.f2) := (blk_cell E7.out 2).trans rfl
              have fy0 := blk_frozen E7.out 0
              have fy1 := blk_frozen E7.out 1
              have fy2 := blk_frozen E7.out 2
              refine last_ (i := 11) (N := none) #[true, true, true, true, true, true, true, true, true, true, true, true] rfl rfl (by kernel_rfl) (by decide) (fun K hK => ?_)
              refine skip_ (w1 := ?_) (by rfl) rfl ?_ ?_
              rotate_left
              · go_simp
                rfl
              refine hK.out _ _ ?_
              clear hK K
              refine done_ (by kernel_rfl) ?_
              go_wp2
              go_roundg k2
              case measure => omega
              case rel =>
                refine ⟨k + 1, _, nw, rfl, ⟨by omega⟩, ⟨?_⟩, HY1, ⟨?_⟩, ⟨?_⟩⟩
                · unfold flowI
                  rw [HX1r.out, HY1r.out, ← HR.out, ← HT.out]
                  unfold flowS
                  rw [if_pos HG.out, ← HDQ.out, ← HFV.out]
                  exact hnw
                · exact below_set (below_set (below_set (below_step HW9.out L11.out) (Nat.le_refl _)) (Nat.le_refl _)) (Nat.le_refl _)
                · refine blk_put (cs := #[.float .f32 nw.f0, .float .f32 nw.f1, .float .f32 a2.f2]) ?_ 2 _ rfl
                  refine blk_put (cs := #[.float .f32 nw.f0, .float .f32 a2.f1, .float .f32 a2.f2]) ?_ 1 _ rfl
                  refine blk_put (cs := #[.float .f32 a2.f0, .float .f32 a2.f1, .float .f32 a2.f2]) ?_ 0 _ rfl
                  exact E7.out
            refine two_ (i := 3) (j := 8) (Ni := some 75) (Nj := some 80) #[true, true, true, true, true, true, true, true, false, false, false, false] #[true, true, true, false, true, true, true, true, true, false, false, false] rfl rfl rfl rfl (by kernel_rfl) (by decide) (by decide) (fun K hK => ?_) (fun K hK => ?_)
            · refine goes_ Try.func56 (by kernel_rfl) rfl #[vv r, vv t] (by rfl) rfl rfl (by (try simp only [List.map_toArray, List.map_cons, List.map_nil]); first | done | rfl) ?_
              refine (cross56 r t r t (EV.refl r) (EV.refl t) _).mono ?_
              rintro e w10 ⟨cr, rfl, hcr, hb10⟩
              refine ⟨_, rfl, ?_⟩
              have L10 := Aside0.mk (below_step (below_drew1 (pw_below_drewN (Below.refl w9.heap.size w9) _)) hb10)
              clear hb10
              refine hK.out _ _ L10.out (fun _ => ?_)
              clear hK K
              refine norm_ (a' := ?_) ?_ ?_
              rotate_left
              · show Act.put _ (some 75) _ = _
                simp only [Act.put, List.setIfInBounds_toArray, List.set_cons_zero, List.set_cons_succ]
                rfl
              refine one_ (i := 8) (N := some 80) #[true, true, true, true, true, true, true, true, true, false, false, false] rfl rfl (by kernel_rfl) (by decide) (fun K hK => ?_)
              refine ar_ _ _ _ _ _ rfl arQ _ _ rfl rfl (E.refl _) (E.refl _) (by rfl) rfl ?_
              intro qu nq hqu
              refine hK.out _ _ (pw_below_drewN L10.out nq) (fun _ => ?_)
              exact norm_ (by first | rfl | (simp only [putAll, Act.put, List.setIfInBounds_toArray, List.set_cons_zero, List.set_cons_succ]; rfl)) (hcont (cr, qu) _ ⟨⟨pw_below_drewN L10.out nq⟩, ⟨hcr⟩, ⟨hqu⟩⟩)
            · refine ar_ _ _ _ _ _ rfl arQ _ _ rfl rfl (E.refl _) (E.refl _) (by rfl) rfl ?_
              intro qu nq hqu
              refine hK.out _ _ (pw_below_drewN (below_drew1 (pw_below_drewN (Below.refl _ _) _)) nq) (fun hS9 => ?_)
              have L9 : Aside0 (Below w9.heap.size w9 _) := ⟨hS9⟩
              clear hK K hS9
              refine norm_ (a' := ?_) ?_ ?_
              rotate_left
              · show Act.put _ (some 80) _ = _
                simp only [Act.put, List.setIfInBounds_toArray, List.set_cons_zero, List.set_cons_succ]
                rfl
              refine one_ (i := 3) (N := some 75) #[true, true, true, true, true, true, true, true, true, false, false, false] rfl rfl (by kernel_rfl) (by decide) (fun K hK => ?_)
              refine goes_ Try.func56 (by kernel_rfl) rfl #[vv r, vv t] (by rfl) rfl rfl (by (try simp only [List.map_toArray, List.map_cons, List.map_nil]); first | done | rfl) ?_
              refine (cross56 r t r t (EV.refl r) (EV.refl t) _).mono ?_
              rintro e w10 ⟨cr, rfl, hcr, hb10⟩
              refine ⟨_, rfl, ?_⟩
              refine hK.out _ _ (below_step L9.out hb10) (fun _ => ?_)
              exact norm_ (by first | rfl | (simp only [putAll, Act.put, List.setIfInBounds_toArray, List.set_cons_zero, List.set_cons_succ]; rfl)) (hcont (cr, qu) _ ⟨⟨below_step L9.out hb10⟩, ⟨hcr⟩, ⟨hqu⟩⟩)
end XW
end Go.Proofs.Ytffofpiejcolfaa
