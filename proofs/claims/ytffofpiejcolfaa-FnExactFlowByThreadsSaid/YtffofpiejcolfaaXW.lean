/- The program's threadFlow and FlowByThreads. -/
import Derived.Test.YtffofpiejcolfaaXG2
import Derived.Test.YtffofpiejcolfaaXV
set_option linter.unusedVariables false
set_option linter.unusedSimpArgs false
namespace Go.Proofs.Ytffofpiejcolfaa
open Go.RowKit Go.Proofs.YtffofpiejcolfaaW.PrintWords Go.Proofs.YtffofpiejcolfaaW.PrintLast Go.Proofs.YtffofpiejcolfaaW.PrintMore
attribute [local go_sem] max2_int min2_int max_two min_two max_three min_three max_four min_four   -- for this text's walks alone
namespace XW
open XF XL XC XY XE XN XK XG XV L0 L3
def thr (l : List S31) (i : Nat) : S31 := rd_T31 l (i : Int)
def allI (at_ : S46) (core : Nat) (l : List S31) (i : Nat) (acc : S46) : S46 := opV .add acc (mulV (flowV at_ core (thr l i).f0) (ar .quo (thr l i).f1 1095307227))
def allV (at_ : S46) (core : Nat) (l : List S31) : S46 := iterV (allI at_ core l) l.length 0 ⟨0, 0, 0⟩
theorem quo_ok {x : Nat} (h : fin x = true) : fok .quo .f32 x 1095307227 = true ∧ fop .quo .f32 x 1095307227 = ar .quo x 1095307227 := by
  obtain ⟨s, m, e, hx⟩ := num_of_fin h
  have hc : ∃ n d, FloatKind.f32.format.read 1095307227 = .number false n d ∧ n ≠ 0 := ⟨_, _, rfl, by decide⟩
  obtain ⟨n, d, hc, hn⟩ := hc
  have hf : ∃ r, floatBits .quo .f32 x 1095307227 = some r := by
    unfold floatBits Ieee.Format.div
    rw [hx, hc]
    simp only [Ieee.Datum.quotient, if_neg hn, Option.map_some]
    exact ⟨_, rfl⟩
  obtain ⟨r, hr⟩ := hf
  refine ⟨(fok_of hr).1, ?_⟩
  unfold ar
  rw [hr, (fok_of hr).2]
  rfl
theorem thr_fin {l : List S31} (h : are l = true) (i : Nat) (hi : i < l.length) : (∀ k, k < (thr l i).f0.length → vfin (pt (thr l i).f0 k) = true) ∧ fin (thr l i).f1 = true := by
  have e : thr l i = l[i] := by simp [thr, rd_T31, hi]
  rw [e]
  unfold are at h
  simp only [Bool.and_eq_true, Bool.not_eq_true', List.any_eq_false] at h
  have ht := h.2 l[i] (List.getElem_mem hi)
  have ht2 : isThread l[i].f0 l[i].f1 = true := by simpa [tis] using ht
  unfold isThread at ht2
  simp only [Bool.and_eq_true, Bool.not_eq_true', List.any_eq_false] at ht2
  refine ⟨fun k hk => ?_, ht2.2.2.2⟩
  have e2 : pt l[i].f0 k = l[i].f0[k] := by simp [pt, rd_T46, hk]
  rw [e2]
  simpa using ht2.2.2.1 l[i].f0[k] (List.getElem_mem hk)
set_option maxHeartbeats 4000000 in
set_option maxRecDepth 100000 in
theorem flow77 (A : Option Addr) (c : Nat) (l : List S31) (at_ : S46) (core : Nat) (w : World) (hle : l.length ≤ c) (hC : Kd.C k31 w A l.length l) (hare : are l = true) (hat : vfin at_ = true) :
    Calls Try.prog 77 #[.slice A l.length c, vv at_, .float .f32 core] w fun e w' => ∃ v, e = .returned (vv v) ∧ EV (allV at_ core l) v ∧ Below w.heap.size w w' := by
  have hmx : l.length ≤ 9223372036854775807 := Kd.C_max hC
  have HC := Aside0.mk hC
  have HAR := Aside0.mk hare
  clear hC hare
  have hB := below_alloc (below_alloc (below_alloc (Below.refl w.heap.size w) (.cells #[.float .f32 at_.f0, .float .f32 at_.f1, .float .f32 at_.f2] 46 (0, 0))) (.cells #[.float .f32 0, .float .f32 0, .float .f32 0] 46 (0, 0))) (.cells #[.float .f32 0, .float .f32 0, .float .f32 0] 46 (0, 0))
  go_enter Try.func77, Try.ntmps77
  go_wp2
  have B4 : (((w.alloc (.cells #[.float .f32 at_.f0, .float .f32 at_.f1, .float .f32 at_.f2] 46 (0, 0))).alloc (.cells #[.float .f32 0, .float .f32 0, .float .f32 0] 46 (0, 0))).alloc (.cells #[.float .f32 0, .float .f32 0, .float .f32 0] 46 (0, 0))).heap[w.heap.size]? = some (.cells #[.float .f32 at_.f0, .float .f32 at_.f1, .float .f32 at_.f2] 46 (0, 0)) := blk_alloc (blk_alloc (heap_alloc_new _ _) _) _
  have B6 : (((w.alloc (.cells #[.float .f32 at_.f0, .float .f32 at_.f1, .float .f32 at_.f2] 46 (0, 0))).alloc (.cells #[.float .f32 0, .float .f32 0, .float .f32 0] 46 (0, 0))).alloc (.cells #[.float .f32 0, .float .f32 0, .float .f32 0] 46 (0, 0))).heap[w.heap.size + 1]? = some (.cells #[.float .f32 0, .float .f32 0, .float .f32 0] 46 (0, 0)) := blk_alloc (by simpa using heap_alloc_new (w.alloc (.cells #[.float .f32 at_.f0, .float .f32 at_.f1, .float .f32 at_.f2] 46 (0, 0))) (.cells #[.float .f32 0, .float .f32 0, .float .f32 0] 46 (0, 0))) _
  have B7 : (((w.alloc (.cells #[.float .f32 at_.f0, .float .f32 at_.f1, .float .f32 at_.f2] 46 (0, 0))).alloc (.cells #[.float .f32 0, .float .f32 0, .float .f32 0] 46 (0, 0))).alloc (.cells #[.float .f32 0, .float .f32 0, .float .f32 0] 46 (0, 0))).heap[w.heap.size + 2]? = some (.cells #[.float .f32 0, .float .f32 0, .float .f32 0] 46 (0, 0)) := by simpa using heap_alloc_new ((w.alloc (.cells #[.float .f32 at_.f0, .float .f32 at_.f1, .float .f32 at_.f2] 46 (0, 0))).alloc (.cells #[.float .f32 0, .float .f32 0, .float .f32 0] 46 (0, 0))) (.cells #[.float .f32 0, .float .f32 0, .float .f32 0] 46 (0, 0))
  go_loopg [12] l.length (fun kq v22 w' => ∃ (i : Nat) (v a : S46), v22 = .int .i64 (i : Int) ∧ Aside0 (i + kq = l.length) ∧ Aside0 (EV v a) ∧ Aside0 (iterV (allI at_ core l) kq i v = allV at_ core l) ∧ Aside0 (Below w.heap.size w w') ∧ Aside0 (w'.heap[w.heap.size]? = some (.cells #[.float .f32 at_.f0, .float .f32 at_.f1, .float .f32 at_.f2] 46 (0, 0))) ∧ Aside0 (w'.heap[w.heap.size + 1]? = some (.cells #[.float .f32 0, .float .f32 0, .float .f32 0] 46 (0, 0))) ∧ Aside0 (w'.heap[w.heap.size + 2]? = some (.cells #[.float .f32 a.f0, .float .f32 a.f1, .float .f32 a.f2] 46 (0, 0))))
  case atStart => exact ⟨0, ⟨0, 0, 0⟩, ⟨0, 0, 0⟩, rfl, ⟨by simp⟩, ⟨EV.refl _⟩, ⟨rfl⟩, ⟨hB⟩, ⟨B4⟩, ⟨B6⟩, ⟨B7⟩⟩
  case round =>
    clear B4 B6 B7 hB
    obtain ⟨i, v, a, rfl, HI, HA, HX, HBW, B4, B6, B7⟩ := hrel
    have hi := HI.out
    cases gk with
    | zero =>
      have hc : decide ((i : Int) < (l.length : Int)) = false := by simp; omega
      have hx0 := HX.out
      replace hx0 : v = allV at_ core l := hx0
      subst hx0
      have z0 : wr.cell? ⟨w.heap.size + 2, 0, none⟩ = some (.float .f32 a.f0) := (blk_cell B7.out 0).trans rfl
      have z1 : wr.cell? ⟨w.heap.size + 2, 1, none⟩ = some (.float .f32 a.f1) := (blk_cell B7.out 1).trans rfl
      have z2 : wr.cell? ⟨w.heap.size + 2, 2, none⟩ = some (.float .f32 a.f2) := (blk_cell B7.out 2).trans rfl
      have y0 : wr.cell? ⟨w.heap.size + 1, 0, none⟩ = some (.float .f32 0) := (blk_cell B6.out 0).trans rfl
      have y1 : wr.cell? ⟨w.heap.size + 1, 1, none⟩ = some (.float .f32 0) := (blk_cell B6.out 1).trans rfl
      have y2 : wr.cell? ⟨w.heap.size + 1, 2, none⟩ = some (.float .f32 0) := (blk_cell B6.out 2).trans rfl
      have hf0 := blk_frozen B6.out 0
      have hf1 := blk_frozen B6.out 1
      have hf2 := blk_frozen B6.out 2
      go_wp2
      refine bodyPost_ret (results_cell_row rfl _ _ (w.heap.size + 1) 46 #[.float .f32 a.f0, .float .f32 a.f1, .float .f32 a.f2] (0, 0) _ rfl (by
        refine blk_put (cs := #[.float .f32 a.f0, .float .f32 a.f1, .float .f32 0]) ?_ 2 _ rfl
        refine blk_put (cs := #[.float .f32 a.f0, .float .f32 0, .float .f32 0]) ?_ 1 _ rfl
        refine blk_put (cs := #[.float .f32 0, .float .f32 0, .float .f32 0]) ?_ 0 _ rfl
        exact B6.out) Try.underlying46 rfl (by kernel_rfl)) rfl ?_
      exact ⟨a, rfl, HA.out, below_set (below_set (below_set HBW.out (Nat.le_succ _)) (Nat.le_succ _)) (Nat.le_succ _)⟩
    | succ k1 =>
      have hil : i < l.length := by omega
      have hc : decide ((i : Int) < (l.length : Int)) = true := by simp; omega
      have hwi : wrap64 ((i : Int) + 1) = ((i + 1 : Nat) : Int) := by unfold wrap64; omega
      have hx0 := HX.out
      replace hx0 : iterV (allI at_ core l) k1 (i + 1) (allI at_ core l i v) = allV at_ core l := hx0
      have HX1 := Aside0.mk hx0
      clear hx0 HX
      obtain ⟨ad, Ae, ce, ead, hx_0, hx_1, hlx, hCe⟩ := at_T31 (Kd.C_below HC.out HBW.out) (i : Int) (by omega) (by omega)
      subst ead
      have hfx := thr_fin HAR.out i hil
      rw [Int.toNat_natCast] at hx_0 hx_1
      have hilI : (i : Int) < (l.length : Int) := by omega
      unfold allI at HX1
      change wr.cell? _ = some (.slice Ae (thr l i).f0.length ce) at hx_0
      change wr.cell? _ = some (.float .f32 (thr l i).f1) at hx_1
      change (thr l i).f0.length ≤ ce at hlx
      change Kd.C k46 wr Ae (thr l i).f0.length (thr l i).f0 at hCe
      generalize thr l i = x at hx_0 hx_1 hlx hCe hfx HX1
      have KCx := Aside0.mk hCe
      clear hCe
      obtain ⟨hq1, hq2⟩ := quo_ok hfx.2
      have HQ2 := Aside0.mk hq2
      clear hq2
      go_wp2
      have p0 : wr.cell? ⟨w.heap.size, 0, none⟩ = some (.float .f32 at_.f0) := (blk_cell B4.out 0).trans rfl
      have p1 : wr.cell? ⟨w.heap.size, 1, none⟩ = some (.float .f32 at_.f1) := (blk_cell B4.out 1).trans rfl
      have p2 : wr.cell? ⟨w.heap.size, 2, none⟩ = some (.float .f32 at_.f2) := (blk_cell B4.out 2).trans rfl
      have z0 : wr.cell? ⟨w.heap.size + 2, 0, none⟩ = some (.float .f32 a.f0) := (blk_cell B7.out 0).trans rfl
      have z1 : wr.cell? ⟨w.heap.size + 2, 1, none⟩ = some (.float .f32 a.f1) := (blk_cell B7.out 1).trans rfl
      have z2 : wr.cell? ⟨w.heap.size + 2, 2, none⟩ = some (.float .f32 a.f2) := (blk_cell B7.out 2).trans rfl
      refine start_ (n := 16) (S := fun w' => Below wr.heap.size wr w') (ds := [15]) #[false, false, false, false, false, false, false, false, false, false, false, false, false, false, false, false] (by kernel_rfl) rfl rfl (below_drew1 (Below.refl _ _)) (fun hHeld => ?_)
      refine pure_ (i := 1) (N := some 16) (v := ?_) (a' := ?_) #[false, true, false, false, false, false, false, false, false, false, false, false, false, false, false, false] rfl rfl (by kernel_rfl) (fun _ _ _ h => h) (Or.inl ⟨by rfl, ?_⟩) ?_ ?_
      rotate_left
      · intro w'
        go_simp
        with_reducible rfl
      rotate_left
      · simp only [Act.put, List.setIfInBounds_toArray, List.set_cons_zero, List.set_cons_succ, i64_w, i32_w]
        rfl
      refine pure_ (i := 2) (N := some 17) (v := ?_) (a' := ?_) #[false, true, true, false, false, false, false, false, false, false, false, false, false, false, false, false] rfl rfl (by kernel_rfl) (fun _ _ _ h => h) (Or.inl ⟨by rfl, ?_⟩) ?_ ?_
      rotate_left
      · intro w'
        go_simp
        with_reducible rfl
      rotate_left
      · simp only [Act.put, List.setIfInBounds_toArray, List.set_cons_zero, List.set_cons_succ, i64_w, i32_w]
        rfl
      refine pure_ (i := 3) (N := some 18) (v := ?_) (a' := ?_) #[false, true, true, true, false, false, false, false, false, false, false, false, false, false, false, false] rfl rfl (by kernel_rfl) (fun _ _ _ h => h) (Or.inl ⟨by rfl, ?_⟩) ?_ ?_
      rotate_left
      · intro w'
        go_simp
        with_reducible rfl
      rotate_left
      · simp only [Act.put, List.setIfInBounds_toArray, List.set_cons_zero, List.set_cons_succ, i64_w, i32_w]
        rfl
      refine pure_ (i := 5) (N := some 20) (v := ?_) (a' := ?_) #[false, true, true, true, false, true, false, false, false, false, false, false, false, false, false, false] rfl rfl (by kernel_rfl) (fun _ _ _ h => h) (Or.inl ⟨by rfl, ?_⟩) ?_ ?_
      rotate_left
      · intro w'
        go_simp
        with_reducible rfl
      rotate_left
      · simp only [Act.put, List.setIfInBounds_toArray, List.set_cons_zero, List.set_cons_succ, i64_w, i32_w]
        rfl
      refine pure_ (i := 7) (N := some 22) (v := ?_) (a' := ?_) #[false, true, true, true, false, true, false, true, false, false, false, false, false, false, false, false] rfl rfl (by kernel_rfl) (fun _ _ _ h => h) (Or.inl ⟨by rfl, ?_⟩) ?_ ?_
      rotate_left
      · intro w'
        go_simp
        with_reducible rfl
      rotate_left
      · simp only [Act.put, List.setIfInBounds_toArray, List.set_cons_zero, List.set_cons_succ, i64_w, i32_w]
        rfl
      refine pure_ (i := 8) (N := some 23) (v := ?_) (a' := ?_) #[false, true, true, true, false, true, false, true, true, false, false, false, false, false, false, false] rfl rfl (by kernel_rfl) (fun _ _ _ h => h) (Or.inl ⟨by rfl, ?_⟩) ?_ ?_
      rotate_left
      · intro w'
        go_simp
        with_reducible rfl
      rotate_left
      · simp only [Act.put, List.setIfInBounds_toArray, List.set_cons_zero, List.set_cons_succ, i64_w, i32_w]
        rfl
      refine pure_ (i := 9) (N := some 24) (v := ?_) (a' := ?_) #[false, true, true, true, false, true, false, true, true, true, false, false, false, false, false, false] rfl rfl (by kernel_rfl) (fun _ _ _ h => h) (Or.inl ⟨by rfl, ?_⟩) ?_ ?_
      rotate_left
      · intro w'
        go_simp
        with_reducible rfl
      rotate_left
      · simp only [Act.put, List.setIfInBounds_toArray, List.set_cons_zero, List.set_cons_succ, i64_w, i32_w]
        rfl
      refine pure_ (i := 10) (N := some 25) (v := ?_) (a' := ?_) #[false, true, true, true, false, true, false, true, true, true, true, false, false, false, false, false] rfl rfl (by kernel_rfl) (fun _ _ _ h => h) (Or.inl ⟨by rfl, ?_⟩) ?_ ?_
      rotate_left
      · intro w'
        go_simp
        with_reducible rfl
      rotate_left
      · simp only [Act.put, List.setIfInBounds_toArray, List.set_cons_zero, List.set_cons_succ, i64_w, i32_w]
        rfl
      refine take_ (i := 0) (N := some 15) (v := ?_) (a' := ?_) #[true, true, true, true, false, true, false, true, true, true, true, false, false, false, false, false] rfl rfl (by kernel_rfl) (fun _ _ _ h => h) (Or.inl ⟨by rfl, ?_⟩) hHeld ?_ ?_
      rotate_left
      · rintro w' s0
        have c0 := cell_b s0 z0
        have c1 := cell_b s0 z1
        have c2 := cell_b s0 z2
        go_simp
        with_reducible rfl
      rotate_left
      · simp only [Act.put, List.setIfInBounds_toArray, List.set_cons_zero, List.set_cons_succ, i64_w, i32_w]
        rfl
      refine take_ (i := 4) (N := some 19) (v := ?_) (a' := ?_) #[true, true, true, true, true, true, false, true, true, true, true, false, false, false, false, false] rfl rfl (by kernel_rfl) (fun _ _ _ h => h) (Or.inl ⟨by rfl, ?_⟩) hHeld ?_ ?_
      rotate_left
      · rintro w' s0
        have c0 := cell_b s0 p0
        have c1 := cell_b s0 p1
        have c2 := cell_b s0 p2
        go_simp
        with_reducible rfl
      rotate_left
      · simp only [Act.put, List.setIfInBounds_toArray, List.set_cons_zero, List.set_cons_succ, i64_w, i32_w]
        rfl
      refine take_ (i := 11) (N := some 26) (v := ?_) (a' := ?_) #[true, true, true, true, true, true, false, true, true, true, true, true, false, false, false, false] rfl rfl (by kernel_rfl) (fun _ _ _ h => h) (Or.inl ⟨by rfl, ?_⟩) hHeld ?_ ?_
      rotate_left
      · rintro w' s0
        have c0 := cell_b s0 hx_1
        go_simp
        with_reducible rfl
      rotate_left
      · simp only [Act.put, List.setIfInBounds_toArray, List.set_cons_zero, List.set_cons_succ, i64_w, i32_w]
        rfl
      refine pure_ (i := 12) (N := some 27) (v := ?_) (a' := ?_) #[true, true, true, true, true, true, false, true, true, true, true, true, true, false, false, false] rfl rfl (by kernel_rfl) (fun _ _ _ h => h) (Or.inl ⟨by rfl, ?_⟩) ?_ ?_
      rotate_left
      · intro w'
        go_simp
        with_reducible rfl
      rotate_left
      · simp only [Act.put, List.setIfInBounds_toArray, List.set_cons_zero, List.set_cons_succ, i64_w, i32_w]
        rfl
      refine one_ (i := 6) (N := some 21) #[true, true, true, true, true, true, true, true, true, true, true, true, true, false, false, false] rfl rfl (by kernel_rfl) (by decide) (fun K hK => ?_)
      refine goes_ Try.func118 (by kernel_rfl) rfl #[.pointer (some (ad.add (i * 2))), vv at_, .float .f32 core] (by rfl) rfl rfl (by (try simp only [List.map_toArray, List.map_cons, List.map_nil]); first | done | rfl) ?_
      refine (flow118 (ad.add (i * 2)) Ae ce x.f0 at_ core _ (cell_b (below_drew1 (Below.refl _ _)) hx_0) hlx (Kd.C_below KCx.out (below_drew1 (Below.refl _ _))) hfx.1 hat).mono ?_
      rintro e w1 ⟨fl, rfl, hfl, hb1⟩
      refine ⟨_, rfl, ?_⟩
      have L1 := Aside0.mk (below_step (below_drew1 (Below.refl wr.heap.size wr)) hb1)
      clear hb1
      refine hK.out _ _ L1.out (fun _ => ?_)
      clear hK K
      refine norm_ (a' := ?_) ?_ ?_
      rotate_left
      · show Act.put _ (some 21) _ = _
        simp only [Act.put, List.setIfInBounds_toArray, List.set_cons_zero, List.set_cons_succ]
        rfl
      refine one_ (i := 13) (N := some 28) #[true, true, true, true, true, true, true, true, true, true, true, true, true, true, false, false] rfl rfl (by kernel_rfl) (by decide) (fun K hK => ?_)
      refine goes_ Try.func107 (by kernel_rfl) rfl #[vv fl, .float .f32 (fop .quo .f32 x.f1 1095307227)] (by rfl) rfl rfl (by (try simp only [List.map_toArray, List.map_cons, List.map_nil]); first | done | rfl) ?_
      refine (scale107 _ fl _ _ hfl (E.refl _) _).mono ?_
      rintro e w2 ⟨sc, rfl, hsc, hb2⟩
      refine ⟨_, rfl, ?_⟩
      have L2 := Aside0.mk (below_step L1.out hb2)
      clear hb2
      refine hK.out _ _ L2.out (fun _ => ?_)
      clear hK K
      refine norm_ (a' := ?_) ?_ ?_
      rotate_left
      · show Act.put _ (some 28) _ = _
        simp only [Act.put, List.setIfInBounds_toArray, List.set_cons_zero, List.set_cons_succ]
        rfl
      refine one_ (i := 14) (N := some 29) #[true, true, true, true, true, true, true, true, true, true, true, true, true, true, true, false] rfl rfl (by kernel_rfl) (by decide) (fun K hK => ?_)
      refine goes_ Try.func108 (by kernel_rfl) rfl #[vv a, vv sc] (by rfl) rfl rfl (by (try simp only [List.map_toArray, List.map_cons, List.map_nil]); first | done | rfl) ?_
      refine (add108 _ _ a sc HA.out hsc _).mono ?_
      rintro e w3 ⟨nw, rfl, hnw, hb3⟩
      refine ⟨_, rfl, ?_⟩
      have L3 := Aside0.mk (below_step L2.out hb3)
      clear hb3
      refine hK.out _ _ L3.out (fun _ => ?_)
      clear hK K
      refine norm_ (a' := ?_) ?_ ?_
      rotate_left
      · show Act.put _ (some 29) _ = _
        simp only [Act.put, List.setIfInBounds_toArray, List.set_cons_zero, List.set_cons_succ]
        rfl
      have E4 := Aside0.mk (blk_below B4.out L3.out)
      have E6 := Aside0.mk (blk_below B6.out L3.out)
      have E7 := Aside0.mk (blk_below B7.out L3.out)
      have y0 : w3.cell? ⟨w.heap.size + 2, 0, none⟩ = some (.float .f32 a.f0) := (blk_cell E7.out 0).trans rfl
      have y1 : w3.cell? ⟨w.heap.size + 2, 1, none⟩ = some (.float .f32 a.f1) := (blk_cell E7.out 1).trans rfl
      have y2 : w3.cell? ⟨w.heap.size + 2, 2, none⟩ = some (.float .f32 a.f2) := (blk_cell E7.out 2).trans rfl
      have fy0 := blk_frozen E7.out 0
      have fy1 := blk_frozen E7.out 1
      have fy2 := blk_frozen E7.out 2
      refine last_ (i := 15) (N := none) #[true, true, true, true, true, true, true, true, true, true, true, true, true, true, true, true] rfl rfl (by kernel_rfl) (by decide) (fun K hK => ?_)
      refine skip_ (w1 := ?_) (by rfl) rfl ?_ ?_
      rotate_left
      · go_simp
        rfl
      refine hK.out _ _ ?_
      clear hK K
      refine done_ (by kernel_rfl) ?_
      go_wp2
      go_roundg k1
      case measure => omega
      case rel =>
        refine ⟨i + 1, _, nw, rfl, ⟨by omega⟩, ⟨?_⟩, HX1, ⟨?_⟩, ⟨?_⟩, ⟨?_⟩, ⟨?_⟩⟩
        · rw [← HQ2.out]
          exact hnw
        · have hle2 : w.heap.size ≤ w.heap.size + 2 := by omega
          exact below_set (below_set (below_set (below_step HBW.out L3.out) hle2) hle2) hle2
        · refine blk_far ?_ (by show w.heap.size ≠ w.heap.size + 2; omega) _
          refine blk_far ?_ (by show w.heap.size ≠ w.heap.size + 2; omega) _
          refine blk_far ?_ (by show w.heap.size ≠ w.heap.size + 2; omega) _
          exact E4.out
        · refine blk_far ?_ (by show w.heap.size + 1 ≠ w.heap.size + 2; omega) _
          refine blk_far ?_ (by show w.heap.size + 1 ≠ w.heap.size + 2; omega) _
          refine blk_far ?_ (by show w.heap.size + 1 ≠ w.heap.size + 2; omega) _
          exact E6.out
        · refine blk_put (cs := #[.float .f32 nw.f0, .float .f32 nw.f1, .float .f32 a.f2]) ?_ 2 _ rfl
          refine blk_put (cs := #[.float .f32 nw.f0, .float .f32 a.f1, .float .f32 a.f2]) ?_ 1 _ rfl
          refine blk_put (cs := #[.float .f32 a.f0, .float .f32 a.f1, .float .f32 a.f2]) ?_ 0 _ rfl
          exact E7.out
end XW
end Go.Proofs.Ytffofpiejcolfaa
