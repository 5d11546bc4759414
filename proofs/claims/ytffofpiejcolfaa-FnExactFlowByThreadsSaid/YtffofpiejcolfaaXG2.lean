/- The program's (*Thread).flow: one region draws the order of two calls and two new variables. -/
import Derived.Test.YtffofpiejcolfaaXG
set_option linter.unusedVariables false
set_option linter.unusedSimpArgs false
namespace Go.Proofs.Ytffofpiejcolfaa
open Go.RowKit Go.Proofs.YtffofpiejcolfaaW.PrintWords Go.Proofs.YtffofpiejcolfaaW.PrintLast Go.Proofs.YtffofpiejcolfaaW.PrintMore
attribute [local go_sem] max2_int min2_int max_two min_two max_three min_three max_four min_four   -- for this text's walks alone
namespace XG
open XF XL XC XY XE XN XK L0
set_option maxHeartbeats 4000000 in
set_option maxRecDepth 100000 in
theorem flow118 (ad : Addr) (A : Option Addr) (c : Nat) (l : List S46) (at_ : S46) (core : Nat) (w : World) (f0 : w.cell? ad = some (.slice A l.length c)) (hle : l.length ≤ c) (hC : Kd.C k46 w A l.length l) (hfin : ∀ i, i < l.length → vfin (pt l i) = true) (hat : vfin at_ = true) :
    Calls Try.prog 118 #[.pointer (some ad), vv at_, .float .f32 core] w fun e w' => ∃ v, e = .returned (vv v) ∧ EV (flowV at_ core l) v ∧ Below w.heap.size w w' := by
  have hmx : l.length ≤ 9223372036854775807 := Kd.C_max hC
  have HC := Aside0.mk hC
  have G0 := Aside0.mk f0
  clear hC
  have hB := below_alloc (below_alloc (below_alloc (Below.refl w.heap.size w) (.cells #[.float .f32 at_.f0, .float .f32 at_.f1, .float .f32 at_.f2] 46 (0, 0))) (.cells #[.float .f32 0, .float .f32 0, .float .f32 0] 46 (0, 0))) (.cells #[.float .f32 0, .float .f32 0, .float .f32 0] 46 (0, 0))
  replace f0 := cell_b hB f0
  go_enter Try.func118, Try.ntmps118
  go_wp2
  have B4 : (((w.alloc (.cells #[.float .f32 at_.f0, .float .f32 at_.f1, .float .f32 at_.f2] 46 (0, 0))).alloc (.cells #[.float .f32 0, .float .f32 0, .float .f32 0] 46 (0, 0))).alloc (.cells #[.float .f32 0, .float .f32 0, .float .f32 0] 46 (0, 0))).heap[w.heap.size]? = some (.cells #[.float .f32 at_.f0, .float .f32 at_.f1, .float .f32 at_.f2] 46 (0, 0)) := blk_alloc (blk_alloc (heap_alloc_new _ _) _) _
  have B6 : (((w.alloc (.cells #[.float .f32 at_.f0, .float .f32 at_.f1, .float .f32 at_.f2] 46 (0, 0))).alloc (.cells #[.float .f32 0, .float .f32 0, .float .f32 0] 46 (0, 0))).alloc (.cells #[.float .f32 0, .float .f32 0, .float .f32 0] 46 (0, 0))).heap[w.heap.size + 1]? = some (.cells #[.float .f32 0, .float .f32 0, .float .f32 0] 46 (0, 0)) := blk_alloc (by simpa using heap_alloc_new (w.alloc (.cells #[.float .f32 at_.f0, .float .f32 at_.f1, .float .f32 at_.f2] 46 (0, 0))) (.cells #[.float .f32 0, .float .f32 0, .float .f32 0] 46 (0, 0))) _
  have B7 : (((w.alloc (.cells #[.float .f32 at_.f0, .float .f32 at_.f1, .float .f32 at_.f2] 46 (0, 0))).alloc (.cells #[.float .f32 0, .float .f32 0, .float .f32 0] 46 (0, 0))).alloc (.cells #[.float .f32 0, .float .f32 0, .float .f32 0] 46 (0, 0))).heap[w.heap.size + 2]? = some (.cells #[.float .f32 0, .float .f32 0, .float .f32 0] 46 (0, 0)) := by simpa using heap_alloc_new ((w.alloc (.cells #[.float .f32 at_.f0, .float .f32 at_.f1, .float .f32 at_.f2] 46 (0, 0))).alloc (.cells #[.float .f32 0, .float .f32 0, .float .f32 0] 46 (0, 0))) (.cells #[.float .f32 0, .float .f32 0, .float .f32 0] 46 (0, 0))
  go_loopg [22] l.length (fun kq v22 w' => ∃ (i : Nat) (v a : S46), v22 = .int .i64 (i : Int) ∧ Aside0 (i + kq = l.length) ∧ Aside0 (EV v a) ∧ Aside0 (iterV (flowI at_ core l) kq i v = flowV at_ core l) ∧ Aside0 (Below w.heap.size w w') ∧ Aside0 (w'.heap[w.heap.size]? = some (.cells #[.float .f32 at_.f0, .float .f32 at_.f1, .float .f32 at_.f2] 46 (0, 0))) ∧ Aside0 (w'.heap[w.heap.size + 1]? = some (.cells #[.float .f32 0, .float .f32 0, .float .f32 0] 46 (0, 0))) ∧ Aside0 (w'.heap[w.heap.size + 2]? = some (.cells #[.float .f32 a.f0, .float .f32 a.f1, .float .f32 a.f2] 46 (0, 0))))
  case atStart => exact ⟨0, ⟨0, 0, 0⟩, ⟨0, 0, 0⟩, rfl, ⟨by simp⟩, ⟨EV.refl _⟩, ⟨rfl⟩, ⟨hB⟩, ⟨B4⟩, ⟨B6⟩, ⟨B7⟩⟩
  case round =>
    clear B4 B6 B7 f0 hB
    obtain ⟨i, v, a, rfl, HI, HA, HX, HBW, B4, B6, B7⟩ := hrel
    have hi := HI.out
    cases gk with
    | zero =>
      have hc : decide ((i : Int) < (l.length : Int)) = false := by simp; omega
      have hx0 := HX.out
      replace hx0 : v = flowV at_ core l := hx0
      subst hx0
      have z0 : wr.cell? ⟨w.heap.size + 2, 0, none⟩ = some (.float .f32 a.f0) := (blk_cell B7.out 0).trans rfl
      have z1 : wr.cell? ⟨w.heap.size + 2, 1, none⟩ = some (.float .f32 a.f1) := (blk_cell B7.out 1).trans rfl
      have z2 : wr.cell? ⟨w.heap.size + 2, 2, none⟩ = some (.float .f32 a.f2) := (blk_cell B7.out 2).trans rfl
      have y0 : wr.cell? ⟨w.heap.size + 1, 0, none⟩ = some (.float .f32 0) := (blk_cell B6.out 0).trans rfl
      have y1 : wr.cell? ⟨w.heap.size + 1, 1, none⟩ = some (.float .f32 0) := (blk_cell B6.out 1).trans rfl
      have y2 : wr.cell? ⟨w.heap.size + 1, 2, none⟩ = some (.float .f32 0) := (blk_cell B6.out 2).trans rfl
      have hf0 := blk_frozen B6.out 0
      have hf1 := blk_frozen B6.out 1
      have hf2 := blk_frozen B6.out 2
      go_wp2
      refine bodyPost_ret (results_cell_row rfl _ _ (w.heap.size + 1) 46 #[.float .f32 a.f0, .float .f32 a.f1, .float .f32 a.f2] (0, 0) _ rfl (by
        refine blk_put (cs := #[.float .f32 a.f0, .float .f32 a.f1, .float .f32 0]) ?_ 2 _ rfl
        refine blk_put (cs := #[.float .f32 a.f0, .float .f32 0, .float .f32 0]) ?_ 1 _ rfl
        refine blk_put (cs := #[.float .f32 0, .float .f32 0, .float .f32 0]) ?_ 0 _ rfl
        exact B6.out) Try.underlying46 rfl (by kernel_rfl)) rfl ?_
      exact ⟨a, rfl, HA.out, below_set (below_set (below_set HBW.out (Nat.le_succ _)) (Nat.le_succ _)) (Nat.le_succ _)⟩
    | succ k1 =>
      have hil : i < l.length := by omega
      have hc : decide ((i : Int) < (l.length : Int)) = true := by simp; omega
      have hwi : wrap64 ((i : Int) + 1) = ((i + 1 : Nat) : Int) := by unfold wrap64; omega
      have hx0 := HX.out
      replace hx0 : iterV (flowI at_ core l) k1 (i + 1) (flowI at_ core l i v) = flowV at_ core l := hx0
      have HX1 := Aside0.mk hx0
      clear hx0 HX
      obtain ⟨ae, rfl, hx_0, hx_1, hx_2⟩ := at_T46 (Kd.C_below HC.out HBW.out) (i : Int) (by omega) (by omega)
      have hfx := hfin i hil
      have hfy := hfin ((i + 1) % l.length) (Nat.mod_lt _ (by omega))
      rw [Int.toNat_natCast] at hx_0 hx_1 hx_2
      have hilI : (i : Int) < (l.length : Int) := by omega
      unfold flowI at HX1
      have hy : rd_T46 l (((i + 1) % l.length : Nat) : Int) = nx l i := rfl
      change vfin (nx l i) = true at hfy
      change wr.cell? _ = some (.float .f32 (pt l i).f0) at hx_0
      change wr.cell? _ = some (.float .f32 (pt l i).f1) at hx_1
      change wr.cell? _ = some (.float .f32 (pt l i).f2) at hx_2
      generalize pt l i = x at hx_0 hx_1 hx_2 hfx HX1
      generalize nx l i = y at hfy hy HX1
      go_wp2
      have B4s := Aside0.mk (blk_alloc B4.out (.cells #[.float .f32 x.f0, .float .f32 x.f1, .float .f32 x.f2] 46 (0, 0)))
      have B6s := Aside0.mk (blk_alloc B6.out (.cells #[.float .f32 x.f0, .float .f32 x.f1, .float .f32 x.f2] 46 (0, 0)))
      have B7s := Aside0.mk (blk_alloc B7.out (.cells #[.float .f32 x.f0, .float .f32 x.f1, .float .f32 x.f2] 46 (0, 0)))
      have B9s := Aside0.mk (heap_alloc_new wr (.cells #[.float .f32 x.f0, .float .f32 x.f1, .float .f32 x.f2] 46 (0, 0)))
      have HWs := Aside0.mk (below_alloc HBW.out (.cells #[.float .f32 x.f0, .float .f32 x.f1, .float .f32 x.f2] 46 (0, 0)))
      have k0 : (wr.alloc (.cells #[.float .f32 x.f0, .float .f32 x.f1, .float .f32 x.f2] 46 (0, 0))).cell? ad = some (.slice (some ae) l.length c) := cell_b HWs.out G0.out
      have KC := Aside0.mk (Kd.C_below HC.out HWs.out)
      have N9 := Aside0.mk HBW.out.size
      have p0 : (wr.alloc (.cells #[.float .f32 x.f0, .float .f32 x.f1, .float .f32 x.f2] 46 (0, 0))).cell? ⟨w.heap.size, 0, none⟩ = some (.float .f32 at_.f0) := (blk_cell B4s.out 0).trans rfl
      have p1 : (wr.alloc (.cells #[.float .f32 x.f0, .float .f32 x.f1, .float .f32 x.f2] 46 (0, 0))).cell? ⟨w.heap.size, 1, none⟩ = some (.float .f32 at_.f1) := (blk_cell B4s.out 1).trans rfl
      have p2 : (wr.alloc (.cells #[.float .f32 x.f0, .float .f32 x.f1, .float .f32 x.f2] 46 (0, 0))).cell? ⟨w.heap.size, 2, none⟩ = some (.float .f32 at_.f2) := (blk_cell B4s.out 2).trans rfl
      have x0 : (wr.alloc (.cells #[.float .f32 x.f0, .float .f32 x.f1, .float .f32 x.f2] 46 (0, 0))).cell? ⟨wr.heap.size, 0, none⟩ = some (.float .f32 x.f0) := (blk_cell B9s.out 0).trans rfl
      have x1 : (wr.alloc (.cells #[.float .f32 x.f0, .float .f32 x.f1, .float .f32 x.f2] 46 (0, 0))).cell? ⟨wr.heap.size, 1, none⟩ = some (.float .f32 x.f1) := (blk_cell B9s.out 1).trans rfl
      have x2 : (wr.alloc (.cells #[.float .f32 x.f0, .float .f32 x.f1, .float .f32 x.f2] 46 (0, 0))).cell? ⟨wr.heap.size, 2, none⟩ = some (.float .f32 x.f2) := (blk_cell B9s.out 2).trans rfl
      clear B4 B6 B7 HBW hx_0 hx_1 hx_2
      generalize wr.alloc (.cells #[.float .f32 x.f0, .float .f32 x.f1, .float .f32 x.f2] 46 (0, 0)) = ws at B4s B6s B7s B9s HWs k0 KC p0 p1 p2 x0 x1 x2 ⊢
      generalize wr.heap.size = g9 at N9 B9s x0 x1 x2 ⊢
      refine start_ (n := 12) (S := fun w' => Below ws.heap.size ws w') (ds := [10, 11]) #[false, false, false, false, false, false, false, false, false, false, false, false] (by kernel_rfl) rfl rfl (below_drew1 (Below.refl _ _)) (fun hHeld => ?_)
      refine pure_ (i := 4) (N := some 31) (v := ?_) (a' := ?_) #[false, false, false, false, true, false, false, false, false, false, false, false] rfl rfl (by kernel_rfl) (fun _ _ _ h => h) (Or.inl ⟨by rfl, ?_⟩) ?_ ?_
      rotate_left
      · intro w'
        go_simp
        with_reducible rfl
      rotate_left
      · simp only [Act.put, List.setIfInBounds_toArray, List.set_cons_zero, List.set_cons_succ, i64_w, i32_w]
        rfl
      refine pure_ (i := 5) (N := some 32) (v := ?_) (a' := ?_) #[false, false, false, false, true, true, false, false, false, false, false, false] rfl rfl (by kernel_rfl) (fun _ _ _ h => h) (Or.inl ⟨by rfl, ?_⟩) ?_ ?_
      rotate_left
      · intro w'
        go_simp
        with_reducible rfl
      rotate_left
      · simp only [Act.put, List.setIfInBounds_toArray, List.set_cons_zero, List.set_cons_succ, i64_w, i32_w]
        rfl
      refine take_ (i := 0) (N := some 27) (v := ?_) (a' := ?_) #[true, false, false, false, true, true, false, false, false, false, false, false] rfl rfl (by kernel_rfl) (fun _ _ _ h => h) (Or.inl ⟨by rfl, ?_⟩) hHeld ?_ ?_
      rotate_left
      · rintro w' s0
        have c0 := cell_b s0 p0
        have c1 := cell_b s0 p1
        have c2 := cell_b s0 p2
        go_simp
        with_reducible rfl
      rotate_left
      · simp only [Act.put, List.setIfInBounds_toArray, List.set_cons_zero, List.set_cons_succ, i64_w, i32_w]
        rfl
      refine take_ (i := 1) (N := some 28) (v := ?_) (a' := ?_) #[true, true, false, false, true, true, false, false, false, false, false, false] rfl rfl (by kernel_rfl) (fun _ _ _ h => h) (Or.inl ⟨by rfl, ?_⟩) hHeld ?_ ?_
      rotate_left
      · rintro w' s0
        have c0 := cell_b s0 x0
        have c1 := cell_b s0 x1
        have c2 := cell_b s0 x2
        go_simp
        with_reducible rfl
      rotate_left
      · simp only [Act.put, List.setIfInBounds_toArray, List.set_cons_zero, List.set_cons_succ, i64_w, i32_w]
        rfl
      refine take_ (i := 3) (N := some 30) (v := ?_) (a' := ?_) #[true, true, false, true, true, true, false, false, false, false, false, false] rfl rfl (by kernel_rfl) (fun _ _ _ h => h) (Or.inl ⟨by rfl, ?_⟩) hHeld ?_ ?_
      rotate_left
      · rintro w' s0
        have c0 := cell_b s0 p0
        have c1 := cell_b s0 p1
        have c2 := cell_b s0 p2
        go_simp
        with_reducible rfl
      rotate_left
      · simp only [Act.put, List.setIfInBounds_toArray, List.set_cons_zero, List.set_cons_succ, i64_w, i32_w]
        rfl
      refine join_ (σ := S46 × S46 × Nat × Nat) 2 #[true, true, true, true, true, true, true, true, true, true, false, false] (fun s => [(29, vv s.1), (33, vv y), (34, vv s.2.1), (10, .pointer (some ⟨s.2.2.1, 0, none⟩)), (11, .pointer (some ⟨s.2.2.2, 0, none⟩))]) (fun s w' => Aside0 (Below ws.heap.size ws w') ∧ Aside0 (EV (opV .sub at_ x) s.1) ∧ Aside0 (EV (opV .sub at_ y) s.2.1) ∧ Aside0 (w'.heap[s.2.2.1]? = some (.cells #[.float .f32 0, .float .f32 0, .float .f32 0] 46 (0, 0)) ∧ ws.heap.size ≤ s.2.2.1) ∧ Aside0 (w'.heap[s.2.2.2]? = some (.cells #[.float .f32 0, .float .f32 0, .float .f32 0] 46 (0, 0)) ∧ ws.heap.size ≤ s.2.2.2) ∧ Aside0 (s.2.2.1 ≠ s.2.2.2)) ?_ (fun j311 => ?_)
      · rintro ⟨r, t, g10, g11⟩ w' ⟨HB, QR, QS, GE, GF, NE⟩
        refine norm_ (a' := ?_) ?_ ?_
        rotate_left
        · simp only [putAll, Act.put, List.setIfInBounds_toArray, List.set_cons_zero, List.set_cons_succ]
          rfl
        have hr : r = opV .sub at_ x := EV_is QR.out (sub_v hat hfx)
        have ht : t = opV .sub at_ y := EV_is QS.out (sub_v hat hfy)
        have RV := Aside0.mk (show isV r by rw [hr]; exact sub_v hat hfx)
        have TV := Aside0.mk (show isV t by rw [ht]; exact sub_v hat hfy)
        rw [← hr, ← ht] at HX1
        clear QR QS hr ht
        have ne1 := NE.out
        have ne2 := NE.out.symm
        have a0 : w'.cell? ⟨g10, 0, none⟩ = some (.float .f32 0) := (blk_cell GE.out.1 0).trans rfl
        have a1 : w'.cell? ⟨g10, 1, none⟩ = some (.float .f32 0) := (blk_cell GE.out.1 1).trans rfl
        have a2 : w'.cell? ⟨g10, 2, none⟩ = some (.float .f32 0) := (blk_cell GE.out.1 2).trans rfl
        have fa0 := blk_frozen GE.out.1 0
        have fa1 := blk_frozen GE.out.1 1
        have fa2 := blk_frozen GE.out.1 2
        have b0 : w'.cell? ⟨g11, 0, none⟩ = some (.float .f32 0) := (blk_cell GF.out.1 0).trans rfl
        have b1 : w'.cell? ⟨g11, 1, none⟩ = some (.float .f32 0) := (blk_cell GF.out.1 1).trans rfl
        have b2 : w'.cell? ⟨g11, 2, none⟩ = some (.float .f32 0) := (blk_cell GF.out.1 2).trans rfl
        have fb0 := blk_frozen GF.out.1 0
        have fb1 := blk_frozen GF.out.1 1
        have fb2 := blk_frozen GF.out.1 2
        refine last_ (i := 10) (N := none) #[true, true, true, true, true, true, true, true, true, true, true, false] rfl rfl (by kernel_rfl) (by decide) (fun K hK => ?_)
        refine skip_ (w1 := ?_) (by rfl) rfl ?_ ?_
        rotate_left
        · go_simp
          rfl
        refine hK.out _ _ ?_
        clear hK K
        refine last_ (i := 11) (N := none) #[true, true, true, true, true, true, true, true, true, true, true, true] rfl rfl (by kernel_rfl) (by decide) (fun K hK => ?_)
        refine skip_ (w1 := ?_) (by rfl) rfl ?_ ?_
        rotate_left
        · go_simp
          rfl
        refine hK.out _ _ ?_
        clear hK K
        refine done_ (by kernel_rfl) ?_
        go_wp2
        have B4 := Aside0.mk (blk_below B4s.out HB.out)
        have B6 := Aside0.mk (blk_below B6s.out HB.out)
        have B7 := Aside0.mk (blk_below B7s.out HB.out)
        have HW := Aside0.mk (below_step HWs.out HB.out)
        have LE := Aside0.mk (Nat.le_trans HWs.out.size GE.out.2)
        have LF := Aside0.mk (Nat.le_trans HWs.out.size GF.out.2)
        have l4 := blk_lt B4s.out
        have l6 := blk_lt B6s.out
        have l7 := blk_lt B7s.out
        have l10 := GE.out.2
        have l11 := GF.out.2
        have far6 : ∀ (g : Nat) (cs : Array Value), g < ws.heap.size → w'.heap[g]? = some (.cells cs 46 (0, 0)) → (((((((w'.setCell ⟨g10, 0, none⟩ (.float .f32 r.f0)).setCell ⟨g10, 1, none⟩ (.float .f32 r.f1)).setCell ⟨g10, 2, none⟩ (.float .f32 r.f2)).setCell ⟨g11, 0, none⟩ (.float .f32 t.f0)).setCell ⟨g11, 1, none⟩ (.float .f32 t.f1)).setCell ⟨g11, 2, none⟩ (.float .f32 t.f2))).heap[g]? = some (.cells cs 46 (0, 0)) := by
          intro g cs hg h
          refine blk_far ?_ (by show g ≠ g11; omega) _
          refine blk_far ?_ (by show g ≠ g11; omega) _
          refine blk_far ?_ (by show g ≠ g11; omega) _
          refine blk_far ?_ (by show g ≠ g10; omega) _
          refine blk_far ?_ (by show g ≠ g10; omega) _
          refine blk_far ?_ (by show g ≠ g10; omega) _
          exact h
        have C4 := Aside0.mk (far6 _ _ l4 B4.out)
        have C6 := Aside0.mk (far6 _ _ l6 B6.out)
        have C7 := Aside0.mk (far6 _ _ l7 B7.out)
        have C10 : Aside0 ((((((((w'.setCell ⟨g10, 0, none⟩ (.float .f32 r.f0)).setCell ⟨g10, 1, none⟩ (.float .f32 r.f1)).setCell ⟨g10, 2, none⟩ (.float .f32 r.f2)).setCell ⟨g11, 0, none⟩ (.float .f32 t.f0)).setCell ⟨g11, 1, none⟩ (.float .f32 t.f1)).setCell ⟨g11, 2, none⟩ (.float .f32 t.f2))).heap[g10]? = some (.cells #[.float .f32 r.f0, .float .f32 r.f1, .float .f32 r.f2] 46 (0, 0))) := ⟨by
          refine blk_far ?_ (by show g10 ≠ g11; omega) _
          refine blk_far ?_ (by show g10 ≠ g11; omega) _
          refine blk_far ?_ (by show g10 ≠ g11; omega) _
          refine blk_put (cs := #[.float .f32 r.f0, .float .f32 r.f1, .float .f32 0]) ?_ 2 _ rfl
          refine blk_put (cs := #[.float .f32 r.f0, .float .f32 0, .float .f32 0]) ?_ 1 _ rfl
          refine blk_put (cs := #[.float .f32 0, .float .f32 0, .float .f32 0]) ?_ 0 _ rfl
          exact GE.out.1⟩
        have C11 : Aside0 ((((((((w'.setCell ⟨g10, 0, none⟩ (.float .f32 r.f0)).setCell ⟨g10, 1, none⟩ (.float .f32 r.f1)).setCell ⟨g10, 2, none⟩ (.float .f32 r.f2)).setCell ⟨g11, 0, none⟩ (.float .f32 t.f0)).setCell ⟨g11, 1, none⟩ (.float .f32 t.f1)).setCell ⟨g11, 2, none⟩ (.float .f32 t.f2))).heap[g11]? = some (.cells #[.float .f32 t.f0, .float .f32 t.f1, .float .f32 t.f2] 46 (0, 0))) := ⟨by
          refine blk_put (cs := #[.float .f32 t.f0, .float .f32 t.f1, .float .f32 0]) ?_ 2 _ rfl
          refine blk_put (cs := #[.float .f32 t.f0, .float .f32 0, .float .f32 0]) ?_ 1 _ rfl
          refine blk_put (cs := #[.float .f32 0, .float .f32 0, .float .f32 0]) ?_ 0 _ rfl
          refine blk_far ?_ (by show g11 ≠ g10; omega) _
          refine blk_far ?_ (by show g11 ≠ g10; omega) _
          refine blk_far ?_ (by show g11 ≠ g10; omega) _
          exact GF.out.1⟩
        have HW6 := Aside0.mk (below_set (below_set (below_set (below_set (below_set (below_set HW.out LE.out) LE.out) LE.out) LF.out) LF.out) LF.out : Below w.heap.size w (((((((w'.setCell ⟨g10, 0, none⟩ (.float .f32 r.f0)).setCell ⟨g10, 1, none⟩ (.float .f32 r.f1)).setCell ⟨g10, 2, none⟩ (.float .f32 r.f2)).setCell ⟨g11, 0, none⟩ (.float .f32 t.f0)).setCell ⟨g11, 1, none⟩ (.float .f32 t.f1)).setCell ⟨g11, 2, none⟩ (.float .f32 t.f2))))
        clear far6 B4 B6 B7 HW HB GE GF a0 a1 a2 b0 b1 b2 fa0 fa1 fa2 fb0 fb1 fb2 l4 l6 l7 l10 l11
        generalize (((((((w'.setCell ⟨g10, 0, none⟩ (.float .f32 r.f0)).setCell ⟨g10, 1, none⟩ (.float .f32 r.f1)).setCell ⟨g10, 2, none⟩ (.float .f32 r.f2)).setCell ⟨g11, 0, none⟩ (.float .f32 t.f0)).setCell ⟨g11, 1, none⟩ (.float .f32 t.f1)).setCell ⟨g11, 2, none⟩ (.float .f32 t.f2))) = w6 at C4 C6 C7 C10 C11 HW6 ⊢
        have u0 : w6.cell? ⟨g10, 0, none⟩ = some (.float .f32 r.f0) := (blk_cell C10.out 0).trans rfl
        have u1 : w6.cell? ⟨g10, 1, none⟩ = some (.float .f32 r.f1) := (blk_cell C10.out 1).trans rfl
        have u2 : w6.cell? ⟨g10, 2, none⟩ = some (.float .f32 r.f2) := (blk_cell C10.out 2).trans rfl
        have v0 : w6.cell? ⟨g11, 0, none⟩ = some (.float .f32 t.f0) := (blk_cell C11.out 0).trans rfl
        have v1 : w6.cell? ⟨g11, 1, none⟩ = some (.float .f32 t.f1) := (blk_cell C11.out 1).trans rfl
        have v2 : w6.cell? ⟨g11, 2, none⟩ = some (.float .f32 t.f2) := (blk_cell C11.out 2).trans rfl
        refine start_ (n := 6) (S := fun w' => Below w6.heap.size w6 w') (ds := []) #[false, false, false, false, false, false] (by kernel_rfl) rfl rfl (below_drew1 (Below.refl _ _)) (fun hHeld => ?_)
        refine take_ (i := 0) (N := some 35) (v := ?_) (a' := ?_) #[true, false, false, false, false, false] rfl rfl (by kernel_rfl) (fun _ _ _ h => h) (Or.inl ⟨by rfl, ?_⟩) hHeld ?_ ?_
        rotate_left
        · rintro w' s0
          have c0 := cell_b s0 u0
          have c1 := cell_b s0 u1
          have c2 := cell_b s0 u2
          go_simp
          with_reducible rfl
        rotate_left
        · simp only [Act.put, List.setIfInBounds_toArray, List.set_cons_zero, List.set_cons_succ, i64_w, i32_w]
          rfl
        refine take_ (i := 2) (N := some 37) (v := ?_) (a' := ?_) #[true, false, true, false, false, false] rfl rfl (by kernel_rfl) (fun _ _ _ h => h) (Or.inl ⟨by rfl, ?_⟩) hHeld ?_ ?_
        rotate_left
        · rintro w' s0
          have c0 := cell_b s0 v0
          have c1 := cell_b s0 v1
          have c2 := cell_b s0 v2
          go_simp
          with_reducible rfl
        rotate_left
        · simp only [Act.put, List.setIfInBounds_toArray, List.set_cons_zero, List.set_cons_succ, i64_w, i32_w]
          rfl
        refine one_ (i := 1) (N := some 36) #[true, true, true, false, false, false] rfl rfl (by kernel_rfl) (by decide) (fun K hK => ?_)
        refine goes_ Try.func97 (by kernel_rfl) rfl #[vv r] (by rfl) rfl rfl (by (try simp only [List.map_toArray, List.map_cons, List.map_nil]); first | done | rfl) ?_
        refine (impl_SizeOfVector.calls _ _ _ (szV r) _ (size_ok RV.out).1).mono ?_
        rintro e w7 ⟨rfl, hb7⟩
        refine ⟨_, rfl, ?_⟩
        have HS7 := Aside0.mk (below_step (below_drew1 (Below.refl w6.heap.size w6)) hb7)
        clear hb7
        refine hK.out _ _ HS7.out (fun _ => ?_)
        clear hK K
        refine norm_ (a' := ?_) ?_ ?_
        rotate_left
        · show Act.put _ (some 36) _ = _
          simp only [Act.put, List.setIfInBounds_toArray, List.set_cons_zero, List.set_cons_succ]
          rfl
        refine one_ (i := 3) (N := some 38) #[true, true, true, true, false, false] rfl rfl (by kernel_rfl) (by decide) (fun K hK => ?_)
        refine goes_ Try.func97 (by kernel_rfl) rfl #[vv t] (by rfl) rfl rfl (by (try simp only [List.map_toArray, List.map_cons, List.map_nil]); first | done | rfl) ?_
        refine (impl_SizeOfVector.calls _ _ _ (szV t) _ (size_ok TV.out).1).mono ?_
        rintro e w8 ⟨rfl, hb8⟩
        refine ⟨_, rfl, ?_⟩
        have HS8 := Aside0.mk (below_step HS7.out hb8)
        clear hb8
        refine hK.out _ _ HS8.out (fun _ => ?_)
        clear hK K
        refine norm_ (a' := ?_) ?_ ?_
        rotate_left
        · show Act.put _ (some 38) _ = _
          simp only [Act.put, List.setIfInBounds_toArray, List.set_cons_zero, List.set_cons_succ]
          rfl
        refine pure_ (i := 4) (N := some 12) (v := ?_) (a' := ?_) #[true, true, true, true, true, false] rfl rfl (by kernel_rfl) (fun _ _ _ h => h) (Or.inl ⟨by rfl, ?_⟩) ?_ ?_
        rotate_left
        · intro w'
          go_simp
          with_reducible rfl
        rotate_left
        · simp only [Act.put, List.setIfInBounds_toArray, List.set_cons_zero, List.set_cons_succ, i64_w, i32_w]
          rfl
        refine pure_ (i := 5) (N := some 13) (v := ?_) (a' := ?_) #[true, true, true, true, true, true] rfl rfl (by kernel_rfl) (fun _ _ _ h => h) (Or.inl ⟨by rfl, ?_⟩) ?_ ?_
        rotate_left
        · intro w'
          go_simp
          with_reducible rfl
        rotate_left
        · simp only [Act.put, List.setIfInBounds_toArray, List.set_cons_zero, List.set_cons_succ, i64_w, i32_w]
          rfl
        refine done_ (by kernel_rfl) ?_
        replace u0 := cell_b HS8.out u0
        replace u1 := cell_b HS8.out u1
        replace u2 := cell_b HS8.out u2
        replace v0 := cell_b HS8.out v0
        replace v1 := cell_b HS8.out v1
        replace v2 := cell_b HS8.out v2
        cases hgt : (FloatKind.f32.format.order (dnV r t core) 0 == some .gt) with
        | false =>
          have HG := Aside0.mk hgt
          clear hgt
          go_wp2_with (first | ((with_reducible refine gate_dst (N := 52) rfl ?_); refine wpList_ar rfl _ _ _ _ _ rfl arA _ _ rfl rfl (by assumption) (by assumption) ?_; intro dd nz hdd; have hqg : (FloatKind.f32.format.order dd 0 == some .gt) = false := by rw [order_E hdd]; exact HG.out) | (refine wpList_ar rfl _ _ _ _ _ rfl (by first | exact arS | exact arA | exact arM | exact arQ) _ _ rfl rfl (by first | assumption | exact E.refl _) (by first | assumption | exact E.refl _) ?_; intro cz nz hz) | (go_at_call 62; refine (inner62 r t r t (EV.refl r) (EV.refl t) _).mono ?_; rintro e w9 ⟨nn, rfl, hnn, hb9⟩))
          go_roundg k1
          case measure => omega
          case rel =>
            have HE := below_step (pw_below_drewN HS8.out _) hb9
            refine ⟨i + 1, v, a, rfl, ⟨by omega⟩, HA, ⟨?_⟩, ⟨pw_below_drewN (below_step HW6.out HE) _⟩, ⟨blk_drewN (blk_below C4.out HE) _⟩, ⟨blk_drewN (blk_below C6.out HE) _⟩, ⟨blk_drewN (blk_below C7.out HE) _⟩⟩
            have := HX1.out
            unfold flowS at this
            rw [HG.out, if_neg (by decide)] at this
            exact this
        | true =>
          have HG := Aside0.mk hgt
          clear hgt
          go_wp2_with (first | ((with_reducible refine gate_dst (N := 52) rfl ?_); refine wpList_ar rfl _ _ _ _ _ rfl arA _ _ rfl rfl (by assumption) (by assumption) ?_; intro dd nz hdd; have hqg : (FloatKind.f32.format.order dd 0 == some .gt) = true := by rw [order_E hdd]; exact HG.out) | (refine wpList_ar rfl _ _ _ _ _ rfl (by first | exact arS | exact arA | exact arM | exact arQ) _ _ rfl rfl (by first | assumption | exact E.refl _) (by first | assumption | exact E.refl _) ?_; intro cz nz hz) | (go_at_call 62; refine (inner62 r t r t (EV.refl r) (EV.refl t) _).mono ?_; rintro e w9 ⟨nn, rfl, hnn, hb9⟩))
          have HE := Aside0.mk (below_step (pw_below_drewN HS8.out _) hb9)
          have D4 := Aside0.mk (blk_below C4.out HE.out)
          have D6 := Aside0.mk (blk_below C6.out HE.out)
          have D7 := Aside0.mk (blk_below C7.out HE.out)
          have D10 := Aside0.mk (blk_below C10.out HE.out)
          have D11 := Aside0.mk (blk_below C11.out HE.out)
          have HW9 := Aside0.mk (below_step HW6.out HE.out)
          clear HE HS8 HS7 hb9 u0 u1 u2 v0 v1 v2 C4 C6 C7 C10 C11 HW6
          have hdq : dd = dnV r t core := E_gt hdd HG.out
          obtain ⟨fa, hfa, _⟩ := add_nn (size_ok RV.out).2.2 (size_ok TV.out).2.2
          have hfk := (fok_of hfa).1
          have hfv : fop .add .f32 (szV r) (szV t) = ar .add (szV r) (szV t) := by
            unfold ar
            rw [hfa, (fok_of hfa).2]
            rfl
          have HFV := Aside0.mk hfv
          have HDQ := Aside0.mk hdq
          clear hfv hdq hfa
          have u0 : w9.cell? ⟨g10, 0, none⟩ = some (.float .f32 r.f0) := (blk_cell D10.out 0).trans rfl
          have u1 : w9.cell? ⟨g10, 1, none⟩ = some (.float .f32 r.f1) := (blk_cell D10.out 1).trans rfl
          have u2 : w9.cell? ⟨g10, 2, none⟩ = some (.float .f32 r.f2) := (blk_cell D10.out 2).trans rfl
          have v0 : w9.cell? ⟨g11, 0, none⟩ = some (.float .f32 t.f0) := (blk_cell D11.out 0).trans rfl
          have v1 : w9.cell? ⟨g11, 1, none⟩ = some (.float .f32 t.f1) := (blk_cell D11.out 1).trans rfl
          have v2 : w9.cell? ⟨g11, 2, none⟩ = some (.float .f32 t.f2) := (blk_cell D11.out 2).trans rfl
          have z0 : w9.cell? ⟨w.heap.size + 2, 0, none⟩ = some (.float .f32 a.f0) := (blk_cell D7.out 0).trans rfl
          have z1 : w9.cell? ⟨w.heap.size + 2, 1, none⟩ = some (.float .f32 a.f1) := (blk_cell D7.out 1).trans rfl
          have z2 : w9.cell? ⟨w.heap.size + 2, 2, none⟩ = some (.float .f32 a.f2) := (blk_cell D7.out 2).trans rfl
          refine start_ (n := 12) (S := fun w' => Below w9.heap.size w9 w') (ds := [11]) #[false, false, false, false, false, false, false, false, false, false, false, false] (by kernel_rfl) rfl rfl (below_drew1 (pw_below_drewN (Below.refl _ _) _)) (fun hHeld => ?_)
          refine pure_ (i := 4) (N := some 59) (v := ?_) (a' := ?_) #[false, false, false, false, true, false, false, false, false, false, false, false] rfl rfl (by kernel_rfl) (fun _ _ _ h => h) (Or.inl ⟨by rfl, ?_⟩) ?_ ?_
          rotate_left
          · intro w'
            go_simp
            with_reducible rfl
          rotate_left
          · simp only [Act.put, List.setIfInBounds_toArray, List.set_cons_zero, List.set_cons_succ, i64_w, i32_w]
            rfl
          refine pure_ (i := 5) (N := some 60) (v := ?_) (a' := ?_) #[false, false, false, false, true, true, false, false, false, false, false, false] rfl rfl (by kernel_rfl) (fun _ _ _ h => h) (Or.inl ⟨by rfl, ?_⟩) ?_ ?_
          rotate_left
          · intro w'
            go_simp
            with_reducible rfl
          rotate_left
          · simp only [Act.put, List.setIfInBounds_toArray, List.set_cons_zero, List.set_cons_succ, i64_w, i32_w]
            rfl
          refine pure_ (i := 7) (N := some 62) (v := ?_) (a' := ?_) #[false, false, false, false, true, true, false, true, false, false, false, false] rfl rfl (by kernel_rfl) (fun _ _ _ h => h) (Or.inl ⟨by rfl, ?_⟩) ?_ ?_
          rotate_left
          · intro w'
            go_simp
            with_reducible rfl
          rotate_left
          · simp only [Act.put, List.setIfInBounds_toArray, List.set_cons_zero, List.set_cons_succ, i64_w, i32_w]
            rfl
          refine pure_ (i := 6) (N := some 61) (v := ?_) (a' := ?_) #[false, false, false, false, true, true, true, true, false, false, false, false] rfl rfl (by kernel_rfl) (fun _ _ _ h => h) (Or.inl ⟨by rfl, ?_⟩) ?_ ?_
          rotate_left
          · intro w'
            go_simp
            with_reducible rfl
          rotate_left
          · simp only [Act.put, List.setIfInBounds_toArray, List.set_cons_zero, List.set_cons_succ, i64_w, i32_w]
            rfl
          refine take_ (i := 0) (N := some 55) (v := ?_) (a' := ?_) #[true, false, false, false, true, true, true, true, false, false, false, false] rfl rfl (by kernel_rfl) (fun _ _ _ h => h) (Or.inl ⟨by rfl, ?_⟩) hHeld ?_ ?_
          rotate_left
          · rintro w' s0
            have c0 := cell_b s0 z0
            have c1 := cell_b s0 z1
            have c2 := cell_b s0 z2
            go_simp
            with_reducible rfl
          rotate_left
          · simp only [Act.put, List.setIfInBounds_toArray, List.set_cons_zero, List.set_cons_succ, i64_w, i32_w]
            rfl
          refine take_ (i := 1) (N := some 56) (v := ?_) (a' := ?_) #[true, true, false, false, true, true, true, true, false, false, false, false] rfl rfl (by kernel_rfl) (fun _ _ _ h => h) (Or.inl ⟨by rfl, ?_⟩) hHeld ?_ ?_
          rotate_left
          · rintro w' s0
            have c0 := cell_b s0 u0
            have c1 := cell_b s0 u1
            have c2 := cell_b s0 u2
            go_simp
            with_reducible rfl
          rotate_left
          · simp only [Act.put, List.setIfInBounds_toArray, List.set_cons_zero, List.set_cons_succ, i64_w, i32_w]
            rfl
          refine take_ (i := 2) (N := some 57) (v := ?_) (a' := ?_) #[true, true, true, false, true, true, true, true, false, false, false, false] rfl rfl (by kernel_rfl) (fun _ _ _ h => h) (Or.inl ⟨by rfl, ?_⟩) hHeld ?_ ?_
          rotate_left
          · rintro w' s0
            have c0 := cell_b s0 v0
            have c1 := cell_b s0 v1
            have c2 := cell_b s0 v2
            go_simp
            with_reducible rfl
          rotate_left
          · simp only [Act.put, List.setIfInBounds_toArray, List.set_cons_zero, List.set_cons_succ, i64_w, i32_w]
            rfl
          refine join_ (σ := S46 × Nat) 3 #[true, true, true, true, true, true, true, true, true, false, false, false] (fun s => [(58, vv s.1), (63, .float .f32 s.2)]) (fun s w' => Aside0 (Below w9.heap.size w9 w') ∧ Aside0 (EV (crossV r t) s.1) ∧ Aside0 (E (ar .quo (fop .add .f32 (szV r) (szV t)) dd) s.2)) ?_ (fun hcont => ?_)
          · rintro ⟨cr, qu⟩ w' ⟨HB, HC1, HQ1⟩
            refine norm_ (a' := ?_) ?_ ?_
            rotate_left
            · simp only [putAll, Act.put, List.setIfInBounds_toArray, List.set_cons_zero, List.set_cons_succ]
              rfl
            refine one_ (i := 9) (N := some 64) #[true, true, true, true, true, true, true, true, true, true, false, false] rfl rfl (by kernel_rfl) (by decide) (fun K hK => ?_)
            refine goes_ Try.func107 (by kernel_rfl) rfl #[vv cr, .float .f32 qu] (by rfl) rfl rfl (by (try simp only [List.map_toArray, List.map_cons, List.map_nil]); first | done | rfl) ?_
            refine (scale107 _ cr _ qu HC1.out HQ1.out _).mono ?_
            rintro e w10 ⟨sc, rfl, hsc, hb10⟩
            refine ⟨_, rfl, ?_⟩
            have L10 := Aside0.mk (below_step HB.out hb10)
            clear hb10
            refine hK.out _ _ L10.out (fun _ => ?_)
            clear hK K
            refine norm_ (a' := ?_) ?_ ?_
            rotate_left
            · show Act.put _ (some 64) _ = _
              simp only [Act.put, List.setIfInBounds_toArray, List.set_cons_zero, List.set_cons_succ]
              rfl
            refine one_ (i := 10) (N := some 65) #[true, true, true, true, true, true, true, true, true, true, true, false] rfl rfl (by kernel_rfl) (by decide) (fun K hK => ?_)
            refine goes_ Try.func108 (by kernel_rfl) rfl #[vv a, vv sc] (by rfl) rfl rfl (by (try simp only [List.map_toArray, List.map_cons, List.map_nil]); first | done | rfl) ?_
            refine (add108 _ _ a sc HA.out hsc _).mono ?_
            rintro e w11 ⟨nw, rfl, hnw, hb11⟩
            refine ⟨_, rfl, ?_⟩
            have L11 := Aside0.mk (below_step L10.out hb11)
            clear hb11
            refine hK.out _ _ L11.out (fun _ => ?_)
            clear hK K
            refine norm_ (a' := ?_) ?_ ?_
            rotate_left
            · show Act.put _ (some 65) _ = _
              simp only [Act.put, List.setIfInBounds_toArray, List.set_cons_zero, List.set_cons_succ]
              rfl
            have E4 := Aside0.mk (blk_below D4.out L11.out)
            have E6 := Aside0.mk (blk_below D6.out L11.out)
            have E7 := Aside0.mk (blk_below D7.out L11.out)
            have y0 : w11.cell? ⟨w.heap.size + 2, 0, none⟩ = some (.float .f32 a.f0) := (blk_cell E7.out 0).trans rfl
            have y1 : w11.cell? ⟨w.heap.size + 2, 1, none⟩ = some (.float .f32 a.f1) := (blk_cell E7.out 1).trans rfl
            have y2 : w11.cell? ⟨w.heap.size + 2, 2, none⟩ = some (.float .f32 a.f2) := (blk_cell E7.out 2).trans rfl
            have fy0 := blk_frozen E7.out 0
            have fy1 := blk_frozen E7.out 1
            have fy2 := blk_frozen E7.out 2
            refine last_ (i := 11) (N := none) #[true, true, true, true, true, true, true, true, true, true, true, true] rfl rfl (by kernel_rfl) (by decide) (fun K hK => ?_)
            refine skip_ (w1 := ?_) (by rfl) rfl ?_ ?_
            rotate_left
            · go_simp
              rfl
            refine hK.out _ _ ?_
            clear hK K
            refine done_ (by kernel_rfl) ?_
            go_wp2
            go_roundg k1
            case measure => omega
            case rel =>
              refine ⟨i + 1, _, nw, rfl, ⟨by omega⟩, ⟨?_⟩, HX1, ⟨?_⟩, ⟨?_⟩, ⟨?_⟩, ⟨?_⟩⟩
              · unfold flowS
                rw [if_pos HG.out, ← HDQ.out, ← HFV.out]
                exact hnw
              · have hle2 : w.heap.size ≤ w.heap.size + 2 := by omega
                exact below_set (below_set (below_set (below_step HW9.out L11.out) hle2) hle2) hle2
              · refine blk_far ?_ (by show w.heap.size ≠ w.heap.size + 2; omega) _
                refine blk_far ?_ (by show w.heap.size ≠ w.heap.size + 2; omega) _
                refine blk_far ?_ (by show w.heap.size ≠ w.heap.size + 2; omega) _
                exact E4.out
              · refine blk_far ?_ (by show w.heap.size + 1 ≠ w.heap.size + 2; omega) _
                refine blk_far ?_ (by show w.heap.size + 1 ≠ w.heap.size + 2; omega) _
                refine blk_far ?_ (by show w.heap.size + 1 ≠ w.heap.size + 2; omega) _
                exact E6.out
              · refine blk_put (cs := #[.float .f32 nw.f0, .float .f32 nw.f1, .float .f32 a.f2]) ?_ 2 _ rfl
                refine blk_put (cs := #[.float .f32 nw.f0, .float .f32 a.f1, .float .f32 a.f2]) ?_ 1 _ rfl
                refine blk_put (cs := #[.float .f32 a.f0, .float .f32 a.f1, .float .f32 a.f2]) ?_ 0 _ rfl
                exact E7.out
          refine two_ (i := 3) (j := 8) (Ni := some 58) (Nj := some 63) #[true, true, true, true, true, true, true, true, false, false, false, false] #[true, true, true, false, true, true, true, true, true, false, false, false] rfl rfl rfl rfl (by kernel_rfl) (by decide) (by decide) (fun K hK => ?_) (fun K hK => ?_)
          · refine goes_ Try.func63 (by kernel_rfl) rfl #[vv r, vv t] (by rfl) rfl rfl (by (try simp only [List.map_toArray, List.map_cons, List.map_nil]); first | done | rfl) ?_
            refine (cross63 r t r t (EV.refl r) (EV.refl t) _).mono ?_
            rintro e w10 ⟨cr, rfl, hcr, hb10⟩
            refine ⟨_, rfl, ?_⟩
            have L10 := Aside0.mk (below_step (below_drew1 (pw_below_drewN (Below.refl w9.heap.size w9) _)) hb10)
            clear hb10
            refine hK.out _ _ L10.out (fun _ => ?_)
            clear hK K
            refine norm_ (a' := ?_) ?_ ?_
            rotate_left
            · show Act.put _ (some 58) _ = _
              simp only [Act.put, List.setIfInBounds_toArray, List.set_cons_zero, List.set_cons_succ]
              rfl
            refine one_ (i := 8) (N := some 63) #[true, true, true, true, true, true, true, true, true, false, false, false] rfl rfl (by kernel_rfl) (by decide) (fun K hK => ?_)
            refine ar_ _ _ _ _ _ rfl arQ _ _ rfl rfl (E.refl _) (E.refl _) (by rfl) rfl ?_
            intro qu nq hqu
            refine hK.out _ _ (pw_below_drewN L10.out nq) (fun _ => ?_)
            exact norm_ (by first | rfl | (simp only [putAll, Act.put, List.setIfInBounds_toArray, List.set_cons_zero, List.set_cons_succ]; rfl)) (hcont (cr, qu) _ ⟨⟨pw_below_drewN L10.out nq⟩, ⟨hcr⟩, ⟨hqu⟩⟩)
          · refine ar_ _ _ _ _ _ rfl arQ _ _ rfl rfl (E.refl _) (E.refl _) (by rfl) rfl ?_
            intro qu nq hqu
            refine hK.out _ _ (pw_below_drewN (below_drew1 (pw_below_drewN (Below.refl _ _) _)) nq) (fun hS9 => ?_)
            have L9 : Aside0 (Below w9.heap.size w9 _) := ⟨hS9⟩
            clear hK K hS9
            refine norm_ (a' := ?_) ?_ ?_
            rotate_left
            · show Act.put _ (some 63) _ = _
              simp only [Act.put, List.setIfInBounds_toArray, List.set_cons_zero, List.set_cons_succ]
              rfl
            refine one_ (i := 3) (N := some 58) #[true, true, true, true, true, true, true, true, true, false, false, false] rfl rfl (by kernel_rfl) (by decide) (fun K hK => ?_)
            refine goes_ Try.func63 (by kernel_rfl) rfl #[vv r, vv t] (by rfl) rfl rfl (by (try simp only [List.map_toArray, List.map_cons, List.map_nil]); first | done | rfl) ?_
            refine (cross63 r t r t (EV.refl r) (EV.refl t) _).mono ?_
            rintro e w10 ⟨cr, rfl, hcr, hb10⟩
            refine ⟨_, rfl, ?_⟩
            refine hK.out _ _ (below_step L9.out hb10) (fun _ => ?_)
            exact norm_ (by first | rfl | (simp only [putAll, Act.put, List.setIfInBounds_toArray, List.set_cons_zero, List.set_cons_succ]; rfl)) (hcont (cr, qu) _ ⟨⟨below_step L9.out hb10⟩, ⟨hcr⟩, ⟨hqu⟩⟩)

      refine join_ (σ := S46 × S46 × Nat × Nat) 3 #[true, true, true, true, true, true, true, true, true, false, false, false] (fun s => [(29, vv s.1), (33, vv y), (34, vv s.2.1), (10, .pointer (some ⟨s.2.2.1, 0, none⟩))]) (fun s w' => Aside0 (Below ws.heap.size ws w') ∧ Aside0 (EV (opV .sub at_ x) s.1) ∧ Aside0 (EV (opV .sub at_ y) s.2.1) ∧ Aside0 (w'.heap[s.2.2.1]? = some (.cells #[.float .f32 0, .float .f32 0, .float .f32 0] 46 (0, 0)) ∧ ws.heap.size ≤ s.2.2.1)) ?_ (fun j310 => ?_)
      · rintro ⟨r, t, g10, g11⟩ w' ⟨HB, QR, QS, GE⟩
        refine norm_ (a' := ?_) ?_ ?_
        rotate_left
        · simp only [putAll, Act.put, List.setIfInBounds_toArray, List.set_cons_zero, List.set_cons_succ]
          rfl
        refine one_ (i := 9) (N := some 11) #[true, true, true, true, true, true, true, true, true, true, false, false] rfl rfl (by kernel_rfl) (by decide) (fun K hK => ?_)
        refine value_ (w1 := ?_) (v := ?_) (by rfl) rfl ?_ ?_
        rotate_left 2
        · go_simp
          constructor
          · rfl
          · rfl
        have hb := below_alloc (Below.refl w'.heap.size w') (.cells #[.float .f32 0, .float .f32 0, .float .f32 0] 46 (0, 0))
        refine hK.out _ _ (below_step HB.out hb) (fun _ => ?_)
        have hj := j311 (r, t, g10, w'.heap.size) _ ⟨⟨below_step HB.out hb⟩, QR, QS, ⟨blk_below GE.out.1 hb, GE.out.2⟩, ⟨heap_alloc_new _ _, HB.out.size⟩, ⟨Nat.ne_of_lt (blk_lt GE.out.1)⟩⟩
        exact norm_ (by first | rfl | (simp only [putAll, Act.put, List.setIfInBounds_toArray, List.set_cons_zero, List.set_cons_succ]; rfl)) hj
      refine join_ (σ := S46 × S46 × Nat × Nat) 3 #[true, true, true, true, true, true, true, true, false, true, false, false] (fun s => [(29, vv s.1), (33, vv y), (34, vv s.2.1), (11, .pointer (some ⟨s.2.2.2, 0, none⟩))]) (fun s w' => Aside0 (Below ws.heap.size ws w') ∧ Aside0 (EV (opV .sub at_ x) s.1) ∧ Aside0 (EV (opV .sub at_ y) s.2.1) ∧ Aside0 (w'.heap[s.2.2.2]? = some (.cells #[.float .f32 0, .float .f32 0, .float .f32 0] 46 (0, 0)) ∧ ws.heap.size ≤ s.2.2.2)) ?_ (fun j301 => ?_)
      · rintro ⟨r, t, g10, g11⟩ w' ⟨HB, QR, QS, GF⟩
        refine norm_ (a' := ?_) ?_ ?_
        rotate_left
        · simp only [putAll, Act.put, List.setIfInBounds_toArray, List.set_cons_zero, List.set_cons_succ]
          rfl
        refine one_ (i := 8) (N := some 10) #[true, true, true, true, true, true, true, true, true, true, false, false] rfl rfl (by kernel_rfl) (by decide) (fun K hK => ?_)
        refine value_ (w1 := ?_) (v := ?_) (by rfl) rfl ?_ ?_
        rotate_left 2
        · go_simp
          constructor
          · rfl
          · rfl
        have hb := below_alloc (Below.refl w'.heap.size w') (.cells #[.float .f32 0, .float .f32 0, .float .f32 0] 46 (0, 0))
        refine hK.out _ _ (below_step HB.out hb) (fun _ => ?_)
        have hj := j311 (r, t, w'.heap.size, g11) _ ⟨⟨below_step HB.out hb⟩, QR, QS, ⟨heap_alloc_new _ _, HB.out.size⟩, ⟨blk_below GF.out.1 hb, GF.out.2⟩, ⟨Nat.ne_of_gt (blk_lt GF.out.1)⟩⟩
        exact norm_ (by first | rfl | (simp only [putAll, Act.put, List.setIfInBounds_toArray, List.set_cons_zero, List.set_cons_succ]; rfl)) hj
      refine join_ (σ := S46 × S46 × Nat × Nat) 4 #[true, true, true, true, true, true, true, true, false, false, false, false] (fun s => [(29, vv s.1), (33, vv y), (34, vv s.2.1)]) (fun s w' => Aside0 (Below ws.heap.size ws w') ∧ Aside0 (EV (opV .sub at_ x) s.1) ∧ Aside0 (EV (opV .sub at_ y) s.2.1)) ?_ (fun j300 => ?_)
      · rintro ⟨r, t, g10, g11⟩ w' ⟨HB, QR, QS⟩
        refine norm_ (a' := ?_) ?_ ?_
        rotate_left
        · simp only [putAll, Act.put, List.setIfInBounds_toArray, List.set_cons_zero, List.set_cons_succ]
          rfl
        refine two_ (i := 8) (j := 9) (Ni := some 10) (Nj := some 11) #[true, true, true, true, true, true, true, true, true, false, false, false] #[true, true, true, true, true, true, true, true, false, true, false, false] rfl rfl rfl rfl (by kernel_rfl) (by decide) (by decide) (fun K hK => ?_) (fun K hK => ?_)
        · refine value_ (w1 := ?_) (v := ?_) (by rfl) rfl ?_ ?_
          rotate_left 2
          · go_simp
            constructor
            · rfl
            · rfl
          have hb := below_alloc (Below.refl w'.heap.size w') (.cells #[.float .f32 0, .float .f32 0, .float .f32 0] 46 (0, 0))
          refine hK.out _ _ (below_step HB.out hb) (fun _ => ?_)
          have hj := j310 (r, t, w'.heap.size, 0) _ ⟨⟨below_step HB.out hb⟩, QR, QS, ⟨heap_alloc_new _ _, HB.out.size⟩⟩
          exact norm_ (by first | rfl | (simp only [putAll, Act.put, List.setIfInBounds_toArray, List.set_cons_zero, List.set_cons_succ]; rfl)) hj
        · refine value_ (w1 := ?_) (v := ?_) (by rfl) rfl ?_ ?_
          rotate_left 2
          · go_simp
            constructor
            · rfl
            · rfl
          have hb := below_alloc (Below.refl w'.heap.size w') (.cells #[.float .f32 0, .float .f32 0, .float .f32 0] 46 (0, 0))
          refine hK.out _ _ (below_step HB.out hb) (fun _ => ?_)
          have hj := j301 (r, t, 0, w'.heap.size) _ ⟨⟨below_step HB.out hb⟩, QR, QS, ⟨heap_alloc_new _ _, HB.out.size⟩⟩
          exact norm_ (by first | rfl | (simp only [putAll, Act.put, List.setIfInBounds_toArray, List.set_cons_zero, List.set_cons_succ]; rfl)) hj
      refine join_ (σ := S46 × S46 × Nat × Nat) 3 #[true, true, true, true, true, true, true, false, true, true, false, false] (fun s => [(29, vv s.1), (33, vv y), (10, .pointer (some ⟨s.2.2.1, 0, none⟩)), (11, .pointer (some ⟨s.2.2.2, 0, none⟩))]) (fun s w' => Aside0 (Below ws.heap.size ws w') ∧ Aside0 (EV (opV .sub at_ x) s.1) ∧ Aside0 (w'.heap[s.2.2.1]? = some (.cells #[.float .f32 0, .float .f32 0, .float .f32 0] 46 (0, 0)) ∧ ws.heap.size ≤ s.2.2.1) ∧ Aside0 (w'.heap[s.2.2.2]? = some (.cells #[.float .f32 0, .float .f32 0, .float .f32 0] 46 (0, 0)) ∧ ws.heap.size ≤ s.2.2.2) ∧ Aside0 (s.2.2.1 ≠ s.2.2.2)) ?_ (fun j211 => ?_)
      · rintro ⟨r, t, g10, g11⟩ w' ⟨HB, QR, GE, GF, NE⟩
        refine norm_ (a' := ?_) ?_ ?_
        rotate_left
        · simp only [putAll, Act.put, List.setIfInBounds_toArray, List.set_cons_zero, List.set_cons_succ]
          rfl
        refine one_ (i := 7) (N := some 34) #[true, true, true, true, true, true, true, true, true, true, false, false] rfl rfl (by kernel_rfl) (by decide) (fun K hK => ?_)
        refine goes_ Try.func60 (by kernel_rfl) rfl #[vv at_, vv y] (by rfl) rfl rfl (by (try simp only [List.map_toArray, List.map_cons, List.map_nil]); first | done | rfl) ?_
        refine (less60 at_ y at_ y (EV.refl at_) (EV.refl y) _).mono ?_
        rintro e w2 ⟨t, rfl, ht, hb⟩
        refine ⟨_, rfl, ?_⟩
        refine hK.out _ _ (below_step HB.out hb) (fun _ => ?_)
        have hj := j311 (r, t, g10, g11) _ ⟨⟨below_step HB.out hb⟩, QR, ⟨ht⟩, ⟨blk_below GE.out.1 hb, GE.out.2⟩, ⟨blk_below GF.out.1 hb, GF.out.2⟩, NE⟩
        exact norm_ (by first | rfl | (simp only [putAll, Act.put, List.setIfInBounds_toArray, List.set_cons_zero, List.set_cons_succ]; rfl)) hj
      refine join_ (σ := S46 × S46 × Nat × Nat) 4 #[true, true, true, true, true, true, true, false, true, false, false, false] (fun s => [(29, vv s.1), (33, vv y), (10, .pointer (some ⟨s.2.2.1, 0, none⟩))]) (fun s w' => Aside0 (Below ws.heap.size ws w') ∧ Aside0 (EV (opV .sub at_ x) s.1) ∧ Aside0 (w'.heap[s.2.2.1]? = some (.cells #[.float .f32 0, .float .f32 0, .float .f32 0] 46 (0, 0)) ∧ ws.heap.size ≤ s.2.2.1)) ?_ (fun j210 => ?_)
      · rintro ⟨r, t, g10, g11⟩ w' ⟨HB, QR, GE⟩
        refine norm_ (a' := ?_) ?_ ?_
        rotate_left
        · simp only [putAll, Act.put, List.setIfInBounds_toArray, List.set_cons_zero, List.set_cons_succ]
          rfl
        refine two_ (i := 7) (j := 9) (Ni := some 34) (Nj := some 11) #[true, true, true, true, true, true, true, true, true, false, false, false] #[true, true, true, true, true, true, true, false, true, true, false, false] rfl rfl rfl rfl (by kernel_rfl) (by decide) (by decide) (fun K hK => ?_) (fun K hK => ?_)
        · refine goes_ Try.func60 (by kernel_rfl) rfl #[vv at_, vv y] (by rfl) rfl rfl (by (try simp only [List.map_toArray, List.map_cons, List.map_nil]); first | done | rfl) ?_
          refine (less60 at_ y at_ y (EV.refl at_) (EV.refl y) _).mono ?_
          rintro e w2 ⟨t, rfl, ht, hb⟩
          refine ⟨_, rfl, ?_⟩
          refine hK.out _ _ (below_step HB.out hb) (fun _ => ?_)
          have hj := j310 (r, t, g10, 0) _ ⟨⟨below_step HB.out hb⟩, QR, ⟨ht⟩, ⟨blk_below GE.out.1 hb, GE.out.2⟩⟩
          exact norm_ (by first | rfl | (simp only [putAll, Act.put, List.setIfInBounds_toArray, List.set_cons_zero, List.set_cons_succ]; rfl)) hj
        · refine value_ (w1 := ?_) (v := ?_) (by rfl) rfl ?_ ?_
          rotate_left 2
          · go_simp
            constructor
            · rfl
            · rfl
          have hb := below_alloc (Below.refl w'.heap.size w') (.cells #[.float .f32 0, .float .f32 0, .float .f32 0] 46 (0, 0))
          refine hK.out _ _ (below_step HB.out hb) (fun _ => ?_)
          have hj := j211 (r, x, g10, w'.heap.size) _ ⟨⟨below_step HB.out hb⟩, QR, ⟨blk_below GE.out.1 hb, GE.out.2⟩, ⟨heap_alloc_new _ _, HB.out.size⟩, ⟨Nat.ne_of_lt (blk_lt GE.out.1)⟩⟩
          exact norm_ (by first | rfl | (simp only [putAll, Act.put, List.setIfInBounds_toArray, List.set_cons_zero, List.set_cons_succ]; rfl)) hj
      refine join_ (σ := S46 × S46 × Nat × Nat) 4 #[true, true, true, true, true, true, true, false, false, true, false, false] (fun s => [(29, vv s.1), (33, vv y), (11, .pointer (some ⟨s.2.2.2, 0, none⟩))]) (fun s w' => Aside0 (Below ws.heap.size ws w') ∧ Aside0 (EV (opV .sub at_ x) s.1) ∧ Aside0 (w'.heap[s.2.2.2]? = some (.cells #[.float .f32 0, .float .f32 0, .float .f32 0] 46 (0, 0)) ∧ ws.heap.size ≤ s.2.2.2)) ?_ (fun j201 => ?_)
      · rintro ⟨r, t, g10, g11⟩ w' ⟨HB, QR, GF⟩
        refine norm_ (a' := ?_) ?_ ?_
        rotate_left
        · simp only [putAll, Act.put, List.setIfInBounds_toArray, List.set_cons_zero, List.set_cons_succ]
          rfl
        refine two_ (i := 7) (j := 8) (Ni := some 34) (Nj := some 10) #[true, true, true, true, true, true, true, true, false, true, false, false] #[true, true, true, true, true, true, true, false, true, true, false, false] rfl rfl rfl rfl (by kernel_rfl) (by decide) (by decide) (fun K hK => ?_) (fun K hK => ?_)
        · refine goes_ Try.func60 (by kernel_rfl) rfl #[vv at_, vv y] (by rfl) rfl rfl (by (try simp only [List.map_toArray, List.map_cons, List.map_nil]); first | done | rfl) ?_
          refine (less60 at_ y at_ y (EV.refl at_) (EV.refl y) _).mono ?_
          rintro e w2 ⟨t, rfl, ht, hb⟩
          refine ⟨_, rfl, ?_⟩
          refine hK.out _ _ (below_step HB.out hb) (fun _ => ?_)
          have hj := j301 (r, t, 0, g11) _ ⟨⟨below_step HB.out hb⟩, QR, ⟨ht⟩, ⟨blk_below GF.out.1 hb, GF.out.2⟩⟩
          exact norm_ (by first | rfl | (simp only [putAll, Act.put, List.setIfInBounds_toArray, List.set_cons_zero, List.set_cons_succ]; rfl)) hj
        · refine value_ (w1 := ?_) (v := ?_) (by rfl) rfl ?_ ?_
          rotate_left 2
          · go_simp
            constructor
            · rfl
            · rfl
          have hb := below_alloc (Below.refl w'.heap.size w') (.cells #[.float .f32 0, .float .f32 0, .float .f32 0] 46 (0, 0))
          refine hK.out _ _ (below_step HB.out hb) (fun _ => ?_)
          have hj := j211 (r, x, w'.heap.size, g11) _ ⟨⟨below_step HB.out hb⟩, QR, ⟨heap_alloc_new _ _, HB.out.size⟩, ⟨blk_below GF.out.1 hb, GF.out.2⟩, ⟨Nat.ne_of_gt (blk_lt GF.out.1)⟩⟩
          exact norm_ (by first | rfl | (simp only [putAll, Act.put, List.setIfInBounds_toArray, List.set_cons_zero, List.set_cons_succ]; rfl)) hj
      refine join_ (σ := S46 × S46 × Nat × Nat) 5 #[true, true, true, true, true, true, true, false, false, false, false, false] (fun s => [(29, vv s.1), (33, vv y)]) (fun s w' => Aside0 (Below ws.heap.size ws w') ∧ Aside0 (EV (opV .sub at_ x) s.1)) ?_ (fun j200 => ?_)
      · rintro ⟨r, t, g10, g11⟩ w' ⟨HB, QR⟩
        refine norm_ (a' := ?_) ?_ ?_
        rotate_left
        · simp only [putAll, Act.put, List.setIfInBounds_toArray, List.set_cons_zero, List.set_cons_succ]
          rfl
        refine three_ (i := 7) (j := 8) (k := 9) (Ni := some 34) (Nj := some 10) (Nk := some 11) #[true, true, true, true, true, true, true, true, false, false, false, false] #[true, true, true, true, true, true, true, false, true, false, false, false] #[true, true, true, true, true, true, true, false, false, true, false, false] rfl rfl rfl rfl rfl rfl (by kernel_rfl) (by decide) (by decide) (by decide) (fun K hK => ?_) (fun K hK => ?_) (fun K hK => ?_)
        · refine goes_ Try.func60 (by kernel_rfl) rfl #[vv at_, vv y] (by rfl) rfl rfl (by (try simp only [List.map_toArray, List.map_cons, List.map_nil]); first | done | rfl) ?_
          refine (less60 at_ y at_ y (EV.refl at_) (EV.refl y) _).mono ?_
          rintro e w2 ⟨t, rfl, ht, hb⟩
          refine ⟨_, rfl, ?_⟩
          refine hK.out _ _ (below_step HB.out hb) (fun _ => ?_)
          have hj := j300 (r, t, 0, 0) _ ⟨⟨below_step HB.out hb⟩, QR, ⟨ht⟩⟩
          exact norm_ (by first | rfl | (simp only [putAll, Act.put, List.setIfInBounds_toArray, List.set_cons_zero, List.set_cons_succ]; rfl)) hj
        · refine value_ (w1 := ?_) (v := ?_) (by rfl) rfl ?_ ?_
          rotate_left 2
          · go_simp
            constructor
            · rfl
            · rfl
          have hb := below_alloc (Below.refl w'.heap.size w') (.cells #[.float .f32 0, .float .f32 0, .float .f32 0] 46 (0, 0))
          refine hK.out _ _ (below_step HB.out hb) (fun _ => ?_)
          have hj := j210 (r, x, w'.heap.size, 0) _ ⟨⟨below_step HB.out hb⟩, QR, ⟨heap_alloc_new _ _, HB.out.size⟩⟩
          exact norm_ (by first | rfl | (simp only [putAll, Act.put, List.setIfInBounds_toArray, List.set_cons_zero, List.set_cons_succ]; rfl)) hj
        · refine value_ (w1 := ?_) (v := ?_) (by rfl) rfl ?_ ?_
          rotate_left 2
          · go_simp
            constructor
            · rfl
            · rfl
          have hb := below_alloc (Below.refl w'.heap.size w') (.cells #[.float .f32 0, .float .f32 0, .float .f32 0] 46 (0, 0))
          refine hK.out _ _ (below_step HB.out hb) (fun _ => ?_)
          have hj := j201 (r, x, 0, w'.heap.size) _ ⟨⟨below_step HB.out hb⟩, QR, ⟨heap_alloc_new _ _, HB.out.size⟩⟩
          exact norm_ (by first | rfl | (simp only [putAll, Act.put, List.setIfInBounds_toArray, List.set_cons_zero, List.set_cons_succ]; rfl)) hj
      refine join_ (σ := S46 × S46 × Nat × Nat) 4 #[true, true, true, true, true, true, false, false, true, true, false, false] (fun s => [(29, vv s.1), (10, .pointer (some ⟨s.2.2.1, 0, none⟩)), (11, .pointer (some ⟨s.2.2.2, 0, none⟩))]) (fun s w' => Aside0 (Below ws.heap.size ws w') ∧ Aside0 (EV (opV .sub at_ x) s.1) ∧ Aside0 (w'.heap[s.2.2.1]? = some (.cells #[.float .f32 0, .float .f32 0, .float .f32 0] 46 (0, 0)) ∧ ws.heap.size ≤ s.2.2.1) ∧ Aside0 (w'.heap[s.2.2.2]? = some (.cells #[.float .f32 0, .float .f32 0, .float .f32 0] 46 (0, 0)) ∧ ws.heap.size ≤ s.2.2.2) ∧ Aside0 (s.2.2.1 ≠ s.2.2.2)) ?_ (fun j111 => ?_)
      · rintro ⟨r, t, g10, g11⟩ w' ⟨HB, QR, GE, GF, NE⟩
        refine norm_ (a' := ?_) ?_ ?_
        rotate_left
        · simp only [putAll, Act.put, List.setIfInBounds_toArray, List.set_cons_zero, List.set_cons_succ]
          rfl
        refine one_ (i := 6) (N := some 33) #[true, true, true, true, true, true, true, false, true, true, false, false] rfl rfl (by kernel_rfl) (by decide) (fun K hK => ?_)
        refine goes_ Try.func109 (by kernel_rfl) rfl #[.pointer (some ad), .int .i64 (i : Int)] (by rfl) rfl rfl (by (try simp only [List.map_toArray, List.map_cons, List.map_nil]); first | done | rfl) ?_
        refine (next109 ad (some ae) c l i ((i + 1) % l.length) _ (cell_b HB.out k0) hle (Kd.C_below KC.out HB.out) hil rfl y hy).mono ?_
        rintro e w2 ⟨rfl, hb⟩
        refine ⟨_, rfl, ?_⟩
        refine hK.out _ _ (below_step HB.out hb) (fun _ => ?_)
        have hj := j211 (r, x, g10, g11) _ ⟨⟨below_step HB.out hb⟩, QR, ⟨blk_below GE.out.1 hb, GE.out.2⟩, ⟨blk_below GF.out.1 hb, GF.out.2⟩, NE⟩
        exact norm_ (by first | rfl | (simp only [putAll, Act.put, List.setIfInBounds_toArray, List.set_cons_zero, List.set_cons_succ]; rfl)) hj
      refine join_ (σ := S46 × S46 × Nat × Nat) 5 #[true, true, true, true, true, true, false, false, true, false, false, false] (fun s => [(29, vv s.1), (10, .pointer (some ⟨s.2.2.1, 0, none⟩))]) (fun s w' => Aside0 (Below ws.heap.size ws w') ∧ Aside0 (EV (opV .sub at_ x) s.1) ∧ Aside0 (w'.heap[s.2.2.1]? = some (.cells #[.float .f32 0, .float .f32 0, .float .f32 0] 46 (0, 0)) ∧ ws.heap.size ≤ s.2.2.1)) ?_ (fun j110 => ?_)
      · rintro ⟨r, t, g10, g11⟩ w' ⟨HB, QR, GE⟩
        refine norm_ (a' := ?_) ?_ ?_
        rotate_left
        · simp only [putAll, Act.put, List.setIfInBounds_toArray, List.set_cons_zero, List.set_cons_succ]
          rfl
        refine two_ (i := 6) (j := 9) (Ni := some 33) (Nj := some 11) #[true, true, true, true, true, true, true, false, true, false, false, false] #[true, true, true, true, true, true, false, false, true, true, false, false] rfl rfl rfl rfl (by kernel_rfl) (by decide) (by decide) (fun K hK => ?_) (fun K hK => ?_)
        · refine goes_ Try.func109 (by kernel_rfl) rfl #[.pointer (some ad), .int .i64 (i : Int)] (by rfl) rfl rfl (by (try simp only [List.map_toArray, List.map_cons, List.map_nil]); first | done | rfl) ?_
          refine (next109 ad (some ae) c l i ((i + 1) % l.length) _ (cell_b HB.out k0) hle (Kd.C_below KC.out HB.out) hil rfl y hy).mono ?_
          rintro e w2 ⟨rfl, hb⟩
          refine ⟨_, rfl, ?_⟩
          refine hK.out _ _ (below_step HB.out hb) (fun _ => ?_)
          have hj := j210 (r, x, g10, 0) _ ⟨⟨below_step HB.out hb⟩, QR, ⟨blk_below GE.out.1 hb, GE.out.2⟩⟩
          exact norm_ (by first | rfl | (simp only [putAll, Act.put, List.setIfInBounds_toArray, List.set_cons_zero, List.set_cons_succ]; rfl)) hj
        · refine value_ (w1 := ?_) (v := ?_) (by rfl) rfl ?_ ?_
          rotate_left 2
          · go_simp
            constructor
            · rfl
            · rfl
          have hb := below_alloc (Below.refl w'.heap.size w') (.cells #[.float .f32 0, .float .f32 0, .float .f32 0] 46 (0, 0))
          refine hK.out _ _ (below_step HB.out hb) (fun _ => ?_)
          have hj := j111 (r, x, g10, w'.heap.size) _ ⟨⟨below_step HB.out hb⟩, QR, ⟨blk_below GE.out.1 hb, GE.out.2⟩, ⟨heap_alloc_new _ _, HB.out.size⟩, ⟨Nat.ne_of_lt (blk_lt GE.out.1)⟩⟩
          exact norm_ (by first | rfl | (simp only [putAll, Act.put, List.setIfInBounds_toArray, List.set_cons_zero, List.set_cons_succ]; rfl)) hj
      refine join_ (σ := S46 × S46 × Nat × Nat) 5 #[true, true, true, true, true, true, false, false, false, true, false, false] (fun s => [(29, vv s.1), (11, .pointer (some ⟨s.2.2.2, 0, none⟩))]) (fun s w' => Aside0 (Below ws.heap.size ws w') ∧ Aside0 (EV (opV .sub at_ x) s.1) ∧ Aside0 (w'.heap[s.2.2.2]? = some (.cells #[.float .f32 0, .float .f32 0, .float .f32 0] 46 (0, 0)) ∧ ws.heap.size ≤ s.2.2.2)) ?_ (fun j101 => ?_)
      · rintro ⟨r, t, g10, g11⟩ w' ⟨HB, QR, GF⟩
        refine norm_ (a' := ?_) ?_ ?_
        rotate_left
        · simp only [putAll, Act.put, List.setIfInBounds_toArray, List.set_cons_zero, List.set_cons_succ]
          rfl
        refine two_ (i := 6) (j := 8) (Ni := some 33) (Nj := some 10) #[true, true, true, true, true, true, true, false, false, true, false, false] #[true, true, true, true, true, true, false, false, true, true, false, false] rfl rfl rfl rfl (by kernel_rfl) (by decide) (by decide) (fun K hK => ?_) (fun K hK => ?_)
        · refine goes_ Try.func109 (by kernel_rfl) rfl #[.pointer (some ad), .int .i64 (i : Int)] (by rfl) rfl rfl (by (try simp only [List.map_toArray, List.map_cons, List.map_nil]); first | done | rfl) ?_
          refine (next109 ad (some ae) c l i ((i + 1) % l.length) _ (cell_b HB.out k0) hle (Kd.C_below KC.out HB.out) hil rfl y hy).mono ?_
          rintro e w2 ⟨rfl, hb⟩
          refine ⟨_, rfl, ?_⟩
          refine hK.out _ _ (below_step HB.out hb) (fun _ => ?_)
          have hj := j201 (r, x, 0, g11) _ ⟨⟨below_step HB.out hb⟩, QR, ⟨blk_below GF.out.1 hb, GF.out.2⟩⟩
          exact norm_ (by first | rfl | (simp only [putAll, Act.put, List.setIfInBounds_toArray, List.set_cons_zero, List.set_cons_succ]; rfl)) hj
        · refine value_ (w1 := ?_) (v := ?_) (by rfl) rfl ?_ ?_
          rotate_left 2
          · go_simp
            constructor
            · rfl
            · rfl
          have hb := below_alloc (Below.refl w'.heap.size w') (.cells #[.float .f32 0, .float .f32 0, .float .f32 0] 46 (0, 0))
          refine hK.out _ _ (below_step HB.out hb) (fun _ => ?_)
          have hj := j111 (r, x, w'.heap.size, g11) _ ⟨⟨below_step HB.out hb⟩, QR, ⟨heap_alloc_new _ _, HB.out.size⟩, ⟨blk_below GF.out.1 hb, GF.out.2⟩, ⟨Nat.ne_of_gt (blk_lt GF.out.1)⟩⟩
          exact norm_ (by first | rfl | (simp only [putAll, Act.put, List.setIfInBounds_toArray, List.set_cons_zero, List.set_cons_succ]; rfl)) hj
      refine join_ (σ := S46 × S46 × Nat × Nat) 6 #[true, true, true, true, true, true, false, false, false, false, false, false] (fun s => [(29, vv s.1)]) (fun s w' => Aside0 (Below ws.heap.size ws w') ∧ Aside0 (EV (opV .sub at_ x) s.1)) ?_ (fun j100 => ?_)
      · rintro ⟨r, t, g10, g11⟩ w' ⟨HB, QR⟩
        refine norm_ (a' := ?_) ?_ ?_
        rotate_left
        · simp only [putAll, Act.put, List.setIfInBounds_toArray, List.set_cons_zero, List.set_cons_succ]
          rfl
        refine three_ (i := 6) (j := 8) (k := 9) (Ni := some 33) (Nj := some 10) (Nk := some 11) #[true, true, true, true, true, true, true, false, false, false, false, false] #[true, true, true, true, true, true, false, false, true, false, false, false] #[true, true, true, true, true, true, false, false, false, true, false, false] rfl rfl rfl rfl rfl rfl (by kernel_rfl) (by decide) (by decide) (by decide) (fun K hK => ?_) (fun K hK => ?_) (fun K hK => ?_)
        · refine goes_ Try.func109 (by kernel_rfl) rfl #[.pointer (some ad), .int .i64 (i : Int)] (by rfl) rfl rfl (by (try simp only [List.map_toArray, List.map_cons, List.map_nil]); first | done | rfl) ?_
          refine (next109 ad (some ae) c l i ((i + 1) % l.length) _ (cell_b HB.out k0) hle (Kd.C_below KC.out HB.out) hil rfl y hy).mono ?_
          rintro e w2 ⟨rfl, hb⟩
          refine ⟨_, rfl, ?_⟩
          refine hK.out _ _ (below_step HB.out hb) (fun _ => ?_)
          have hj := j200 (r, x, 0, 0) _ ⟨⟨below_step HB.out hb⟩, QR⟩
          exact norm_ (by first | rfl | (simp only [putAll, Act.put, List.setIfInBounds_toArray, List.set_cons_zero, List.set_cons_succ]; rfl)) hj
        · refine value_ (w1 := ?_) (v := ?_) (by rfl) rfl ?_ ?_
          rotate_left 2
          · go_simp
            constructor
            · rfl
            · rfl
          have hb := below_alloc (Below.refl w'.heap.size w') (.cells #[.float .f32 0, .float .f32 0, .float .f32 0] 46 (0, 0))
          refine hK.out _ _ (below_step HB.out hb) (fun _ => ?_)
          have hj := j110 (r, x, w'.heap.size, 0) _ ⟨⟨below_step HB.out hb⟩, QR, ⟨heap_alloc_new _ _, HB.out.size⟩⟩
          exact norm_ (by first | rfl | (simp only [putAll, Act.put, List.setIfInBounds_toArray, List.set_cons_zero, List.set_cons_succ]; rfl)) hj
        · refine value_ (w1 := ?_) (v := ?_) (by rfl) rfl ?_ ?_
          rotate_left 2
          · go_simp
            constructor
            · rfl
            · rfl
          have hb := below_alloc (Below.refl w'.heap.size w') (.cells #[.float .f32 0, .float .f32 0, .float .f32 0] 46 (0, 0))
          refine hK.out _ _ (below_step HB.out hb) (fun _ => ?_)
          have hj := j101 (r, x, 0, w'.heap.size) _ ⟨⟨below_step HB.out hb⟩, QR, ⟨heap_alloc_new _ _, HB.out.size⟩⟩
          exact norm_ (by first | rfl | (simp only [putAll, Act.put, List.setIfInBounds_toArray, List.set_cons_zero, List.set_cons_succ]; rfl)) hj
      refine join_ (σ := S46 × S46 × Nat × Nat) 5 #[true, true, false, true, true, true, false, false, true, true, false, false] (fun s => [(10, .pointer (some ⟨s.2.2.1, 0, none⟩)), (11, .pointer (some ⟨s.2.2.2, 0, none⟩))]) (fun s w' => Aside0 (Below ws.heap.size ws w') ∧ Aside0 (w'.heap[s.2.2.1]? = some (.cells #[.float .f32 0, .float .f32 0, .float .f32 0] 46 (0, 0)) ∧ ws.heap.size ≤ s.2.2.1) ∧ Aside0 (w'.heap[s.2.2.2]? = some (.cells #[.float .f32 0, .float .f32 0, .float .f32 0] 46 (0, 0)) ∧ ws.heap.size ≤ s.2.2.2) ∧ Aside0 (s.2.2.1 ≠ s.2.2.2)) ?_ (fun j011 => ?_)
      · rintro ⟨r, t, g10, g11⟩ w' ⟨HB, GE, GF, NE⟩
        refine norm_ (a' := ?_) ?_ ?_
        rotate_left
        · simp only [putAll, Act.put, List.setIfInBounds_toArray, List.set_cons_zero, List.set_cons_succ]
          rfl
        refine one_ (i := 2) (N := some 29) #[true, true, true, true, true, true, false, false, true, true, false, false] rfl rfl (by kernel_rfl) (by decide) (fun K hK => ?_)
        refine goes_ Try.func60 (by kernel_rfl) rfl #[vv at_, vv x] (by rfl) rfl rfl (by (try simp only [List.map_toArray, List.map_cons, List.map_nil]); first | done | rfl) ?_
        refine (less60 at_ x at_ x (EV.refl at_) (EV.refl x) _).mono ?_
        rintro e w2 ⟨r, rfl, hr, hb⟩
        refine ⟨_, rfl, ?_⟩
        refine hK.out _ _ (below_step HB.out hb) (fun _ => ?_)
        have hj := j111 (r, x, g10, g11) _ ⟨⟨below_step HB.out hb⟩, ⟨hr⟩, ⟨blk_below GE.out.1 hb, GE.out.2⟩, ⟨blk_below GF.out.1 hb, GF.out.2⟩, NE⟩
        exact norm_ (by first | rfl | (simp only [putAll, Act.put, List.setIfInBounds_toArray, List.set_cons_zero, List.set_cons_succ]; rfl)) hj
      refine join_ (σ := S46 × S46 × Nat × Nat) 6 #[true, true, false, true, true, true, false, false, true, false, false, false] (fun s => [(10, .pointer (some ⟨s.2.2.1, 0, none⟩))]) (fun s w' => Aside0 (Below ws.heap.size ws w') ∧ Aside0 (w'.heap[s.2.2.1]? = some (.cells #[.float .f32 0, .float .f32 0, .float .f32 0] 46 (0, 0)) ∧ ws.heap.size ≤ s.2.2.1)) ?_ (fun j010 => ?_)
      · rintro ⟨r, t, g10, g11⟩ w' ⟨HB, GE⟩
        refine norm_ (a' := ?_) ?_ ?_
        rotate_left
        · simp only [putAll, Act.put, List.setIfInBounds_toArray, List.set_cons_zero, List.set_cons_succ]
          rfl
        refine two_ (i := 2) (j := 9) (Ni := some 29) (Nj := some 11) #[true, true, true, true, true, true, false, false, true, false, false, false] #[true, true, false, true, true, true, false, false, true, true, false, false] rfl rfl rfl rfl (by kernel_rfl) (by decide) (by decide) (fun K hK => ?_) (fun K hK => ?_)
        · refine goes_ Try.func60 (by kernel_rfl) rfl #[vv at_, vv x] (by rfl) rfl rfl (by (try simp only [List.map_toArray, List.map_cons, List.map_nil]); first | done | rfl) ?_
          refine (less60 at_ x at_ x (EV.refl at_) (EV.refl x) _).mono ?_
          rintro e w2 ⟨r, rfl, hr, hb⟩
          refine ⟨_, rfl, ?_⟩
          refine hK.out _ _ (below_step HB.out hb) (fun _ => ?_)
          have hj := j110 (r, x, g10, 0) _ ⟨⟨below_step HB.out hb⟩, ⟨hr⟩, ⟨blk_below GE.out.1 hb, GE.out.2⟩⟩
          exact norm_ (by first | rfl | (simp only [putAll, Act.put, List.setIfInBounds_toArray, List.set_cons_zero, List.set_cons_succ]; rfl)) hj
        · refine value_ (w1 := ?_) (v := ?_) (by rfl) rfl ?_ ?_
          rotate_left 2
          · go_simp
            constructor
            · rfl
            · rfl
          have hb := below_alloc (Below.refl w'.heap.size w') (.cells #[.float .f32 0, .float .f32 0, .float .f32 0] 46 (0, 0))
          refine hK.out _ _ (below_step HB.out hb) (fun _ => ?_)
          have hj := j011 (x, x, g10, w'.heap.size) _ ⟨⟨below_step HB.out hb⟩, ⟨blk_below GE.out.1 hb, GE.out.2⟩, ⟨heap_alloc_new _ _, HB.out.size⟩, ⟨Nat.ne_of_lt (blk_lt GE.out.1)⟩⟩
          exact norm_ (by first | rfl | (simp only [putAll, Act.put, List.setIfInBounds_toArray, List.set_cons_zero, List.set_cons_succ]; rfl)) hj
      refine join_ (σ := S46 × S46 × Nat × Nat) 6 #[true, true, false, true, true, true, false, false, false, true, false, false] (fun s => [(11, .pointer (some ⟨s.2.2.2, 0, none⟩))]) (fun s w' => Aside0 (Below ws.heap.size ws w') ∧ Aside0 (w'.heap[s.2.2.2]? = some (.cells #[.float .f32 0, .float .f32 0, .float .f32 0] 46 (0, 0)) ∧ ws.heap.size ≤ s.2.2.2)) ?_ (fun j001 => ?_)
      · rintro ⟨r, t, g10, g11⟩ w' ⟨HB, GF⟩
        refine norm_ (a' := ?_) ?_ ?_
        rotate_left
        · simp only [putAll, Act.put, List.setIfInBounds_toArray, List.set_cons_zero, List.set_cons_succ]
          rfl
        refine two_ (i := 2) (j := 8) (Ni := some 29) (Nj := some 10) #[true, true, true, true, true, true, false, false, false, true, false, false] #[true, true, false, true, true, true, false, false, true, true, false, false] rfl rfl rfl rfl (by kernel_rfl) (by decide) (by decide) (fun K hK => ?_) (fun K hK => ?_)
        · refine goes_ Try.func60 (by kernel_rfl) rfl #[vv at_, vv x] (by rfl) rfl rfl (by (try simp only [List.map_toArray, List.map_cons, List.map_nil]); first | done | rfl) ?_
          refine (less60 at_ x at_ x (EV.refl at_) (EV.refl x) _).mono ?_
          rintro e w2 ⟨r, rfl, hr, hb⟩
          refine ⟨_, rfl, ?_⟩
          refine hK.out _ _ (below_step HB.out hb) (fun _ => ?_)
          have hj := j101 (r, x, 0, g11) _ ⟨⟨below_step HB.out hb⟩, ⟨hr⟩, ⟨blk_below GF.out.1 hb, GF.out.2⟩⟩
          exact norm_ (by first | rfl | (simp only [putAll, Act.put, List.setIfInBounds_toArray, List.set_cons_zero, List.set_cons_succ]; rfl)) hj
        · refine value_ (w1 := ?_) (v := ?_) (by rfl) rfl ?_ ?_
          rotate_left 2
          · go_simp
            constructor
            · rfl
            · rfl
          have hb := below_alloc (Below.refl w'.heap.size w') (.cells #[.float .f32 0, .float .f32 0, .float .f32 0] 46 (0, 0))
          refine hK.out _ _ (below_step HB.out hb) (fun _ => ?_)
          have hj := j011 (x, x, w'.heap.size, g11) _ ⟨⟨below_step HB.out hb⟩, ⟨heap_alloc_new _ _, HB.out.size⟩, ⟨blk_below GF.out.1 hb, GF.out.2⟩, ⟨Nat.ne_of_gt (blk_lt GF.out.1)⟩⟩
          exact norm_ (by first | rfl | (simp only [putAll, Act.put, List.setIfInBounds_toArray, List.set_cons_zero, List.set_cons_succ]; rfl)) hj
      have HB := Aside0.mk (below_drew1 (Below.refl ws.heap.size ws))
      generalize ws.drew = w' at HB ⊢
      refine three_ (i := 2) (j := 8) (k := 9) (Ni := some 29) (Nj := some 10) (Nk := some 11) #[true, true, true, true, true, true, false, false, false, false, false, false] #[true, true, false, true, true, true, false, false, true, false, false, false] #[true, true, false, true, true, true, false, false, false, true, false, false] rfl rfl rfl rfl rfl rfl (by kernel_rfl) (by decide) (by decide) (by decide) (fun K hK => ?_) (fun K hK => ?_) (fun K hK => ?_)
      · refine goes_ Try.func60 (by kernel_rfl) rfl #[vv at_, vv x] (by rfl) rfl rfl (by (try simp only [List.map_toArray, List.map_cons, List.map_nil]); first | done | rfl) ?_
        refine (less60 at_ x at_ x (EV.refl at_) (EV.refl x) _).mono ?_
        rintro e w2 ⟨r, rfl, hr, hb⟩
        refine ⟨_, rfl, ?_⟩
        refine hK.out _ _ (below_step HB.out hb) (fun _ => ?_)
        have hj := j100 (r, x, 0, 0) _ ⟨⟨below_step HB.out hb⟩, ⟨hr⟩⟩
        exact norm_ (by first | rfl | (simp only [putAll, Act.put, List.setIfInBounds_toArray, List.set_cons_zero, List.set_cons_succ]; rfl)) hj
      · refine value_ (w1 := ?_) (v := ?_) (by rfl) rfl ?_ ?_
        rotate_left 2
        · go_simp
          constructor
          · rfl
          · rfl
        have hb := below_alloc (Below.refl w'.heap.size w') (.cells #[.float .f32 0, .float .f32 0, .float .f32 0] 46 (0, 0))
        refine hK.out _ _ (below_step HB.out hb) (fun _ => ?_)
        have hj := j010 (x, x, w'.heap.size, 0) _ ⟨⟨below_step HB.out hb⟩, ⟨heap_alloc_new _ _, HB.out.size⟩⟩
        exact norm_ (by first | rfl | (simp only [putAll, Act.put, List.setIfInBounds_toArray, List.set_cons_zero, List.set_cons_succ]; rfl)) hj
      · refine value_ (w1 := ?_) (v := ?_) (by rfl) rfl ?_ ?_
        rotate_left 2
        · go_simp
          constructor
          · rfl
          · rfl
        have hb := below_alloc (Below.refl w'.heap.size w') (.cells #[.float .f32 0, .float .f32 0, .float .f32 0] 46 (0, 0))
        refine hK.out _ _ (below_step HB.out hb) (fun _ => ?_)
        have hj := j001 (x, x, 0, w'.heap.size) _ ⟨⟨below_step HB.out hb⟩, ⟨heap_alloc_new _ _, HB.out.size⟩⟩
        exact norm_ (by first | rfl | (simp only [putAll, Act.put, List.setIfInBounds_toArray, List.set_cons_zero, List.set_cons_succ]; rfl)) hj
end XG
end Go.Proofs.Ytffofpiejcolfaa
