/- The length of a thread: the program's (*Thread).next, segment, long; the reference's l06Ends, l06Length. -/
import Derived.Test.YtffofpiejcolfaaXC
import Derived.Test.YtffofpiejcolfaaL01
import Derived.Test.YtffofpiejcolfaaL02
set_option linter.unusedVariables false
set_option linter.unusedSimpArgs false
namespace Go.Proofs.Ytffofpiejcolfaa
open Go.RowKit Go.Proofs.YtffofpiejcolfaaW.PrintWords Go.Proofs.YtffofpiejcolfaaW.PrintLast Go.Proofs.YtffofpiejcolfaaW.PrintMore
attribute [local go_sem] max2_int min2_int max_two min_two max_three min_three max_four min_four   -- for this text's walks alone
namespace XY
open XF XL XC L0
theorem cell_b {w w' : World} {p : Addr} {v : Value} (h : Below w.heap.size w w') (hc : w.cell? p = some v) : w'.cell? p = some v := (h.cell (World.block_lt_of_cell? w _ hc)).trans hc
theorem cell_alloc_old (w : World) (o : Obj) {p : Addr} (h : p.block < w.heap.size) : (w.alloc o).cell? p = w.cell? p := (below_alloc (Below.refl w.heap.size w) o).cell h
set_option maxHeartbeats 4000000 in
set_option maxRecDepth 100000 in
theorem next109 (ad : Addr) (A : Option Addr) (c : Nat) (l : List S46) (i j : Nat) (w : World) (f0 : w.cell? ad = some (.slice A l.length c)) (hle : l.length ≤ c) (hC : Kd.C k46 w A l.length l) (hi : i < l.length) (hj : (i + 1) % l.length = j) (x : S46) (hx : rd_T46 l (j : Int) = x) :
    Calls Try.prog 109 #[.pointer (some ad), .int .i64 (i : Int)] w fun e w' => e = .returned (.agg #[.float .f32 x.f0, .float .f32 x.f1, .float .f32 x.f2]) ∧ Below w.heap.size w w' := by
  have hmx : l.length ≤ 9223372036854775807 := Kd.C_max hC
  have hjl : j < l.length := by rw [← hj]; exact Nat.mod_lt _ (by omega)
  obtain ⟨ae, rfl, hx_0, hx_1, hx_2⟩ := at_T46 hC (j : Int) (by omega) (by omega)
  rw [Int.toNat_natCast, hx] at hx_0 hx_1 hx_2
  have hbk : ad.block < w.heap.size := World.block_lt_of_cell? w _ f0
  have hw1 : wrap64 ((i : Int) + 1) = (i : Int) + 1 := (by unfold wrap64; omega)
  have hz : l ≠ [] := by rintro rfl; simp at hi
  have hm : Int.tmod ((i : Int) + 1) (l.length : Int) = (j : Int) := by
    rw [← hj]
    rw [Int.tmod_eq_emod_of_nonneg (by omega)]
    simp
  have hm2 : wrap64 (j : Int) = (j : Int) := (by unfold wrap64; omega)
  have hjlI : (j : Int) < (l.length : Int) := by omega
  have hB := below_alloc (Below.refl w.heap.size w) (.cells #[.float .f32 0, .float .f32 0, .float .f32 0] 46 (0, 0))
  replace f0 := (hB.cell hbk).trans f0
  replace hx_0 := (hB.cell (World.block_lt_of_cell? w _ hx_0)).trans hx_0
  replace hx_1 := (hB.cell (World.block_lt_of_cell? w _ hx_1)).trans hx_1
  replace hx_2 := (hB.cell (World.block_lt_of_cell? w _ hx_2)).trans hx_2
  go_enter Try.func109, Try.ntmps109
  go_wp2
  refine start_ (n := 15) (S := fun w' => w'.cell? ad = some (.slice (some ae) l.length c) ∧ w'.cell? (ae.add (j * 3)) = some (.float .f32 x.f0) ∧ w'.cell? ⟨(ae.add (j * 3)).block, (ae.add (j * 3)).off + 1, none⟩ = some (.float .f32 x.f1) ∧ w'.cell? ⟨(ae.add (j * 3)).block, (ae.add (j * 3)).off + 2, none⟩ = some (.float .f32 x.f2)) (ds := [14]) #[false, false, false, false, false, false, false, false, false, false, false, false, false, false, false] (by kernel_rfl) rfl rfl ⟨f0, hx_0, hx_1, hx_2⟩ (fun hHeld => ?_)
  refine pure_ (i := 0) (N := some 5) (v := ?_) (a' := ?_) #[true, false, false, false, false, false, false, false, false, false, false, false, false, false, false] rfl rfl (by kernel_rfl) (fun _ _ _ h => h) (Or.inl ⟨by rfl, ?_⟩) ?_ ?_
  rotate_left
  · intro w'
    go_simp
    with_reducible rfl
  rotate_left
  · simp only [Act.put, List.setIfInBounds_toArray, List.set_cons_zero, List.set_cons_succ, i64_w, i32_w]
    rfl
  refine pure_ (i := 1) (N := some 6) (v := ?_) (a' := ?_) #[true, true, false, false, false, false, false, false, false, false, false, false, false, false, false] rfl rfl (by kernel_rfl) (fun _ _ _ h => h) (Or.inl ⟨by rfl, ?_⟩) ?_ ?_
  rotate_left
  · intro w'
    go_simp
    with_reducible rfl
  rotate_left
  · simp only [Act.put, List.setIfInBounds_toArray, List.set_cons_zero, List.set_cons_succ, i64_w, i32_w]
    rfl
  refine pure_ (i := 2) (N := some 7) (v := ?_) (a' := ?_) #[true, true, true, false, false, false, false, false, false, false, false, false, false, false, false] rfl rfl (by kernel_rfl) (fun _ _ _ h => h) (Or.inl ⟨by rfl, ?_⟩) ?_ ?_
  rotate_left
  · intro w'
    go_simp
    with_reducible rfl
  rotate_left
  · simp only [Act.put, List.setIfInBounds_toArray, List.set_cons_zero, List.set_cons_succ, i64_w, i32_w]
    rfl
  refine pure_ (i := 4) (N := some 9) (v := ?_) (a' := ?_) #[true, true, true, false, true, false, false, false, false, false, false, false, false, false, false] rfl rfl (by kernel_rfl) (fun _ _ _ h => h) (Or.inl ⟨by rfl, ?_⟩) ?_ ?_
  rotate_left
  · intro w'
    go_simp
    with_reducible rfl
  rotate_left
  · simp only [Act.put, List.setIfInBounds_toArray, List.set_cons_zero, List.set_cons_succ, i64_w, i32_w]
    rfl
  refine pure_ (i := 5) (N := some 10) (v := ?_) (a' := ?_) #[true, true, true, false, true, true, false, false, false, false, false, false, false, false, false] rfl rfl (by kernel_rfl) (fun _ _ _ h => h) (Or.inl ⟨by rfl, ?_⟩) ?_ ?_
  rotate_left
  · intro w'
    go_simp
    with_reducible rfl
  rotate_left
  · simp only [Act.put, List.setIfInBounds_toArray, List.set_cons_zero, List.set_cons_succ, i64_w, i32_w]
    rfl
  refine pure_ (i := 6) (N := some 11) (v := ?_) (a' := ?_) #[true, true, true, false, true, true, true, false, false, false, false, false, false, false, false] rfl rfl (by kernel_rfl) (fun _ _ _ h => h) (Or.inl ⟨by rfl, ?_⟩) ?_ ?_
  rotate_left
  · intro w'
    go_simp
    with_reducible rfl
  rotate_left
  · simp only [Act.put, List.setIfInBounds_toArray, List.set_cons_zero, List.set_cons_succ, i64_w, i32_w]
    rfl
  refine pure_ (i := 7) (N := some 12) (v := ?_) (a' := ?_) #[true, true, true, false, true, true, true, true, false, false, false, false, false, false, false] rfl rfl (by kernel_rfl) (fun _ _ _ h => h) (Or.inl ⟨by rfl, ?_⟩) ?_ ?_
  rotate_left
  · intro w'
    go_simp
    with_reducible rfl
  rotate_left
  · simp only [Act.put, List.setIfInBounds_toArray, List.set_cons_zero, List.set_cons_succ, i64_w, i32_w]
    rfl
  refine pure_ (i := 8) (N := some 13) (v := ?_) (a' := ?_) #[true, true, true, false, true, true, true, true, true, false, false, false, false, false, false] rfl rfl (by kernel_rfl) (fun _ _ _ h => h) (Or.inl ⟨by rfl, ?_⟩) ?_ ?_
  rotate_left
  · intro w'
    go_simp
    with_reducible rfl
  rotate_left
  · simp only [Act.put, List.setIfInBounds_toArray, List.set_cons_zero, List.set_cons_succ, i64_w, i32_w]
    rfl
  refine take_ (i := 3) (N := some 8) (v := ?_) (a' := ?_) #[true, true, true, true, true, true, true, true, true, false, false, false, false, false, false] rfl rfl (by kernel_rfl) (fun _ _ _ h => h) (Or.inl ⟨by rfl, ?_⟩) hHeld ?_ ?_
  rotate_left
  · rintro w' ⟨s0, s1, s2, s3⟩
    go_simp
    with_reducible rfl
  rotate_left
  · simp only [Act.put, List.setIfInBounds_toArray, List.set_cons_zero, List.set_cons_succ, i64_w, i32_w]
    rfl
  refine take_ (i := 9) (N := some 14) (v := ?_) (a' := ?_) #[true, true, true, true, true, true, true, true, true, true, false, false, false, false, false] rfl rfl (by kernel_rfl) (fun _ _ _ h => h) (Or.inl ⟨by rfl, ?_⟩) hHeld ?_ ?_
  rotate_left
  · rintro w' ⟨s0, s1, s2, s3⟩
    go_simp
    with_reducible rfl
  rotate_left
  · simp only [Act.put, List.setIfInBounds_toArray, List.set_cons_zero, List.set_cons_succ, i64_w, i32_w]
    rfl
  refine pure_ (i := 10) (N := some 15) (v := ?_) (a' := ?_) #[true, true, true, true, true, true, true, true, true, true, true, false, false, false, false] rfl rfl (by kernel_rfl) (fun _ _ _ h => h) (Or.inl ⟨by rfl, ?_⟩) ?_ ?_
  rotate_left
  · intro w'
    go_simp
    with_reducible rfl
  rotate_left
  · simp only [Act.put, List.setIfInBounds_toArray, List.set_cons_zero, List.set_cons_succ, i64_w, i32_w]
    rfl
  refine pure_ (i := 11) (N := some 16) (v := ?_) (a' := ?_) #[true, true, true, true, true, true, true, true, true, true, true, true, false, false, false] rfl rfl (by kernel_rfl) (fun _ _ _ h => h) (Or.inl ⟨by rfl, ?_⟩) ?_ ?_
  rotate_left
  · intro w'
    go_simp
    with_reducible rfl
  rotate_left
  · simp only [Act.put, List.setIfInBounds_toArray, List.set_cons_zero, List.set_cons_succ, i64_w, i32_w]
    rfl
  refine pure_ (i := 12) (N := some 17) (v := ?_) (a' := ?_) #[true, true, true, true, true, true, true, true, true, true, true, true, true, false, false] rfl rfl (by kernel_rfl) (fun _ _ _ h => h) (Or.inl ⟨by rfl, ?_⟩) ?_ ?_
  rotate_left
  · intro w'
    go_simp
    with_reducible rfl
  rotate_left
  · simp only [Act.put, List.setIfInBounds_toArray, List.set_cons_zero, List.set_cons_succ, i64_w, i32_w]
    rfl
  refine take_ (i := 13) (N := some 18) (v := ?_) (a' := ?_) #[true, true, true, true, true, true, true, true, true, true, true, true, true, true, false] rfl rfl (by kernel_rfl) (fun _ _ _ h => h) (Or.inl ⟨by rfl, ?_⟩) hHeld ?_ ?_
  rotate_left
  · rintro w' ⟨s0, s1, s2, s3⟩
    go_simp
    with_reducible rfl
  rotate_left
  · simp only [Act.put, List.setIfInBounds_toArray, List.set_cons_zero, List.set_cons_succ, i64_w, i32_w]
    rfl
  refine last_ (i := 14) (N := none) #[true, true, true, true, true, true, true, true, true, true, true, true, true, true, true] rfl rfl (by kernel_rfl) (by decide) (fun K hK => ?_)
  refine skip_ (w1 := ?_) (by rfl) rfl ?_ ?_
  rotate_left
  · go_simp
    rfl
  refine hK.out _ _ ?_
  clear hK K
  refine done_ (by kernel_rfl) ?_
  go_wp2
  refine bodyPost_ret (results_cell_row rfl _ _ w.heap.size 46 #[.float .f32 x.f0, .float .f32 x.f1, .float .f32 x.f2] (0, 0) _ rfl (by
    (with_reducible repeat (first | refine blk_drewN ?_ _ | refine blk_drew ?_))
    exact heap_alloc_new _ _) Try.underlying46 rfl (by kernel_rfl)) rfl ?_
  exact ⟨rfl, by repeat (first | exact Below.refl _ _ | apply below_alloc | apply below_drew1)⟩
set_option maxHeartbeats 4000000 in
set_option maxRecDepth 100000 in
theorem segment64 (ad : Addr) (A : Option Addr) (c : Nat) (l : List S46) (i j : Nat) (w : World) (f0 : w.cell? ad = some (.slice A l.length c)) (hle : l.length ≤ c) (hC : Kd.C k46 w A l.length l) (hi : i < l.length) (hj : (i + 1) % l.length = j) (x y : S46) (hx : rd_T46 l (i : Int) = x) (hy : rd_T46 l (j : Int) = y) (r1 r2 r3 : Nat) (h : impl_LessVectors.f y.f0 y.f1 y.f2 x.f0 x.f1 x.f2 = some (r1, r2, r3)) :
    Calls Try.prog 64 #[.pointer (some ad), .int .i64 (i : Int)] w fun e w' => e = .returned (.agg #[.float .f32 r1, .float .f32 r2, .float .f32 r3]) ∧ Below w.heap.size w w' := by
  have hmx : l.length ≤ 9223372036854775807 := Kd.C_max hC
  obtain ⟨ae, rfl, hx_0, hx_1, hx_2⟩ := at_T46 hC (i : Int) (by omega) (by omega)
  rw [Int.toNat_natCast, hx] at hx_0 hx_1 hx_2
  have hbk : ad.block < w.heap.size := World.block_lt_of_cell? w _ f0
  have hb_0 := World.block_lt_of_cell? w _ hx_0
  have hb_1 := World.block_lt_of_cell? w _ hx_1
  have hb_2 := World.block_lt_of_cell? w _ hx_2
  have hilI : (i : Int) < (l.length : Int) := by omega
  have hB := below_alloc (Below.refl w.heap.size w) (.cells #[.float .f32 0, .float .f32 0, .float .f32 0] 46 (0, 0))
  have g0 := f0
  have gx_0 := hx_0
  have gx_1 := hx_1
  have gx_2 := hx_2
  replace f0 := (hB.cell hbk).trans f0
  replace hx_0 := (hB.cell hb_0).trans hx_0
  replace hx_1 := (hB.cell hb_1).trans hx_1
  replace hx_2 := (hB.cell hb_2).trans hx_2
  go_enter Try.func64, Try.ntmps64
  go_wp2
  refine start_ (n := 12) (S := fun w' => w'.cell? ad = some (.slice (some ae) l.length c) ∧ w'.cell? (ae.add (i * 3)) = some (.float .f32 x.f0) ∧ w'.cell? ⟨(ae.add (i * 3)).block, (ae.add (i * 3)).off + 1, none⟩ = some (.float .f32 x.f1) ∧ w'.cell? ⟨(ae.add (i * 3)).block, (ae.add (i * 3)).off + 2, none⟩ = some (.float .f32 x.f2)) (ds := [11]) #[false, false, false, false, false, false, false, false, false, false, false, false] (by kernel_rfl) rfl rfl ⟨f0, hx_0, hx_1, hx_2⟩ (fun hHeld => ?_)
  refine pure_ (i := 0) (N := some 5) (v := ?_) (a' := ?_) #[true, false, false, false, false, false, false, false, false, false, false, false] rfl rfl (by kernel_rfl) (fun _ _ _ h => h) (Or.inl ⟨by rfl, ?_⟩) ?_ ?_
  rotate_left
  · intro w'
    go_simp
    with_reducible rfl
  rotate_left
  · simp only [Act.put, List.setIfInBounds_toArray, List.set_cons_zero, List.set_cons_succ, i64_w, i32_w]
    rfl
  refine pure_ (i := 1) (N := some 6) (v := ?_) (a' := ?_) #[true, true, false, false, false, false, false, false, false, false, false, false] rfl rfl (by kernel_rfl) (fun _ _ _ h => h) (Or.inl ⟨by rfl, ?_⟩) ?_ ?_
  rotate_left
  · intro w'
    go_simp
    with_reducible rfl
  rotate_left
  · simp only [Act.put, List.setIfInBounds_toArray, List.set_cons_zero, List.set_cons_succ, i64_w, i32_w]
    rfl
  refine pure_ (i := 3) (N := some 8) (v := ?_) (a' := ?_) #[true, true, false, true, false, false, false, false, false, false, false, false] rfl rfl (by kernel_rfl) (fun _ _ _ h => h) (Or.inl ⟨by rfl, ?_⟩) ?_ ?_
  rotate_left
  · intro w'
    go_simp
    with_reducible rfl
  rotate_left
  · simp only [Act.put, List.setIfInBounds_toArray, List.set_cons_zero, List.set_cons_succ, i64_w, i32_w]
    rfl
  refine pure_ (i := 4) (N := some 9) (v := ?_) (a' := ?_) #[true, true, false, true, true, false, false, false, false, false, false, false] rfl rfl (by kernel_rfl) (fun _ _ _ h => h) (Or.inl ⟨by rfl, ?_⟩) ?_ ?_
  rotate_left
  · intro w'
    go_simp
    with_reducible rfl
  rotate_left
  · simp only [Act.put, List.setIfInBounds_toArray, List.set_cons_zero, List.set_cons_succ, i64_w, i32_w]
    rfl
  refine pure_ (i := 5) (N := some 10) (v := ?_) (a' := ?_) #[true, true, false, true, true, true, false, false, false, false, false, false] rfl rfl (by kernel_rfl) (fun _ _ _ h => h) (Or.inl ⟨by rfl, ?_⟩) ?_ ?_
  rotate_left
  · intro w'
    go_simp
    with_reducible rfl
  rotate_left
  · simp only [Act.put, List.setIfInBounds_toArray, List.set_cons_zero, List.set_cons_succ, i64_w, i32_w]
    rfl
  refine pure_ (i := 7) (N := some 12) (v := ?_) (a' := ?_) #[true, true, false, true, true, true, false, true, false, false, false, false] rfl rfl (by kernel_rfl) (fun _ _ _ h => h) (Or.inl ⟨by rfl, ?_⟩) ?_ ?_
  rotate_left
  · intro w'
    go_simp
    with_reducible rfl
  rotate_left
  · simp only [Act.put, List.setIfInBounds_toArray, List.set_cons_zero, List.set_cons_succ, i64_w, i32_w]
    rfl
  refine take_ (i := 6) (N := some 11) (v := ?_) (a' := ?_) #[true, true, false, true, true, true, true, true, false, false, false, false] rfl rfl (by kernel_rfl) (fun _ _ _ h => h) (Or.inl ⟨by rfl, ?_⟩) hHeld ?_ ?_
  rotate_left
  · rintro w' ⟨s0, s1, s2, s3⟩
    go_simp
    with_reducible rfl
  rotate_left
  · simp only [Act.put, List.setIfInBounds_toArray, List.set_cons_zero, List.set_cons_succ, i64_w, i32_w]
    rfl
  refine pure_ (i := 8) (N := some 13) (v := ?_) (a' := ?_) #[true, true, false, true, true, true, true, true, true, false, false, false] rfl rfl (by kernel_rfl) (fun _ _ _ h => h) (Or.inl ⟨by rfl, ?_⟩) ?_ ?_
  rotate_left
  · intro w'
    go_simp
    with_reducible rfl
  rotate_left
  · simp only [Act.put, List.setIfInBounds_toArray, List.set_cons_zero, List.set_cons_succ, i64_w, i32_w]
    rfl
  refine take_ (i := 9) (N := some 14) (v := ?_) (a' := ?_) #[true, true, false, true, true, true, true, true, true, true, false, false] rfl rfl (by kernel_rfl) (fun _ _ _ h => h) (Or.inl ⟨by rfl, ?_⟩) hHeld ?_ ?_
  rotate_left
  · rintro w' ⟨s0, s1, s2, s3⟩
    go_simp
    with_reducible rfl
  rotate_left
  · simp only [Act.put, List.setIfInBounds_toArray, List.set_cons_zero, List.set_cons_succ, i64_w, i32_w]
    rfl
  refine one_ (i := 2) (N := some 7) #[true, true, true, true, true, true, true, true, true, true, false, false] rfl rfl (by kernel_rfl) (by decide) (fun K hK => ?_)
  refine goes_ Try.func109 (by kernel_rfl) rfl #[.pointer (some ad), .int .i64 (i : Int)] (by rfl) rfl rfl (by (try simp only [List.map_toArray, List.map_cons, List.map_nil]); first | done | rfl) ?_
  refine (next109 ad (some ae) c l i j (w.alloc (.cells #[.float .f32 0, .float .f32 0, .float .f32 0] 46 (0, 0))).drew f0 hle (Kd.C_below hC (below_drew1 hB)) hi hj y hy).mono ?_
  rintro e w1 ⟨rfl, hb1⟩
  refine ⟨_, rfl, ?_⟩
  have HB1 := Aside0.mk (below_step (below_drew1 hB) hb1)
  have BK1 := blk_below (g := w.heap.size) (o := .cells #[.float .f32 0, .float .f32 0, .float .f32 0] 46 (0, 0)) (blk_drew (heap_alloc_new w _)) hb1
  clear hb1
  refine hK.out _ _ ⟨cell_b HB1.out g0, cell_b HB1.out gx_0, cell_b HB1.out gx_1, cell_b HB1.out gx_2⟩ (fun hHeld1 => ?_)
  clear hK K
  refine norm_ (a' := ?_) ?_ ?_
  rotate_left
  · show Act.put _ (some 7) _ = _
    simp only [Act.put, List.setIfInBounds_toArray, List.set_cons_zero, List.set_cons_succ]
    rfl
  refine one_ (i := 10) (N := some 15) #[true, true, true, true, true, true, true, true, true, true, true, false] rfl rfl (by kernel_rfl) (by decide) (fun K hK => ?_)
  refine goes_ Try.func60 (by kernel_rfl) rfl #[.agg #[.float .f32 y.f0, .float .f32 y.f1, .float .f32 y.f2], .agg #[.float .f32 x.f0, .float .f32 x.f1, .float .f32 x.f2]] (by rfl) rfl rfl (by (try simp only [List.map_toArray, List.map_cons, List.map_nil]); first | done | rfl) ?_
  refine (impl_LessVectors.calls _ _ _ _ _ _ _ _ _ _ h).mono ?_
  rintro e w2 ⟨rfl, hb2⟩
  refine ⟨_, rfl, ?_⟩
  have HB2 := Aside0.mk (below_step HB1.out hb2)
  have BK2 := blk_below (g := w.heap.size) (o := .cells #[.float .f32 0, .float .f32 0, .float .f32 0] 46 (0, 0)) BK1 hb2
  clear hb2
  refine hK.out _ _ ⟨cell_b HB2.out g0, cell_b HB2.out gx_0, cell_b HB2.out gx_1, cell_b HB2.out gx_2⟩ (fun hHeld2 => ?_)
  clear hK K
  refine norm_ (a' := ?_) ?_ ?_
  rotate_left
  · show Act.put _ (some 15) _ = _
    simp only [Act.put, List.setIfInBounds_toArray, List.set_cons_zero, List.set_cons_succ]
    rfl
  have hcz_0 : w2.cell? ⟨w.heap.size, 0, none⟩ = some (.float .f32 0) := (blk_cell BK2 0).trans rfl
  have hcz_1 : w2.cell? ⟨w.heap.size, 1, none⟩ = some (.float .f32 0) := (blk_cell BK2 1).trans rfl
  have hcz_2 : w2.cell? ⟨w.heap.size, 2, none⟩ = some (.float .f32 0) := (blk_cell BK2 2).trans rfl
  have hfz_0 := blk_frozen BK2 0
  have hfz_1 := blk_frozen BK2 1
  have hfz_2 := blk_frozen BK2 2
  refine last_ (i := 11) (N := none) #[true, true, true, true, true, true, true, true, true, true, true, true] rfl rfl (by kernel_rfl) (by decide) (fun K hK => ?_)
  refine skip_ (w1 := ?_) (by rfl) rfl ?_ ?_
  rotate_left
  · go_simp
    rfl
  refine hK.out _ _ ?_
  clear hK K
  refine done_ (by kernel_rfl) ?_
  go_wp2
  refine bodyPost_ret (results_cell_row rfl _ _ w.heap.size 46 #[.float .f32 r1, .float .f32 r2, .float .f32 r3] (0, 0) _ rfl (by
    refine blk_put (cs := #[.float .f32 r1, .float .f32 r2, .float .f32 0]) ?_ 2 _ rfl
    refine blk_put (cs := #[.float .f32 r1, .float .f32 0, .float .f32 0]) ?_ 1 _ rfl
    refine blk_put (cs := #[.float .f32 0, .float .f32 0, .float .f32 0]) ?_ 0 _ rfl
    exact BK2) Try.underlying46 rfl (by kernel_rfl)) rfl ?_
  exact ⟨rfl, by repeat (first | exact HB2.out | refine below_set ?_ (Nat.le_refl _))⟩
set_option maxHeartbeats 4000000 in
set_option maxRecDepth 100000 in
theorem ends80 (ad : Addr) (A : Option Addr) (c : Nat) (l : List S46) (i j : Nat) (w : World) (f0 : w.cell? ad = some (.slice A l.length c)) (hle : l.length ≤ c) (hC : Kd.C k46 w A l.length l) (hi : i < l.length) (hj : (i + 1) % l.length = j) (x y : S46) (hx : rd_T46 l (i : Int) = x) (hy : rd_T46 l (j : Int) = y) :
    Calls Try.prog 80 #[.pointer (some ad), .int .i64 (i : Int)] w fun e w' => e = .returned (.tuple #[.agg #[.float .f32 x.f0, .float .f32 x.f1, .float .f32 x.f2], .agg #[.float .f32 y.f0, .float .f32 y.f1, .float .f32 y.f2]]) ∧ Below w.heap.size w w' := by
  have hmx : l.length ≤ 9223372036854775807 := Kd.C_max hC
  have hjl : j < l.length := by rw [← hj]; exact Nat.mod_lt _ (by omega)
  obtain ⟨ae, rfl, hx_0, hx_1, hx_2⟩ := at_T46 hC (i : Int) (by omega) (by omega)
  rw [Int.toNat_natCast, hx] at hx_0 hx_1 hx_2
  obtain ⟨ae', hae, hy_0, hy_1, hy_2⟩ := at_T46 hC (j : Int) (by omega) (by omega)
  obtain rfl := Option.some.inj hae
  rw [Int.toNat_natCast, hy] at hy_0 hy_1 hy_2
  have hilI : (i : Int) < (l.length : Int) := by omega
  have hjlI : (j : Int) < (l.length : Int) := by omega
  have hw1 : wrap64 ((i : Int) + 1) = (i : Int) + 1 := by unfold wrap64; omega
  have hz : l ≠ [] := by rintro rfl; simp at hi
  have hm : Int.tmod ((i : Int) + 1) (l.length : Int) = (j : Int) := by
    rw [← hj]
    rw [Int.tmod_eq_emod_of_nonneg (by omega)]
    simp
  have hm2 : wrap64 (j : Int) = (j : Int) := by unfold wrap64; omega
  have hB := below_alloc (below_alloc (Below.refl w.heap.size w) (.cells #[.float .f32 0, .float .f32 0, .float .f32 0] 46 (0, 0))) (.cells #[.float .f32 0, .float .f32 0, .float .f32 0] 46 (0, 0))
  have g0 := f0
  have gx_0 := hx_0
  have gx_1 := hx_1
  have gx_2 := hx_2
  have gy_0 := hy_0
  have gy_1 := hy_1
  have gy_2 := hy_2
  replace f0 := cell_b hB f0
  replace hx_0 := cell_b hB hx_0
  replace hx_1 := cell_b hB hx_1
  replace hx_2 := cell_b hB hx_2
  replace hy_0 := cell_b hB hy_0
  replace hy_1 := cell_b hB hy_1
  replace hy_2 := cell_b hB hy_2
  go_enter Try.func80, Try.ntmps80
  go_wp2
  refine start_ (n := 23) (S := fun w' => w'.cell? ad = some (.slice (some ae) l.length c) ∧ w'.cell? (ae.add (i * 3)) = some (.float .f32 x.f0) ∧ w'.cell? ⟨(ae.add (i * 3)).block, (ae.add (i * 3)).off + 1, none⟩ = some (.float .f32 x.f1) ∧ w'.cell? ⟨(ae.add (i * 3)).block, (ae.add (i * 3)).off + 2, none⟩ = some (.float .f32 x.f2) ∧ w'.cell? (ae.add (j * 3)) = some (.float .f32 y.f0) ∧ w'.cell? ⟨(ae.add (j * 3)).block, (ae.add (j * 3)).off + 1, none⟩ = some (.float .f32 y.f1) ∧ w'.cell? ⟨(ae.add (j * 3)).block, (ae.add (j * 3)).off + 2, none⟩ = some (.float .f32 y.f2)) (ds := [22]) #[false, false, false, false, false, false, false, false, false, false, false, false, false, false, false, false, false, false, false, false, false, false, false] (by kernel_rfl) rfl rfl ⟨f0, hx_0, hx_1, hx_2, hy_0, hy_1, hy_2⟩ (fun hHeld => ?_)
  refine pure_ (i := 0) (N := some 6) (v := ?_) (a' := ?_) #[true, false, false, false, false, false, false, false, false, false, false, false, false, false, false, false, false, false, false, false, false, false, false] rfl rfl (by kernel_rfl) (fun _ _ _ h => h) (Or.inl ⟨by rfl, ?_⟩) ?_ ?_
  rotate_left
  · intro w'
    go_simp
    with_reducible rfl
  rotate_left
  · simp only [Act.put, List.setIfInBounds_toArray, List.set_cons_zero, List.set_cons_succ, i64_w, i32_w]
    rfl
  refine pure_ (i := 1) (N := some 7) (v := ?_) (a' := ?_) #[true, true, false, false, false, false, false, false, false, false, false, false, false, false, false, false, false, false, false, false, false, false, false] rfl rfl (by kernel_rfl) (fun _ _ _ h => h) (Or.inl ⟨by rfl, ?_⟩) ?_ ?_
  rotate_left
  · intro w'
    go_simp
    with_reducible rfl
  rotate_left
  · simp only [Act.put, List.setIfInBounds_toArray, List.set_cons_zero, List.set_cons_succ, i64_w, i32_w]
    rfl
  refine pure_ (i := 2) (N := some 8) (v := ?_) (a' := ?_) #[true, true, true, false, false, false, false, false, false, false, false, false, false, false, false, false, false, false, false, false, false, false, false] rfl rfl (by kernel_rfl) (fun _ _ _ h => h) (Or.inl ⟨by rfl, ?_⟩) ?_ ?_
  rotate_left
  · intro w'
    go_simp
    with_reducible rfl
  rotate_left
  · simp only [Act.put, List.setIfInBounds_toArray, List.set_cons_zero, List.set_cons_succ, i64_w, i32_w]
    rfl
  refine pure_ (i := 4) (N := some 10) (v := ?_) (a' := ?_) #[true, true, true, false, true, false, false, false, false, false, false, false, false, false, false, false, false, false, false, false, false, false, false] rfl rfl (by kernel_rfl) (fun _ _ _ h => h) (Or.inl ⟨by rfl, ?_⟩) ?_ ?_
  rotate_left
  · intro w'
    go_simp
    with_reducible rfl
  rotate_left
  · simp only [Act.put, List.setIfInBounds_toArray, List.set_cons_zero, List.set_cons_succ, i64_w, i32_w]
    rfl
  refine pure_ (i := 7) (N := some 13) (v := ?_) (a' := ?_) #[true, true, true, false, true, false, false, true, false, false, false, false, false, false, false, false, false, false, false, false, false, false, false] rfl rfl (by kernel_rfl) (fun _ _ _ h => h) (Or.inl ⟨by rfl, ?_⟩) ?_ ?_
  rotate_left
  · intro w'
    go_simp
    with_reducible rfl
  rotate_left
  · simp only [Act.put, List.setIfInBounds_toArray, List.set_cons_zero, List.set_cons_succ, i64_w, i32_w]
    rfl
  refine pure_ (i := 8) (N := some 14) (v := ?_) (a' := ?_) #[true, true, true, false, true, false, false, true, true, false, false, false, false, false, false, false, false, false, false, false, false, false, false] rfl rfl (by kernel_rfl) (fun _ _ _ h => h) (Or.inl ⟨by rfl, ?_⟩) ?_ ?_
  rotate_left
  · intro w'
    go_simp
    with_reducible rfl
  rotate_left
  · simp only [Act.put, List.setIfInBounds_toArray, List.set_cons_zero, List.set_cons_succ, i64_w, i32_w]
    rfl
  refine pure_ (i := 9) (N := some 15) (v := ?_) (a' := ?_) #[true, true, true, false, true, false, false, true, true, true, false, false, false, false, false, false, false, false, false, false, false, false, false] rfl rfl (by kernel_rfl) (fun _ _ _ h => h) (Or.inl ⟨by rfl, ?_⟩) ?_ ?_
  rotate_left
  · intro w'
    go_simp
    with_reducible rfl
  rotate_left
  · simp only [Act.put, List.setIfInBounds_toArray, List.set_cons_zero, List.set_cons_succ, i64_w, i32_w]
    rfl
  refine pure_ (i := 11) (N := some 17) (v := ?_) (a' := ?_) #[true, true, true, false, true, false, false, true, true, true, false, true, false, false, false, false, false, false, false, false, false, false, false] rfl rfl (by kernel_rfl) (fun _ _ _ h => h) (Or.inl ⟨by rfl, ?_⟩) ?_ ?_
  rotate_left
  · intro w'
    go_simp
    with_reducible rfl
  rotate_left
  · simp only [Act.put, List.setIfInBounds_toArray, List.set_cons_zero, List.set_cons_succ, i64_w, i32_w]
    rfl
  refine pure_ (i := 12) (N := some 18) (v := ?_) (a' := ?_) #[true, true, true, false, true, false, false, true, true, true, false, true, true, false, false, false, false, false, false, false, false, false, false] rfl rfl (by kernel_rfl) (fun _ _ _ h => h) (Or.inl ⟨by rfl, ?_⟩) ?_ ?_
  rotate_left
  · intro w'
    go_simp
    with_reducible rfl
  rotate_left
  · simp only [Act.put, List.setIfInBounds_toArray, List.set_cons_zero, List.set_cons_succ, i64_w, i32_w]
    rfl
  refine pure_ (i := 13) (N := some 19) (v := ?_) (a' := ?_) #[true, true, true, false, true, false, false, true, true, true, false, true, true, true, false, false, false, false, false, false, false, false, false] rfl rfl (by kernel_rfl) (fun _ _ _ h => h) (Or.inl ⟨by rfl, ?_⟩) ?_ ?_
  rotate_left
  · intro w'
    go_simp
    with_reducible rfl
  rotate_left
  · simp only [Act.put, List.setIfInBounds_toArray, List.set_cons_zero, List.set_cons_succ, i64_w, i32_w]
    rfl
  refine pure_ (i := 14) (N := some 20) (v := ?_) (a' := ?_) #[true, true, true, false, true, false, false, true, true, true, false, true, true, true, true, false, false, false, false, false, false, false, false] rfl rfl (by kernel_rfl) (fun _ _ _ h => h) (Or.inl ⟨by rfl, ?_⟩) ?_ ?_
  rotate_left
  · intro w'
    go_simp
    with_reducible rfl
  rotate_left
  · simp only [Act.put, List.setIfInBounds_toArray, List.set_cons_zero, List.set_cons_succ, i64_w, i32_w]
    rfl
  refine pure_ (i := 15) (N := some 21) (v := ?_) (a' := ?_) #[true, true, true, false, true, false, false, true, true, true, false, true, true, true, true, true, false, false, false, false, false, false, false] rfl rfl (by kernel_rfl) (fun _ _ _ h => h) (Or.inl ⟨by rfl, ?_⟩) ?_ ?_
  rotate_left
  · intro w'
    go_simp
    with_reducible rfl
  rotate_left
  · simp only [Act.put, List.setIfInBounds_toArray, List.set_cons_zero, List.set_cons_succ, i64_w, i32_w]
    rfl
  refine take_ (i := 3) (N := some 9) (v := ?_) (a' := ?_) #[true, true, true, true, true, false, false, true, true, true, false, true, true, true, true, true, false, false, false, false, false, false, false] rfl rfl (by kernel_rfl) (fun _ _ _ h => h) (Or.inl ⟨by rfl, ?_⟩) hHeld ?_ ?_
  rotate_left
  · rintro w' ⟨s0, s1, s2, s3, s4, s5, s6⟩
    go_simp
    with_reducible rfl
  rotate_left
  · simp only [Act.put, List.setIfInBounds_toArray, List.set_cons_zero, List.set_cons_succ, i64_w, i32_w]
    rfl
  refine take_ (i := 10) (N := some 16) (v := ?_) (a' := ?_) #[true, true, true, true, true, false, false, true, true, true, true, true, true, true, true, true, false, false, false, false, false, false, false] rfl rfl (by kernel_rfl) (fun _ _ _ h => h) (Or.inl ⟨by rfl, ?_⟩) hHeld ?_ ?_
  rotate_left
  · rintro w' ⟨s0, s1, s2, s3, s4, s5, s6⟩
    go_simp
    with_reducible rfl
  rotate_left
  · simp only [Act.put, List.setIfInBounds_toArray, List.set_cons_zero, List.set_cons_succ, i64_w, i32_w]
    rfl
  refine take_ (i := 16) (N := some 22) (v := ?_) (a' := ?_) #[true, true, true, true, true, false, false, true, true, true, true, true, true, true, true, true, true, false, false, false, false, false, false] rfl rfl (by kernel_rfl) (fun _ _ _ h => h) (Or.inl ⟨by rfl, ?_⟩) hHeld ?_ ?_
  rotate_left
  · rintro w' ⟨s0, s1, s2, s3, s4, s5, s6⟩
    go_simp
    with_reducible rfl
  rotate_left
  · simp only [Act.put, List.setIfInBounds_toArray, List.set_cons_zero, List.set_cons_succ, i64_w, i32_w]
    rfl
  refine pure_ (i := 5) (N := some 11) (v := ?_) (a' := ?_) #[true, true, true, true, true, true, false, true, true, true, true, true, true, true, true, true, true, false, false, false, false, false, false] rfl rfl (by kernel_rfl) (fun _ _ _ h => h) (Or.inl ⟨by rfl, ?_⟩) ?_ ?_
  rotate_left
  · intro w'
    go_simp
    with_reducible rfl
  rotate_left
  · simp only [Act.put, List.setIfInBounds_toArray, List.set_cons_zero, List.set_cons_succ, i64_w, i32_w]
    rfl
  refine pure_ (i := 17) (N := some 23) (v := ?_) (a' := ?_) #[true, true, true, true, true, true, false, true, true, true, true, true, true, true, true, true, true, true, false, false, false, false, false] rfl rfl (by kernel_rfl) (fun _ _ _ h => h) (Or.inl ⟨by rfl, ?_⟩) ?_ ?_
  rotate_left
  · intro w'
    go_simp
    with_reducible rfl
  rotate_left
  · simp only [Act.put, List.setIfInBounds_toArray, List.set_cons_zero, List.set_cons_succ, i64_w, i32_w]
    rfl
  refine pure_ (i := 18) (N := some 24) (v := ?_) (a' := ?_) #[true, true, true, true, true, true, false, true, true, true, true, true, true, true, true, true, true, true, true, false, false, false, false] rfl rfl (by kernel_rfl) (fun _ _ _ h => h) (Or.inl ⟨by rfl, ?_⟩) ?_ ?_
  rotate_left
  · intro w'
    go_simp
    with_reducible rfl
  rotate_left
  · simp only [Act.put, List.setIfInBounds_toArray, List.set_cons_zero, List.set_cons_succ, i64_w, i32_w]
    rfl
  refine pure_ (i := 19) (N := some 25) (v := ?_) (a' := ?_) #[true, true, true, true, true, true, false, true, true, true, true, true, true, true, true, true, true, true, true, true, false, false, false] rfl rfl (by kernel_rfl) (fun _ _ _ h => h) (Or.inl ⟨by rfl, ?_⟩) ?_ ?_
  rotate_left
  · intro w'
    go_simp
    with_reducible rfl
  rotate_left
  · simp only [Act.put, List.setIfInBounds_toArray, List.set_cons_zero, List.set_cons_succ, i64_w, i32_w]
    rfl
  refine take_ (i := 6) (N := some 12) (v := ?_) (a' := ?_) #[true, true, true, true, true, true, true, true, true, true, true, true, true, true, true, true, true, true, true, true, false, false, false] rfl rfl (by kernel_rfl) (fun _ _ _ h => h) (Or.inl ⟨by rfl, ?_⟩) hHeld ?_ ?_
  rotate_left
  · rintro w' ⟨s0, s1, s2, s3, s4, s5, s6⟩
    go_simp
    with_reducible rfl
  rotate_left
  · simp only [Act.put, List.setIfInBounds_toArray, List.set_cons_zero, List.set_cons_succ, i64_w, i32_w]
    rfl
  refine take_ (i := 20) (N := some 26) (v := ?_) (a' := ?_) #[true, true, true, true, true, true, true, true, true, true, true, true, true, true, true, true, true, true, true, true, true, false, false] rfl rfl (by kernel_rfl) (fun _ _ _ h => h) (Or.inl ⟨by rfl, ?_⟩) hHeld ?_ ?_
  rotate_left
  · rintro w' ⟨s0, s1, s2, s3, s4, s5, s6⟩
    go_simp
    with_reducible rfl
  rotate_left
  · simp only [Act.put, List.setIfInBounds_toArray, List.set_cons_zero, List.set_cons_succ, i64_w, i32_w]
    rfl
  refine one_ (i := 21) (N := none) #[true, true, true, true, true, true, true, true, true, true, true, true, true, true, true, true, true, true, true, true, true, true, false] rfl rfl (by kernel_rfl) (by decide) (fun K hK => ?_)
  refine skip_ (w1 := ?_) (by rfl) rfl ?_ ?_
  rotate_left
  · go_simp
    rfl
  have hB2 : Below w.heap.size w (((w.alloc (.cells #[.float .f32 x.f0, .float .f32 x.f1, .float .f32 x.f2] 46 (0, 0))).alloc (.cells #[.float .f32 0, .float .f32 0, .float .f32 0] 46 (0, 0))).drew) := below_drew1 (below_alloc (below_alloc (Below.refl _ _) _) _)
  refine hK.out _ _ ⟨cell_b hB2 g0, cell_b hB2 gx_0, cell_b hB2 gx_1, cell_b hB2 gx_2, cell_b hB2 gy_0, cell_b hB2 gy_1, cell_b hB2 gy_2⟩ (fun hHeld2 => ?_)
  clear hK K
  refine last_ (i := 22) (N := none) #[true, true, true, true, true, true, true, true, true, true, true, true, true, true, true, true, true, true, true, true, true, true, true] rfl rfl (by kernel_rfl) (by decide) (fun K hK => ?_)
  refine skip_ (w1 := ?_) (by rfl) rfl ?_ ?_
  rotate_left
  · go_simp
    rfl
  refine hK.out _ _ ?_
  clear hK K
  refine done_ (by kernel_rfl) ?_
  go_wp2
  refine bodyPost_ret (results_cc rfl _ _ w.heap.size (w.heap.size + 1) 46 46 #[.float .f32 x.f0, .float .f32 x.f1, .float .f32 x.f2] #[.float .f32 y.f0, .float .f32 y.f1, .float .f32 y.f2] (0, 0) (0, 0) _ _ rfl (by
    (with_reducible repeat (first | refine blk_drewN ?_ _ | refine blk_drew ?_))
    exact blk_alloc (heap_alloc_new _ _) _) Try.underlying46 rfl (by kernel_rfl) rfl (by
    (with_reducible repeat (first | refine blk_drewN ?_ _ | refine blk_drew ?_))
    have := heap_alloc_new (w.alloc (.cells #[.float .f32 x.f0, .float .f32 x.f1, .float .f32 x.f2] 46 (0, 0))) (.cells #[.float .f32 y.f0, .float .f32 y.f1, .float .f32 y.f2] 46 (0, 0))
    simpa using this) Try.underlying46 rfl (by kernel_rfl)) rfl ?_
  exact ⟨rfl, by repeat (first | exact Below.refl _ _ | apply below_alloc | apply below_drew1)⟩
def sumF (step : Nat → Option Nat) : Nat → Nat → Nat → Option Nat
  | 0, _, acc => some acc
  | k + 1, i, acc => (step i).bind fun s => if fok .add .f32 acc s = true then sumF step k (i + 1) (fop .add .f32 acc s) else none
theorem sumF_succ {step : Nat → Option Nat} {k i acc r : Nat} (h : sumF step (k + 1) i acc = some r) : ∃ s, step i = some s ∧ fok .add .f32 acc s = true ∧ sumF step k (i + 1) (fop .add .f32 acc s) = some r := by
  unfold sumF at h
  obtain ⟨s, h1, h2⟩ := Option.bind_eq_some_iff.1 h
  by_cases c : fok .add .f32 acc s = true
  · rw [if_pos c] at h2
    exact ⟨s, h1, c, h2⟩
  · rw [if_neg c] at h2
    cases h2
/-- The size of a segment, as the program tells it and as the reference does. -/
def sizeI (l : List S46) (i : Nat) : Option Nat := (impl_LessVectors.f (rd_T46 l (((i + 1) % l.length : Nat) : Int)).f0 (rd_T46 l (((i + 1) % l.length : Nat) : Int)).f1 (rd_T46 l (((i + 1) % l.length : Nat) : Int)).f2 (rd_T46 l (i : Int)).f0 (rd_T46 l (i : Int)).f1 (rd_T46 l (i : Int)).f2).bind fun r => impl_SizeOfVector.f r.1 r.2.1 r.2.2
def sizeS (l : List S46) (i : Nat) : Option Nat := (spec_l01VLess.f (rd_T46 l (((i + 1) % l.length : Nat) : Int)).f0 (rd_T46 l (((i + 1) % l.length : Nat) : Int)).f1 (rd_T46 l (((i + 1) % l.length : Nat) : Int)).f2 (rd_T46 l (i : Int)).f0 (rd_T46 l (i : Int)).f1 (rd_T46 l (i : Int)).f2).bind fun r => spec_l01VLong.f r.1 r.2.1 r.2.2
set_option maxHeartbeats 4000000 in
set_option maxRecDepth 100000 in
theorem long47 (ad : Addr) (A : Option Addr) (c : Nat) (l : List S46) (w : World) (f0 : w.cell? ad = some (.slice A l.length c)) (hle : l.length ≤ c) (hC : Kd.C k46 w A l.length l) (r : Nat) (h : sumF (sizeI l) l.length 0 0 = some r) :
    Calls Try.prog 47 #[.pointer (some ad)] w fun e w' => e = .returned (.float .f32 r) ∧ Below w.heap.size w w' := by
  have hmx : l.length ≤ 9223372036854775807 := Kd.C_max hC
  have HC := Aside0.mk hC
  have HR := Aside0.mk h
  clear hC h
  have g0 := f0
  go_enter Try.func47, Try.ntmps47
  go_wp2
  go_loopg [3, 10] l.length (fun kq v3 v10 w' => ∃ (i a : Nat), v3 = .float .f32 a ∧ v10 = .int .i64 (i : Int) ∧ Aside0 (i + kq = l.length) ∧ Aside0 (sumF (sizeI l) kq i a = some r) ∧ Aside0 (Below w.heap.size w w'))
  case atStart => exact ⟨0, 0, rfl, rfl, ⟨by simp⟩, HR, ⟨Below.refl _ _⟩⟩
  case round =>
    clear HR
    obtain ⟨i, a, rfl, rfl, HI, HX, HB⟩ := hrel
    have hi := HI.out
    replace f0 := cell_b HB.out g0
    cases gk with
    | zero =>
      have hc : decide ((i : Int) < (l.length : Int)) = false := by simp; omega
      have hx0 := HX.out
      replace hx0 : some a = some r := hx0
      obtain rfl := Option.some.inj hx0
      go_wp2
      go_ret
      exact ⟨rfl, HB.out⟩
    | succ k1 =>
      have hil : i < l.length := by omega
      have hc : decide ((i : Int) < (l.length : Int)) = true := by simp; omega
      have hwi : wrap64 ((i : Int) + 1) = ((i + 1 : Nat) : Int) := by unfold wrap64; omega
      obtain ⟨s, hs, hk, hn⟩ := sumF_succ HX.out
      unfold sizeI at hs
      obtain ⟨⟨r1, r2, r3⟩, hs1, hs2⟩ := Option.bind_eq_some_iff.1 hs
      clear hs
      have HS1 := Aside0.mk hs1
      have HS2 := Aside0.mk hs2
      have HN := Aside0.mk hn
      clear hs1 hs2 hn
      go_wp2_with (first | (go_at_call 64; refine (segment64 ad A c l i _ _ f0 hle (Kd.C_below HC.out HB.out) hil rfl _ _ rfl rfl r1 r2 r3 HS1.out).mono ?_; rintro e w1 ⟨rfl, hb1⟩) | (go_at_call 97; refine (impl_SizeOfVector.calls _ _ _ _ _ HS2.out).mono ?_; rintro e w2 ⟨rfl, hb2⟩))
      go_roundg k1
      case measure => omega
      case rel => exact ⟨i + 1, _, rfl, rfl, ⟨by omega⟩, HN, ⟨below_step (below_step HB.out hb1) hb2⟩⟩
set_option maxHeartbeats 4000000 in
set_option maxRecDepth 100000 in
theorem length43 (ad : Addr) (A : Option Addr) (c : Nat) (l : List S46) (w : World) (f0 : w.cell? ad = some (.slice A l.length c)) (hle : l.length ≤ c) (hC : Kd.C k46 w A l.length l) (r : Nat) (h : sumF (sizeS l) l.length 0 0 = some r) :
    Calls Try.prog 43 #[.pointer (some ad)] w fun e w' => e = .returned (.float .f32 r) ∧ Below w.heap.size w w' := by
  have hmx : l.length ≤ 9223372036854775807 := Kd.C_max hC
  have HC := Aside0.mk hC
  have HR := Aside0.mk h
  clear hC h
  have g0 := f0
  go_enter Try.func43, Try.ntmps43
  go_wp2
  go_loopg [3, 4] l.length (fun kq v3 v4 w' => ∃ (i a : Nat), v3 = .float .f32 a ∧ v4 = .int .i64 (i : Int) ∧ Aside0 (i + kq = l.length) ∧ Aside0 (sumF (sizeS l) kq i a = some r) ∧ Aside0 (Below w.heap.size w w'))
  case atStart => exact ⟨0, 0, rfl, rfl, ⟨by simp⟩, HR, ⟨Below.refl _ _⟩⟩
  case round =>
    clear HR
    obtain ⟨i, a, rfl, rfl, HI, HX, HB⟩ := hrel
    have hi := HI.out
    replace f0 := cell_b HB.out g0
    cases gk with
    | zero =>
      have hc : decide ((i : Int) < (l.length : Int)) = false := by simp; omega
      have hx0 := HX.out
      replace hx0 : some a = some r := hx0
      obtain rfl := Option.some.inj hx0
      go_wp2
      go_ret
      exact ⟨rfl, HB.out⟩
    | succ k1 =>
      have hil : i < l.length := by omega
      have hc : decide ((i : Int) < (l.length : Int)) = true := by simp; omega
      have hwi : wrap64 ((i : Int) + 1) = ((i + 1 : Nat) : Int) := by unfold wrap64; omega
      obtain ⟨s, hs, hk, hn⟩ := sumF_succ HX.out
      unfold sizeS at hs
      obtain ⟨⟨r1, r2, r3⟩, hs1, hs2⟩ := Option.bind_eq_some_iff.1 hs
      clear hs
      have HS1 := Aside0.mk hs1
      have HS2 := Aside0.mk hs2
      have HN := Aside0.mk hn
      clear hs1 hs2 hn
      go_wp2_with (first | (go_at_call 80; refine (ends80 ad A c l i _ _ f0 hle (Kd.C_below HC.out HB.out) hil rfl _ _ rfl rfl).mono ?_; rintro e w1 ⟨rfl, hb1⟩) | (go_at_call 54; refine (spec_l01VLess.calls _ _ _ _ _ _ _ _ _ _ HS1.out).mono ?_; rintro e w2 ⟨rfl, hb2⟩) | (go_at_call 81; refine (spec_l01VLong.calls _ _ _ _ _ HS2.out).mono ?_; rintro e w3 ⟨rfl, hb3⟩))
      go_roundg k1
      case measure => omega
      case rel => exact ⟨i + 1, _, rfl, rfl, ⟨by omega⟩, HN, ⟨below_step (below_step (below_alloc (below_alloc (below_step HB.out hb1) _) _) hb2) hb3⟩⟩
theorem vf (v : S46) : spec_l01VFinite.f v.f0 v.f1 v.f2 = some (vfin v) := by
  unfold spec_l01VFinite.f XL.l01Finite.f vfin
  cases h0 : fin v.f0 <;> cases h1 : fin v.f1 <;> cases h2 : fin v.f2 <;> simp

set_option maxHeartbeats 4000000 in
set_option maxRecDepth 100000 in
theorem l06Is_at (ad : Addr) (A : Option Addr) (c : Nat) (l : List S46) (a : Nat) (w : World) (f0 : w.cell? ad = some (.slice A l.length c)) (f1 : w.cell? ⟨ad.block, ad.off + 1, none⟩ = some (.float .f32 a)) (hle : l.length ≤ c) (hC : Kd.C k46 w A l.length l) (r : Bool) (hr : isThread l a = r) :
    Calls Try.prog 41 #[.pointer (some ad)] w fun e w' => e = .returned (.bool r) ∧ Below w.heap.size w w' := by
  have hbk : ad.block < w.heap.size := World.block_lt_of_cell? w _ f0
  have HC := Aside0.mk hC
  clear hC
  unfold isThread at hr
  by_cases c1 : 3 ≤ l.length
  · have c1a : decide ((l.length : Int) < (3 : Int)) = false := by simp; omega
    rw [decide_eq_true c1, Bool.true_and] at hr
    by_cases c2 : l.length ≤ 32
    · have c2a : decide ((32 : Int) < (l.length : Int)) = false := by simp; omega
      rw [decide_eq_true c2, Bool.true_and] at hr
      cases ef : fin a with
      | false =>
        rw [ef, Bool.and_false] at hr
        subst hr
        go_enter Try.func41, Try.ntmps41
        go_wp2_with (first | (go_at_call 58; refine (l01Finite.calls _ _ _ rfl).mono ?_; rw [ef]; rintro e w1 ⟨rfl, ⟨nd, rfl⟩⟩))
        go_ret
        exact ⟨rfl, pw_below_drewN (Below.refl _ _) _⟩
      | true =>
        rw [ef, Bool.and_true] at hr
        have HR := Aside0.mk hr
        clear hr
        go_enter Try.func41, Try.ntmps41
        go_wp2_with (first | (go_at_call 58; refine (l01Finite.calls _ _ _ rfl).mono ?_; rw [ef]; rintro e w1 ⟨rfl, ⟨nd, rfl⟩⟩))
        go_loopg [3] l.length (fun kq v3 w' => ∃ (i : Nat), v3 = .int .i64 (i : Int) ∧ Aside0 (i + kq = l.length) ∧ Aside0 ((!((l.drop i).any fun x => !vfin x)) = r) ∧ Aside0 (Below w.heap.size w w'))
        case atStart => exact ⟨0, rfl, ⟨by simp⟩, HR, ⟨pw_below_drewN (Below.refl _ _) _⟩⟩
        case round =>
          clear HR
          obtain ⟨i, rfl, HI, HX, HB⟩ := hrel
          have hi := HI.out
          have hx0 := HX.out
          replace f0 := (HB.out.cell hbk).trans f0
          cases gk with
          | zero =>
            have hc : decide ((i : Int) < (l.length : Int)) = false := by simp; omega
            rw [List.drop_eq_nil_of_le (by omega)] at hx0
            replace hx0 : true = r := hx0
            subst hx0
            go_wp2
            go_ret
            exact ⟨rfl, HB.out⟩
          | succ k1 =>
            have hil : i < l.length := by omega
            have hc : decide ((i : Int) < (l.length : Int)) = true := by simp; omega
            have p0 : (0 : Int) ≤ (i : Int) := by omega
            have q0 : (i : Int) < (l.length : Int) := by omega
            obtain ⟨ae, ead, hx_0, hx_1, hx_2⟩ := at_T46 HC.out (i : Int) p0 q0
            cases ead
            replace hx_0 := (HB.out.cell (World.block_lt_of_cell? w _ hx_0)).trans hx_0
            replace hx_1 := (HB.out.cell (World.block_lt_of_cell? w _ hx_1)).trans hx_1
            replace hx_2 := (HB.out.cell (World.block_lt_of_cell? w _ hx_2)).trans hx_2
            rw [Int.toNat_natCast, show rd_T46 l (i : Int) = l[i] by simp [rd_T46, hil]] at hx_0 hx_1 hx_2
            rw [List.drop_eq_getElem_cons hil, List.any_cons] at hx0
            generalize l[i] = x at hx_0 hx_1 hx_2 hx0
            have p0b := eq_true p0
            have q0b := eq_true q0
            have hv := vf x
            cases e : vfin x with
            | false =>
              rw [e] at hv
              rw [e] at hx0
              replace hx0 : false = r := by simpa using hx0
              subst hx0
              go_wp2_with (first | (go_at_call 69; refine (spec_l01VFinite.calls _ _ _ _ _ hv).mono ?_; rintro e w1 ⟨rfl, hb⟩))
              go_ret
              exact ⟨rfl, below_step HB.out hb⟩
            | true =>
              rw [e] at hv
              rw [e] at hx0
              replace hx0 : (!((l.drop (i + 1)).any fun x => !vfin x)) = r := by simpa using hx0
              go_wp2_with (first | (go_at_call 69; refine (spec_l01VFinite.calls _ _ _ _ _ hv).mono ?_; rintro e w1 ⟨rfl, hb⟩))
              go_roundg k1
              case measure => omega
              case rel => exact ⟨i + 1, rfl, ⟨by omega⟩, ⟨hx0⟩, ⟨below_step HB.out hb⟩⟩
    · have c2a : decide ((32 : Int) < (l.length : Int)) = true := by simp; omega
      rw [decide_eq_false c2, Bool.false_and] at hr
      subst hr
      go_enter Try.func41, Try.ntmps41
      go_wp2
      go_ret
      exact ⟨rfl, Below.refl _ _⟩
  · have c1a : decide ((l.length : Int) < (3 : Int)) = true := by simp; omega
    rw [decide_eq_false c1, Bool.false_and] at hr
    subst hr
    go_enter Try.func41, Try.ntmps41
    go_wp2
    go_ret
    exact ⟨rfl, Below.refl _ _⟩
/-- impl.LengthOfThread, spec.LengthOfThread. -/
def impl_Length.f (l0_0 : List S46) (a0_1 : Nat) : Option (Nat × Bool) := if isThread l0_0 a0_1 = true then (sumF (sizeI l0_0) l0_0.length 0 0).bind fun s => impl_toldNumber.f s else some (0, false)
def spec_Length.f (l0_0 : List S46) (a0_1 : Nat) : Option (Nat × Bool) := if isThread l0_0 a0_1 = true then (sumF (sizeS l0_0) l0_0.length 0 0).bind fun s => spec_l02Number.f s else some (0, false)
theorem cell_new (w : World) (c : Array Value) (t : TypeId) (i : Nat) : (w.alloc (.cells c t)).cell? ⟨w.heap.size, i, none⟩ = c[i]? := by
  unfold World.cell?
  rw [heap_alloc_new]
  rfl
set_option maxHeartbeats 4000000 in
set_option maxRecDepth 100000 in
theorem impl_Length.calls (A0_0 : Option Addr) (c0_0 : Nat) (l0_0 : List S46) (a0_1 : Nat) (r1 : Nat) (r2 : Bool) (w : World) (hr0_0 : Kd.C k46 w A0_0 l0_0.length l0_0) (hc0_0 : l0_0.length ≤ c0_0) (h : impl_Length.f l0_0 a0_1 = some (r1, r2)) :
    Calls Try.prog 14 #[.agg #[.slice A0_0 l0_0.length c0_0, .float .f32 a0_1]] w fun e w' => e = .returned (.tuple #[.float .f32 r1, .bool r2]) ∧ Below w.heap.size w w' := by
  unfold impl_Length.f at h
  cases e : isThread l0_0 a0_1 with
  | false =>
    rw [e, if_neg (by decide)] at h
    obtain ⟨rfl, rfl⟩ := Prod.mk.inj (Option.some.inj h)
    have e1 : IsThread.f l0_0 a0_1 = some false := congrArg some e
    go_enter Try.func14, Try.ntmps14
    go_wp2_with (first | (go_at_call 45; refine (IsThread.calls _ _ _ _ _ _ (Kd.C_alloc hr0_0 _) hc0_0 e1).mono ?_; rintro e w1 ⟨rfl, hb⟩))
    go_ret2
    exact ⟨rfl, below_step (below_alloc (Below.refl _ _) _) hb⟩
  | true =>
    rw [e, if_pos rfl] at h
    obtain ⟨s, hs, h⟩ := Option.bind_eq_some_iff.1 h
    have e1 : IsThread.f l0_0 a0_1 = some true := congrArg some e
    have HS := Aside0.mk hs
    have HT := Aside0.mk h
    clear hs h
    go_enter Try.func14, Try.ntmps14
    go_wp2_with (first | (go_at_call 45; refine (IsThread.calls _ _ _ _ _ _ (Kd.C_alloc hr0_0 _) hc0_0 e1).mono ?_; rintro e w1 ⟨rfl, hb⟩) | (go_at_call 47; refine (long47 _ A0_0 c0_0 l0_0 _ (cell_b hb (cell_new _ _ _ 0)) hc0_0 (Kd.C_below (Kd.C_alloc hr0_0 _) hb) s HS.out).mono ?_; rintro e w2 ⟨rfl, hb2⟩) | (go_at_call 46; refine (impl_toldNumber.calls _ _ _ _ HT.out).mono ?_; rintro e w3 ⟨rfl, ⟨nd, rfl⟩⟩))
    go_ret2
    exact ⟨rfl, pw_below_drewN (below_step (below_step (below_alloc (Below.refl _ _) _) hb) hb2) _⟩
set_option maxHeartbeats 4000000 in
set_option maxRecDepth 100000 in
theorem spec_Length.calls (A0_0 : Option Addr) (c0_0 : Nat) (l0_0 : List S46) (a0_1 : Nat) (r1 : Nat) (r2 : Bool) (w : World) (hr0_0 : Kd.C k46 w A0_0 l0_0.length l0_0) (hc0_0 : l0_0.length ≤ c0_0) (h : spec_Length.f l0_0 a0_1 = some (r1, r2)) :
    Calls Try.prog 12 #[.agg #[.slice A0_0 l0_0.length c0_0, .float .f32 a0_1]] w fun e w' => e = .returned (.tuple #[.float .f32 r1, .bool r2]) ∧ Below w.heap.size w w' := by
  unfold spec_Length.f at h
  cases e : isThread l0_0 a0_1 with
  | false =>
    rw [e, if_neg (by decide)] at h
    obtain ⟨rfl, rfl⟩ := Prod.mk.inj (Option.some.inj h)
    go_enter Try.func12, Try.ntmps12
    go_wp2_with (first | (go_at_call 41; refine (l06Is_at ⟨w.heap.size, 0, none⟩ A0_0 c0_0 l0_0 a0_1 _ (cell_new _ _ _ 0) (cell_new _ _ _ 1) hc0_0 (Kd.C_alloc hr0_0 _) _ e).mono ?_; rintro e w1 ⟨rfl, hb⟩))
    go_ret2
    exact ⟨rfl, below_step (below_alloc (Below.refl _ _) _) hb⟩
  | true =>
    rw [e, if_pos rfl] at h
    obtain ⟨s, hs, h⟩ := Option.bind_eq_some_iff.1 h
    have HS := Aside0.mk hs
    have HT := Aside0.mk h
    clear hs h
    go_enter Try.func12, Try.ntmps12
    go_wp2_with (first | (go_at_call 41; refine (l06Is_at ⟨w.heap.size, 0, none⟩ A0_0 c0_0 l0_0 a0_1 _ (cell_new _ _ _ 0) (cell_new _ _ _ 1) hc0_0 (Kd.C_alloc hr0_0 _) _ e).mono ?_; rintro e w1 ⟨rfl, hb⟩) | (go_at_call 43; refine (length43 _ A0_0 c0_0 l0_0 _ (cell_b hb (cell_new _ _ _ 0)) hc0_0 (Kd.C_below (Kd.C_alloc hr0_0 _) hb) s HS.out).mono ?_; rintro e w2 ⟨rfl, hb2⟩) | (go_at_call 42; refine (spec_l02Number.calls _ _ _ _ HT.out).mono ?_; rintro e w3 ⟨rfl, ⟨nd, rfl⟩⟩))
    go_ret2
    exact ⟨rfl, pw_below_drewN (below_step (below_step (below_alloc (Below.refl _ _) _) hb) hb2) _⟩
end XY
end Go.Proofs.Ytffofpiejcolfaa
