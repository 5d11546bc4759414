/- Vectors of floats up to the bits of a NaN: sums, differences, products; what comes out may be a NaN, whose bits the tape tells. -/
import Derived.Test.YtffofpiejcolfaaXE
set_option linter.unusedVariables false
set_option linter.unusedSimpArgs false
namespace Go.Proofs.Ytffofpiejcolfaa
open Go.RowKit Go.Proofs.YtffofpiejcolfaaW.PrintWords Go.Proofs.YtffofpiejcolfaaW.PrintLast Go.Proofs.YtffofpiejcolfaaW.PrintMore
attribute [local go_sem] max2_int min2_int max_two min_two max_three min_three max_four min_four   -- for this text's walks alone
namespace XE
open XF XL XC XY L0
set_option maxHeartbeats 4000000 in
set_option maxRecDepth 100000 in
theorem cross63 (x y a b : S46) (hx : EV x a) (hy : EV y b) (w : World) : Calls Try.prog 63 #[vv a, vv b] w fun e w' => ∃ c, e = .returned (vv c) ∧ EV (crossV x y) c ∧ Below w.heap.size w w' := by
  obtain ⟨x0, x1, x2⟩ := hx
  obtain ⟨y0, y1, y2⟩ := hy
  have BA : (((w.alloc (.cells #[.float .f32 a.f0, .float .f32 a.f1, .float .f32 a.f2] 46)).alloc (.cells #[.float .f32 b.f0, .float .f32 b.f1, .float .f32 b.f2] 46)).alloc (.cells #[.float .f32 0, .float .f32 0, .float .f32 0] 46)).heap[w.heap.size]? = some (.cells #[.float .f32 a.f0, .float .f32 a.f1, .float .f32 a.f2] 46 (0, 0)) := blk_alloc (blk_alloc (heap_alloc_new w _) _) _
  have BB : (((w.alloc (.cells #[.float .f32 a.f0, .float .f32 a.f1, .float .f32 a.f2] 46)).alloc (.cells #[.float .f32 b.f0, .float .f32 b.f1, .float .f32 b.f2] 46)).alloc (.cells #[.float .f32 0, .float .f32 0, .float .f32 0] 46)).heap[w.heap.size + 1]? = some (.cells #[.float .f32 b.f0, .float .f32 b.f1, .float .f32 b.f2] 46 (0, 0)) := by
    refine blk_alloc ?_ _
    simpa using heap_alloc_new (w.alloc (.cells #[.float .f32 a.f0, .float .f32 a.f1, .float .f32 a.f2] 46)) (.cells #[.float .f32 b.f0, .float .f32 b.f1, .float .f32 b.f2] 46)
  have p0 : (((w.alloc (.cells #[.float .f32 a.f0, .float .f32 a.f1, .float .f32 a.f2] 46)).alloc (.cells #[.float .f32 b.f0, .float .f32 b.f1, .float .f32 b.f2] 46)).alloc (.cells #[.float .f32 0, .float .f32 0, .float .f32 0] 46)).cell? ⟨w.heap.size, 0, none⟩ = some (.float .f32 a.f0) := (blk_cell BA 0).trans rfl
  have p1 : (((w.alloc (.cells #[.float .f32 a.f0, .float .f32 a.f1, .float .f32 a.f2] 46)).alloc (.cells #[.float .f32 b.f0, .float .f32 b.f1, .float .f32 b.f2] 46)).alloc (.cells #[.float .f32 0, .float .f32 0, .float .f32 0] 46)).cell? ⟨w.heap.size, 1, none⟩ = some (.float .f32 a.f1) := (blk_cell BA 1).trans rfl
  have p2 : (((w.alloc (.cells #[.float .f32 a.f0, .float .f32 a.f1, .float .f32 a.f2] 46)).alloc (.cells #[.float .f32 b.f0, .float .f32 b.f1, .float .f32 b.f2] 46)).alloc (.cells #[.float .f32 0, .float .f32 0, .float .f32 0] 46)).cell? ⟨w.heap.size, 2, none⟩ = some (.float .f32 a.f2) := (blk_cell BA 2).trans rfl
  have q0 : (((w.alloc (.cells #[.float .f32 a.f0, .float .f32 a.f1, .float .f32 a.f2] 46)).alloc (.cells #[.float .f32 b.f0, .float .f32 b.f1, .float .f32 b.f2] 46)).alloc (.cells #[.float .f32 0, .float .f32 0, .float .f32 0] 46)).cell? ⟨w.heap.size + 1, 0, none⟩ = some (.float .f32 b.f0) := (blk_cell BB 0).trans rfl
  have q1 : (((w.alloc (.cells #[.float .f32 a.f0, .float .f32 a.f1, .float .f32 a.f2] 46)).alloc (.cells #[.float .f32 b.f0, .float .f32 b.f1, .float .f32 b.f2] 46)).alloc (.cells #[.float .f32 0, .float .f32 0, .float .f32 0] 46)).cell? ⟨w.heap.size + 1, 1, none⟩ = some (.float .f32 b.f1) := (blk_cell BB 1).trans rfl
  have q2 : (((w.alloc (.cells #[.float .f32 a.f0, .float .f32 a.f1, .float .f32 a.f2] 46)).alloc (.cells #[.float .f32 b.f0, .float .f32 b.f1, .float .f32 b.f2] 46)).alloc (.cells #[.float .f32 0, .float .f32 0, .float .f32 0] 46)).cell? ⟨w.heap.size + 1, 2, none⟩ = some (.float .f32 b.f2) := (blk_cell BB 2).trans rfl
  clear BA BB
  go_enter Try.func63, Try.ntmps63
  go_wp2
  refine start_ (n := 29) (S := fun w' => w'.cell? ⟨w.heap.size, 0, none⟩ = some (.float .f32 a.f0) ∧ w'.cell? ⟨w.heap.size, 1, none⟩ = some (.float .f32 a.f1) ∧ w'.cell? ⟨w.heap.size, 2, none⟩ = some (.float .f32 a.f2) ∧ w'.cell? ⟨w.heap.size + 1, 0, none⟩ = some (.float .f32 b.f0) ∧ w'.cell? ⟨w.heap.size + 1, 1, none⟩ = some (.float .f32 b.f1) ∧ w'.cell? ⟨w.heap.size + 1, 2, none⟩ = some (.float .f32 b.f2)) (ds := [28]) #[false, false, false, false, false, false, false, false, false, false, false, false, false, false, false, false, false, false, false, false, false, false, false, false, false, false, false, false, false] (by kernel_rfl) rfl rfl ⟨p0, p1, p2, q0, q1, q2⟩ (fun hHeld => ?_)
  refine pure_ (i := 0) (N := some 5) (v := ?_) (a' := ?_) #[true, false, false, false, false, false, false, false, false, false, false, false, false, false, false, false, false, false, false, false, false, false, false, false, false, false, false, false, false] rfl rfl (by kernel_rfl) (fun _ _ _ h => h) (Or.inl ⟨by rfl, ?_⟩) ?_ ?_
  rotate_left
  · intro w'
    go_simp
    with_reducible rfl
  rotate_left
  · simp only [Act.put, List.setIfInBounds_toArray, List.set_cons_zero, List.set_cons_succ, i64_w, i32_w]
    rfl
  refine pure_ (i := 2) (N := some 7) (v := ?_) (a' := ?_) #[true, false, true, false, false, false, false, false, false, false, false, false, false, false, false, false, false, false, false, false, false, false, false, false, false, false, false, false, false] rfl rfl (by kernel_rfl) (fun _ _ _ h => h) (Or.inl ⟨by rfl, ?_⟩) ?_ ?_
  rotate_left
  · intro w'
    go_simp
    with_reducible rfl
  rotate_left
  · simp only [Act.put, List.setIfInBounds_toArray, List.set_cons_zero, List.set_cons_succ, i64_w, i32_w]
    rfl
  refine pure_ (i := 4) (N := some 9) (v := ?_) (a' := ?_) #[true, false, true, false, true, false, false, false, false, false, false, false, false, false, false, false, false, false, false, false, false, false, false, false, false, false, false, false, false] rfl rfl (by kernel_rfl) (fun _ _ _ h => h) (Or.inl ⟨by rfl, ?_⟩) ?_ ?_
  rotate_left
  · intro w'
    go_simp
    with_reducible rfl
  rotate_left
  · simp only [Act.put, List.setIfInBounds_toArray, List.set_cons_zero, List.set_cons_succ, i64_w, i32_w]
    rfl
  refine pure_ (i := 6) (N := some 11) (v := ?_) (a' := ?_) #[true, false, true, false, true, false, true, false, false, false, false, false, false, false, false, false, false, false, false, false, false, false, false, false, false, false, false, false, false] rfl rfl (by kernel_rfl) (fun _ _ _ h => h) (Or.inl ⟨by rfl, ?_⟩) ?_ ?_
  rotate_left
  · intro w'
    go_simp
    with_reducible rfl
  rotate_left
  · simp only [Act.put, List.setIfInBounds_toArray, List.set_cons_zero, List.set_cons_succ, i64_w, i32_w]
    rfl
  refine pure_ (i := 9) (N := some 14) (v := ?_) (a' := ?_) #[true, false, true, false, true, false, true, false, false, true, false, false, false, false, false, false, false, false, false, false, false, false, false, false, false, false, false, false, false] rfl rfl (by kernel_rfl) (fun _ _ _ h => h) (Or.inl ⟨by rfl, ?_⟩) ?_ ?_
  rotate_left
  · intro w'
    go_simp
    with_reducible rfl
  rotate_left
  · simp only [Act.put, List.setIfInBounds_toArray, List.set_cons_zero, List.set_cons_succ, i64_w, i32_w]
    rfl
  refine pure_ (i := 11) (N := some 16) (v := ?_) (a' := ?_) #[true, false, true, false, true, false, true, false, false, true, false, true, false, false, false, false, false, false, false, false, false, false, false, false, false, false, false, false, false] rfl rfl (by kernel_rfl) (fun _ _ _ h => h) (Or.inl ⟨by rfl, ?_⟩) ?_ ?_
  rotate_left
  · intro w'
    go_simp
    with_reducible rfl
  rotate_left
  · simp only [Act.put, List.setIfInBounds_toArray, List.set_cons_zero, List.set_cons_succ, i64_w, i32_w]
    rfl
  refine pure_ (i := 13) (N := some 18) (v := ?_) (a' := ?_) #[true, false, true, false, true, false, true, false, false, true, false, true, false, true, false, false, false, false, false, false, false, false, false, false, false, false, false, false, false] rfl rfl (by kernel_rfl) (fun _ _ _ h => h) (Or.inl ⟨by rfl, ?_⟩) ?_ ?_
  rotate_left
  · intro w'
    go_simp
    with_reducible rfl
  rotate_left
  · simp only [Act.put, List.setIfInBounds_toArray, List.set_cons_zero, List.set_cons_succ, i64_w, i32_w]
    rfl
  refine pure_ (i := 15) (N := some 20) (v := ?_) (a' := ?_) #[true, false, true, false, true, false, true, false, false, true, false, true, false, true, false, true, false, false, false, false, false, false, false, false, false, false, false, false, false] rfl rfl (by kernel_rfl) (fun _ _ _ h => h) (Or.inl ⟨by rfl, ?_⟩) ?_ ?_
  rotate_left
  · intro w'
    go_simp
    with_reducible rfl
  rotate_left
  · simp only [Act.put, List.setIfInBounds_toArray, List.set_cons_zero, List.set_cons_succ, i64_w, i32_w]
    rfl
  refine pure_ (i := 18) (N := some 23) (v := ?_) (a' := ?_) #[true, false, true, false, true, false, true, false, false, true, false, true, false, true, false, true, false, false, true, false, false, false, false, false, false, false, false, false, false] rfl rfl (by kernel_rfl) (fun _ _ _ h => h) (Or.inl ⟨by rfl, ?_⟩) ?_ ?_
  rotate_left
  · intro w'
    go_simp
    with_reducible rfl
  rotate_left
  · simp only [Act.put, List.setIfInBounds_toArray, List.set_cons_zero, List.set_cons_succ, i64_w, i32_w]
    rfl
  refine pure_ (i := 20) (N := some 25) (v := ?_) (a' := ?_) #[true, false, true, false, true, false, true, false, false, true, false, true, false, true, false, true, false, false, true, false, true, false, false, false, false, false, false, false, false] rfl rfl (by kernel_rfl) (fun _ _ _ h => h) (Or.inl ⟨by rfl, ?_⟩) ?_ ?_
  rotate_left
  · intro w'
    go_simp
    with_reducible rfl
  rotate_left
  · simp only [Act.put, List.setIfInBounds_toArray, List.set_cons_zero, List.set_cons_succ, i64_w, i32_w]
    rfl
  refine pure_ (i := 22) (N := some 27) (v := ?_) (a' := ?_) #[true, false, true, false, true, false, true, false, false, true, false, true, false, true, false, true, false, false, true, false, true, false, true, false, false, false, false, false, false] rfl rfl (by kernel_rfl) (fun _ _ _ h => h) (Or.inl ⟨by rfl, ?_⟩) ?_ ?_
  rotate_left
  · intro w'
    go_simp
    with_reducible rfl
  rotate_left
  · simp only [Act.put, List.setIfInBounds_toArray, List.set_cons_zero, List.set_cons_succ, i64_w, i32_w]
    rfl
  refine pure_ (i := 24) (N := some 29) (v := ?_) (a' := ?_) #[true, false, true, false, true, false, true, false, false, true, false, true, false, true, false, true, false, false, true, false, true, false, true, false, true, false, false, false, false] rfl rfl (by kernel_rfl) (fun _ _ _ h => h) (Or.inl ⟨by rfl, ?_⟩) ?_ ?_
  rotate_left
  · intro w'
    go_simp
    with_reducible rfl
  rotate_left
  · simp only [Act.put, List.setIfInBounds_toArray, List.set_cons_zero, List.set_cons_succ, i64_w, i32_w]
    rfl
  refine take_ (i := 1) (N := some 6) (v := ?_) (a' := ?_) #[true, true, true, false, true, false, true, false, false, true, false, true, false, true, false, true, false, false, true, false, true, false, true, false, true, false, false, false, false] rfl rfl (by kernel_rfl) (fun _ _ _ h => h) (Or.inl ⟨by rfl, ?_⟩) hHeld ?_ ?_
  rotate_left
  · rintro w' ⟨s0, s1, s2, s3, s4, s5⟩
    go_simp
    with_reducible rfl
  rotate_left
  · simp only [Act.put, List.setIfInBounds_toArray, List.set_cons_zero, List.set_cons_succ, i64_w, i32_w]
    rfl
  refine take_ (i := 3) (N := some 8) (v := ?_) (a' := ?_) #[true, true, true, true, true, false, true, false, false, true, false, true, false, true, false, true, false, false, true, false, true, false, true, false, true, false, false, false, false] rfl rfl (by kernel_rfl) (fun _ _ _ h => h) (Or.inl ⟨by rfl, ?_⟩) hHeld ?_ ?_
  rotate_left
  · rintro w' ⟨s0, s1, s2, s3, s4, s5⟩
    go_simp
    with_reducible rfl
  rotate_left
  · simp only [Act.put, List.setIfInBounds_toArray, List.set_cons_zero, List.set_cons_succ, i64_w, i32_w]
    rfl
  refine take_ (i := 5) (N := some 10) (v := ?_) (a' := ?_) #[true, true, true, true, true, true, true, false, false, true, false, true, false, true, false, true, false, false, true, false, true, false, true, false, true, false, false, false, false] rfl rfl (by kernel_rfl) (fun _ _ _ h => h) (Or.inl ⟨by rfl, ?_⟩) hHeld ?_ ?_
  rotate_left
  · rintro w' ⟨s0, s1, s2, s3, s4, s5⟩
    go_simp
    with_reducible rfl
  rotate_left
  · simp only [Act.put, List.setIfInBounds_toArray, List.set_cons_zero, List.set_cons_succ, i64_w, i32_w]
    rfl
  refine take_ (i := 7) (N := some 12) (v := ?_) (a' := ?_) #[true, true, true, true, true, true, true, true, false, true, false, true, false, true, false, true, false, false, true, false, true, false, true, false, true, false, false, false, false] rfl rfl (by kernel_rfl) (fun _ _ _ h => h) (Or.inl ⟨by rfl, ?_⟩) hHeld ?_ ?_
  rotate_left
  · rintro w' ⟨s0, s1, s2, s3, s4, s5⟩
    go_simp
    with_reducible rfl
  rotate_left
  · simp only [Act.put, List.setIfInBounds_toArray, List.set_cons_zero, List.set_cons_succ, i64_w, i32_w]
    rfl
  refine take_ (i := 10) (N := some 15) (v := ?_) (a' := ?_) #[true, true, true, true, true, true, true, true, false, true, true, true, false, true, false, true, false, false, true, false, true, false, true, false, true, false, false, false, false] rfl rfl (by kernel_rfl) (fun _ _ _ h => h) (Or.inl ⟨by rfl, ?_⟩) hHeld ?_ ?_
  rotate_left
  · rintro w' ⟨s0, s1, s2, s3, s4, s5⟩
    go_simp
    with_reducible rfl
  rotate_left
  · simp only [Act.put, List.setIfInBounds_toArray, List.set_cons_zero, List.set_cons_succ, i64_w, i32_w]
    rfl
  refine take_ (i := 12) (N := some 17) (v := ?_) (a' := ?_) #[true, true, true, true, true, true, true, true, false, true, true, true, true, true, false, true, false, false, true, false, true, false, true, false, true, false, false, false, false] rfl rfl (by kernel_rfl) (fun _ _ _ h => h) (Or.inl ⟨by rfl, ?_⟩) hHeld ?_ ?_
  rotate_left
  · rintro w' ⟨s0, s1, s2, s3, s4, s5⟩
    go_simp
    with_reducible rfl
  rotate_left
  · simp only [Act.put, List.setIfInBounds_toArray, List.set_cons_zero, List.set_cons_succ, i64_w, i32_w]
    rfl
  refine take_ (i := 14) (N := some 19) (v := ?_) (a' := ?_) #[true, true, true, true, true, true, true, true, false, true, true, true, true, true, true, true, false, false, true, false, true, false, true, false, true, false, false, false, false] rfl rfl (by kernel_rfl) (fun _ _ _ h => h) (Or.inl ⟨by rfl, ?_⟩) hHeld ?_ ?_
  rotate_left
  · rintro w' ⟨s0, s1, s2, s3, s4, s5⟩
    go_simp
    with_reducible rfl
  rotate_left
  · simp only [Act.put, List.setIfInBounds_toArray, List.set_cons_zero, List.set_cons_succ, i64_w, i32_w]
    rfl
  refine take_ (i := 16) (N := some 21) (v := ?_) (a' := ?_) #[true, true, true, true, true, true, true, true, false, true, true, true, true, true, true, true, true, false, true, false, true, false, true, false, true, false, false, false, false] rfl rfl (by kernel_rfl) (fun _ _ _ h => h) (Or.inl ⟨by rfl, ?_⟩) hHeld ?_ ?_
  rotate_left
  · rintro w' ⟨s0, s1, s2, s3, s4, s5⟩
    go_simp
    with_reducible rfl
  rotate_left
  · simp only [Act.put, List.setIfInBounds_toArray, List.set_cons_zero, List.set_cons_succ, i64_w, i32_w]
    rfl
  refine take_ (i := 19) (N := some 24) (v := ?_) (a' := ?_) #[true, true, true, true, true, true, true, true, false, true, true, true, true, true, true, true, true, false, true, true, true, false, true, false, true, false, false, false, false] rfl rfl (by kernel_rfl) (fun _ _ _ h => h) (Or.inl ⟨by rfl, ?_⟩) hHeld ?_ ?_
  rotate_left
  · rintro w' ⟨s0, s1, s2, s3, s4, s5⟩
    go_simp
    with_reducible rfl
  rotate_left
  · simp only [Act.put, List.setIfInBounds_toArray, List.set_cons_zero, List.set_cons_succ, i64_w, i32_w]
    rfl
  refine take_ (i := 21) (N := some 26) (v := ?_) (a' := ?_) #[true, true, true, true, true, true, true, true, false, true, true, true, true, true, true, true, true, false, true, true, true, true, true, false, true, false, false, false, false] rfl rfl (by kernel_rfl) (fun _ _ _ h => h) (Or.inl ⟨by rfl, ?_⟩) hHeld ?_ ?_
  rotate_left
  · rintro w' ⟨s0, s1, s2, s3, s4, s5⟩
    go_simp
    with_reducible rfl
  rotate_left
  · simp only [Act.put, List.setIfInBounds_toArray, List.set_cons_zero, List.set_cons_succ, i64_w, i32_w]
    rfl
  refine take_ (i := 23) (N := some 28) (v := ?_) (a' := ?_) #[true, true, true, true, true, true, true, true, false, true, true, true, true, true, true, true, true, false, true, true, true, true, true, true, true, false, false, false, false] rfl rfl (by kernel_rfl) (fun _ _ _ h => h) (Or.inl ⟨by rfl, ?_⟩) hHeld ?_ ?_
  rotate_left
  · rintro w' ⟨s0, s1, s2, s3, s4, s5⟩
    go_simp
    with_reducible rfl
  rotate_left
  · simp only [Act.put, List.setIfInBounds_toArray, List.set_cons_zero, List.set_cons_succ, i64_w, i32_w]
    rfl
  refine take_ (i := 25) (N := some 30) (v := ?_) (a' := ?_) #[true, true, true, true, true, true, true, true, false, true, true, true, true, true, true, true, true, false, true, true, true, true, true, true, true, true, false, false, false] rfl rfl (by kernel_rfl) (fun _ _ _ h => h) (Or.inl ⟨by rfl, ?_⟩) hHeld ?_ ?_
  rotate_left
  · rintro w' ⟨s0, s1, s2, s3, s4, s5⟩
    go_simp
    with_reducible rfl
  rotate_left
  · simp only [Act.put, List.setIfInBounds_toArray, List.set_cons_zero, List.set_cons_succ, i64_w, i32_w]
    rfl
  refine one_ (i := 8) (N := some 13) #[true, true, true, true, true, true, true, true, true, true, true, true, true, true, true, true, true, false, true, true, true, true, true, true, true, true, false, false, false] rfl rfl (by kernel_rfl) (by decide) (fun K hK => ?_)
  refine goes_ Try.func110 (by kernel_rfl) rfl #[.float .f32 a.f1, .float .f32 b.f2, .float .f32 a.f2, .float .f32 b.f1] (by rfl) rfl rfl (by (try simp only [List.map_toArray, List.map_cons, List.map_nil]); first | done | rfl) ?_
  refine (crossed110 _ _ _ _ _ _ _ _ x1 y2 x2 y1 _).mono ?_
  rintro e w1 ⟨c1, rfl, h1, ⟨n1, rfl⟩⟩
  refine ⟨_, rfl, ?_⟩
  refine hK.out _ _ ⟨p0, p1, p2, q0, q1, q2⟩ (fun hHeld1 => ?_)
  clear hK K
  refine norm_ (a' := ?_) ?_ ?_
  rotate_left
  · show Act.put _ (some 13) _ = _
    simp only [Act.put, List.setIfInBounds_toArray, List.set_cons_zero, List.set_cons_succ]
    rfl
  refine one_ (i := 17) (N := some 22) #[true, true, true, true, true, true, true, true, true, true, true, true, true, true, true, true, true, true, true, true, true, true, true, true, true, true, false, false, false] rfl rfl (by kernel_rfl) (by decide) (fun K hK => ?_)
  refine goes_ Try.func110 (by kernel_rfl) rfl #[.float .f32 a.f2, .float .f32 b.f0, .float .f32 a.f0, .float .f32 b.f2] (by rfl) rfl rfl (by (try simp only [List.map_toArray, List.map_cons, List.map_nil]); first | done | rfl) ?_
  refine (crossed110 _ _ _ _ _ _ _ _ x2 y0 x0 y2 _).mono ?_
  rintro e w2 ⟨c2, rfl, h2, ⟨n2, rfl⟩⟩
  refine ⟨_, rfl, ?_⟩
  refine hK.out _ _ ⟨p0, p1, p2, q0, q1, q2⟩ (fun hHeld2 => ?_)
  clear hK K
  refine norm_ (a' := ?_) ?_ ?_
  rotate_left
  · show Act.put _ (some 22) _ = _
    simp only [Act.put, List.setIfInBounds_toArray, List.set_cons_zero, List.set_cons_succ]
    rfl
  refine one_ (i := 26) (N := some 31) #[true, true, true, true, true, true, true, true, true, true, true, true, true, true, true, true, true, true, true, true, true, true, true, true, true, true, true, false, false] rfl rfl (by kernel_rfl) (by decide) (fun K hK => ?_)
  refine goes_ Try.func110 (by kernel_rfl) rfl #[.float .f32 a.f0, .float .f32 b.f1, .float .f32 a.f1, .float .f32 b.f0] (by rfl) rfl rfl (by (try simp only [List.map_toArray, List.map_cons, List.map_nil]); first | done | rfl) ?_
  refine (crossed110 _ _ _ _ _ _ _ _ x0 y1 x1 y0 _).mono ?_
  rintro e w3 ⟨c3, rfl, h3, ⟨n3, rfl⟩⟩
  refine ⟨_, rfl, ?_⟩
  refine hK.out _ _ ⟨p0, p1, p2, q0, q1, q2⟩ (fun hHeld3 => ?_)
  clear hK K
  refine norm_ (a' := ?_) ?_ ?_
  rotate_left
  · show Act.put _ (some 31) _ = _
    simp only [Act.put, List.setIfInBounds_toArray, List.set_cons_zero, List.set_cons_succ]
    rfl
  refine pure_ (i := 27) (N := some 32) (v := ?_) (a' := ?_) #[true, true, true, true, true, true, true, true, true, true, true, true, true, true, true, true, true, true, true, true, true, true, true, true, true, true, true, true, false] rfl rfl (by kernel_rfl) (fun _ _ _ h => h) (Or.inl ⟨by rfl, ?_⟩) ?_ ?_
  rotate_left
  · intro w'
    go_simp
    with_reducible rfl
  rotate_left
  · simp only [Act.put, List.setIfInBounds_toArray, List.set_cons_zero, List.set_cons_succ, i64_w, i32_w]
    rfl
  refine last_ (i := 28) (N := none) #[true, true, true, true, true, true, true, true, true, true, true, true, true, true, true, true, true, true, true, true, true, true, true, true, true, true, true, true, true] rfl rfl (by kernel_rfl) (by decide) (fun K hK => ?_)
  refine skip_ (w1 := ?_) (by rfl) rfl ?_ ?_
  rotate_left
  · go_simp
    rfl
  refine hK.out _ _ ?_
  clear hK K
  refine done_ (by kernel_rfl) ?_
  go_wp2
  clear hHeld hHeld1 hHeld2 hHeld3 p0 p1 p2 q0 q1 q2
  refine bodyPost_ret (results_cell_row rfl _ _ (w.heap.size + 1 + 1) 46 #[.float .f32 c1, .float .f32 c2, .float .f32 c3] (0, 0) _ rfl (by
    refine blk_put (cs := #[.float .f32 c1, .float .f32 c2, .float .f32 0]) ?_ 2 _ rfl
    refine blk_put (cs := #[.float .f32 c1, .float .f32 0, .float .f32 0]) ?_ 1 _ rfl
    refine blk_put (cs := #[.float .f32 0, .float .f32 0, .float .f32 0]) ?_ 0 _ rfl
    (with_reducible repeat (first | refine blk_drewN ?_ _ | refine blk_drew ?_))
    exact by simpa using heap_alloc_new ((w.alloc (.cells #[.float .f32 a.f0, .float .f32 a.f1, .float .f32 a.f2] 46)).alloc (.cells #[.float .f32 b.f0, .float .f32 b.f1, .float .f32 b.f2] 46)) (.cells #[.float .f32 0, .float .f32 0, .float .f32 0] 46)) Try.underlying46 rfl (by kernel_rfl)) rfl ?_
  exact ⟨⟨c1, c2, c3⟩, rfl, ⟨h1, h2, h3⟩, by repeat (first | exact Below.refl _ _ | apply pw_below_drewN | apply below_alloc | apply below_drew1 | refine below_set ?_ (by show w.heap.size ≤ _; first | exact Nat.le_refl _ | exact Nat.le_succ _ | omega))⟩
/-- The middle of a segment. -/
def midV (x y : S46) : S46 := mulV (opV .add x y) 1056964608
set_option maxHeartbeats 4000000 in
set_option maxRecDepth 100000 in
theorem middle61 (ad : Addr) (A : Option Addr) (c : Nat) (l : List S46) (i j : Nat) (w : World) (f0 : w.cell? ad = some (.slice A l.length c)) (hle : l.length ≤ c) (hC : Kd.C k46 w A l.length l) (hi : i < l.length) (hj : (i + 1) % l.length = j) (x y : S46) (hx : rd_T46 l (i : Int) = x) (hy : rd_T46 l (j : Int) = y) :
    Calls Try.prog 61 #[.pointer (some ad), .int .i64 (i : Int)] w fun e w' => ∃ m, e = .returned (vv m) ∧ EV (midV x y) m ∧ Below w.heap.size w w' := by
  have hmx : l.length ≤ 9223372036854775807 := Kd.C_max hC
  obtain ⟨ae, rfl, hx_0, hx_1, hx_2⟩ := at_T46 hC (i : Int) (by omega) (by omega)
  rw [Int.toNat_natCast, hx] at hx_0 hx_1 hx_2
  have hilI : (i : Int) < (l.length : Int) := by omega
  have hB := below_alloc (Below.refl w.heap.size w) (.cells #[.float .f32 0, .float .f32 0, .float .f32 0] 46 (0, 0))
  have g0 := f0
  have gx_0 := hx_0
  have gx_1 := hx_1
  have gx_2 := hx_2
  replace f0 := cell_b hB f0
  replace hx_0 := cell_b hB hx_0
  replace hx_1 := cell_b hB hx_1
  replace hx_2 := cell_b hB hx_2
  go_enter Try.func61, Try.ntmps61
  go_wp2
  refine start_ (n := 13) (S := fun w' => w'.cell? ad = some (.slice (some ae) l.length c) ∧ w'.cell? (ae.add (i * 3)) = some (.float .f32 x.f0) ∧ w'.cell? ⟨(ae.add (i * 3)).block, (ae.add (i * 3)).off + 1, none⟩ = some (.float .f32 x.f1) ∧ w'.cell? ⟨(ae.add (i * 3)).block, (ae.add (i * 3)).off + 2, none⟩ = some (.float .f32 x.f2)) (ds := [12]) #[false, false, false, false, false, false, false, false, false, false, false, false, false] (by kernel_rfl) rfl rfl ⟨f0, hx_0, hx_1, hx_2⟩ (fun hHeld => ?_)
  refine pure_ (i := 0) (N := some 5) (v := ?_) (a' := ?_) #[true, false, false, false, false, false, false, false, false, false, false, false, false] rfl rfl (by kernel_rfl) (fun _ _ _ h => h) (Or.inl ⟨by rfl, ?_⟩) ?_ ?_
  rotate_left
  · intro w'
    go_simp
    with_reducible rfl
  rotate_left
  · simp only [Act.put, List.setIfInBounds_toArray, List.set_cons_zero, List.set_cons_succ, i64_w, i32_w]
    rfl
  refine pure_ (i := 1) (N := some 6) (v := ?_) (a' := ?_) #[true, true, false, false, false, false, false, false, false, false, false, false, false] rfl rfl (by kernel_rfl) (fun _ _ _ h => h) (Or.inl ⟨by rfl, ?_⟩) ?_ ?_
  rotate_left
  · intro w'
    go_simp
    with_reducible rfl
  rotate_left
  · simp only [Act.put, List.setIfInBounds_toArray, List.set_cons_zero, List.set_cons_succ, i64_w, i32_w]
    rfl
  refine pure_ (i := 2) (N := some 7) (v := ?_) (a' := ?_) #[true, true, true, false, false, false, false, false, false, false, false, false, false] rfl rfl (by kernel_rfl) (fun _ _ _ h => h) (Or.inl ⟨by rfl, ?_⟩) ?_ ?_
  rotate_left
  · intro w'
    go_simp
    with_reducible rfl
  rotate_left
  · simp only [Act.put, List.setIfInBounds_toArray, List.set_cons_zero, List.set_cons_succ, i64_w, i32_w]
    rfl
  refine pure_ (i := 4) (N := some 9) (v := ?_) (a' := ?_) #[true, true, true, false, true, false, false, false, false, false, false, false, false] rfl rfl (by kernel_rfl) (fun _ _ _ h => h) (Or.inl ⟨by rfl, ?_⟩) ?_ ?_
  rotate_left
  · intro w'
    go_simp
    with_reducible rfl
  rotate_left
  · simp only [Act.put, List.setIfInBounds_toArray, List.set_cons_zero, List.set_cons_succ, i64_w, i32_w]
    rfl
  refine pure_ (i := 7) (N := some 12) (v := ?_) (a' := ?_) #[true, true, true, false, true, false, false, true, false, false, false, false, false] rfl rfl (by kernel_rfl) (fun _ _ _ h => h) (Or.inl ⟨by rfl, ?_⟩) ?_ ?_
  rotate_left
  · intro w'
    go_simp
    with_reducible rfl
  rotate_left
  · simp only [Act.put, List.setIfInBounds_toArray, List.set_cons_zero, List.set_cons_succ, i64_w, i32_w]
    rfl
  refine pure_ (i := 8) (N := some 13) (v := ?_) (a' := ?_) #[true, true, true, false, true, false, false, true, true, false, false, false, false] rfl rfl (by kernel_rfl) (fun _ _ _ h => h) (Or.inl ⟨by rfl, ?_⟩) ?_ ?_
  rotate_left
  · intro w'
    go_simp
    with_reducible rfl
  rotate_left
  · simp only [Act.put, List.setIfInBounds_toArray, List.set_cons_zero, List.set_cons_succ, i64_w, i32_w]
    rfl
  refine take_ (i := 3) (N := some 8) (v := ?_) (a' := ?_) #[true, true, true, true, true, false, false, true, true, false, false, false, false] rfl rfl (by kernel_rfl) (fun _ _ _ h => h) (Or.inl ⟨by rfl, ?_⟩) hHeld ?_ ?_
  rotate_left
  · rintro w' ⟨s0, s1, s2, s3⟩
    go_simp
    with_reducible rfl
  rotate_left
  · simp only [Act.put, List.setIfInBounds_toArray, List.set_cons_zero, List.set_cons_succ, i64_w, i32_w]
    rfl
  refine pure_ (i := 5) (N := some 10) (v := ?_) (a' := ?_) #[true, true, true, true, true, true, false, true, true, false, false, false, false] rfl rfl (by kernel_rfl) (fun _ _ _ h => h) (Or.inl ⟨by rfl, ?_⟩) ?_ ?_
  rotate_left
  · intro w'
    go_simp
    with_reducible rfl
  rotate_left
  · simp only [Act.put, List.setIfInBounds_toArray, List.set_cons_zero, List.set_cons_succ, i64_w, i32_w]
    rfl
  refine take_ (i := 6) (N := some 11) (v := ?_) (a' := ?_) #[true, true, true, true, true, true, true, true, true, false, false, false, false] rfl rfl (by kernel_rfl) (fun _ _ _ h => h) (Or.inl ⟨by rfl, ?_⟩) hHeld ?_ ?_
  rotate_left
  · rintro w' ⟨s0, s1, s2, s3⟩
    go_simp
    with_reducible rfl
  rotate_left
  · simp only [Act.put, List.setIfInBounds_toArray, List.set_cons_zero, List.set_cons_succ, i64_w, i32_w]
    rfl
  refine one_ (i := 9) (N := some 14) #[true, true, true, true, true, true, true, true, true, true, false, false, false] rfl rfl (by kernel_rfl) (by decide) (fun K hK => ?_)
  refine goes_ Try.func109 (by kernel_rfl) rfl #[.pointer (some ad), .int .i64 (i : Int)] (by rfl) rfl rfl (by (try simp only [List.map_toArray, List.map_cons, List.map_nil]); first | done | rfl) ?_
  refine (next109 ad (some ae) c l i j (w.alloc (.cells #[.float .f32 0, .float .f32 0, .float .f32 0] 46 (0, 0))).drew f0 hle (Kd.C_below hC (below_drew1 hB)) hi hj y hy).mono ?_
  rintro e w1 ⟨rfl, hb1⟩
  refine ⟨_, rfl, ?_⟩
  have HB1 := Aside0.mk (below_step (below_drew1 hB) hb1)
  have BK1 := blk_below (g := w.heap.size) (o := .cells #[.float .f32 0, .float .f32 0, .float .f32 0] 46 (0, 0)) (blk_drew (heap_alloc_new w _)) hb1
  clear hb1
  refine hK.out _ _ ⟨cell_b HB1.out g0, cell_b HB1.out gx_0, cell_b HB1.out gx_1, cell_b HB1.out gx_2⟩ (fun hHeld1 => ?_)
  clear hK K
  refine norm_ (a' := ?_) ?_ ?_
  rotate_left
  · show Act.put _ (some 14) _ = _
    simp only [Act.put, List.setIfInBounds_toArray, List.set_cons_zero, List.set_cons_succ]
    rfl
  refine one_ (i := 10) (N := some 15) #[true, true, true, true, true, true, true, true, true, true, true, false, false] rfl rfl (by kernel_rfl) (by decide) (fun K hK => ?_)
  refine goes_ Try.func108 (by kernel_rfl) rfl #[vv x, vv y] (by rfl) rfl rfl (by (try simp only [List.map_toArray, List.map_cons, List.map_nil]); first | done | rfl) ?_
  refine (add108 x y x y (EV.refl x) (EV.refl y) _).mono ?_
  rintro e w2 ⟨s, rfl, hs, hb2⟩
  refine ⟨_, rfl, ?_⟩
  have HB2 := Aside0.mk (below_step HB1.out hb2)
  have BK2 := blk_below (g := w.heap.size) (o := .cells #[.float .f32 0, .float .f32 0, .float .f32 0] 46 (0, 0)) BK1 hb2
  clear hb2
  refine hK.out _ _ ⟨cell_b HB2.out g0, cell_b HB2.out gx_0, cell_b HB2.out gx_1, cell_b HB2.out gx_2⟩ (fun hHeld2 => ?_)
  clear hK K
  refine norm_ (a' := ?_) ?_ ?_
  rotate_left
  · show Act.put _ (some 15) _ = _
    simp only [Act.put, List.setIfInBounds_toArray, List.set_cons_zero, List.set_cons_succ]
    rfl
  refine one_ (i := 11) (N := some 16) #[true, true, true, true, true, true, true, true, true, true, true, true, false] rfl rfl (by kernel_rfl) (by decide) (fun K hK => ?_)
  refine goes_ Try.func107 (by kernel_rfl) rfl #[vv s, .float .f32 1056964608] (by rfl) rfl rfl (by (try simp only [List.map_toArray, List.map_cons, List.map_nil]); first | done | rfl) ?_
  refine (scale107 _ s _ _ hs (E.refl _) _).mono ?_
  rintro e w3 ⟨m, rfl, hm, hb3⟩
  refine ⟨_, rfl, ?_⟩
  have HB3 := Aside0.mk (below_step HB2.out hb3)
  have BK3 := blk_below (g := w.heap.size) (o := .cells #[.float .f32 0, .float .f32 0, .float .f32 0] 46 (0, 0)) BK2 hb3
  clear hb3
  refine hK.out _ _ ⟨cell_b HB3.out g0, cell_b HB3.out gx_0, cell_b HB3.out gx_1, cell_b HB3.out gx_2⟩ (fun hHeld3 => ?_)
  clear hK K
  refine norm_ (a' := ?_) ?_ ?_
  rotate_left
  · show Act.put _ (some 16) _ = _
    simp only [Act.put, List.setIfInBounds_toArray, List.set_cons_zero, List.set_cons_succ]
    rfl
  have hcz3_0 : w3.cell? ⟨w.heap.size, 0, none⟩ = some (.float .f32 0) := (blk_cell BK3 0).trans rfl
  have hcz3_1 : w3.cell? ⟨w.heap.size, 1, none⟩ = some (.float .f32 0) := (blk_cell BK3 1).trans rfl
  have hcz3_2 : w3.cell? ⟨w.heap.size, 2, none⟩ = some (.float .f32 0) := (blk_cell BK3 2).trans rfl
  have hfz3_0 := blk_frozen BK3 0
  have hfz3_1 := blk_frozen BK3 1
  have hfz3_2 := blk_frozen BK3 2
  refine last_ (i := 12) (N := none) #[true, true, true, true, true, true, true, true, true, true, true, true, true] rfl rfl (by kernel_rfl) (by decide) (fun K hK => ?_)
  refine skip_ (w1 := ?_) (by rfl) rfl ?_ ?_
  rotate_left
  · go_simp
    rfl
  refine hK.out _ _ ?_
  clear hK K
  refine done_ (by kernel_rfl) ?_
  go_wp2
  refine bodyPost_ret (results_cell_row rfl _ _ w.heap.size 46 #[.float .f32 m.f0, .float .f32 m.f1, .float .f32 m.f2] (0, 0) _ rfl (by
    refine blk_put (cs := #[.float .f32 m.f0, .float .f32 m.f1, .float .f32 0]) ?_ 2 _ rfl
    refine blk_put (cs := #[.float .f32 m.f0, .float .f32 0, .float .f32 0]) ?_ 1 _ rfl
    refine blk_put (cs := #[.float .f32 0, .float .f32 0, .float .f32 0]) ?_ 0 _ rfl
    exact BK3) Try.underlying46 rfl (by kernel_rfl)) rfl ?_
  exact ⟨m, rfl, hm, below_set (below_set (below_set HB3.out (Nat.le_refl _)) (Nat.le_refl _)) (Nat.le_refl _)⟩
set_option maxHeartbeats 4000000 in
set_option maxRecDepth 100000 in
theorem middle53 (ad : Addr) (A : Option Addr) (c : Nat) (l : List S46) (i j : Nat) (w : World) (f0 : w.cell? ad = some (.slice A l.length c)) (hle : l.length ≤ c) (hC : Kd.C k46 w A l.length l) (hi : i < l.length) (hj : (i + 1) % l.length = j) (x y : S46) (hx : rd_T46 l (i : Int) = x) (hy : rd_T46 l (j : Int) = y) :
    Calls Try.prog 53 #[.pointer (some ad), .int .i64 (i : Int)] w fun e w' => ∃ m d, e = .returned (.tuple #[vv m, vv d]) ∧ EV (midV x y) m ∧ EV (opV .sub y x) d ∧ Below w.heap.size w w' := by
  have HC := Aside0.mk hC
  clear hC
  go_enter Try.func53, Try.ntmps53
  go_wp2_with (first | (go_at_call 80; refine (ends80 ad A c l i j _ (cell_b (below_alloc (below_alloc (Below.refl _ _) _) _) f0) hle (Kd.C_alloc (Kd.C_alloc HC.out _) _) hi hj x y hx hy).mono ?_; rintro e w1 ⟨rfl, hb1⟩))
  have BK0 := blk_below (g := w.heap.size) (o := .cells #[.float .f32 0, .float .f32 0, .float .f32 0] 46 (0, 0)) (blk_alloc (heap_alloc_new _ _) _) hb1
  have BJ0 := blk_below (g := w.heap.size + 1) (o := .cells #[.float .f32 0, .float .f32 0, .float .f32 0] 46 (0, 0)) (by simpa using heap_alloc_new (w.alloc (.cells #[.float .f32 0, .float .f32 0, .float .f32 0] 46 (0, 0))) (.cells #[.float .f32 0, .float .f32 0, .float .f32 0] 46 (0, 0))) hb1
  have HB1 := Aside0.mk (below_step (below_alloc (below_alloc (Below.refl w.heap.size w) (.cells #[.float .f32 0, .float .f32 0, .float .f32 0] 46 (0, 0))) (.cells #[.float .f32 0, .float .f32 0, .float .f32 0] 46 (0, 0))) hb1)
  clear hb1
  have BK1 := blk_alloc (blk_alloc BK0 (.cells #[.float .f32 x.f0, .float .f32 x.f1, .float .f32 x.f2] 46)) (.cells #[.float .f32 y.f0, .float .f32 y.f1, .float .f32 y.f2] 46)
  have BJ1 := blk_alloc (blk_alloc BJ0 (.cells #[.float .f32 x.f0, .float .f32 x.f1, .float .f32 x.f2] 46)) (.cells #[.float .f32 y.f0, .float .f32 y.f1, .float .f32 y.f2] 46)
  have PX : ((w1.alloc (.cells #[.float .f32 x.f0, .float .f32 x.f1, .float .f32 x.f2] 46)).alloc (.cells #[.float .f32 y.f0, .float .f32 y.f1, .float .f32 y.f2] 46)).heap[w1.heap.size]? = some (.cells #[.float .f32 x.f0, .float .f32 x.f1, .float .f32 x.f2] 46) := blk_alloc (heap_alloc_new _ _) _
  have PY : ((w1.alloc (.cells #[.float .f32 x.f0, .float .f32 x.f1, .float .f32 x.f2] 46)).alloc (.cells #[.float .f32 y.f0, .float .f32 y.f1, .float .f32 y.f2] 46)).heap[w1.heap.size + 1]? = some (.cells #[.float .f32 y.f0, .float .f32 y.f1, .float .f32 y.f2] 46) := by simpa using heap_alloc_new (w1.alloc (.cells #[.float .f32 x.f0, .float .f32 x.f1, .float .f32 x.f2] 46)) (.cells #[.float .f32 y.f0, .float .f32 y.f1, .float .f32 y.f2] 46)
  have p0 : ((w1.alloc (.cells #[.float .f32 x.f0, .float .f32 x.f1, .float .f32 x.f2] 46)).alloc (.cells #[.float .f32 y.f0, .float .f32 y.f1, .float .f32 y.f2] 46)).cell? ⟨w1.heap.size, 0, none⟩ = some (.float .f32 x.f0) := (blk_cell PX 0).trans rfl
  have p1 : ((w1.alloc (.cells #[.float .f32 x.f0, .float .f32 x.f1, .float .f32 x.f2] 46)).alloc (.cells #[.float .f32 y.f0, .float .f32 y.f1, .float .f32 y.f2] 46)).cell? ⟨w1.heap.size, 1, none⟩ = some (.float .f32 x.f1) := (blk_cell PX 1).trans rfl
  have p2 : ((w1.alloc (.cells #[.float .f32 x.f0, .float .f32 x.f1, .float .f32 x.f2] 46)).alloc (.cells #[.float .f32 y.f0, .float .f32 y.f1, .float .f32 y.f2] 46)).cell? ⟨w1.heap.size, 2, none⟩ = some (.float .f32 x.f2) := (blk_cell PX 2).trans rfl
  have q0 : ((w1.alloc (.cells #[.float .f32 x.f0, .float .f32 x.f1, .float .f32 x.f2] 46)).alloc (.cells #[.float .f32 y.f0, .float .f32 y.f1, .float .f32 y.f2] 46)).cell? ⟨w1.heap.size + 1, 0, none⟩ = some (.float .f32 y.f0) := (blk_cell PY 0).trans rfl
  have q1 : ((w1.alloc (.cells #[.float .f32 x.f0, .float .f32 x.f1, .float .f32 x.f2] 46)).alloc (.cells #[.float .f32 y.f0, .float .f32 y.f1, .float .f32 y.f2] 46)).cell? ⟨w1.heap.size + 1, 1, none⟩ = some (.float .f32 y.f1) := (blk_cell PY 1).trans rfl
  have q2 : ((w1.alloc (.cells #[.float .f32 x.f0, .float .f32 x.f1, .float .f32 x.f2] 46)).alloc (.cells #[.float .f32 y.f0, .float .f32 y.f1, .float .f32 y.f2] 46)).cell? ⟨w1.heap.size + 1, 2, none⟩ = some (.float .f32 y.f2) := (blk_cell PY 2).trans rfl
  clear PX PY
  refine start_ (n := 9) (S := fun w' => w'.cell? ⟨w1.heap.size, 0, none⟩ = some (.float .f32 x.f0) ∧ w'.cell? ⟨w1.heap.size, 1, none⟩ = some (.float .f32 x.f1) ∧ w'.cell? ⟨w1.heap.size, 2, none⟩ = some (.float .f32 x.f2) ∧ w'.cell? ⟨w1.heap.size + 1, 0, none⟩ = some (.float .f32 y.f0) ∧ w'.cell? ⟨w1.heap.size + 1, 1, none⟩ = some (.float .f32 y.f1) ∧ w'.cell? ⟨w1.heap.size + 1, 2, none⟩ = some (.float .f32 y.f2)) (ds := [7, 8]) #[false, false, false, false, false, false, false, false, false] (by kernel_rfl) rfl rfl ⟨p0, p1, p2, q0, q1, q2⟩ (fun hHeld => ?_)
  refine take_ (i := 0) (N := some 14) (v := ?_) (a' := ?_) #[true, false, false, false, false, false, false, false, false] rfl rfl (by kernel_rfl) (fun _ _ _ h => h) (Or.inl ⟨by rfl, ?_⟩) hHeld ?_ ?_
  rotate_left
  · rintro w' ⟨s0, s1, s2, s3, s4, s5⟩
    go_simp
    with_reducible rfl
  rotate_left
  · simp only [Act.put, List.setIfInBounds_toArray, List.set_cons_zero, List.set_cons_succ, i64_w, i32_w]
    rfl
  refine take_ (i := 1) (N := some 15) (v := ?_) (a' := ?_) #[true, true, false, false, false, false, false, false, false] rfl rfl (by kernel_rfl) (fun _ _ _ h => h) (Or.inl ⟨by rfl, ?_⟩) hHeld ?_ ?_
  rotate_left
  · rintro w' ⟨s0, s1, s2, s3, s4, s5⟩
    go_simp
    with_reducible rfl
  rotate_left
  · simp only [Act.put, List.setIfInBounds_toArray, List.set_cons_zero, List.set_cons_succ, i64_w, i32_w]
    rfl
  refine take_ (i := 4) (N := some 18) (v := ?_) (a' := ?_) #[true, true, false, false, true, false, false, false, false] rfl rfl (by kernel_rfl) (fun _ _ _ h => h) (Or.inl ⟨by rfl, ?_⟩) hHeld ?_ ?_
  rotate_left
  · rintro w' ⟨s0, s1, s2, s3, s4, s5⟩
    go_simp
    with_reducible rfl
  rotate_left
  · simp only [Act.put, List.setIfInBounds_toArray, List.set_cons_zero, List.set_cons_succ, i64_w, i32_w]
    rfl
  refine take_ (i := 5) (N := some 19) (v := ?_) (a' := ?_) #[true, true, false, false, true, true, false, false, false] rfl rfl (by kernel_rfl) (fun _ _ _ h => h) (Or.inl ⟨by rfl, ?_⟩) hHeld ?_ ?_
  rotate_left
  · rintro w' ⟨s0, s1, s2, s3, s4, s5⟩
    go_simp
    with_reducible rfl
  rotate_left
  · simp only [Act.put, List.setIfInBounds_toArray, List.set_cons_zero, List.set_cons_succ, i64_w, i32_w]
    rfl
  refine one_ (i := 2) (N := some 16) #[true, true, true, false, true, true, false, false, false] rfl rfl (by kernel_rfl) (by decide) (fun K hK => ?_)
  refine goes_ Try.func82 (by kernel_rfl) rfl #[vv x, vv y] (by rfl) rfl rfl (by (try simp only [List.map_toArray, List.map_cons, List.map_nil]); first | done | rfl) ?_
  refine (add82 x y x y (EV.refl x) (EV.refl y) _).mono ?_
  rintro e w2 ⟨s, rfl, hs, hb2⟩
  refine ⟨_, rfl, ?_⟩
  have HW2 := Aside0.mk (below_step (below_drew1 (Below.refl _ _)) hb2)
  have BK2 := blk_below (g := w.heap.size) (o := .cells #[.float .f32 0, .float .f32 0, .float .f32 0] 46 (0, 0)) (blk_drew BK1) hb2
  have BJ2 := blk_below (g := w.heap.size + 1) (o := .cells #[.float .f32 0, .float .f32 0, .float .f32 0] 46 (0, 0)) (blk_drew BJ1) hb2
  clear hb2
  refine hK.out _ _ ⟨cell_b HW2.out p0, cell_b HW2.out p1, cell_b HW2.out p2, cell_b HW2.out q0, cell_b HW2.out q1, cell_b HW2.out q2⟩ (fun hHeld2 => ?_)
  clear hK K
  refine norm_ (a' := ?_) ?_ ?_
  rotate_left
  · show Act.put _ (some 16) _ = _
    simp only [Act.put, List.setIfInBounds_toArray, List.set_cons_zero, List.set_cons_succ]
    rfl
  refine one_ (i := 3) (N := some 17) #[true, true, true, true, true, true, false, false, false] rfl rfl (by kernel_rfl) (by decide) (fun K hK => ?_)
  refine goes_ Try.func83 (by kernel_rfl) rfl #[vv s, .float .f32 1056964608] (by rfl) rfl rfl (by (try simp only [List.map_toArray, List.map_cons, List.map_nil]); first | done | rfl) ?_
  refine (scale83 _ s _ _ hs (E.refl _) _).mono ?_
  rintro e w3 ⟨m, rfl, hm, hb3⟩
  refine ⟨_, rfl, ?_⟩
  have HW3 := Aside0.mk (below_step HW2.out hb3)
  have BK3 := blk_below (g := w.heap.size) (o := .cells #[.float .f32 0, .float .f32 0, .float .f32 0] 46 (0, 0)) BK2 hb3
  have BJ3 := blk_below (g := w.heap.size + 1) (o := .cells #[.float .f32 0, .float .f32 0, .float .f32 0] 46 (0, 0)) BJ2 hb3
  clear hb3
  refine hK.out _ _ ⟨cell_b HW3.out p0, cell_b HW3.out p1, cell_b HW3.out p2, cell_b HW3.out q0, cell_b HW3.out q1, cell_b HW3.out q2⟩ (fun hHeld3 => ?_)
  clear hK K
  refine norm_ (a' := ?_) ?_ ?_
  rotate_left
  · show Act.put _ (some 17) _ = _
    simp only [Act.put, List.setIfInBounds_toArray, List.set_cons_zero, List.set_cons_succ]
    rfl
  refine one_ (i := 6) (N := some 20) #[true, true, true, true, true, true, true, false, false] rfl rfl (by kernel_rfl) (by decide) (fun K hK => ?_)
  refine goes_ Try.func54 (by kernel_rfl) rfl #[vv y, vv x] (by rfl) rfl rfl (by (try simp only [List.map_toArray, List.map_cons, List.map_nil]); first | done | rfl) ?_
  refine (less54 y x y x (EV.refl y) (EV.refl x) _).mono ?_
  rintro e w4 ⟨d, rfl, hd, hb4⟩
  refine ⟨_, rfl, ?_⟩
  have HW4 := Aside0.mk (below_step HW3.out hb4)
  have BK4 := blk_below (g := w.heap.size) (o := .cells #[.float .f32 0, .float .f32 0, .float .f32 0] 46 (0, 0)) BK3 hb4
  have BJ4 := blk_below (g := w.heap.size + 1) (o := .cells #[.float .f32 0, .float .f32 0, .float .f32 0] 46 (0, 0)) BJ3 hb4
  clear hb4
  refine hK.out _ _ ⟨cell_b HW4.out p0, cell_b HW4.out p1, cell_b HW4.out p2, cell_b HW4.out q0, cell_b HW4.out q1, cell_b HW4.out q2⟩ (fun hHeld4 => ?_)
  clear hK K
  refine norm_ (a' := ?_) ?_ ?_
  rotate_left
  · show Act.put _ (some 20) _ = _
    simp only [Act.put, List.setIfInBounds_toArray, List.set_cons_zero, List.set_cons_succ]
    rfl
  have hcz4_0 : w4.cell? ⟨w.heap.size, 0, none⟩ = some (.float .f32 0) := (blk_cell BK4 0).trans rfl
  have hcz4_1 : w4.cell? ⟨w.heap.size, 1, none⟩ = some (.float .f32 0) := (blk_cell BK4 1).trans rfl
  have hcz4_2 : w4.cell? ⟨w.heap.size, 2, none⟩ = some (.float .f32 0) := (blk_cell BK4 2).trans rfl
  have hfz4_0 := blk_frozen BK4 0
  have hfz4_1 := blk_frozen BK4 1
  have hfz4_2 := blk_frozen BK4 2
  have hdz4_0 : w4.cell? ⟨w.heap.size + 1, 0, none⟩ = some (.float .f32 0) := (blk_cell BJ4 0).trans rfl
  have hdz4_1 : w4.cell? ⟨w.heap.size + 1, 1, none⟩ = some (.float .f32 0) := (blk_cell BJ4 1).trans rfl
  have hdz4_2 : w4.cell? ⟨w.heap.size + 1, 2, none⟩ = some (.float .f32 0) := (blk_cell BJ4 2).trans rfl
  have hgz4_0 := blk_frozen BJ4 0
  have hgz4_1 := blk_frozen BJ4 1
  have hgz4_2 := blk_frozen BJ4 2
  refine last_ (i := 7) (N := none) #[true, true, true, true, true, true, true, true, false] rfl rfl (by kernel_rfl) (by decide) (fun K hK => ?_)
  refine skip_ (w1 := ?_) (by rfl) rfl ?_ ?_
  rotate_left
  · go_simp
    rfl
  refine hK.out _ _ ?_
  clear hK K
  refine last_ (i := 8) (N := none) #[true, true, true, true, true, true, true, true, true] rfl rfl (by kernel_rfl) (by decide) (fun K hK => ?_)
  refine skip_ (w1 := ?_) (by rfl) rfl ?_ ?_
  rotate_left
  · go_simp
    rfl
  refine hK.out _ _ ?_
  clear hK K
  refine done_ (by kernel_rfl) ?_
  go_wp2
  have HE := below_step (below_alloc (below_alloc HB1.out (.cells #[.float .f32 x.f0, .float .f32 x.f1, .float .f32 x.f2] 46)) (.cells #[.float .f32 y.f0, .float .f32 y.f1, .float .f32 y.f2] 46)) HW4.out
  refine bodyPost_ret (results_cc rfl _ _ w.heap.size (w.heap.size + 1) 46 46 #[.float .f32 m.f0, .float .f32 m.f1, .float .f32 m.f2] #[.float .f32 d.f0, .float .f32 d.f1, .float .f32 d.f2] (0, 0) (0, 0) _ _ rfl (by
    refine blk_far ?_ (by show w.heap.size ≠ w.heap.size + 1; omega) _
    refine blk_far ?_ (by show w.heap.size ≠ w.heap.size + 1; omega) _
    refine blk_far ?_ (by show w.heap.size ≠ w.heap.size + 1; omega) _
    refine blk_put (cs := #[.float .f32 m.f0, .float .f32 m.f1, .float .f32 0]) ?_ 2 _ rfl
    refine blk_put (cs := #[.float .f32 m.f0, .float .f32 0, .float .f32 0]) ?_ 1 _ rfl
    refine blk_put (cs := #[.float .f32 0, .float .f32 0, .float .f32 0]) ?_ 0 _ rfl
    exact BK4) Try.underlying46 rfl (by kernel_rfl) rfl (by
    refine blk_put (cs := #[.float .f32 d.f0, .float .f32 d.f1, .float .f32 0]) ?_ 2 _ rfl
    refine blk_put (cs := #[.float .f32 d.f0, .float .f32 0, .float .f32 0]) ?_ 1 _ rfl
    refine blk_put (cs := #[.float .f32 0, .float .f32 0, .float .f32 0]) ?_ 0 _ rfl
    refine blk_far ?_ (by show w.heap.size + 1 ≠ w.heap.size; omega) _
    refine blk_far ?_ (by show w.heap.size + 1 ≠ w.heap.size; omega) _
    refine blk_far ?_ (by show w.heap.size + 1 ≠ w.heap.size; omega) _
    exact BJ4) Try.underlying46 rfl (by kernel_rfl)) rfl ?_
  exact ⟨m, d, rfl, hm, hd, below_set (below_set (below_set (below_set (below_set (below_set HE (Nat.le_refl _)) (Nat.le_refl _)) (Nat.le_refl _)) (Nat.le_succ _)) (Nat.le_succ _)) (Nat.le_succ _)⟩
end XE
end Go.Proofs.Ytffofpiejcolfaa
