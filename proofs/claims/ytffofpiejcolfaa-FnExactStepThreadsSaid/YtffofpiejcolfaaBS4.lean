/- Words, walks and plain laws that a claim of this seat needs, one text after the other (part 4). -/
import Derived.Test.YtffofpiejcolfaaBS3
import Derived.Laws.BitsAllLaws
set_option linter.unusedVariables false
set_option linter.unusedSimpArgs false
section
set_option linter.unusedVariables false
set_option linter.unusedSimpArgs false
namespace Go.Proofs.Ytffofpiejcolfaa
open Go.RowKit Go.Proofs.YtffofpiejcolfaaW.PrintWords Go.Proofs.YtffofpiejcolfaaW.PrintLast Go.Proofs.YtffofpiejcolfaaW.PrintMore
attribute [local go_sem] max2_int min2_int max_two min_two max_three min_three max_four min_four
namespace XE
open XF XL XC XY L0
set_option maxHeartbeats 4000000 in
set_option maxRecDepth 100000 in
theorem cross63 (x y a b : S46) (hx : EV x a) (hy : EV y b) (w : World) : Calls Try.prog 63 #[vv a, vv b] w fun e w' => ∃ c, e = .returned (vv c) ∧ EV (crossV x y) c ∧ Below w.heap.size w w' := by
  obtain ⟨x0, x1, x2⟩ := hx
  obtain ⟨y0, y1, y2⟩ := hy
  have BA : (((w.alloc (.cells #[.float .f32 a.f0, .float .f32 a.f1, .float .f32 a.f2] 46)).alloc (.cells #[.float .f32 b.f0, .float .f32 b.f1, .float .f32 b.f2] 46)).alloc (.cells #[.float .f32 0, .float .f32 0, .float .f32 0] 46)).heap[w.heap.size]? = some (.cells #[.float .f32 a.f0, .float .f32 a.f1, .float .f32 a.f2] 46 (0, 0)) := blk_alloc (blk_alloc (heap_alloc_new w _) _) _
  have BB : (((w.alloc (.cells #[.float .f32 a.f0, .float .f32 a.f1, .float .f32 a.f2] 46)).alloc (.cells #[.float .f32 b.f0, .float .f32 b.f1, .float .f32 b.f2] 46)).alloc (.cells #[.float .f32 0, .float .f32 0, .float .f32 0] 46)).heap[w.heap.size + 1]? = some (.cells #[.float .f32 b.f0, .float .f32 b.f1, .float .f32 b.f2] 46 (0, 0)) := by
    refine blk_alloc ?_ _
    simpa using heap_alloc_new (w.alloc (.cells #[.float .f32 a.f0, .float .f32 a.f1, .float .f32 a.f2] 46)) (.cells #[.float .f32 b.f0, .float .f32 b.f1, .float .f32 b.f2] 46)
  have p0 : (((w.alloc (.cells #[.float .f32 a.f0, .float .f32 a.f1, .float .f32 a.f2] 46)).alloc (.cells #[.float .f32 b.f0, .float .f32 b.f1, .float .f32 b.f2] 46)).alloc (.cells #[.float .f32 0, .float .f32 0, .float .f32 0] 46)).cell? ⟨w.heap.size, 0, none⟩ = some (.float .f32 a.f0) := (blk_cell BA 0).trans rfl
  have p1 : (((w.alloc (.cells #[.float .f32 a.f0, .float .f32 a.f1, .float .f32 a.f2] 46)).alloc (.cells #[.float .f32 b.f0, .float .f32 b.f1, .float .f32 b.f2] 46)).alloc (.cells #[.float .f32 0, .float .f32 0, .float .f32 0] 46)).cell? ⟨w.heap.size, 1, none⟩ = some (.float .f32 a.f1) := (blk_cell BA 1).trans rfl
  have p2 : (((w.alloc (.cells #[.float .f32 a.f0, .float .f32 a.f1, .float .f32 a.f2] 46)).alloc (.cells #[.float .f32 b.f0, .float .f32 b.f1, .float .f32 b.f2] 46)).alloc (.cells #[.float .f32 0, .float .f32 0, .float .f32 0] 46)).cell? ⟨w.heap.size, 2, none⟩ = some (.float .f32 a.f2) := (blk_cell BA 2).trans rfl
  have q0 : (((w.alloc (.cells #[.float .f32 a.f0, .float .f32 a.f1, .float .f32 a.f2] 46)).alloc (.cells #[.float .f32 b.f0, .float .f32 b.f1, .float .f32 b.f2] 46)).alloc (.cells #[.float .f32 0, .float .f32 0, .float .f32 0] 46)).cell? ⟨w.heap.size + 1, 0, none⟩ = some (.float .f32 b.f0) := (blk_cell BB 0).trans rfl
  have q1 : (((w.alloc (.cells #[.float .f32 a.f0, .float .f32 a.f1, .float .f32 a.f2] 46)).alloc (.cells #[.float .f32 b.f0, .float .f32 b.f1, .float .f32 b.f2] 46)).alloc (.cells #[.float .f32 0, .float .f32 0, .float .f32 0] 46)).cell? ⟨w.heap.size + 1, 1, none⟩ = some (.float .f32 b.f1) := (blk_cell BB 1).trans rfl
  have q2 : (((w.alloc (.cells #[.float .f32 a.f0, .float .f32 a.f1, .float .f32 a.f2] 46)).alloc (.cells #[.float .f32 b.f0, .float .f32 b.f1, .float .f32 b.f2] 46)).alloc (.cells #[.float .f32 0, .float .f32 0, .float .f32 0] 46)).cell? ⟨w.heap.size + 1, 2, none⟩ = some (.float .f32 b.f2) := (blk_cell BB 2).trans rfl
  clear BA BB
  go_enter Try.func63, Try.ntmps63
  go_wp2
  refine start_ (n := 29) (S := fun w' => w'.cell? ⟨w.heap.size, 0, none⟩ = some (.float .f32 a.f0) ∧ w'.cell? ⟨w.heap.size, 1, none⟩ = some (.float .f32 a.f1) ∧ w'.cell? ⟨w.heap.size, 2, none⟩ = some (.float .f32 a.f2) ∧ w'.cell? ⟨w.heap.size + 1, 0, none⟩ = some (.float .f32 b.f0) ∧ w'.cell? ⟨w.heap.size + 1, 1, none⟩ = some (.float .f32 b.f1) ∧ w'.cell? ⟨w.heap.size + 1, 2, none⟩ = some (.float .f32 b.f2)) (ds := [28]) #[false, false, false, false, false, false, false, false, false, false, false, false, false, false, false, false, false, false, false, false, false, false, false, false, false, false, false, false, false] (by kernel_rfl) rfl rfl ⟨p0, p1, p2, q0, q1, q2⟩ (fun hHeld => ?_)
  refine pure_ (i := 0) (N := some 5) (v := ?_) (a' := ?_) #[true, false, false, false, false, false, false, false, false, false, false, false, false, false, false, false, false, false, false, false, false, false, false, false, false, false, false, false, false] rfl rfl (by kernel_rfl) (fun _ _ _ h => h) (Or.inl ⟨by rfl, ?_⟩) ?_ ?_
  rotate_left
  · intro w'
    go_simp
    with_reducible rfl
  rotate_left
  · simp only [Act.put, List.setIfInBounds_toArray, List.set_cons_zero, List.set_cons_succ, i64_w, i32_w]
    rfl
  refine pure_ (i := 2) (N := some 7) (v := ?_) (a' := ?_) #[true, false, true, false, false, false, false, false, false, false, false, false, false, false, false, false, false, false, false, false, false, false, false, false, false, false, false, false, false] rfl rfl (by kernel_rfl) (fun _ _ _ h => h) (Or.inl ⟨by rfl, ?_⟩) ?_ ?_
  rotate_left
  · intro w'
    go_simp
    with_reducible rfl
  rotate_left
  · simp only [Act.put, List.setIfInBounds_toArray, List.set_cons_zero, List.set_cons_succ, i64_w, i32_w]
    rfl
  refine pure_ (i := 4) (N := some 9) (v := ?_) (a' := ?_) #[true, false, true, false, true, false, false, false, false, false, false, false, false, false, false, false, false, false, false, false, false, false, false, false, false, false, false, false, false] rfl rfl (by kernel_rfl) (fun _ _ _ h => h) (Or.inl ⟨by rfl, ?_⟩) ?_ ?_
  rotate_left
  · intro w'
    go_simp
    with_reducible rfl
  rotate_left
  · simp only [Act.put, List.setIfInBounds_toArray, List.set_cons_zero, List.set_cons_succ, i64_w, i32_w]
    rfl
  refine pure_ (i := 6) (N := some 11) (v := ?_) (a' := ?_) #[true, false, true, false, true, false, true, false, false, false, false, false, false, false, false, false, false, false, false, false, false, false, false, false, false, false, false, false, false] rfl rfl (by kernel_rfl) (fun _ _ _ h => h) (Or.inl ⟨by rfl, ?_⟩) ?_ ?_
  rotate_left
  · intro w'
    go_simp
    with_reducible rfl
  rotate_left
  · simp only [Act.put, List.setIfInBounds_toArray, List.set_cons_zero, List.set_cons_succ, i64_w, i32_w]
    rfl
  refine pure_ (i := 9) (N := some 14) (v := ?_) (a' := ?_) #[true, false, true, false, true, false, true, false, false, true, false, false, false, false, false, false, false, false, false, false, false, false, false, false, false, false, false, false, false] rfl rfl (by kernel_rfl) (fun _ _ _ h => h) (Or.inl ⟨by rfl, ?_⟩) ?_ ?_
  rotate_left
  · intro w'
    go_simp
    with_reducible rfl
  rotate_left
  · simp only [Act.put, List.setIfInBounds_toArray, List.set_cons_zero, List.set_cons_succ, i64_w, i32_w]
    rfl
  refine pure_ (i := 11) (N := some 16) (v := ?_) (a' := ?_) #[true, false, true, false, true, false, true, false, false, true, false, true, false, false, false, false, false, false, false, false, false, false, false, false, false, false, false, false, false] rfl rfl (by kernel_rfl) (fun _ _ _ h => h) (Or.inl ⟨by rfl, ?_⟩) ?_ ?_
  rotate_left
  · intro w'
    go_simp
    with_reducible rfl
  rotate_left
  · simp only [Act.put, List.setIfInBounds_toArray, List.set_cons_zero, List.set_cons_succ, i64_w, i32_w]
    rfl
  refine pure_ (i := 13) (N := some 18) (v := ?_) (a' := ?_) #[true, false, true, false, true, false, true, false, false, true, false, true, false, true, false, false, false, false, false, false, false, false, false, false, false, false, false, false, false] rfl rfl (by kernel_rfl) (fun _ _ _ h => h) (Or.inl ⟨by rfl, ?_⟩) ?_ ?_
  rotate_left
  · intro w'
    go_simp
    with_reducible rfl
  rotate_left
  · simp only [Act.put, List.setIfInBounds_toArray, List.set_cons_zero, List.set_cons_succ, i64_w, i32_w]
    rfl
  refine pure_ (i := 15) (N := some 20) (v := ?_) (a' := ?_) #[true, false, true, false, true, false, true, false, false, true, false, true, false, true, false, true, false, false, false, false, false, false, false, false, false, false, false, false, false] rfl rfl (by kernel_rfl) (fun _ _ _ h => h) (Or.inl ⟨by rfl, ?_⟩) ?_ ?_
  rotate_left
  · intro w'
    go_simp
    with_reducible rfl
  rotate_left
  · simp only [Act.put, List.setIfInBounds_toArray, List.set_cons_zero, List.set_cons_succ, i64_w, i32_w]
    rfl
  refine pure_ (i := 18) (N := some 23) (v := ?_) (a' := ?_) #[true, false, true, false, true, false, true, false, false, true, false, true, false, true, false, true, false, false, true, false, false, false, false, false, false, false, false, false, false] rfl rfl (by kernel_rfl) (fun _ _ _ h => h) (Or.inl ⟨by rfl, ?_⟩) ?_ ?_
  rotate_left
  · intro w'
    go_simp
    with_reducible rfl
  rotate_left
  · simp only [Act.put, List.setIfInBounds_toArray, List.set_cons_zero, List.set_cons_succ, i64_w, i32_w]
    rfl
  refine pure_ (i := 20) (N := some 25) (v := ?_) (a' := ?_) #[true, false, true, false, true, false, true, false, false, true, false, true, false, true, false, true, false, false, true, false, true, false, false, false, false, false, false, false, false] rfl rfl (by kernel_rfl) (fun _ _ _ h => h) (Or.inl ⟨by rfl, ?_⟩) ?_ ?_
  rotate_left
  · intro w'
    go_simp
    with_reducible rfl
  rotate_left
  · simp only [Act.put, List.setIfInBounds_toArray, List.set_cons_zero, List.set_cons_succ, i64_w, i32_w]
    rfl
  refine pure_ (i := 22) (N := some 27) (v := ?_) (a' := ?_) #[true, false, true, false, true, false, true, false, false, true, false, true, false, true, false, true, false, false, true, false, true, false, true, false, false, false, false, false, false] rfl rfl (by kernel_rfl) (fun _ _ _ h => h) (Or.inl ⟨by rfl, ?_⟩) ?_ ?_
  rotate_left
  · intro w'
    go_simp
    with_reducible rfl
  rotate_left
  · simp only [Act.put, List.setIfInBounds_toArray, List.set_cons_zero, List.set_cons_succ, i64_w, i32_w]
    rfl
  refine pure_ (i := 24) (N := some 29) (v := ?_) (a' := ?_) #[true, false, true, false, true, false, true, false, false, true, false, true, false, true, false, true, false, false, true, false, true, false, true, false, true, false, false, false, false] rfl rfl (by kernel_rfl) (fun _ _ _ h => h) (Or.inl ⟨by rfl, ?_⟩) ?_ ?_
  rotate_left
  · intro w'
    go_simp
    with_reducible rfl
  rotate_left
  · simp only [Act.put, List.setIfInBounds_toArray, List.set_cons_zero, List.set_cons_succ, i64_w, i32_w]
    rfl
  refine take_ (i := 1) (N := some 6) (v := ?_) (a' := ?_) #[true, true, true, false, true, false, true, false, false, true, false, true, false, true, false, true, false, false, true, false, true, false, true, false, true, false, false, false, false] rfl rfl (by kernel_rfl) (fun _ _ _ h => h) (Or.inl ⟨by rfl, ?_⟩) hHeld ?_ ?_
  rotate_left
  · rintro w' ⟨s0, s1, s2, s3, s4, s5⟩
    go_simp
    with_reducible rfl
  rotate_left
  · simp only [Act.put, List.setIfInBounds_toArray, List.set_cons_zero, List.set_cons_succ, i64_w, i32_w]
    rfl
  refine take_ (i := 3) (N := some 8) (v := ?_) (a' := ?_) #[true, true, true, true, true, false, true, false, false, true, false, true, false, true, false, true, false, false, true, false, true, false, true, false, true, false, false, false, false] rfl rfl (by kernel_rfl) (fun _ _ _ h => h) (Or.inl ⟨by rfl, ?_⟩) hHeld ?_ ?_
  rotate_left
  · rintro w' ⟨s0, s1, s2, s3, s4, s5⟩
    go_simp
    with_reducible rfl
  rotate_left
  · simp only [Act.put, List.setIfInBounds_toArray, List.set_cons_zero, List.set_cons_succ, i64_w, i32_w]
    rfl
  refine take_ (i := 5) (N := some 10) (v := ?_) (a' := ?_) #[true, true, true, true, true, true, true, false, false, true, false, true, false, true, false, true, false, false, true, false, true, false, true, false, true, false, false, false, false] rfl rfl (by kernel_rfl) (fun _ _ _ h => h) (Or.inl ⟨by rfl, ?_⟩) hHeld ?_ ?_
  rotate_left
  · rintro w' ⟨s0, s1, s2, s3, s4, s5⟩
    go_simp
    with_reducible rfl
  rotate_left
  · simp only [Act.put, List.setIfInBounds_toArray, List.set_cons_zero, List.set_cons_succ, i64_w, i32_w]
    rfl
  refine take_ (i := 7) (N := some 12) (v := ?_) (a' := ?_) #[true, true, true, true, true, true, true, true, false, true, false, true, false, true, false, true, false, false, true, false, true, false, true, false, true, false, false, false, false] rfl rfl (by kernel_rfl) (fun _ _ _ h => h) (Or.inl ⟨by rfl, ?_⟩) hHeld ?_ ?_
  rotate_left
  · rintro w' ⟨s0, s1, s2, s3, s4, s5⟩
    go_simp
    with_reducible rfl
  rotate_left
  · simp only [Act.put, List.setIfInBounds_toArray, List.set_cons_zero, List.set_cons_succ, i64_w, i32_w]
    rfl
  refine take_ (i := 10) (N := some 15) (v := ?_) (a' := ?_) #[true, true, true, true, true, true, true, true, false, true, true, true, false, true, false, true, false, false, true, false, true, false, true, false, true, false, false, false, false] rfl rfl (by kernel_rfl) (fun _ _ _ h => h) (Or.inl ⟨by rfl, ?_⟩) hHeld ?_ ?_
  rotate_left
  · rintro w' ⟨s0, s1, s2, s3, s4, s5⟩
    go_simp
    with_reducible rfl
  rotate_left
  · simp only [Act.put, List.setIfInBounds_toArray, List.set_cons_zero, List.set_cons_succ, i64_w, i32_w]
    rfl
  refine take_ (i := 12) (N := some 17) (v := ?_) (a' := ?_) #[true, true, true, true, true, true, true, true, false, true, true, true, true, true, false, true, false, false, true, false, true, false, true, false, true, false, false, false, false] rfl rfl (by kernel_rfl) (fun _ _ _ h => h) (Or.inl ⟨by rfl, ?_⟩) hHeld ?_ ?_
  rotate_left
  · rintro w' ⟨s0, s1, s2, s3, s4, s5⟩
    go_simp
    with_reducible rfl
  rotate_left
  · simp only [Act.put, List.setIfInBounds_toArray, List.set_cons_zero, List.set_cons_succ, i64_w, i32_w]
    rfl
  refine take_ (i := 14) (N := some 19) (v := ?_) (a' := ?_) #[true, true, true, true, true, true, true, true, false, true, true, true, true, true, true, true, false, false, true, false, true, false, true, false, true, false, false, false, false] rfl rfl (by kernel_rfl) (fun _ _ _ h => h) (Or.inl ⟨by rfl, ?_⟩) hHeld ?_ ?_
  rotate_left
  · rintro w' ⟨s0, s1, s2, s3, s4, s5⟩
    go_simp
    with_reducible rfl
  rotate_left
  · simp only [Act.put, List.setIfInBounds_toArray, List.set_cons_zero, List.set_cons_succ, i64_w, i32_w]
    rfl
  refine take_ (i := 16) (N := some 21) (v := ?_) (a' := ?_) #[true, true, true, true, true, true, true, true, false, true, true, true, true, true, true, true, true, false, true, false, true, false, true, false, true, false, false, false, false] rfl rfl (by kernel_rfl) (fun _ _ _ h => h) (Or.inl ⟨by rfl, ?_⟩) hHeld ?_ ?_
  rotate_left
  · rintro w' ⟨s0, s1, s2, s3, s4, s5⟩
    go_simp
    with_reducible rfl
  rotate_left
  · simp only [Act.put, List.setIfInBounds_toArray, List.set_cons_zero, List.set_cons_succ, i64_w, i32_w]
    rfl
  refine take_ (i := 19) (N := some 24) (v := ?_) (a' := ?_) #[true, true, true, true, true, true, true, true, false, true, true, true, true, true, true, true, true, false, true, true, true, false, true, false, true, false, false, false, false] rfl rfl (by kernel_rfl) (fun _ _ _ h => h) (Or.inl ⟨by rfl, ?_⟩) hHeld ?_ ?_
  rotate_left
  · rintro w' ⟨s0, s1, s2, s3, s4, s5⟩
    go_simp
    with_reducible rfl
  rotate_left
  · simp only [Act.put, List.setIfInBounds_toArray, List.set_cons_zero, List.set_cons_succ, i64_w, i32_w]
    rfl
  refine take_ (i := 21) (N := some 26) (v := ?_) (a' := ?_) #[true, true, true, true, true, true, true, true, false, true, true, true, true, true, true, true, true, false, true, true, true, true, true, false, true, false, false, false, false] rfl rfl (by kernel_rfl) (fun _ _ _ h => h) (Or.inl ⟨by rfl, ?_⟩) hHeld ?_ ?_
  rotate_left
  · rintro w' ⟨s0, s1, s2, s3, s4, s5⟩
    go_simp
    with_reducible rfl
  rotate_left
  · simp only [Act.put, List.setIfInBounds_toArray, List.set_cons_zero, List.set_cons_succ, i64_w, i32_w]
    rfl
  refine take_ (i := 23) (N := some 28) (v := ?_) (a' := ?_) #[true, true, true, true, true, true, true, true, false, true, true, true, true, true, true, true, true, false, true, true, true, true, true, true, true, false, false, false, false] rfl rfl (by kernel_rfl) (fun _ _ _ h => h) (Or.inl ⟨by rfl, ?_⟩) hHeld ?_ ?_
  rotate_left
  · rintro w' ⟨s0, s1, s2, s3, s4, s5⟩
    go_simp
    with_reducible rfl
  rotate_left
  · simp only [Act.put, List.setIfInBounds_toArray, List.set_cons_zero, List.set_cons_succ, i64_w, i32_w]
    rfl
  refine take_ (i := 25) (N := some 30) (v := ?_) (a' := ?_) #[true, true, true, true, true, true, true, true, false, true, true, true, true, true, true, true, true, false, true, true, true, true, true, true, true, true, false, false, false] rfl rfl (by kernel_rfl) (fun _ _ _ h => h) (Or.inl ⟨by rfl, ?_⟩) hHeld ?_ ?_
  rotate_left
  · rintro w' ⟨s0, s1, s2, s3, s4, s5⟩
    go_simp
    with_reducible rfl
  rotate_left
  · simp only [Act.put, List.setIfInBounds_toArray, List.set_cons_zero, List.set_cons_succ, i64_w, i32_w]
    rfl
  refine one_ (i := 8) (N := some 13) #[true, true, true, true, true, true, true, true, true, true, true, true, true, true, true, true, true, false, true, true, true, true, true, true, true, true, false, false, false] rfl rfl (by kernel_rfl) (by decide) (fun K hK => ?_)
  refine goes_ Try.func110 (by kernel_rfl) rfl #[.float .f32 a.f1, .float .f32 b.f2, .float .f32 a.f2, .float .f32 b.f1] (by rfl) rfl rfl (by (try simp only [List.map_toArray, List.map_cons, List.map_nil]); first | done | rfl) ?_
  refine (crossed110 _ _ _ _ _ _ _ _ x1 y2 x2 y1 _).mono ?_
  rintro e w1 ⟨c1, rfl, h1, ⟨n1, rfl⟩⟩
  refine ⟨_, rfl, ?_⟩
  refine hK.out _ _ ⟨p0, p1, p2, q0, q1, q2⟩ (fun hHeld1 => ?_)
  clear hK K
  refine norm_ (a' := ?_) ?_ ?_
  rotate_left
  · show Act.put _ (some 13) _ = _
    simp only [Act.put, List.setIfInBounds_toArray, List.set_cons_zero, List.set_cons_succ]
    rfl
  refine one_ (i := 17) (N := some 22) #[true, true, true, true, true, true, true, true, true, true, true, true, true, true, true, true, true, true, true, true, true, true, true, true, true, true, false, false, false] rfl rfl (by kernel_rfl) (by decide) (fun K hK => ?_)
  refine goes_ Try.func110 (by kernel_rfl) rfl #[.float .f32 a.f2, .float .f32 b.f0, .float .f32 a.f0, .float .f32 b.f2] (by rfl) rfl rfl (by (try simp only [List.map_toArray, List.map_cons, List.map_nil]); first | done | rfl) ?_
  refine (crossed110 _ _ _ _ _ _ _ _ x2 y0 x0 y2 _).mono ?_
  rintro e w2 ⟨c2, rfl, h2, ⟨n2, rfl⟩⟩
  refine ⟨_, rfl, ?_⟩
  refine hK.out _ _ ⟨p0, p1, p2, q0, q1, q2⟩ (fun hHeld2 => ?_)
  clear hK K
  refine norm_ (a' := ?_) ?_ ?_
  rotate_left
  · show Act.put _ (some 22) _ = _
    simp only [Act.put, List.setIfInBounds_toArray, List.set_cons_zero, List.set_cons_succ]
    rfl
  refine one_ (i := 26) (N := some 31) #[true, true, true, true, true, true, true, true, true, true, true, true, true, true, true, true, true, true, true, true, true, true, true, true, true, true, true, false, false] rfl rfl (by kernel_rfl) (by decide) (fun K hK => ?_)
  refine goes_ Try.func110 (by kernel_rfl) rfl #[.float .f32 a.f0, .float .f32 b.f1, .float .f32 a.f1, .float .f32 b.f0] (by rfl) rfl rfl (by (try simp only [List.map_toArray, List.map_cons, List.map_nil]); first | done | rfl) ?_
  refine (crossed110 _ _ _ _ _ _ _ _ x0 y1 x1 y0 _).mono ?_
  rintro e w3 ⟨c3, rfl, h3, ⟨n3, rfl⟩⟩
  refine ⟨_, rfl, ?_⟩
  refine hK.out _ _ ⟨p0, p1, p2, q0, q1, q2⟩ (fun hHeld3 => ?_)
  clear hK K
  refine norm_ (a' := ?_) ?_ ?_
  rotate_left
  · show Act.put _ (some 31) _ = _
    simp only [Act.put, List.setIfInBounds_toArray, List.set_cons_zero, List.set_cons_succ]
    rfl
  refine pure_ (i := 27) (N := some 32) (v := ?_) (a' := ?_) #[true, true, true, true, true, true, true, true, true, true, true, true, true, true, true, true, true, true, true, true, true, true, true, true, true, true, true, true, false] rfl rfl (by kernel_rfl) (fun _ _ _ h => h) (Or.inl ⟨by rfl, ?_⟩) ?_ ?_
  rotate_left
  · intro w'
    go_simp
    with_reducible rfl
  rotate_left
  · simp only [Act.put, List.setIfInBounds_toArray, List.set_cons_zero, List.set_cons_succ, i64_w, i32_w]
    rfl
  refine last_ (i := 28) (N := none) #[true, true, true, true, true, true, true, true, true, true, true, true, true, true, true, true, true, true, true, true, true, true, true, true, true, true, true, true, true] rfl rfl (by kernel_rfl) (by decide) (fun K hK => ?_)
  refine skip_ (w1 := ?_) (by rfl) rfl ?_ ?_
  rotate_left
  · go_simp
    rfl
  refine hK.out _ _ ?_
  clear hK K
  refine done_ (by kernel_rfl) ?_
  go_wp2
  clear hHeld hHeld1 hHeld2 hHeld3 p0 p1 p2 q0 q1 q2
  refine bodyPost_ret (results_cell_row rfl _ _ (w.heap.size + 1 + 1) 46 #[.float .f32 c1, .float .f32 c2, .float .f32 c3] (0, 0) _ rfl (by
    refine blk_put (cs := #[.float .f32 c1, .float .f32 c2, .float .f32 0]) ?_ 2 _ rfl
    refine blk_put (cs := #[.float .f32 c1, .float .f32 0, .float .f32 0]) ?_ 1 _ rfl
    refine blk_put (cs := #[.float .f32 0, .float .f32 0, .float .f32 0]) ?_ 0 _ rfl
    (with_reducible repeat (first | refine blk_drewN ?_ _ | refine blk_drew ?_))
    exact by simpa using heap_alloc_new ((w.alloc (.cells #[.float .f32 a.f0, .float .f32 a.f1, .float .f32 a.f2] 46)).alloc (.cells #[.float .f32 b.f0, .float .f32 b.f1, .float .f32 b.f2] 46)) (.cells #[.float .f32 0, .float .f32 0, .float .f32 0] 46)) Try.underlying46 rfl (by kernel_rfl)) rfl ?_
  exact ⟨⟨c1, c2, c3⟩, rfl, ⟨h1, h2, h3⟩, by repeat (first | exact Below.refl _ _ | apply pw_below_drewN | apply below_alloc | apply below_drew1 | refine below_set ?_ (by show w.heap.size ≤ _; first | exact Nat.le_refl _ | exact Nat.le_succ _ | omega))⟩
end XE
end Go.Proofs.Ytffofpiejcolfaa
end
section
set_option linter.unusedVariables false
set_option linter.unusedSimpArgs false
namespace Go.Proofs.Ytffofpiejcolfaa
open Go.RowKit Go.Proofs.YtffofpiejcolfaaW.PrintWords Go.Proofs.YtffofpiejcolfaaW.PrintLast Go.Proofs.YtffofpiejcolfaaW.PrintMore
attribute [local go_sem] max2_int min2_int max_two min_two max_three min_three max_four min_four
namespace XK
open XF XL XC XY XE XN L0
theorem order_E {x b y : Nat} (h : E x b) : FloatKind.f32.format.order b y = FloatKind.f32.format.order x y := by
  rcases h with rfl | h
  · rfl
  · rw [order_nan_l h.1, order_nan_l h.2]
theorem fin_nan {x : Nat} (h : isn .f32 x = true) : fin x = false := by
  unfold fin
  rw [fb_l h]
theorem fin_E {x b : Nat} (h : E x b) : fin b = fin x := by
  rcases h with rfl | h
  · rfl
  · rw [fin_nan h.1, fin_nan h.2]
theorem E_fin {x b : Nat} (h : E x b) (hf : fin x = true) : b = x := by
  rcases h with h | h
  · exact h
  · rw [fin_nan h.1] at hf
    cases hf
theorem E_gt {x b y : Nat} {o : Ordering} (h : E x b) (hf : (FloatKind.f32.format.order x y == some o) = true) : b = x := by
  rcases h with h | h
  · exact h
  · rw [order_nan_l h.1] at hf
    cases hf
theorem ar_ {P : Program} {ops : Array Oper} {Q : Exit → Act → World → Prop} {oi : Oper} {N : Option Tmp} {a : Act} {w : World} {K : Act → World → Prop} (op : BinOp) (tx ty : TypeId) (u v : Operand) (ho : oi.op = .binOp op tx u v ty) (hop : arith op) (b c : Nat) (hu : a.eval u = .float .f32 b) (hv : a.eval v = .float .f32 c) {x y : Nat} (hx : E x b) (hy : E y c)
    (hw : Region.wanted oi (yielded ops a.tmps) = true) (hN : oi.dst = N) (h : ∀ d n, E (ar op x y) d → K (a.put N (.float .f32 d)) (w.drewN n)) : if Region.wanted oi (yielded ops a.tmps) = true then Oper.wp P oi a w K Q else K (a.put N undef) w := by
  obtain ⟨d, n, hr, hc⟩ := run_ar (P := P) w op hop tx hx hy
  have hg : ∀ p q : Value, (eqGuard op tx u v p q).run P w = .ok () w := by
    intro p q
    rcases hop with rfl | rfl | rfl | rfl <;> rfl
  refine value_ hw hN (v := .float .f32 d) (w1 := w.drewN n) ?_ (h d n hc)
  unfold execOp
  simp only [ho, Sem.run_bind, hu, hv, hg, hr, Result.andThen_ok, Sem.run_pure]
def rt (q : Nat) : Nat := (impl_RootNumber.f q).getD 0
def pt (l : List S46) (i : Nat) : S46 := rd_T46 l (i : Int)
def nx (l : List S46) (i : Nat) : S46 := rd_T46 l (((i + 1) % l.length : Nat) : Int)
def seg (l : List S46) (i : Nat) : S46 := opV .sub (nx l i) (pt l i)
end XK
end Go.Proofs.Ytffofpiejcolfaa
end
section
set_option linter.unusedVariables false
set_option linter.unusedSimpArgs false
namespace Go.Proofs.Ytffofpiejcolfaa
open Go.RowKit Go.Proofs.YtffofpiejcolfaaW.PrintWords Go.Proofs.YtffofpiejcolfaaW.PrintLast Go.Proofs.YtffofpiejcolfaaW.PrintMore
attribute [local go_sem] max2_int min2_int max_two min_two max_three min_three max_four min_four
namespace XG
open XF XL XC XY XE XN XK L0
theorem fok_of {op : BinOp} {k : FloatKind} {x y r : Nat} (h : floatBits op k x y = some r) : fok op k x y = true ∧ fop op k x y = r := by
  unfold fok fop
  rw [h]
  exact ⟨rfl, rfl⟩
theorem cok_of {s k : FloatKind} {x r : Nat} (h : floatToFloatBits s x k = some r) : cok s x k = true ∧ cvt s x k = r := by
  unfold cok cvt
  rw [h]
  exact ⟨rfl, rfl⟩
theorem inner_ok {a b c : Nat} {s1 s2 s3 : Bool} (h1 : Is s1 (FloatKind.f32.format.read a)) (h2 : Is s2 (FloatKind.f32.format.read b)) (h3 : Is s3 (FloatKind.f32.format.read c)) : ∃ r, impl_InnerOf.f a b c a b c = some r ∧ Is false (FloatKind.f32.format.read r) := by
  obtain ⟨p1, g1, i1⟩ := mul_sq h1
  obtain ⟨p2, g2, i2⟩ := mul_sq h2
  obtain ⟨p3, g3, i3⟩ := mul_sq h3
  obtain ⟨q1, g4, i4⟩ := add_nn i1 i2
  obtain ⟨q2, g5, i5⟩ := add_nn i4 i3
  refine ⟨q2, ?_, i5⟩
  unfold impl_InnerOf.f
  rw [if_pos (fok_of g1).1, if_pos (fok_of g2).1, (fok_of g1).2, (fok_of g2).2, if_pos (fok_of g4).1, if_pos (fok_of g3).1, (fok_of g3).2, (fok_of g4).2, if_pos (fok_of g5).1, (fok_of g5).2]
theorem root_both {a : Nat} (h : Is false (FloatKind.f32.format.read a)) : ∃ r, impl_RootNumber.f a = some r ∧ spec_l01Sqrt.f a = some r ∧ Is false (FloatKind.f32.format.read r) := by
  obtain ⟨b, h1, h2⟩ := wide h
  obtain ⟨c, h3, h4⟩ := root_ok h2
  obtain ⟨r, h5, h6⟩ := narrow_ok h4
  refine ⟨r, ?_, ?_, h6⟩
  · unfold impl_RootNumber.f XR.Sqrt.f
    rw [if_pos (cok_of h1).1, (cok_of h1).2, h3]
    simp only [Option.bind_some]
    rw [if_pos (cok_of h5).1, (cok_of h5).2]
  · unfold spec_l01Sqrt.f XR.Sqrt.f spec_l01Narrow.f
    rw [if_pos (cok_of h1).1, (cok_of h1).2, h3]
    simp only [Option.bind_some]
    rw [if_pos (cok_of h5).1, (cok_of h5).2]
    rfl
theorem Is_n {s : Bool} {x : Nat} (h : Is s (FloatKind.f32.format.read x)) : isn .f32 x = false := by
  unfold isn
  rcases h with ⟨m, e, h⟩ | h <;> rw [h] <;> rfl
theorem E_n {x b : Nat} (h : E x b) (hx : isn .f32 x = false) : b = x := by
  rcases h with h | h
  · exact h
  · rw [h.1] at hx
    cases hx
def isV (v : S46) : Prop := (∃ s, Is s (FloatKind.f32.format.read v.f0)) ∧ (∃ s, Is s (FloatKind.f32.format.read v.f1)) ∧ (∃ s, Is s (FloatKind.f32.format.read v.f2))
theorem EV_is {v c : S46} (h : EV v c) (hv : isV v) : c = v := by
  obtain ⟨⟨_, h0⟩, ⟨_, h1⟩, ⟨_, h2⟩⟩ := hv
  obtain ⟨e0, e1, e2⟩ := h
  have k0 := E_n e0 (Is_n h0)
  have k1 := E_n e1 (Is_n h1)
  have k2 := E_n e2 (Is_n h2)
  cases v
  cases c
  simp only at k0 k1 k2
  rw [k0, k1, k2]
theorem nf {x : Nat} (h : fin x = true) : Num x := num_of_fin h
theorem sub_v {x y : S46} (hx : vfin x = true) (hy : vfin y = true) : isV (opV .sub x y) := by
  unfold vfin at hx hy
  simp only [Bool.and_eq_true] at hx hy
  have key : ∀ {a b : Nat}, fin a = true → fin b = true → ∃ s, Is s (FloatKind.f32.format.read (ar .sub a b)) := by
    intro a b ha hb
    obtain ⟨r, h1, h2⟩ := sub_ok (nf ha) (nf hb)
    unfold ar
    rw [h1]
    exact h2
  exact ⟨key hx.1 hy.1, key hx.2.1 hy.2.1, key hx.2.2 hy.2.2⟩
def szV (v : S46) : Nat := (impl_SizeOfVector.f v.f0 v.f1 v.f2).getD 0
theorem size_ok {v : S46} (hv : isV v) : impl_SizeOfVector.f v.f0 v.f1 v.f2 = some (szV v) ∧ spec_l01VLong.f v.f0 v.f1 v.f2 = some (szV v) ∧ Is false (FloatKind.f32.format.read (szV v)) := by
  obtain ⟨⟨_, h0⟩, ⟨_, h1⟩, ⟨_, h2⟩⟩ := hv
  obtain ⟨p, g, k4⟩ := inner_ok h0 h1 h2
  obtain ⟨q, g1, g2, k5⟩ := root_both k4
  have e : impl_SizeOfVector.f v.f0 v.f1 v.f2 = some q := by
    unfold impl_SizeOfVector.f
    rw [g]
    simp only [Option.bind_some]
    rw [g1]
    rfl
  have e2 : szV v = q := by
    unfold szV
    rw [e]
    rfl
  rw [e2]
  refine ⟨e, ?_, k5⟩
  unfold spec_l01VLong.f
  rw [show @spec_l01VInner.f = @impl_InnerOf.f from rfl, g]
  simp only [Option.bind_some]
  rw [g2]
  rfl
def dnV (r s : S46) (core : Nat) : Nat := ar .add (ar .mul (ar .mul (szV r) (szV s)) (ar .add (ar .mul (szV r) (szV s)) (inV r s))) (ar .mul core core)
def flowS (r s : S46) (core : Nat) (w : S46) : S46 :=
  if (FloatKind.f32.format.order (dnV r s core) 0 == some .gt) = true then opV .add w (mulV (crossV r s) (ar .quo (ar .add (szV r) (szV s)) (dnV r s core))) else w
def flowI (at_ : S46) (core : Nat) (l : List S46) (i : Nat) (w : S46) : S46 := flowS (opV .sub at_ (pt l i)) (opV .sub at_ (nx l i)) core w
def iterV (f : Nat → S46 → S46) : Nat → Nat → S46 → S46
  | 0, _, acc => acc
  | k + 1, i, acc => iterV f k (i + 1) (f i acc)
def flowV (at_ : S46) (core : Nat) (l : List S46) : S46 := iterV (flowI at_ core l) l.length 0 ⟨0, 0, 0⟩
end XG
end Go.Proofs.Ytffofpiejcolfaa
end
section
set_option linter.unusedVariables false
set_option linter.unusedSimpArgs false
namespace Go.Proofs.Ytffofpiejcolfaa
open Go.RowKit Go.Proofs.YtffofpiejcolfaaW.PrintWords Go.Proofs.YtffofpiejcolfaaW.PrintLast Go.Proofs.YtffofpiejcolfaaW.PrintMore
attribute [local go_sem] max2_int min2_int max_two min_two max_three min_three max_four min_four
namespace XG
open XF XL XC XY XE XN XK L0
set_option maxHeartbeats 4000000 in
set_option maxRecDepth 100000 in
theorem flow118 (ad : Addr) (A : Option Addr) (c : Nat) (l : List S46) (at_ : S46) (core : Nat) (w : World) (f0 : w.cell? ad = some (.slice A l.length c)) (hle : l.length ≤ c) (hC : Kd.C k46 w A l.length l) (hfin : ∀ i, i < l.length → vfin (pt l i) = true) (hat : vfin at_ = true) :
    Calls Try.prog 118 #[.pointer (some ad), vv at_, .float .f32 core] w fun e w' => ∃ v, e = .returned (vv v) ∧ EV (flowV at_ core l) v ∧ Below w.heap.size w w' := by
  have hmx : l.length ≤ 9223372036854775807 := Kd.C_max hC
  have HC := Aside0.mk hC
  have G0 := Aside0.mk f0
  clear hC
  have hB := below_alloc (below_alloc (below_alloc (Below.refl w.heap.size w) (.cells #[.float .f32 at_.f0, .float .f32 at_.f1, .float .f32 at_.f2] 46 (0, 0))) (.cells #[.float .f32 0, .float .f32 0, .float .f32 0] 46 (0, 0))) (.cells #[.float .f32 0, .float .f32 0, .float .f32 0] 46 (0, 0))
  replace f0 := cell_b hB f0
  go_enter Try.func118, Try.ntmps118
  go_wp2
  have B4 : (((w.alloc (.cells #[.float .f32 at_.f0, .float .f32 at_.f1, .float .f32 at_.f2] 46 (0, 0))).alloc (.cells #[.float .f32 0, .float .f32 0, .float .f32 0] 46 (0, 0))).alloc (.cells #[.float .f32 0, .float .f32 0, .float .f32 0] 46 (0, 0))).heap[w.heap.size]? = some (.cells #[.float .f32 at_.f0, .float .f32 at_.f1, .float .f32 at_.f2] 46 (0, 0)) := blk_alloc (blk_alloc (heap_alloc_new _ _) _) _
  have B6 : (((w.alloc (.cells #[.float .f32 at_.f0, .float .f32 at_.f1, .float .f32 at_.f2] 46 (0, 0))).alloc (.cells #[.float .f32 0, .float .f32 0, .float .f32 0] 46 (0, 0))).alloc (.cells #[.float .f32 0, .float .f32 0, .float .f32 0] 46 (0, 0))).heap[w.heap.size + 1]? = some (.cells #[.float .f32 0, .float .f32 0, .float .f32 0] 46 (0, 0)) := blk_alloc (by simpa using heap_alloc_new (w.alloc (.cells #[.float .f32 at_.f0, .float .f32 at_.f1, .float .f32 at_.f2] 46 (0, 0))) (.cells #[.float .f32 0, .float .f32 0, .float .f32 0] 46 (0, 0))) _
  have B7 : (((w.alloc (.cells #[.float .f32 at_.f0, .float .f32 at_.f1, .float .f32 at_.f2] 46 (0, 0))).alloc (.cells #[.float .f32 0, .float .f32 0, .float .f32 0] 46 (0, 0))).alloc (.cells #[.float .f32 0, .float .f32 0, .float .f32 0] 46 (0, 0))).heap[w.heap.size + 2]? = some (.cells #[.float .f32 0, .float .f32 0, .float .f32 0] 46 (0, 0)) := by simpa using heap_alloc_new ((w.alloc (.cells #[.float .f32 at_.f0, .float .f32 at_.f1, .float .f32 at_.f2] 46 (0, 0))).alloc (.cells #[.float .f32 0, .float .f32 0, .float .f32 0] 46 (0, 0))) (.cells #[.float .f32 0, .float .f32 0, .float .f32 0] 46 (0, 0))
  go_loopg [22] l.length (fun kq v22 w' => ∃ (i : Nat) (v a : S46), v22 = .int .i64 (i : Int) ∧ Aside0 (i + kq = l.length) ∧ Aside0 (EV v a) ∧ Aside0 (iterV (flowI at_ core l) kq i v = flowV at_ core l) ∧ Aside0 (Below w.heap.size w w') ∧ Aside0 (w'.heap[w.heap.size]? = some (.cells #[.float .f32 at_.f0, .float .f32 at_.f1, .float .f32 at_.f2] 46 (0, 0))) ∧ Aside0 (w'.heap[w.heap.size + 1]? = some (.cells #[.float .f32 0, .float .f32 0, .float .f32 0] 46 (0, 0))) ∧ Aside0 (w'.heap[w.heap.size + 2]? = some (.cells #[.float .f32 a.f0, .float .f32 a.f1, .float .f32 a.f2] 46 (0, 0))))
  case atStart => exact ⟨0, ⟨0, 0, 0⟩, ⟨0, 0, 0⟩, rfl, ⟨by simp⟩, ⟨EV.refl _⟩, ⟨rfl⟩, ⟨hB⟩, ⟨B4⟩, ⟨B6⟩, ⟨B7⟩⟩
  case round =>
    clear B4 B6 B7 f0 hB
    obtain ⟨i, v, a, rfl, HI, HA, HX, HBW, B4, B6, B7⟩ := hrel
    have hi := HI.out
    cases gk with
    | zero =>
      have hc : decide ((i : Int) < (l.length : Int)) = false := by simp; omega
      have hx0 := HX.out
      replace hx0 : v = flowV at_ core l := hx0
      subst hx0
      have z0 : wr.cell? ⟨w.heap.size + 2, 0, none⟩ = some (.float .f32 a.f0) := (blk_cell B7.out 0).trans rfl
      have z1 : wr.cell? ⟨w.heap.size + 2, 1, none⟩ = some (.float .f32 a.f1) := (blk_cell B7.out 1).trans rfl
      have z2 : wr.cell? ⟨w.heap.size + 2, 2, none⟩ = some (.float .f32 a.f2) := (blk_cell B7.out 2).trans rfl
      have y0 : wr.cell? ⟨w.heap.size + 1, 0, none⟩ = some (.float .f32 0) := (blk_cell B6.out 0).trans rfl
      have y1 : wr.cell? ⟨w.heap.size + 1, 1, none⟩ = some (.float .f32 0) := (blk_cell B6.out 1).trans rfl
      have y2 : wr.cell? ⟨w.heap.size + 1, 2, none⟩ = some (.float .f32 0) := (blk_cell B6.out 2).trans rfl
      have hf0 := blk_frozen B6.out 0
      have hf1 := blk_frozen B6.out 1
      have hf2 := blk_frozen B6.out 2
      go_wp2
      refine bodyPost_ret (results_cell_row rfl _ _ (w.heap.size + 1) 46 #[.float .f32 a.f0, .float .f32 a.f1, .float .f32 a.f2] (0, 0) _ rfl (by
        refine blk_put (cs := #[.float .f32 a.f0, .float .f32 a.f1, .float .f32 0]) ?_ 2 _ rfl
        refine blk_put (cs := #[.float .f32 a.f0, .float .f32 0, .float .f32 0]) ?_ 1 _ rfl
        refine blk_put (cs := #[.float .f32 0, .float .f32 0, .float .f32 0]) ?_ 0 _ rfl
        exact B6.out) Try.underlying46 rfl (by kernel_rfl)) rfl ?_
      exact ⟨a, rfl, HA.out, below_set (below_set (below_set HBW.out (Nat.le_succ _)) (Nat.le_succ _)) (Nat.le_succ _)⟩
    | succ k1 =>
      have hil : i < l.length := by omega
      have hc : decide ((i : Int) < (l.length : Int)) = true := by simp; omega
      have hwi : wrap64 ((i : Int) + 1) = ((i + 1 : Nat) : Int) := by unfold wrap64; omega
      have hx0 := HX.out
      replace hx0 : iterV (flowI at_ core l) k1 (i + 1) (flowI at_ core l i v) = flowV at_ core l := hx0
      have HX1 := Aside0.mk hx0
      clear hx0 HX
      obtain ⟨ae, rfl, hx_0, hx_1, hx_2⟩ := at_T46 (Kd.C_below HC.out HBW.out) (i : Int) (by omega) (by omega)
      have hfx := hfin i hil
      have hfy := hfin ((i + 1) % l.length) (Nat.mod_lt _ (by omega))
      rw [Int.toNat_natCast] at hx_0 hx_1 hx_2
      have hilI : (i : Int) < (l.length : Int) := by omega
      unfold flowI at HX1
      have hy : rd_T46 l (((i + 1) % l.length : Nat) : Int) = nx l i := rfl
      change vfin (nx l i) = true at hfy
      change wr.cell? _ = some (.float .f32 (pt l i).f0) at hx_0
      change wr.cell? _ = some (.float .f32 (pt l i).f1) at hx_1
      change wr.cell? _ = some (.float .f32 (pt l i).f2) at hx_2
      generalize pt l i = x at hx_0 hx_1 hx_2 hfx HX1
      generalize nx l i = y at hfy hy HX1
      go_wp2
      have B4s := Aside0.mk (blk_alloc B4.out (.cells #[.float .f32 x.f0, .float .f32 x.f1, .float .f32 x.f2] 46 (0, 0)))
      have B6s := Aside0.mk (blk_alloc B6.out (.cells #[.float .f32 x.f0, .float .f32 x.f1, .float .f32 x.f2] 46 (0, 0)))
      have B7s := Aside0.mk (blk_alloc B7.out (.cells #[.float .f32 x.f0, .float .f32 x.f1, .float .f32 x.f2] 46 (0, 0)))
      have B9s := Aside0.mk (heap_alloc_new wr (.cells #[.float .f32 x.f0, .float .f32 x.f1, .float .f32 x.f2] 46 (0, 0)))
      have HWs := Aside0.mk (below_alloc HBW.out (.cells #[.float .f32 x.f0, .float .f32 x.f1, .float .f32 x.f2] 46 (0, 0)))
      have k0 : (wr.alloc (.cells #[.float .f32 x.f0, .float .f32 x.f1, .float .f32 x.f2] 46 (0, 0))).cell? ad = some (.slice (some ae) l.length c) := cell_b HWs.out G0.out
      have KC := Aside0.mk (Kd.C_below HC.out HWs.out)
      have N9 := Aside0.mk HBW.out.size
      have p0 : (wr.alloc (.cells #[.float .f32 x.f0, .float .f32 x.f1, .float .f32 x.f2] 46 (0, 0))).cell? ⟨w.heap.size, 0, none⟩ = some (.float .f32 at_.f0) := (blk_cell B4s.out 0).trans rfl
      have p1 : (wr.alloc (.cells #[.float .f32 x.f0, .float .f32 x.f1, .float .f32 x.f2] 46 (0, 0))).cell? ⟨w.heap.size, 1, none⟩ = some (.float .f32 at_.f1) := (blk_cell B4s.out 1).trans rfl
      have p2 : (wr.alloc (.cells #[.float .f32 x.f0, .float .f32 x.f1, .float .f32 x.f2] 46 (0, 0))).cell? ⟨w.heap.size, 2, none⟩ = some (.float .f32 at_.f2) := (blk_cell B4s.out 2).trans rfl
      have x0 : (wr.alloc (.cells #[.float .f32 x.f0, .float .f32 x.f1, .float .f32 x.f2] 46 (0, 0))).cell? ⟨wr.heap.size, 0, none⟩ = some (.float .f32 x.f0) := (blk_cell B9s.out 0).trans rfl
      have x1 : (wr.alloc (.cells #[.float .f32 x.f0, .float .f32 x.f1, .float .f32 x.f2] 46 (0, 0))).cell? ⟨wr.heap.size, 1, none⟩ = some (.float .f32 x.f1) := (blk_cell B9s.out 1).trans rfl
      have x2 : (wr.alloc (.cells #[.float .f32 x.f0, .float .f32 x.f1, .float .f32 x.f2] 46 (0, 0))).cell? ⟨wr.heap.size, 2, none⟩ = some (.float .f32 x.f2) := (blk_cell B9s.out 2).trans rfl
      clear B4 B6 B7 HBW hx_0 hx_1 hx_2
      generalize wr.alloc (.cells #[.float .f32 x.f0, .float .f32 x.f1, .float .f32 x.f2] 46 (0, 0)) = ws at B4s B6s B7s B9s HWs k0 KC p0 p1 p2 x0 x1 x2 ⊢
      generalize wr.heap.size = g9 at N9 B9s x0 x1 x2 ⊢
      refine start_ (n := 12) (S := fun w' => Below ws.heap.size ws w') (ds := [10, 11]) #[false, false, false, false, false, false, false, false, false, false, false, false] (by kernel_rfl) rfl rfl (below_drew1 (Below.refl _ _)) (fun hHeld => ?_)
      refine pure_ (i := 4) (N := some 31) (v := ?_) (a' := ?_) #[false, false, false, false, true, false, false, false, false, false, false, false] rfl rfl (by kernel_rfl) (fun _ _ _ h => h) (Or.inl ⟨by rfl, ?_⟩) ?_ ?_
      rotate_left
      · intro w'
        go_simp
        with_reducible rfl
      rotate_left
      · simp only [Act.put, List.setIfInBounds_toArray, List.set_cons_zero, List.set_cons_succ, i64_w, i32_w]
        rfl
      refine pure_ (i := 5) (N := some 32) (v := ?_) (a' := ?_) #[false, false, false, false, true, true, false, false, false, false, false, false] rfl rfl (by kernel_rfl) (fun _ _ _ h => h) (Or.inl ⟨by rfl, ?_⟩) ?_ ?_
      rotate_left
      · intro w'
        go_simp
        with_reducible rfl
      rotate_left
      · simp only [Act.put, List.setIfInBounds_toArray, List.set_cons_zero, List.set_cons_succ, i64_w, i32_w]
        rfl
      refine take_ (i := 0) (N := some 27) (v := ?_) (a' := ?_) #[true, false, false, false, true, true, false, false, false, false, false, false] rfl rfl (by kernel_rfl) (fun _ _ _ h => h) (Or.inl ⟨by rfl, ?_⟩) hHeld ?_ ?_
      rotate_left
      · rintro w' s0
        have c0 := cell_b s0 p0
        have c1 := cell_b s0 p1
        have c2 := cell_b s0 p2
        go_simp
        with_reducible rfl
      rotate_left
      · simp only [Act.put, List.setIfInBounds_toArray, List.set_cons_zero, List.set_cons_succ, i64_w, i32_w]
        rfl
      refine take_ (i := 1) (N := some 28) (v := ?_) (a' := ?_) #[true, true, false, false, true, true, false, false, false, false, false, false] rfl rfl (by kernel_rfl) (fun _ _ _ h => h) (Or.inl ⟨by rfl, ?_⟩) hHeld ?_ ?_
      rotate_left
      · rintro w' s0
        have c0 := cell_b s0 x0
        have c1 := cell_b s0 x1
        have c2 := cell_b s0 x2
        go_simp
        with_reducible rfl
      rotate_left
      · simp only [Act.put, List.setIfInBounds_toArray, List.set_cons_zero, List.set_cons_succ, i64_w, i32_w]
        rfl
      refine take_ (i := 3) (N := some 30) (v := ?_) (a' := ?_) #[true, true, false, true, true, true, false, false, false, false, false, false] rfl rfl (by kernel_rfl) (fun _ _ _ h => h) (Or.inl ⟨by rfl, ?_⟩) hHeld ?_ ?_
      rotate_left
      · rintro w' s0
        have c0 := cell_b s0 p0
        have c1 := cell_b s0 p1
        have c2 := cell_b s0 p2
        go_simp
        with_reducible rfl
      rotate_left
      · simp only [Act.put, List.setIfInBounds_toArray, List.set_cons_zero, List.set_cons_succ, i64_w, i32_w]
        rfl
      refine join_ (σ := S46 × S46 × Nat × Nat) 2 #[true, true, true, true, true, true, true, true, true, true, false, false] (fun s => [(29, vv s.1), (33, vv y), (34, vv s.2.1), (10, .pointer (some ⟨s.2.2.1, 0, none⟩)), (11, .pointer (some ⟨s.2.2.2, 0, none⟩))]) (fun s w' => Aside0 (Below ws.heap.size ws w') ∧ Aside0 (EV (opV .sub at_ x) s.1) ∧ Aside0 (EV (opV .sub at_ y) s.2.1) ∧ Aside0 (w'.heap[s.2.2.1]? = some (.cells #[.float .f32 0, .float .f32 0, .float .f32 0] 46 (0, 0)) ∧ ws.heap.size ≤ s.2.2.1) ∧ Aside0 (w'.heap[s.2.2.2]? = some (.cells #[.float .f32 0, .float .f32 0, .float .f32 0] 46 (0, 0)) ∧ ws.heap.size ≤ s.2.2.2) ∧ Aside0 (s.2.2.1 ≠ s.2.2.2)) ?_ (fun j311 => ?_)
      · rintro ⟨r, t, g10, g11⟩ w' ⟨HB, QR, QS, GE, GF, NE⟩
        refine norm_ (a' := ?_) ?_ ?_
        rotate_left
        · simp only [putAll, Act.put, List.setIfInBounds_toArray, List.set_cons_zero, List.set_cons_succ]
          rfl
        have hr : r = opV .sub at_ x := EV_is QR.out (sub_v hat hfx)
        have ht : t = opV .sub at_ y := EV_is QS.out (sub_v hat hfy)
        have RV := Aside0.mk (show isV r by rw [hr]; exact sub_v hat hfx)
        have TV := Aside0.mk (show isV t by rw [ht]; exact sub_v hat hfy)
        rw [← hr, ← ht] at HX1
        clear QR QS hr ht
        have ne1 := NE.out
        have ne2 := NE.out.symm
        have a0 : w'.cell? ⟨g10, 0, none⟩ = some (.float .f32 0) := (blk_cell GE.out.1 0).trans rfl
        have a1 : w'.cell? ⟨g10, 1, none⟩ = some (.float .f32 0) := (blk_cell GE.out.1 1).trans rfl
        have a2 : w'.cell? ⟨g10, 2, none⟩ = some (.float .f32 0) := (blk_cell GE.out.1 2).trans rfl
        have fa0 := blk_frozen GE.out.1 0
        have fa1 := blk_frozen GE.out.1 1
        have fa2 := blk_frozen GE.out.1 2
        have b0 : w'.cell? ⟨g11, 0, none⟩ = some (.float .f32 0) := (blk_cell GF.out.1 0).trans rfl
        have b1 : w'.cell? ⟨g11, 1, none⟩ = some (.float .f32 0) := (blk_cell GF.out.1 1).trans rfl
        have b2 : w'.cell? ⟨g11, 2, none⟩ = some (.float .f32 0) := (blk_cell GF.out.1 2).trans rfl
        have fb0 := blk_frozen GF.out.1 0
        have fb1 := blk_frozen GF.out.1 1
        have fb2 := blk_frozen GF.out.1 2
        refine last_ (i := 10) (N := none) #[true, true, true, true, true, true, true, true, true, true, true, false] rfl rfl (by kernel_rfl) (by decide) (fun K hK => ?_)
        refine skip_ (w1 := ?_) (by rfl) rfl ?_ ?_
        rotate_left
        · go_simp
          rfl
        refine hK.out _ _ ?_
        clear hK K
        refine last_ (i := 11) (N := none) #[true, true, true, true, true, true, true, true, true, true, true, true] rfl rfl (by kernel_rfl) (by decide) (fun K hK => ?_)
        refine skip_ (w1 := ?_) (by rfl) rfl ?_ ?_
        rotate_left
        · go_simp
          rfl
        refine hK.out _ _ ?_
        clear hK K
        refine done_ (by kernel_rfl) ?_
        go_wp2
        have B4 := Aside0.mk (blk_below B4s.out HB.out)
        have B6 := Aside0.mk (blk_below B6s.out HB.out)
        have B7 := Aside0.mk (blk_below B7s.out HB.out)
        have HW := Aside0.mk (below_step HWs.out HB.out)
        have LE := Aside0.mk (Nat.le_trans HWs.out.size GE.out.2)
        have LF := Aside0.mk (Nat.le_trans HWs.out.size GF.out.2)
        have l4 := blk_lt B4s.out
        have l6 := blk_lt B6s.out
        have l7 := blk_lt B7s.out
        have l10 := GE.out.2
        have l11 := GF.out.2
        have far6 : ∀ (g : Nat) (cs : Array Value), g < ws.heap.size → w'.heap[g]? = some (.cells cs 46 (0, 0)) → (((((((w'.setCell ⟨g10, 0, none⟩ (.float .f32 r.f0)).setCell ⟨g10, 1, none⟩ (.float .f32 r.f1)).setCell ⟨g10, 2, none⟩ (.float .f32 r.f2)).setCell ⟨g11, 0, none⟩ (.float .f32 t.f0)).setCell ⟨g11, 1, none⟩ (.float .f32 t.f1)).setCell ⟨g11, 2, none⟩ (.float .f32 t.f2))).heap[g]? = some (.cells cs 46 (0, 0)) := by
          intro g cs hg h
          refine blk_far ?_ (by show g ≠ g11; omega) _
          refine blk_far ?_ (by show g ≠ g11; omega) _
          refine blk_far ?_ (by show g ≠ g11; omega) _
          refine blk_far ?_ (by show g ≠ g10; omega) _
          refine blk_far ?_ (by show g ≠ g10; omega) _
          refine blk_far ?_ (by show g ≠ g10; omega) _
          exact h
        have C4 := Aside0.mk (far6 _ _ l4 B4.out)
        have C6 := Aside0.mk (far6 _ _ l6 B6.out)
        have C7 := Aside0.mk (far6 _ _ l7 B7.out)
        have C10 : Aside0 ((((((((w'.setCell ⟨g10, 0, none⟩ (.float .f32 r.f0)).setCell ⟨g10, 1, none⟩ (.float .f32 r.f1)).setCell ⟨g10, 2, none⟩ (.float .f32 r.f2)).setCell ⟨g11, 0, none⟩ (.float .f32 t.f0)).setCell ⟨g11, 1, none⟩ (.float .f32 t.f1)).setCell ⟨g11, 2, none⟩ (.float .f32 t.f2))).heap[g10]? = some (.cells #[.float .f32 r.f0, .float .f32 r.f1, .float .f32 r.f2] 46 (0, 0))) := ⟨by
          refine blk_far ?_ (by show g10 ≠ g11; omega) _
          refine blk_far ?_ (by show g10 ≠ g11; omega) _
          refine blk_far ?_ (by show g10 ≠ g11; omega) _
          refine blk_put (cs := #[.float .f32 r.f0, .float .f32 r.f1, .float .f32 0]) ?_ 2 _ rfl
          refine blk_put (cs := #[.float .f32 r.f0, .float .f32 0, .float .f32 0]) ?_ 1 _ rfl
          refine blk_put (cs := #[.float .f32 0, .float .f32 0, .float .f32 0]) ?_ 0 _ rfl
          exact GE.out.1⟩
        have C11 : Aside0 ((((((((w'.setCell ⟨g10, 0, none⟩ (.float .f32 r.f0)).setCell ⟨g10, 1, none⟩ (.float .f32 r.f1)).setCell ⟨g10, 2, none⟩ (.float .f32 r.f2)).setCell ⟨g11, 0, none⟩ (.float .f32 t.f0)).setCell ⟨g11, 1, none⟩ (.float .f32 t.f1)).setCell ⟨g11, 2, none⟩ (.float .f32 t.f2))).heap[g11]? = some (.cells #[.float .f32 t.f0, .float .f32 t.f1, .float .f32 t.f2] 46 (0, 0))) := ⟨by
          refine blk_put (cs := #[.float .f32 t.f0, .float .f32 t.f1, .float .f32 0]) ?_ 2 _ rfl
          refine blk_put (cs := #[.float .f32 t.f0, .float .f32 0, .float .f32 0]) ?_ 1 _ rfl
          refine blk_put (cs := #[.float .f32 0, .float .f32 0, .float .f32 0]) ?_ 0 _ rfl
          refine blk_far ?_ (by show g11 ≠ g10; omega) _
          refine blk_far ?_ (by show g11 ≠ g10; omega) _
          refine blk_far ?_ (by show g11 ≠ g10; omega) _
          exact GF.out.1⟩
        have HW6 := Aside0.mk (below_set (below_set (below_set (below_set (below_set (below_set HW.out LE.out) LE.out) LE.out) LF.out) LF.out) LF.out : Below w.heap.size w (((((((w'.setCell ⟨g10, 0, none⟩ (.float .f32 r.f0)).setCell ⟨g10, 1, none⟩ (.float .f32 r.f1)).setCell ⟨g10, 2, none⟩ (.float .f32 r.f2)).setCell ⟨g11, 0, none⟩ (.float .f32 t.f0)).setCell ⟨g11, 1, none⟩ (.float .f32 t.f1)).setCell ⟨g11, 2, none⟩ (.float .f32 t.f2))))
        clear far6 B4 B6 B7 HW HB GE GF a0 a1 a2 b0 b1 b2 fa0 fa1 fa2 fb0 fb1 fb2 l4 l6 l7 l10 l11
        generalize (((((((w'.setCell ⟨g10, 0, none⟩ (.float .f32 r.f0)).setCell ⟨g10, 1, none⟩ (.float .f32 r.f1)).setCell ⟨g10, 2, none⟩ (.float .f32 r.f2)).setCell ⟨g11, 0, none⟩ (.float .f32 t.f0)).setCell ⟨g11, 1, none⟩ (.float .f32 t.f1)).setCell ⟨g11, 2, none⟩ (.float .f32 t.f2))) = w6 at C4 C6 C7 C10 C11 HW6 ⊢
        have u0 : w6.cell? ⟨g10, 0, none⟩ = some (.float .f32 r.f0) := (blk_cell C10.out 0).trans rfl
        have u1 : w6.cell? ⟨g10, 1, none⟩ = some (.float .f32 r.f1) := (blk_cell C10.out 1).trans rfl
        have u2 : w6.cell? ⟨g10, 2, none⟩ = some (.float .f32 r.f2) := (blk_cell C10.out 2).trans rfl
        have v0 : w6.cell? ⟨g11, 0, none⟩ = some (.float .f32 t.f0) := (blk_cell C11.out 0).trans rfl
        have v1 : w6.cell? ⟨g11, 1, none⟩ = some (.float .f32 t.f1) := (blk_cell C11.out 1).trans rfl
        have v2 : w6.cell? ⟨g11, 2, none⟩ = some (.float .f32 t.f2) := (blk_cell C11.out 2).trans rfl
        refine start_ (n := 6) (S := fun w' => Below w6.heap.size w6 w') (ds := []) #[false, false, false, false, false, false] (by kernel_rfl) rfl rfl (below_drew1 (Below.refl _ _)) (fun hHeld => ?_)
        refine take_ (i := 0) (N := some 35) (v := ?_) (a' := ?_) #[true, false, false, false, false, false] rfl rfl (by kernel_rfl) (fun _ _ _ h => h) (Or.inl ⟨by rfl, ?_⟩) hHeld ?_ ?_
        rotate_left
        · rintro w' s0
          have c0 := cell_b s0 u0
          have c1 := cell_b s0 u1
          have c2 := cell_b s0 u2
          go_simp
          with_reducible rfl
        rotate_left
        · simp only [Act.put, List.setIfInBounds_toArray, List.set_cons_zero, List.set_cons_succ, i64_w, i32_w]
          rfl
        refine take_ (i := 2) (N := some 37) (v := ?_) (a' := ?_) #[true, false, true, false, false, false] rfl rfl (by kernel_rfl) (fun _ _ _ h => h) (Or.inl ⟨by rfl, ?_⟩) hHeld ?_ ?_
        rotate_left
        · rintro w' s0
          have c0 := cell_b s0 v0
          have c1 := cell_b s0 v1
          have c2 := cell_b s0 v2
          go_simp
          with_reducible rfl
        rotate_left
        · simp only [Act.put, List.setIfInBounds_toArray, List.set_cons_zero, List.set_cons_succ, i64_w, i32_w]
          rfl
        refine one_ (i := 1) (N := some 36) #[true, true, true, false, false, false] rfl rfl (by kernel_rfl) (by decide) (fun K hK => ?_)
        refine goes_ Try.func97 (by kernel_rfl) rfl #[vv r] (by rfl) rfl rfl (by (try simp only [List.map_toArray, List.map_cons, List.map_nil]); first | done | rfl) ?_
        refine (impl_SizeOfVector.calls _ _ _ (szV r) _ (size_ok RV.out).1).mono ?_
        rintro e w7 ⟨rfl, hb7⟩
        refine ⟨_, rfl, ?_⟩
        have HS7 := Aside0.mk (below_step (below_drew1 (Below.refl w6.heap.size w6)) hb7)
        clear hb7
        refine hK.out _ _ HS7.out (fun _ => ?_)
        clear hK K
        refine norm_ (a' := ?_) ?_ ?_
        rotate_left
        · show Act.put _ (some 36) _ = _
          simp only [Act.put, List.setIfInBounds_toArray, List.set_cons_zero, List.set_cons_succ]
          rfl
        refine one_ (i := 3) (N := some 38) #[true, true, true, true, false, false] rfl rfl (by kernel_rfl) (by decide) (fun K hK => ?_)
        refine goes_ Try.func97 (by kernel_rfl) rfl #[vv t] (by rfl) rfl rfl (by (try simp only [List.map_toArray, List.map_cons, List.map_nil]); first | done | rfl) ?_
        refine (impl_SizeOfVector.calls _ _ _ (szV t) _ (size_ok TV.out).1).mono ?_
        rintro e w8 ⟨rfl, hb8⟩
        refine ⟨_, rfl, ?_⟩
        have HS8 := Aside0.mk (below_step HS7.out hb8)
        clear hb8
        refine hK.out _ _ HS8.out (fun _ => ?_)
        clear hK K
        refine norm_ (a' := ?_) ?_ ?_
        rotate_left
        · show Act.put _ (some 38) _ = _
          simp only [Act.put, List.setIfInBounds_toArray, List.set_cons_zero, List.set_cons_succ]
          rfl
        refine pure_ (i := 4) (N := some 12) (v := ?_) (a' := ?_) #[true, true, true, true, true, false] rfl rfl (by kernel_rfl) (fun _ _ _ h => h) (Or.inl ⟨by rfl, ?_⟩) ?_ ?_
        rotate_left
        · intro w'
          go_simp
          with_reducible rfl
        rotate_left
        · simp only [Act.put, List.setIfInBounds_toArray, List.set_cons_zero, List.set_cons_succ, i64_w, i32_w]
          rfl
        refine pure_ (i := 5) (N := some 13) (v := ?_) (a' := ?_) #[true, true, true, true, true, true] rfl rfl (by kernel_rfl) (fun _ _ _ h => h) (Or.inl ⟨by rfl, ?_⟩) ?_ ?_
        rotate_left
        · intro w'
          go_simp
          with_reducible rfl
        rotate_left
        · simp only [Act.put, List.setIfInBounds_toArray, List.set_cons_zero, List.set_cons_succ, i64_w, i32_w]
          rfl
        refine done_ (by kernel_rfl) ?_
        replace u0 := cell_b HS8.out u0
        replace u1 := cell_b HS8.out u1
        replace u2 := cell_b HS8.out u2
        replace v0 := cell_b HS8.out v0
        replace v1 := cell_b HS8.out v1
        replace v2 := cell_b HS8.out v2
        cases hgt : (FloatKind.f32.format.order (dnV r t core) 0 == some .gt) with
        | false =>
          have HG := Aside0.mk hgt
          clear hgt
          go_wp2_with (first | ((with_reducible refine gate_dst (N := 52) rfl ?_); refine wpList_ar rfl _ _ _ _ _ rfl arA _ _ rfl rfl (by assumption) (by assumption) ?_; intro dd nz hdd; have hqg : (FloatKind.f32.format.order dd 0 == some .gt) = false := by rw [order_E hdd]; exact HG.out) | (refine wpList_ar rfl _ _ _ _ _ rfl (by first | exact arS | exact arA | exact arM | exact arQ) _ _ rfl rfl (by first | assumption | exact E.refl _) (by first | assumption | exact E.refl _) ?_; intro cz nz hz) | (go_at_call 62; refine (inner62 r t r t (EV.refl r) (EV.refl t) _).mono ?_; rintro e w9 ⟨nn, rfl, hnn, hb9⟩))
          go_roundg k1
          case measure => omega
          case rel =>
            have HE := below_step (pw_below_drewN HS8.out _) hb9
            refine ⟨i + 1, v, a, rfl, ⟨by omega⟩, HA, ⟨?_⟩, ⟨pw_below_drewN (below_step HW6.out HE) _⟩, ⟨blk_drewN (blk_below C4.out HE) _⟩, ⟨blk_drewN (blk_below C6.out HE) _⟩, ⟨blk_drewN (blk_below C7.out HE) _⟩⟩
            have := HX1.out
            unfold flowS at this
            rw [HG.out, if_neg (by decide)] at this
            exact this
        | true =>
          have HG := Aside0.mk hgt
          clear hgt
          go_wp2_with (first | ((with_reducible refine gate_dst (N := 52) rfl ?_); refine wpList_ar rfl _ _ _ _ _ rfl arA _ _ rfl rfl (by assumption) (by assumption) ?_; intro dd nz hdd; have hqg : (FloatKind.f32.format.order dd 0 == some .gt) = true := by rw [order_E hdd]; exact HG.out) | (refine wpList_ar rfl _ _ _ _ _ rfl (by first | exact arS | exact arA | exact arM | exact arQ) _ _ rfl rfl (by first | assumption | exact E.refl _) (by first | assumption | exact E.refl _) ?_; intro cz nz hz) | (go_at_call 62; refine (inner62 r t r t (EV.refl r) (EV.refl t) _).mono ?_; rintro e w9 ⟨nn, rfl, hnn, hb9⟩))
          have HE := Aside0.mk (below_step (pw_below_drewN HS8.out _) hb9)
          have D4 := Aside0.mk (blk_below C4.out HE.out)
          have D6 := Aside0.mk (blk_below C6.out HE.out)
          have D7 := Aside0.mk (blk_below C7.out HE.out)
          have D10 := Aside0.mk (blk_below C10.out HE.out)
          have D11 := Aside0.mk (blk_below C11.out HE.out)
          have HW9 := Aside0.mk (below_step HW6.out HE.out)
          clear HE HS8 HS7 hb9 u0 u1 u2 v0 v1 v2 C4 C6 C7 C10 C11 HW6
          have hdq : dd = dnV r t core := E_gt hdd HG.out
          obtain ⟨fa, hfa, _⟩ := add_nn (size_ok RV.out).2.2 (size_ok TV.out).2.2
          have hfk := (fok_of hfa).1
          have hfv : fop .add .f32 (szV r) (szV t) = ar .add (szV r) (szV t) := by
            unfold ar
            rw [hfa, (fok_of hfa).2]
            rfl
          have HFV := Aside0.mk hfv
          have HDQ := Aside0.mk hdq
          clear hfv hdq hfa
          have u0 : w9.cell? ⟨g10, 0, none⟩ = some (.float .f32 r.f0) := (blk_cell D10.out 0).trans rfl
          have u1 : w9.cell? ⟨g10, 1, none⟩ = some (.float .f32 r.f1) := (blk_cell D10.out 1).trans rfl
          have u2 : w9.cell? ⟨g10, 2, none⟩ = some (.float .f32 r.f2) := (blk_cell D10.out 2).trans rfl
          have v0 : w9.cell? ⟨g11, 0, none⟩ = some (.float .f32 t.f0) := (blk_cell D11.out 0).trans rfl
          have v1 : w9.cell? ⟨g11, 1, none⟩ = some (.float .f32 t.f1) := (blk_cell D11.out 1).trans rfl
          have v2 : w9.cell? ⟨g11, 2, none⟩ = some (.float .f32 t.f2) := (blk_cell D11.out 2).trans rfl
          have z0 : w9.cell? ⟨w.heap.size + 2, 0, none⟩ = some (.float .f32 a.f0) := (blk_cell D7.out 0).trans rfl
          have z1 : w9.cell? ⟨w.heap.size + 2, 1, none⟩ = some (.float .f32 a.f1) := (blk_cell D7.out 1).trans rfl
          have z2 : w9.cell? ⟨w.heap.size + 2, 2, none⟩ = some (.float .f32 a.f2) := (blk_cell D7.out 2).trans rfl
          refine start_ (n := 12) (S := fun w' => Below w9.heap.size w9 w') (ds := [11]) #[false, false, false, false, false, false, false, false, false, false, false, false] (by kernel_rfl) rfl rfl (below_drew1 (pw_below_drewN (Below.refl _ _) _)) (fun hHeld => ?_)
          refine pure_ (i := 4) (N := some 59) (v := ?_) (a' := ?_) #[false, false, false, false, true, false, false, false, false, false, false, false] rfl rfl (by kernel_rfl) (fun _ _ _ h => h) (Or.inl ⟨by rfl, ?_⟩) ?_ ?_
          rotate_left
          · intro w'
            go_simp
            with_reducible rfl
          rotate_left
          · simp only [Act.put, List.setIfInBounds_toArray, List.set_cons_zero, List.set_cons_succ, i64_w, i32_w]
            rfl
          refine pure_ (i := 5) (N := some 60) (v := ?_) (a' := ?_) #[false, false, false, false, true, true, false, false, false, false, false, false] rfl rfl (by kernel_rfl) (fun _ _ _ h => h) (Or.inl ⟨by rfl, ?_⟩) ?_ ?_
          rotate_left
          · intro w'
            go_simp
            with_reducible rfl
          rotate_left
          · simp only [Act.put, List.setIfInBounds_toArray, List.set_cons_zero, List.set_cons_succ, i64_w, i32_w]
            rfl
          refine pure_ (i := 7) (N := some 62) (v := ?_) (a' := ?_) #[false, false, false, false, true, true, false, true, false, false, false, false] rfl rfl (by kernel_rfl) (fun _ _ _ h => h) (Or.inl ⟨by rfl, ?_⟩) ?_ ?_
          rotate_left
          · intro w'
            go_simp
            with_reducible rfl
          rotate_left
          · simp only [Act.put, List.setIfInBounds_toArray, List.set_cons_zero, List.set_cons_succ, i64_w, i32_w]
            rfl
          refine pure_ (i := 6) (N := some 61) (v := ?_) (a' := ?_) #[false, false, false, false, true, true, true, true, false, false, false, false] rfl rfl (by kernel_rfl) (fun _ _ _ h => h) (Or.inl ⟨by rfl, ?_⟩) ?_ ?_
          rotate_left
          · intro w'
            go_simp
            with_reducible rfl
          rotate_left
          · simp only [Act.put, List.setIfInBounds_toArray, List.set_cons_zero, List.set_cons_succ, i64_w, i32_w]
            rfl
          refine take_ (i := 0) (N := some 55) (v := ?_) (a' := ?_) #[true, false, false, false, true, true, true, true, false, false, false, false] rfl rfl (by kernel_rfl) (fun _ _ _ h => h) (Or.inl ⟨by rfl, ?_⟩) hHeld ?_ ?_
          rotate_left
          · rintro w' s0
            have c0 := cell_b s0 z0
            have c1 := cell_b s0 z1
            have c2 := cell_b s0 z2
            go_simp
            with_reducible rfl
          rotate_left
          · simp only [Act.put, List.setIfInBounds_toArray, List.set_cons_zero, List.set_cons_succ, i64_w, i32_w]
            rfl
          refine take_ (i := 1) (N := some 56) (v := ?_) (a' := ?_) #[true, true, false, false, true, true, true, true, false, false, false, false] rfl rfl (by kernel_rfl) (fun _ _ _ h => h) (Or.inl ⟨by rfl, ?_⟩) hHeld ?_ ?_
          rotate_left
          · rintro w' s0
            have c0 := cell_b s0 u0
            have c1 := cell_b s0 u1
            have c2 := cell_b s0 u2
            go_simp
            with_reducible rfl
          rotate_left
          · simp only [Act.put, List.setIfInBounds_toArray, List.set_cons_zero, List.set_cons_succ, i64_w, i32_w]
            rfl
          refine take_ (i := 2) (N := some 57) (v := ?_) (a' := ?_) #[true, true, true, false, true, true, true, true, false, false, false, false] rfl rfl (by kernel_rfl) (fun _ _ _ h => h) (Or.inl ⟨by rfl, ?_⟩) hHeld ?_ ?_
          rotate_left
          · rintro w' s0
            have c0 := cell_b s0 v0
            have c1 := cell_b s0 v1
            have c2 := cell_b s0 v2
            go_simp
            with_reducible rfl
          rotate_left
          · simp only [Act.put, List.setIfInBounds_toArray, List.set_cons_zero, List.set_cons_succ, i64_w, i32_w]
            rfl
          refine join_ (σ := S46 × Nat) 3 #[true, true, true, true, true, true, true, true, true, false, false, false] (fun s => [(58, vv s.1), (63, .float .f32 s.2)]) (fun s w' => Aside0 (Below w9.heap.size w9 w') ∧ Aside0 (EV (crossV r t) s.1) ∧ Aside0 (E (ar .quo (fop .add .f32 (szV r) (szV t)) dd) s.2)) ?_ (fun hcont => ?_)
          · rintro ⟨cr, qu⟩ w' ⟨HB, HC1, HQ1⟩
            refine norm_ (a' := ?_) ?_ ?_
            rotate_left
            · simp only [putAll, Act.put, List.setIfInBounds_toArray, List.set_cons_zero, List.set_cons_succ]
              rfl
            refine one_ (i := 9) (N := some 64) #[true, true, true, true, true, true, true, true, true, true, false, false] rfl rfl (by kernel_rfl) (by decide) (fun K hK => ?_)
            refine goes_ Try.func107 (by kernel_rfl) rfl #[vv cr, .float .f32 qu] (by rfl) rfl rfl (by (try simp only [List.map_toArray, List.map_cons, List.map_nil]); first | done | rfl) ?_
            refine (scale107 _ cr _ qu HC1.out HQ1.out _).mono ?_
            rintro e w10 ⟨sc, rfl, hsc, hb10⟩
            refine ⟨_, rfl, ?_⟩
            have L10 := Aside0.mk (below_step HB.out hb10)
            clear hb10
            refine hK.out _ _ L10.out (fun _ => ?_)
            clear hK K
            refine norm_ (a' := ?_) ?_ ?_
            rotate_left
            · show Act.put _ (some 64) _ = _
              simp only [Act.put, List.setIfInBounds_toArray, List.set_cons_zero, List.set_cons_succ]
              rfl
            refine one_ (i := 10) (N := some 65) #[true, true, true, true, true, true, true, true, true, true, true, false] rfl rfl (by kernel_rfl) (by decide) (fun K hK => ?_)
            refine goes_ Try.func108 (by kernel_rfl) rfl #[vv a, vv sc] (by rfl) rfl rfl (by (try simp only [List.map_toArray, List.map_cons, List.map_nil]); first | done | rfl) ?_
            refine (add108 _ _ a sc HA.out hsc _).mono ?_
            rintro e w11 ⟨nw, rfl, hnw, hb11⟩
            refine ⟨_, rfl, ?_⟩
            have L11 := Aside0.mk (below_step L10.out hb11)
            clear hb11
            refine hK.out _ _ L11.out (fun _ => ?_)
            clear hK K
            refine norm_ (a' := ?_) ?_ ?_
            rotate_left
            · show Act.put _ (some 65) _ = _
              simp only [Act.put, List.setIfInBounds_toArray, List.set_cons_zero, List.set_cons_succ]
              rfl
            have E4 := Aside0.mk (blk_below D4.out L11.out)
            have E6 := Aside0.mk (blk_below D6.out L11.out)
            have E7 := Aside0.mk (blk_below D7.out L11.out)
            have y0 : w11.cell? ⟨w.heap.size + 2, 0, none⟩ = some (.float .f32 a.f0) := (blk_cell E7.out 0).trans rfl
            have y1 : w11.cell? ⟨w.heap.size + 2, 1, none⟩ = some (.float .f32 a.f1) := (blk_cell E7.out 1).trans rfl
            have y2 : w11.cell? ⟨w.heap.size + 2, 2, none⟩ = some (.float .f32 a.f2) := (blk_cell E7.out 2).trans rfl
            have fy0 := blk_frozen E7.out 0
            have fy1 := blk_frozen E7.out 1
            have fy2 := blk_frozen E7.out 2
            refine last_ (i := 11) (N := none) #[true, true, true, true, true, true, true, true, true, true, true, true] rfl rfl (by kernel_rfl) (by decide) (fun K hK => ?_)
            refine skip_ (w1 := ?_) (by rfl) rfl ?_ ?_
            rotate_left
            · go_simp
              rfl
            refine hK.out _ _ ?_
            clear hK K
            refine done_ (by kernel_rfl) ?_
            go_wp2
            go_roundg k1
            case measure => omega
            case rel =>
              refine ⟨i + 1, _, nw, rfl, ⟨by omega⟩, ⟨?_⟩, HX1, ⟨?_⟩, ⟨?_⟩, ⟨?_⟩, ⟨?_⟩⟩
              · unfold flowS
                rw [if_pos HG.out, ← HDQ.out, ← HFV.out]
                exact hnw
              · have hle2 : w.heap.size ≤ w.heap.size + 2 := by omega
                exact below_set (below_set (below_set (below_step HW9.out L11.out) hle2) hle2) hle2
              · refine blk_far ?_ (by show w.heap.size ≠ w.heap.size + 2; omega) _
                refine blk_far ?_ (by show w.heap.size ≠ w.heap.size + 2; omega) _
                refine blk_far ?_ (by show w.heap.size ≠ w.heap.size + 2; omega) _
                exact E4.out
              · refine blk_far ?_ (by show w.heap.size + 1 ≠ w.heap.size + 2; omega) _
                refine blk_far ?_ (by show w.heap.size + 1 ≠ w.heap.size + 2; omega) _
                refine blk_far ?_ (by show w.heap.size + 1 ≠ w.heap.size + 2; omega) _
                exact E6.out
              · refine blk_put (cs := #[.float .f32 nw.f0, .float .f32 nw.f1, .float .f32 a.f2]) ?_ 2 _ rfl
                refine blk_put (cs := #[.float .f32 nw.f0, .float .f32 a.f1, .float .f32 a.f2]) ?_ 1 _ rfl
                refine blk_put (cs := #[.float .f32 a.f0, .float .f32 a.f1, .float .f32 a.f2]) ?_ 0 _ rfl
                exact E7.out
          refine two_ (i := 3) (j := 8) (Ni := some 58) (Nj := some 63) #[true, true, true, true, true, true, true, true, false, false, false, false] #[true, true, true, false, true, true, true, true, true, false, false, false] rfl rfl rfl rfl (by kernel_rfl) (by decide) (by decide) (fun K hK => ?_) (fun K hK => ?_)
          · refine goes_ Try.func63 (by kernel_rfl) rfl #[vv r, vv t] (by rfl) rfl rfl (by (try simp only [List.map_toArray, List.map_cons, List.map_nil]); first | done | rfl) ?_
            refine (cross63 r t r t (EV.refl r) (EV.refl t) _).mono ?_
            rintro e w10 ⟨cr, rfl, hcr, hb10⟩
            refine ⟨_, rfl, ?_⟩
            have L10 := Aside0.mk (below_step (below_drew1 (pw_below_drewN (Below.refl w9.heap.size w9) _)) hb10)
            clear hb10
            refine hK.out _ _ L10.out (fun _ => ?_)
            clear hK K
            refine norm_ (a' := ?_) ?_ ?_
            rotate_left
            · show Act.put _ (some 58) _ = _
              simp only [Act.put, List.setIfInBounds_toArray, List.set_cons_zero, List.set_cons_succ]
              rfl
            refine one_ (i := 8) (N := some 63) #[true, true, true, true, true, true, true, true, true, false, false, false] rfl rfl (by kernel_rfl) (by decide) (fun K hK => ?_)
            refine ar_ _ _ _ _ _ rfl arQ _ _ rfl rfl (E.refl _) (E.refl _) (by rfl) rfl ?_
            intro qu nq hqu
            refine hK.out _ _ (pw_below_drewN L10.out nq) (fun _ => ?_)
            exact norm_ (by first | rfl | (simp only [putAll, Act.put, List.setIfInBounds_toArray, List.set_cons_zero, List.set_cons_succ]; rfl)) (hcont (cr, qu) _ ⟨⟨pw_below_drewN L10.out nq⟩, ⟨hcr⟩, ⟨hqu⟩⟩)
          · refine ar_ _ _ _ _ _ rfl arQ _ _ rfl rfl (E.refl _) (E.refl _) (by rfl) rfl ?_
            intro qu nq hqu
            refine hK.out _ _ (pw_below_drewN (below_drew1 (pw_below_drewN (Below.refl _ _) _)) nq) (fun hS9 => ?_)
            have L9 : Aside0 (Below w9.heap.size w9 _) := ⟨hS9⟩
            clear hK K hS9
            refine norm_ (a' := ?_) ?_ ?_
            rotate_left
            · show Act.put _ (some 63) _ = _
              simp only [Act.put, List.setIfInBounds_toArray, List.set_cons_zero, List.set_cons_succ]
              rfl
            refine one_ (i := 3) (N := some 58) #[true, true, true, true, true, true, true, true, true, false, false, false] rfl rfl (by kernel_rfl) (by decide) (fun K hK => ?_)
            refine goes_ Try.func63 (by kernel_rfl) rfl #[vv r, vv t] (by rfl) rfl rfl (by (try simp only [List.map_toArray, List.map_cons, List.map_nil]); first | done | rfl) ?_
            refine (cross63 r t r t (EV.refl r) (EV.refl t) _).mono ?_
            rintro e w10 ⟨cr, rfl, hcr, hb10⟩
            refine ⟨_, rfl, ?_⟩
            refine hK.out _ _ (below_step L9.out hb10) (fun _ => ?_)
            exact norm_ (by first | rfl | (simp only [putAll, Act.put, List.setIfInBounds_toArray, List.set_cons_zero, List.set_cons_succ]; rfl)) (hcont (cr, qu) _ ⟨⟨below_step L9.out hb10⟩, ⟨hcr⟩, ⟨hqu⟩⟩)
      refine join_ (σ := S46 × S46 × Nat × Nat) 3 #[true, true, true, true, true, true, true, true, true, false, false, false] (fun s => [(29, vv s.1), (33, vv y), (34, vv s.2.1), (10, .pointer (some ⟨s.2.2.1, 0, none⟩))]) (fun s w' => Aside0 (Below ws.heap.size ws w') ∧ Aside0 (EV (opV .sub at_ x) s.1) ∧ Aside0 (EV (opV .sub at_ y) s.2.1) ∧ Aside0 (w'.heap[s.2.2.1]? = some (.cells #[.float .f32 0, .float .f32 0, .float .f32 0] 46 (0, 0)) ∧ ws.heap.size ≤ s.2.2.1)) ?_ (fun j310 => ?_)
      · rintro ⟨r, t, g10, g11⟩ w' ⟨HB, QR, QS, GE⟩
        refine norm_ (a' := ?_) ?_ ?_
        rotate_left
        · simp only [putAll, Act.put, List.setIfInBounds_toArray, List.set_cons_zero, List.set_cons_succ]
          rfl
        refine one_ (i := 9) (N := some 11) #[true, true, true, true, true, true, true, true, true, true, false, false] rfl rfl (by kernel_rfl) (by decide) (fun K hK => ?_)
        refine value_ (w1 := ?_) (v := ?_) (by rfl) rfl ?_ ?_
        rotate_left 2
        · go_simp
          constructor
          · rfl
          · rfl
        have hb := below_alloc (Below.refl w'.heap.size w') (.cells #[.float .f32 0, .float .f32 0, .float .f32 0] 46 (0, 0))
        refine hK.out _ _ (below_step HB.out hb) (fun _ => ?_)
        have hj := j311 (r, t, g10, w'.heap.size) _ ⟨⟨below_step HB.out hb⟩, QR, QS, ⟨blk_below GE.out.1 hb, GE.out.2⟩, ⟨heap_alloc_new _ _, HB.out.size⟩, ⟨Nat.ne_of_lt (blk_lt GE.out.1)⟩⟩
        exact norm_ (by first | rfl | (simp only [putAll, Act.put, List.setIfInBounds_toArray, List.set_cons_zero, List.set_cons_succ]; rfl)) hj
      refine join_ (σ := S46 × S46 × Nat × Nat) 3 #[true, true, true, true, true, true, true, true, false, true, false, false] (fun s => [(29, vv s.1), (33, vv y), (34, vv s.2.1), (11, .pointer (some ⟨s.2.2.2, 0, none⟩))]) (fun s w' => Aside0 (Below ws.heap.size ws w') ∧ Aside0 (EV (opV .sub at_ x) s.1) ∧ Aside0 (EV (opV .sub at_ y) s.2.1) ∧ Aside0 (w'.heap[s.2.2.2]? = some (.cells #[.float .f32 0, .float .f32 0, .float .f32 0] 46 (0, 0)) ∧ ws.heap.size ≤ s.2.2.2)) ?_ (fun j301 => ?_)
      · rintro ⟨r, t, g10, g11⟩ w' ⟨HB, QR, QS, GF⟩
        refine norm_ (a' := ?_) ?_ ?_
        rotate_left
        · simp only [putAll, Act.put, List.setIfInBounds_toArray, List.set_cons_zero, List.set_cons_succ]
          rfl
        refine one_ (i := 8) (N := some 10) #[true, true, true, true, true, true, true, true, true, true, false, false] rfl rfl (by kernel_rfl) (by decide) (fun K hK => ?_)
        refine value_ (w1 := ?_) (v := ?_) (by rfl) rfl ?_ ?_
        rotate_left 2
        · go_simp
          constructor
          · rfl
          · rfl
        have hb := below_alloc (Below.refl w'.heap.size w') (.cells #[.float .f32 0, .float .f32 0, .float .f32 0] 46 (0, 0))
        refine hK.out _ _ (below_step HB.out hb) (fun _ => ?_)
        have hj := j311 (r, t, w'.heap.size, g11) _ ⟨⟨below_step HB.out hb⟩, QR, QS, ⟨heap_alloc_new _ _, HB.out.size⟩, ⟨blk_below GF.out.1 hb, GF.out.2⟩, ⟨Nat.ne_of_gt (blk_lt GF.out.1)⟩⟩
        exact norm_ (by first | rfl | (simp only [putAll, Act.put, List.setIfInBounds_toArray, List.set_cons_zero, List.set_cons_succ]; rfl)) hj
      refine join_ (σ := S46 × S46 × Nat × Nat) 4 #[true, true, true, true, true, true, true, true, false, false, false, false] (fun s => [(29, vv s.1), (33, vv y), (34, vv s.2.1)]) (fun s w' => Aside0 (Below ws.heap.size ws w') ∧ Aside0 (EV (opV .sub at_ x) s.1) ∧ Aside0 (EV (opV .sub at_ y) s.2.1)) ?_ (fun j300 => ?_)
      · rintro ⟨r, t, g10, g11⟩ w' ⟨HB, QR, QS⟩
        refine norm_ (a' := ?_) ?_ ?_
        rotate_left
        · simp only [putAll, Act.put, List.setIfInBounds_toArray, List.set_cons_zero, List.set_cons_succ]
          rfl
        refine two_ (i := 8) (j := 9) (Ni := some 10) (Nj := some 11) #[true, true, true, true, true, true, true, true, true, false, false, false] #[true, true, true, true, true, true, true, true, false, true, false, false] rfl rfl rfl rfl (by kernel_rfl) (by decide) (by decide) (fun K hK => ?_) (fun K hK => ?_)
        · refine value_ (w1 := ?_) (v := ?_) (by rfl) rfl ?_ ?_
          rotate_left 2
          · go_simp
            constructor
            · rfl
            · rfl
          have hb := below_alloc (Below.refl w'.heap.size w') (.cells #[.float .f32 0, .float .f32 0, .float .f32 0] 46 (0, 0))
          refine hK.out _ _ (below_step HB.out hb) (fun _ => ?_)
          have hj := j310 (r, t, w'.heap.size, 0) _ ⟨⟨below_step HB.out hb⟩, QR, QS, ⟨heap_alloc_new _ _, HB.out.size⟩⟩
          exact norm_ (by first | rfl | (simp only [putAll, Act.put, List.setIfInBounds_toArray, List.set_cons_zero, List.set_cons_succ]; rfl)) hj
        · refine value_ (w1 := ?_) (v := ?_) (by rfl) rfl ?_ ?_
          rotate_left 2
          · go_simp
            constructor
            · rfl
            · rfl
          have hb := below_alloc (Below.refl w'.heap.size w') (.cells #[.float .f32 0, .float .f32 0, .float .f32 0] 46 (0, 0))
          refine hK.out _ _ (below_step HB.out hb) (fun _ => ?_)
          have hj := j301 (r, t, 0, w'.heap.size) _ ⟨⟨below_step HB.out hb⟩, QR, QS, ⟨heap_alloc_new _ _, HB.out.size⟩⟩
          exact norm_ (by first | rfl | (simp only [putAll, Act.put, List.setIfInBounds_toArray, List.set_cons_zero, List.set_cons_succ]; rfl)) hj
      refine join_ (σ := S46 × S46 × Nat × Nat) 3 #[true, true, true, true, true, true, true, false, true, true, false, false] (fun s => [(29, vv s.1), (33, vv y), (10, .pointer (some ⟨s.2.2.1, 0, none⟩)), (11, .pointer (some ⟨s.2.2.2, 0, none⟩))]) (fun s w' => Aside0 (Below ws.heap.size ws w') ∧ Aside0 (EV (opV .sub at_ x) s.1) ∧ Aside0 (w'.heap[s.2.2.1]? = some (.cells #[.float .f32 0, .float .f32 0, .float .f32 0] 46 (0, 0)) ∧ ws.heap.size ≤ s.2.2.1) ∧ Aside0 (w'.heap[s.2.2.2]? = some (.cells #[.float .f32 0, .float .f32 0, .float .f32 0] 46 (0, 0)) ∧ ws.heap.size ≤ s.2.2.2) ∧ Aside0 (s.2.2.1 ≠ s.2.2.2)) ?_ (fun j211 => ?_)
      · rintro ⟨r, t, g10, g11⟩ w' ⟨HB, QR, GE, GF, NE⟩
        refine norm_ (a' := ?_) ?_ ?_
        rotate_left
        · simp only [putAll, Act.put, List.setIfInBounds_toArray, List.set_cons_zero, List.set_cons_succ]
          rfl
        refine one_ (i := 7) (N := some 34) #[true, true, true, true, true, true, true, true, true, true, false, false] rfl rfl (by kernel_rfl) (by decide) (fun K hK => ?_)
        refine goes_ Try.func60 (by kernel_rfl) rfl #[vv at_, vv y] (by rfl) rfl rfl (by (try simp only [List.map_toArray, List.map_cons, List.map_nil]); first | done | rfl) ?_
        refine (less60 at_ y at_ y (EV.refl at_) (EV.refl y) _).mono ?_
        rintro e w2 ⟨t, rfl, ht, hb⟩
        refine ⟨_, rfl, ?_⟩
        refine hK.out _ _ (below_step HB.out hb) (fun _ => ?_)
        have hj := j311 (r, t, g10, g11) _ ⟨⟨below_step HB.out hb⟩, QR, ⟨ht⟩, ⟨blk_below GE.out.1 hb, GE.out.2⟩, ⟨blk_below GF.out.1 hb, GF.out.2⟩, NE⟩
        exact norm_ (by first | rfl | (simp only [putAll, Act.put, List.setIfInBounds_toArray, List.set_cons_zero, List.set_cons_succ]; rfl)) hj
      refine join_ (σ := S46 × S46 × Nat × Nat) 4 #[true, true, true, true, true, true, true, false, true, false, false, false] (fun s => [(29, vv s.1), (33, vv y), (10, .pointer (some ⟨s.2.2.1, 0, none⟩))]) (fun s w' => Aside0 (Below ws.heap.size ws w') ∧ Aside0 (EV (opV .sub at_ x) s.1) ∧ Aside0 (w'.heap[s.2.2.1]? = some (.cells #[.float .f32 0, .float .f32 0, .float .f32 0] 46 (0, 0)) ∧ ws.heap.size ≤ s.2.2.1)) ?_ (fun j210 => ?_)
      · rintro ⟨r, t, g10, g11⟩ w' ⟨HB, QR, GE⟩
        refine norm_ (a' := ?_) ?_ ?_
        rotate_left
        · simp only [putAll, Act.put, List.setIfInBounds_toArray, List.set_cons_zero, List.set_cons_succ]
          rfl
        refine two_ (i := 7) (j := 9) (Ni := some 34) (Nj := some 11) #[true, true, true, true, true, true, true, true, true, false, false, false] #[true, true, true, true, true, true, true, false, true, true, false, false] rfl rfl rfl rfl (by kernel_rfl) (by decide) (by decide) (fun K hK => ?_) (fun K hK => ?_)
        · refine goes_ Try.func60 (by kernel_rfl) rfl #[vv at_, vv y] (by rfl) rfl rfl (by (try simp only [List.map_toArray, List.map_cons, List.map_nil]); first | done | rfl) ?_
          refine (less60 at_ y at_ y (EV.refl at_) (EV.refl y) _).mono ?_
          rintro e w2 ⟨t, rfl, ht, hb⟩
          refine ⟨_, rfl, ?_⟩
          refine hK.out _ _ (below_step HB.out hb) (fun _ => ?_)
          have hj := j310 (r, t, g10, 0) _ ⟨⟨below_step HB.out hb⟩, QR, ⟨ht⟩, ⟨blk_below GE.out.1 hb, GE.out.2⟩⟩
          exact norm_ (by first | rfl | (simp only [putAll, Act.put, List.setIfInBounds_toArray, List.set_cons_zero, List.set_cons_succ]; rfl)) hj
        · refine value_ (w1 := ?_) (v := ?_) (by rfl) rfl ?_ ?_
          rotate_left 2
          · go_simp
            constructor
            · rfl
            · rfl
          have hb := below_alloc (Below.refl w'.heap.size w') (.cells #[.float .f32 0, .float .f32 0, .float .f32 0] 46 (0, 0))
          refine hK.out _ _ (below_step HB.out hb) (fun _ => ?_)
          have hj := j211 (r, x, g10, w'.heap.size) _ ⟨⟨below_step HB.out hb⟩, QR, ⟨blk_below GE.out.1 hb, GE.out.2⟩, ⟨heap_alloc_new _ _, HB.out.size⟩, ⟨Nat.ne_of_lt (blk_lt GE.out.1)⟩⟩
          exact norm_ (by first | rfl | (simp only [putAll, Act.put, List.setIfInBounds_toArray, List.set_cons_zero, List.set_cons_succ]; rfl)) hj
      refine join_ (σ := S46 × S46 × Nat × Nat) 4 #[true, true, true, true, true, true, true, false, false, true, false, false] (fun s => [(29, vv s.1), (33, vv y), (11, .pointer (some ⟨s.2.2.2, 0, none⟩))]) (fun s w' => Aside0 (Below ws.heap.size ws w') ∧ Aside0 (EV (opV .sub at_ x) s.1) ∧ Aside0 (w'.heap[s.2.2.2]? = some (.cells #[.float .f32 0, .float .f32 0, .float .f32 0] 46 (0, 0)) ∧ ws.heap.size ≤ s.2.2.2)) ?_ (fun j201 => ?_)
      · rintro ⟨r, t, g10, g11⟩ w' ⟨HB, QR, GF⟩
        refine norm_ (a' := ?_) ?_ ?_
        rotate_left
        · simp only [putAll, Act.put, List.setIfInBounds_toArray, List.set_cons_zero, List.set_cons_succ]
          rfl
        refine two_ (i := 7) (j := 8) (Ni := some 34) (Nj := some 10) #[true, true, true, true, true, true, true, true, false, true, false, false] #[true, true, true, true, true, true, true, false, true, true, false, false] rfl rfl rfl rfl (by kernel_rfl) (by decide) (by decide) (fun K hK => ?_) (fun K hK => ?_)
        · refine goes_ Try.func60 (by kernel_rfl) rfl #[vv at_, vv y] (by rfl) rfl rfl (by (try simp only [List.map_toArray, List.map_cons, List.map_nil]); first | done | rfl) ?_
          refine (less60 at_ y at_ y (EV.refl at_) (EV.refl y) _).mono ?_
          rintro e w2 ⟨t, rfl, ht, hb⟩
          refine ⟨_, rfl, ?_⟩
          refine hK.out _ _ (below_step HB.out hb) (fun _ => ?_)
          have hj := j301 (r, t, 0, g11) _ ⟨⟨below_step HB.out hb⟩, QR, ⟨ht⟩, ⟨blk_below GF.out.1 hb, GF.out.2⟩⟩
          exact norm_ (by first | rfl | (simp only [putAll, Act.put, List.setIfInBounds_toArray, List.set_cons_zero, List.set_cons_succ]; rfl)) hj
        · refine value_ (w1 := ?_) (v := ?_) (by rfl) rfl ?_ ?_
          rotate_left 2
          · go_simp
            constructor
            · rfl
            · rfl
          have hb := below_alloc (Below.refl w'.heap.size w') (.cells #[.float .f32 0, .float .f32 0, .float .f32 0] 46 (0, 0))
          refine hK.out _ _ (below_step HB.out hb) (fun _ => ?_)
          have hj := j211 (r, x, w'.heap.size, g11) _ ⟨⟨below_step HB.out hb⟩, QR, ⟨heap_alloc_new _ _, HB.out.size⟩, ⟨blk_below GF.out.1 hb, GF.out.2⟩, ⟨Nat.ne_of_gt (blk_lt GF.out.1)⟩⟩
          exact norm_ (by first | rfl | (simp only [putAll, Act.put, List.setIfInBounds_toArray, List.set_cons_zero, List.set_cons_succ]; rfl)) hj
      refine join_ (σ := S46 × S46 × Nat × Nat) 5 #[true, true, true, true, true, true, true, false, false, false, false, false] (fun s => [(29, vv s.1), (33, vv y)]) (fun s w' => Aside0 (Below ws.heap.size ws w') ∧ Aside0 (EV (opV .sub at_ x) s.1)) ?_ (fun j200 => ?_)
      · rintro ⟨r, t, g10, g11⟩ w' ⟨HB, QR⟩
        refine norm_ (a' := ?_) ?_ ?_
        rotate_left
        · simp only [putAll, Act.put, List.setIfInBounds_toArray, List.set_cons_zero, List.set_cons_succ]
          rfl
        refine three_ (i := 7) (j := 8) (k := 9) (Ni := some 34) (Nj := some 10) (Nk := some 11) #[true, true, true, true, true, true, true, true, false, false, false, false] #[true, true, true, true, true, true, true, false, true, false, false, false] #[true, true, true, true, true, true, true, false, false, true, false, false] rfl rfl rfl rfl rfl rfl (by kernel_rfl) (by decide) (by decide) (by decide) (fun K hK => ?_) (fun K hK => ?_) (fun K hK => ?_)
        · refine goes_ Try.func60 (by kernel_rfl) rfl #[vv at_, vv y] (by rfl) rfl rfl (by (try simp only [List.map_toArray, List.map_cons, List.map_nil]); first | done | rfl) ?_
          refine (less60 at_ y at_ y (EV.refl at_) (EV.refl y) _).mono ?_
          rintro e w2 ⟨t, rfl, ht, hb⟩
          refine ⟨_, rfl, ?_⟩
          refine hK.out _ _ (below_step HB.out hb) (fun _ => ?_)
          have hj := j300 (r, t, 0, 0) _ ⟨⟨below_step HB.out hb⟩, QR, ⟨ht⟩⟩
          exact norm_ (by first | rfl | (simp only [putAll, Act.put, List.setIfInBounds_toArray, List.set_cons_zero, List.set_cons_succ]; rfl)) hj
        · refine value_ (w1 := ?_) (v := ?_) (by rfl) rfl ?_ ?_
          rotate_left 2
          · go_simp
            constructor
            · rfl
            · rfl
          have hb := below_alloc (Below.refl w'.heap.size w') (.cells #[.float .f32 0, .float .f32 0, .float .f32 0] 46 (0, 0))
          refine hK.out _ _ (below_step HB.out hb) (fun _ => ?_)
          have hj := j210 (r, x, w'.heap.size, 0) _ ⟨⟨below_step HB.out hb⟩, QR, ⟨heap_alloc_new _ _, HB.out.size⟩⟩
          exact norm_ (by first | rfl | (simp only [putAll, Act.put, List.setIfInBounds_toArray, List.set_cons_zero, List.set_cons_succ]; rfl)) hj
        · refine value_ (w1 := ?_) (v := ?_) (by rfl) rfl ?_ ?_
          rotate_left 2
          · go_simp
            constructor
            · rfl
            · rfl
          have hb := below_alloc (Below.refl w'.heap.size w') (.cells #[.float .f32 0, .float .f32 0, .float .f32 0] 46 (0, 0))
          refine hK.out _ _ (below_step HB.out hb) (fun _ => ?_)
          have hj := j201 (r, x, 0, w'.heap.size) _ ⟨⟨below_step HB.out hb⟩, QR, ⟨heap_alloc_new _ _, HB.out.size⟩⟩
          exact norm_ (by first | rfl | (simp only [putAll, Act.put, List.setIfInBounds_toArray, List.set_cons_zero, List.set_cons_succ]; rfl)) hj
      refine join_ (σ := S46 × S46 × Nat × Nat) 4 #[true, true, true, true, true, true, false, false, true, true, false, false] (fun s => [(29, vv s.1), (10, .pointer (some ⟨s.2.2.1, 0, none⟩)), (11, .pointer (some ⟨s.2.2.2, 0, none⟩))]) (fun s w' => Aside0 (Below ws.heap.size ws w') ∧ Aside0 (EV (opV .sub at_ x) s.1) ∧ Aside0 (w'.heap[s.2.2.1]? = some (.cells #[.float .f32 0, .float .f32 0, .float .f32 0] 46 (0, 0)) ∧ ws.heap.size ≤ s.2.2.1) ∧ Aside0 (w'.heap[s.2.2.2]? = some (.cells #[.float .f32 0, .float .f32 0, .float .f32 0] 46 (0, 0)) ∧ ws.heap.size ≤ s.2.2.2) ∧ Aside0 (s.2.2.1 ≠ s.2.2.2)) ?_ (fun j111 => ?_)
      · rintro ⟨r, t, g10, g11⟩ w' ⟨HB, QR, GE, GF, NE⟩
        refine norm_ (a' := ?_) ?_ ?_
        rotate_left
        · simp only [putAll, Act.put, List.setIfInBounds_toArray, List.set_cons_zero, List.set_cons_succ]
          rfl
        refine one_ (i := 6) (N := some 33) #[true, true, true, true, true, true, true, false, true, true, false, false] rfl rfl (by kernel_rfl) (by decide) (fun K hK => ?_)
        refine goes_ Try.func109 (by kernel_rfl) rfl #[.pointer (some ad), .int .i64 (i : Int)] (by rfl) rfl rfl (by (try simp only [List.map_toArray, List.map_cons, List.map_nil]); first | done | rfl) ?_
        refine (next109 ad (some ae) c l i ((i + 1) % l.length) _ (cell_b HB.out k0) hle (Kd.C_below KC.out HB.out) hil rfl y hy).mono ?_
        rintro e w2 ⟨rfl, hb⟩
        refine ⟨_, rfl, ?_⟩
        refine hK.out _ _ (below_step HB.out hb) (fun _ => ?_)
        have hj := j211 (r, x, g10, g11) _ ⟨⟨below_step HB.out hb⟩, QR, ⟨blk_below GE.out.1 hb, GE.out.2⟩, ⟨blk_below GF.out.1 hb, GF.out.2⟩, NE⟩
        exact norm_ (by first | rfl | (simp only [putAll, Act.put, List.setIfInBounds_toArray, List.set_cons_zero, List.set_cons_succ]; rfl)) hj
      refine join_ (σ := S46 × S46 × Nat × Nat) 5 #[true, true, true, true, true, true, false, false, true, false, false, false] (fun s => [(29, vv s.1), (10, .pointer (some ⟨s.2.2.1, 0, none⟩))]) (fun s w' => Aside0 (Below ws.heap.size ws w') ∧ Aside0 (EV (opV .sub at_ x) s.1) ∧ Aside0 (w'.heap[s.2.2.1]? = some (.cells #[.float .f32 0, .float .f32 0, .float .f32 0] 46 (0, 0)) ∧ ws.heap.size ≤ s.2.2.1)) ?_ (fun j110 => ?_)
      · rintro ⟨r, t, g10, g11⟩ w' ⟨HB, QR, GE⟩
        refine norm_ (a' := ?_) ?_ ?_
        rotate_left
        · simp only [putAll, Act.put, List.setIfInBounds_toArray, List.set_cons_zero, List.set_cons_succ]
          rfl
        refine two_ (i := 6) (j := 9) (Ni := some 33) (Nj := some 11) #[true, true, true, true, true, true, true, false, true, false, false, false] #[true, true, true, true, true, true, false, false, true, true, false, false] rfl rfl rfl rfl (by kernel_rfl) (by decide) (by decide) (fun K hK => ?_) (fun K hK => ?_)
        · refine goes_ Try.func109 (by kernel_rfl) rfl #[.pointer (some ad), .int .i64 (i : Int)] (by rfl) rfl rfl (by (try simp only [List.map_toArray, List.map_cons, List.map_nil]); first | done | rfl) ?_
          refine (next109 ad (some ae) c l i ((i + 1) % l.length) _ (cell_b HB.out k0) hle (Kd.C_below KC.out HB.out) hil rfl y hy).mono ?_
          rintro e w2 ⟨rfl, hb⟩
          refine ⟨_, rfl, ?_⟩
          refine hK.out _ _ (below_step HB.out hb) (fun _ => ?_)
          have hj := j210 (r, x, g10, 0) _ ⟨⟨below_step HB.out hb⟩, QR, ⟨blk_below GE.out.1 hb, GE.out.2⟩⟩
          exact norm_ (by first | rfl | (simp only [putAll, Act.put, List.setIfInBounds_toArray, List.set_cons_zero, List.set_cons_succ]; rfl)) hj
        · refine value_ (w1 := ?_) (v := ?_) (by rfl) rfl ?_ ?_
          rotate_left 2
          · go_simp
            constructor
            · rfl
            · rfl
          have hb := below_alloc (Below.refl w'.heap.size w') (.cells #[.float .f32 0, .float .f32 0, .float .f32 0] 46 (0, 0))
          refine hK.out _ _ (below_step HB.out hb) (fun _ => ?_)
          have hj := j111 (r, x, g10, w'.heap.size) _ ⟨⟨below_step HB.out hb⟩, QR, ⟨blk_below GE.out.1 hb, GE.out.2⟩, ⟨heap_alloc_new _ _, HB.out.size⟩, ⟨Nat.ne_of_lt (blk_lt GE.out.1)⟩⟩
          exact norm_ (by first | rfl | (simp only [putAll, Act.put, List.setIfInBounds_toArray, List.set_cons_zero, List.set_cons_succ]; rfl)) hj
      refine join_ (σ := S46 × S46 × Nat × Nat) 5 #[true, true, true, true, true, true, false, false, false, true, false, false] (fun s => [(29, vv s.1), (11, .pointer (some ⟨s.2.2.2, 0, none⟩))]) (fun s w' => Aside0 (Below ws.heap.size ws w') ∧ Aside0 (EV (opV .sub at_ x) s.1) ∧ Aside0 (w'.heap[s.2.2.2]? = some (.cells #[.float .f32 0, .float .f32 0, .float .f32 0] 46 (0, 0)) ∧ ws.heap.size ≤ s.2.2.2)) ?_ (fun j101 => ?_)
      · rintro ⟨r, t, g10, g11⟩ w' ⟨HB, QR, GF⟩
        refine norm_ (a' := ?_) ?_ ?_
        rotate_left
        · simp only [putAll, Act.put, List.setIfInBounds_toArray, List.set_cons_zero, List.set_cons_succ]
          rfl
        refine two_ (i := 6) (j := 8) (Ni := some 33) (Nj := some 10) #[true, true, true, true, true, true, true, false, false, true, false, false] #[true, true, true, true, true, true, false, false, true, true, false, false] rfl rfl rfl rfl (by kernel_rfl) (by decide) (by decide) (fun K hK => ?_) (fun K hK => ?_)
        · refine goes_ Try.func109 (by kernel_rfl) rfl #[.pointer (some ad), .int .i64 (i : Int)] (by rfl) rfl rfl (by (try simp only [List.map_toArray, List.map_cons, List.map_nil]); first | done | rfl) ?_
          refine (next109 ad (some ae) c l i ((i + 1) % l.length) _ (cell_b HB.out k0) hle (Kd.C_below KC.out HB.out) hil rfl y hy).mono ?_
          rintro e w2 ⟨rfl, hb⟩
          refine ⟨_, rfl, ?_⟩
          refine hK.out _ _ (below_step HB.out hb) (fun _ => ?_)
          have hj := j201 (r, x, 0, g11) _ ⟨⟨below_step HB.out hb⟩, QR, ⟨blk_below GF.out.1 hb, GF.out.2⟩⟩
          exact norm_ (by first | rfl | (simp only [putAll, Act.put, List.setIfInBounds_toArray, List.set_cons_zero, List.set_cons_succ]; rfl)) hj
        · refine value_ (w1 := ?_) (v := ?_) (by rfl) rfl ?_ ?_
          rotate_left 2
          · go_simp
            constructor
            · rfl
            · rfl
          have hb := below_alloc (Below.refl w'.heap.size w') (.cells #[.float .f32 0, .float .f32 0, .float .f32 0] 46 (0, 0))
          refine hK.out _ _ (below_step HB.out hb) (fun _ => ?_)
          have hj := j111 (r, x, w'.heap.size, g11) _ ⟨⟨below_step HB.out hb⟩, QR, ⟨heap_alloc_new _ _, HB.out.size⟩, ⟨blk_below GF.out.1 hb, GF.out.2⟩, ⟨Nat.ne_of_gt (blk_lt GF.out.1)⟩⟩
          exact norm_ (by first | rfl | (simp only [putAll, Act.put, List.setIfInBounds_toArray, List.set_cons_zero, List.set_cons_succ]; rfl)) hj
      refine join_ (σ := S46 × S46 × Nat × Nat) 6 #[true, true, true, true, true, true, false, false, false, false, false, false] (fun s => [(29, vv s.1)]) (fun s w' => Aside0 (Below ws.heap.size ws w') ∧ Aside0 (EV (opV .sub at_ x) s.1)) ?_ (fun j100 => ?_)
      · rintro ⟨r, t, g10, g11⟩ w' ⟨HB, QR⟩
        refine norm_ (a' := ?_) ?_ ?_
        rotate_left
        · simp only [putAll, Act.put, List.setIfInBounds_toArray, List.set_cons_zero, List.set_cons_succ]
          rfl
        refine three_ (i := 6) (j := 8) (k := 9) (Ni := some 33) (Nj := some 10) (Nk := some 11) #[true, true, true, true, true, true, true, false, false, false, false, false] #[true, true, true, true, true, true, false, false, true, false, false, false] #[true, true, true, true, true, true, false, false, false, true, false, false] rfl rfl rfl rfl rfl rfl (by kernel_rfl) (by decide) (by decide) (by decide) (fun K hK => ?_) (fun K hK => ?_) (fun K hK => ?_)
        · refine goes_ Try.func109 (by kernel_rfl) rfl #[.pointer (some ad), .int .i64 (i : Int)] (by rfl) rfl rfl (by (try simp only [List.map_toArray, List.map_cons, List.map_nil]); first | done | rfl) ?_
          refine (next109 ad (some ae) c l i ((i + 1) % l.length) _ (cell_b HB.out k0) hle (Kd.C_below KC.out HB.out) hil rfl y hy).mono ?_
          rintro e w2 ⟨rfl, hb⟩
          refine ⟨_, rfl, ?_⟩
          refine hK.out _ _ (below_step HB.out hb) (fun _ => ?_)
          have hj := j200 (r, x, 0, 0) _ ⟨⟨below_step HB.out hb⟩, QR⟩
          exact norm_ (by first | rfl | (simp only [putAll, Act.put, List.setIfInBounds_toArray, List.set_cons_zero, List.set_cons_succ]; rfl)) hj
        · refine value_ (w1 := ?_) (v := ?_) (by rfl) rfl ?_ ?_
          rotate_left 2
          · go_simp
            constructor
            · rfl
            · rfl
          have hb := below_alloc (Below.refl w'.heap.size w') (.cells #[.float .f32 0, .float .f32 0, .float .f32 0] 46 (0, 0))
          refine hK.out _ _ (below_step HB.out hb) (fun _ => ?_)
          have hj := j110 (r, x, w'.heap.size, 0) _ ⟨⟨below_step HB.out hb⟩, QR, ⟨heap_alloc_new _ _, HB.out.size⟩⟩
          exact norm_ (by first | rfl | (simp only [putAll, Act.put, List.setIfInBounds_toArray, List.set_cons_zero, List.set_cons_succ]; rfl)) hj
        · refine value_ (w1 := ?_) (v := ?_) (by rfl) rfl ?_ ?_
          rotate_left 2
          · go_simp
            constructor
            · rfl
            · rfl
          have hb := below_alloc (Below.refl w'.heap.size w') (.cells #[.float .f32 0, .float .f32 0, .float .f32 0] 46 (0, 0))
          refine hK.out _ _ (below_step HB.out hb) (fun _ => ?_)
          have hj := j101 (r, x, 0, w'.heap.size) _ ⟨⟨below_step HB.out hb⟩, QR, ⟨heap_alloc_new _ _, HB.out.size⟩⟩
          exact norm_ (by first | rfl | (simp only [putAll, Act.put, List.setIfInBounds_toArray, List.set_cons_zero, List.set_cons_succ]; rfl)) hj
      refine join_ (σ := S46 × S46 × Nat × Nat) 5 #[true, true, false, true, true, true, false, false, true, true, false, false] (fun s => [(10, .pointer (some ⟨s.2.2.1, 0, none⟩)), (11, .pointer (some ⟨s.2.2.2, 0, none⟩))]) (fun s w' => Aside0 (Below ws.heap.size ws w') ∧ Aside0 (w'.heap[s.2.2.1]? = some (.cells #[.float .f32 0, .float .f32 0, .float .f32 0] 46 (0, 0)) ∧ ws.heap.size ≤ s.2.2.1) ∧ Aside0 (w'.heap[s.2.2.2]? = some (.cells #[.float .f32 0, .float .f32 0, .float .f32 0] 46 (0, 0)) ∧ ws.heap.size ≤ s.2.2.2) ∧ Aside0 (s.2.2.1 ≠ s.2.2.2)) ?_ (fun j011 => ?_)
      · rintro ⟨r, t, g10, g11⟩ w' ⟨HB, GE, GF, NE⟩
        refine norm_ (a' := ?_) ?_ ?_
        rotate_left
        · simp only [putAll, Act.put, List.setIfInBounds_toArray, List.set_cons_zero, List.set_cons_succ]
          rfl
        refine one_ (i := 2) (N := some 29) #[true, true, true, true, true, true, false, false, true, true, false, false] rfl rfl (by kernel_rfl) (by decide) (fun K hK => ?_)
        refine goes_ Try.func60 (by kernel_rfl) rfl #[vv at_, vv x] (by rfl) rfl rfl (by (try simp only [List.map_toArray, List.map_cons, List.map_nil]); first | done | rfl) ?_
        refine (less60 at_ x at_ x (EV.refl at_) (EV.refl x) _).mono ?_
        rintro e w2 ⟨r, rfl, hr, hb⟩
        refine ⟨_, rfl, ?_⟩
        refine hK.out _ _ (below_step HB.out hb) (fun _ => ?_)
        have hj := j111 (r, x, g10, g11) _ ⟨⟨below_step HB.out hb⟩, ⟨hr⟩, ⟨blk_below GE.out.1 hb, GE.out.2⟩, ⟨blk_below GF.out.1 hb, GF.out.2⟩, NE⟩
        exact norm_ (by first | rfl | (simp only [putAll, Act.put, List.setIfInBounds_toArray, List.set_cons_zero, List.set_cons_succ]; rfl)) hj
      refine join_ (σ := S46 × S46 × Nat × Nat) 6 #[true, true, false, true, true, true, false, false, true, false, false, false] (fun s => [(10, .pointer (some ⟨s.2.2.1, 0, none⟩))]) (fun s w' => Aside0 (Below ws.heap.size ws w') ∧ Aside0 (w'.heap[s.2.2.1]? = some (.cells #[.float .f32 0, .float .f32 0, .float .f32 0] 46 (0, 0)) ∧ ws.heap.size ≤ s.2.2.1)) ?_ (fun j010 => ?_)
      · rintro ⟨r, t, g10, g11⟩ w' ⟨HB, GE⟩
        refine norm_ (a' := ?_) ?_ ?_
        rotate_left
        · simp only [putAll, Act.put, List.setIfInBounds_toArray, List.set_cons_zero, List.set_cons_succ]
          rfl
        refine two_ (i := 2) (j := 9) (Ni := some 29) (Nj := some 11) #[true, true, true, true, true, true, false, false, true, false, false, false] #[true, true, false, true, true, true, false, false, true, true, false, false] rfl rfl rfl rfl (by kernel_rfl) (by decide) (by decide) (fun K hK => ?_) (fun K hK => ?_)
        · refine goes_ Try.func60 (by kernel_rfl) rfl #[vv at_, vv x] (by rfl) rfl rfl (by (try simp only [List.map_toArray, List.map_cons, List.map_nil]); first | done | rfl) ?_
          refine (less60 at_ x at_ x (EV.refl at_) (EV.refl x) _).mono ?_
          rintro e w2 ⟨r, rfl, hr, hb⟩
          refine ⟨_, rfl, ?_⟩
          refine hK.out _ _ (below_step HB.out hb) (fun _ => ?_)
          have hj := j110 (r, x, g10, 0) _ ⟨⟨below_step HB.out hb⟩, ⟨hr⟩, ⟨blk_below GE.out.1 hb, GE.out.2⟩⟩
          exact norm_ (by first | rfl | (simp only [putAll, Act.put, List.setIfInBounds_toArray, List.set_cons_zero, List.set_cons_succ]; rfl)) hj
        · refine value_ (w1 := ?_) (v := ?_) (by rfl) rfl ?_ ?_
          rotate_left 2
          · go_simp
            constructor
            · rfl
            · rfl
          have hb := below_alloc (Below.refl w'.heap.size w') (.cells #[.float .f32 0, .float .f32 0, .float .f32 0] 46 (0, 0))
          refine hK.out _ _ (below_step HB.out hb) (fun _ => ?_)
          have hj := j011 (x, x, g10, w'.heap.size) _ ⟨⟨below_step HB.out hb⟩, ⟨blk_below GE.out.1 hb, GE.out.2⟩, ⟨heap_alloc_new _ _, HB.out.size⟩, ⟨Nat.ne_of_lt (blk_lt GE.out.1)⟩⟩
          exact norm_ (by first | rfl | (simp only [putAll, Act.put, List.setIfInBounds_toArray, List.set_cons_zero, List.set_cons_succ]; rfl)) hj
      refine join_ (σ := S46 × S46 × Nat × Nat) 6 #[true, true, false, true, true, true, false, false, false, true, false, false] (fun s => [(11, .pointer (some ⟨s.2.2.2, 0, none⟩))]) (fun s w' => Aside0 (Below ws.heap.size ws w') ∧ Aside0 (w'.heap[s.2.2.2]? = some (.cells #[.float .f32 0, .float .f32 0, .float .f32 0] 46 (0, 0)) ∧ ws.heap.size ≤ s.2.2.2)) ?_ (fun j001 => ?_)
      · rintro ⟨r, t, g10, g11⟩ w' ⟨HB, GF⟩
        refine norm_ (a' := ?_) ?_ ?_
        rotate_left
        · simp only [putAll, Act.put, List.setIfInBounds_toArray, List.set_cons_zero, List.set_cons_succ]
          rfl
        refine two_ (i := 2) (j := 8) (Ni := some 29) (Nj := some 10) #[true, true, true, true, true, true, false, false, false, true, false, false] #[true, true, false, true, true, true, false, false, true, true, false, false] rfl rfl rfl rfl (by kernel_rfl) (by decide) (by decide) (fun K hK => ?_) (fun K hK => ?_)
        · refine goes_ Try.func60 (by kernel_rfl) rfl #[vv at_, vv x] (by rfl) rfl rfl (by (try simp only [List.map_toArray, List.map_cons, List.map_nil]); first | done | rfl) ?_
          refine (less60 at_ x at_ x (EV.refl at_) (EV.refl x) _).mono ?_
          rintro e w2 ⟨r, rfl, hr, hb⟩
          refine ⟨_, rfl, ?_⟩
          refine hK.out _ _ (below_step HB.out hb) (fun _ => ?_)
          have hj := j101 (r, x, 0, g11) _ ⟨⟨below_step HB.out hb⟩, ⟨hr⟩, ⟨blk_below GF.out.1 hb, GF.out.2⟩⟩
          exact norm_ (by first | rfl | (simp only [putAll, Act.put, List.setIfInBounds_toArray, List.set_cons_zero, List.set_cons_succ]; rfl)) hj
        · refine value_ (w1 := ?_) (v := ?_) (by rfl) rfl ?_ ?_
          rotate_left 2
          · go_simp
            constructor
            · rfl
            · rfl
          have hb := below_alloc (Below.refl w'.heap.size w') (.cells #[.float .f32 0, .float .f32 0, .float .f32 0] 46 (0, 0))
          refine hK.out _ _ (below_step HB.out hb) (fun _ => ?_)
          have hj := j011 (x, x, w'.heap.size, g11) _ ⟨⟨below_step HB.out hb⟩, ⟨heap_alloc_new _ _, HB.out.size⟩, ⟨blk_below GF.out.1 hb, GF.out.2⟩, ⟨Nat.ne_of_gt (blk_lt GF.out.1)⟩⟩
          exact norm_ (by first | rfl | (simp only [putAll, Act.put, List.setIfInBounds_toArray, List.set_cons_zero, List.set_cons_succ]; rfl)) hj
      have HB := Aside0.mk (below_drew1 (Below.refl ws.heap.size ws))
      generalize ws.drew = w' at HB ⊢
      refine three_ (i := 2) (j := 8) (k := 9) (Ni := some 29) (Nj := some 10) (Nk := some 11) #[true, true, true, true, true, true, false, false, false, false, false, false] #[true, true, false, true, true, true, false, false, true, false, false, false] #[true, true, false, true, true, true, false, false, false, true, false, false] rfl rfl rfl rfl rfl rfl (by kernel_rfl) (by decide) (by decide) (by decide) (fun K hK => ?_) (fun K hK => ?_) (fun K hK => ?_)
      · refine goes_ Try.func60 (by kernel_rfl) rfl #[vv at_, vv x] (by rfl) rfl rfl (by (try simp only [List.map_toArray, List.map_cons, List.map_nil]); first | done | rfl) ?_
        refine (less60 at_ x at_ x (EV.refl at_) (EV.refl x) _).mono ?_
        rintro e w2 ⟨r, rfl, hr, hb⟩
        refine ⟨_, rfl, ?_⟩
        refine hK.out _ _ (below_step HB.out hb) (fun _ => ?_)
        have hj := j100 (r, x, 0, 0) _ ⟨⟨below_step HB.out hb⟩, ⟨hr⟩⟩
        exact norm_ (by first | rfl | (simp only [putAll, Act.put, List.setIfInBounds_toArray, List.set_cons_zero, List.set_cons_succ]; rfl)) hj
      · refine value_ (w1 := ?_) (v := ?_) (by rfl) rfl ?_ ?_
        rotate_left 2
        · go_simp
          constructor
          · rfl
          · rfl
        have hb := below_alloc (Below.refl w'.heap.size w') (.cells #[.float .f32 0, .float .f32 0, .float .f32 0] 46 (0, 0))
        refine hK.out _ _ (below_step HB.out hb) (fun _ => ?_)
        have hj := j010 (x, x, w'.heap.size, 0) _ ⟨⟨below_step HB.out hb⟩, ⟨heap_alloc_new _ _, HB.out.size⟩⟩
        exact norm_ (by first | rfl | (simp only [putAll, Act.put, List.setIfInBounds_toArray, List.set_cons_zero, List.set_cons_succ]; rfl)) hj
      · refine value_ (w1 := ?_) (v := ?_) (by rfl) rfl ?_ ?_
        rotate_left 2
        · go_simp
          constructor
          · rfl
          · rfl
        have hb := below_alloc (Below.refl w'.heap.size w') (.cells #[.float .f32 0, .float .f32 0, .float .f32 0] 46 (0, 0))
        refine hK.out _ _ (below_step HB.out hb) (fun _ => ?_)
        have hj := j001 (x, x, 0, w'.heap.size) _ ⟨⟨below_step HB.out hb⟩, ⟨heap_alloc_new _ _, HB.out.size⟩⟩
        exact norm_ (by first | rfl | (simp only [putAll, Act.put, List.setIfInBounds_toArray, List.set_cons_zero, List.set_cons_succ]; rfl)) hj
end XG
end Go.Proofs.Ytffofpiejcolfaa
end
section
set_option linter.unusedVariables false
set_option linter.unusedSimpArgs false
namespace Go.Proofs.Ytffofpiejcolfaa
open Go.RowKit Go.Proofs.YtffofpiejcolfaaW.PrintWords Go.Proofs.YtffofpiejcolfaaW.PrintLast Go.Proofs.YtffofpiejcolfaaW.PrintMore
attribute [local go_sem] max2_int min2_int max_two min_two max_three min_three max_four min_four
namespace XV
open XF XL XC XY XE XN XK L0 L3
def tis (t : S31) : Bool := isThread t.f0 t.f1
set_option maxHeartbeats 4000000 in
set_option maxRecDepth 100000 in
theorem lit114 (A : Option Addr) (c : Nat) (l : List S46) (a : Nat) (w : World) (hr : Kd.C k46 w A l.length l) (hc : l.length ≤ c) : Calls Try.prog 114 #[.agg #[.slice A l.length c, .float .f32 a]] w fun e w' => e = .returned (.bool (!isThread l a)) ∧ Below w.heap.size w w' := by
  go_enter Try.func114, Try.ntmps114
  go_wp2_with (first | (go_at_call 45; refine (IsThread.calls _ _ _ _ _ _ (Kd.C_alloc hr _) hc rfl).mono ?_; rintro e w1 ⟨rfl, hb⟩))
  go_ret
  exact ⟨by first | rfl | (simp; done), below_step (by repeat (first | exact Below.refl _ _ | apply below_alloc | apply pw_below_drewN | apply below_drew1)) hb⟩
set_option maxHeartbeats 4000000 in
set_option maxRecDepth 100000 in
theorem index131 (A : Option Addr) (c : Nat) (xs : List S31) (r : Int) (hr : ix (fun x => !tis x) xs 0 = r) (w : World) (hr0 : Kd.C k31 w A xs.length xs) (hc0 : xs.length ≤ c) :
    Calls Try.prog 131 #[.slice A xs.length c, .func (.func 114) #[] #[]] w fun e w' => e = .returned (.int .i64 r) ∧ Below w.heap.size w w' := by
  have HR0 := Aside0.mk hr0
  clear hr0
  have hmx : xs.length ≤ 9223372036854775807 := Kd.C_max HR0.out
  go_enter Try.func131, Try.ntmps131
  go_wp2
  go_loopg [8] xs.length (fun kq v8 w' => ∃ (i : Nat), v8 = .int .i64 (i : Int) ∧ Aside0 (i + kq = xs.length) ∧ Aside0 (ix (fun x => !tis x) (xs.drop i) (i : Int) = r) ∧ Aside0 (Below w.heap.size w w'))
  case atStart => exact ⟨0, rfl, ⟨by simp⟩, ⟨hr⟩, ⟨Below.refl _ _⟩⟩
  case round =>
    obtain ⟨i, rfl, HI, HX, HB⟩ := hrel
    have hi := HI.out
    have hx0 := HX.out
    cases gk with
    | zero =>
      have hc : decide ((i : Int) < (xs.length : Int)) = false := by simp; omega
      rw [List.drop_eq_nil_of_le (by omega), ix] at hx0
      subst hx0
      go_wp2
      go_ret
      exact ⟨rfl, HB.out⟩
    | succ k1 =>
      have hil : i < xs.length := by omega
      have hc : decide ((i : Int) < (xs.length : Int)) = true := by simp; omega
      have p0 : (0 : Int) ≤ (i : Int) := by omega
      have q0 : (i : Int) < (xs.length : Int) := by omega
      obtain ⟨ad, Ae, ce, ead, hx_0, hx_1, hle, hCe⟩ := at_T31 HR0.out (i : Int) p0 q0
      cases ead
      replace hx_0 := (HB.out.cell (World.block_lt_of_cell? w _ hx_0)).trans hx_0
      replace hx_1 := (HB.out.cell (World.block_lt_of_cell? w _ hx_1)).trans hx_1
      have hCw := Kd.C_below hCe HB.out
      rw [Int.toNat_natCast] at hx_0 hx_1
      rw [show rd_T31 xs (i : Int) = xs[i] by simp [rd_T31, hil]] at hx_0 hx_1 hle hCw
      rw [List.drop_eq_getElem_cons hil, ix] at hx0
      clear hCe
      generalize xs[i] = x at hx_0 hx_1 hx0 hle hCw
      have p0b := eq_true p0
      have q0b := eq_true q0
      cases e : tis x with
      | false =>
        rw [e, if_pos (by rfl)] at hx0
        subst hx0
        have e2 : isThread x.f0 x.f1 = false := e
        go_wp2_with (first | (go_at_call 114; refine (lit114 _ _ _ _ _ hCw hle).mono ?_; rw [e2]; rintro e w1 ⟨rfl, hb⟩))
        go_ret
        exact ⟨rfl, below_step HB.out hb⟩
      | true =>
        rw [e, if_neg (by decide)] at hx0
        have e2 : isThread x.f0 x.f1 = true := e
        go_wp2_with (first | (go_at_call 114; refine (lit114 _ _ _ _ _ hCw hle).mono ?_; rw [e2]; rintro e w1 ⟨rfl, hb⟩))
        go_roundg k1
        case measure => omega
        case rel => exact ⟨i + 1, rfl, ⟨by omega⟩, ⟨hx0⟩, ⟨below_step HB.out hb⟩⟩
set_option maxHeartbeats 4000000 in
set_option maxRecDepth 100000 in
theorem contains113 (A : Option Addr) (c : Nat) (xs : List S31) (w : World) (hr0 : Kd.C k31 w A xs.length xs) (hc0 : xs.length ≤ c) :
    Calls Try.prog 113 #[.slice A xs.length c, .func (.func 114) #[] #[]] w fun e w' => e = .returned (.bool (xs.any fun x => !tis x)) ∧ Below w.heap.size w w' := by
  have hg := ix_ge (fun x => !tis x) xs 0 (Int.le_refl _)
  go_enter Try.func113, Try.ntmps113
  go_wp2_with (first | (go_at_call 131; refine (index131 _ _ _ _ rfl _ hr0 hc0).mono ?_; rintro e w1 ⟨rfl, hb⟩))
  go_ret
  exact ⟨by first | rfl | (rw [← hg]; rfl), hb⟩
def are (l : List S31) : Bool := decide (l.length ≤ 4) && !(l.any fun x => !tis x)
def AreThreads.f (l0 : List S31) : Option Bool := some (are l0)
set_option maxHeartbeats 4000000 in
set_option maxRecDepth 100000 in
theorem AreThreads.calls (A0 : Option Addr) (c0 : Nat) (l0 : List S31) (r : Bool) (w : World) (hr0 : Kd.C k31 w A0 l0.length l0) (hc0 : l0.length ≤ c0) (h : AreThreads.f l0 = some r) :
    Calls Try.prog 73 #[.slice A0 l0.length c0] w fun e w' => e = .returned (.bool r) ∧ Below w.heap.size w w' := by
  obtain rfl := Option.some.inj h
  unfold are
  by_cases c1 : l0.length ≤ 4
  · have c1a : decide ((l0.length : Int) ≤ (4 : Int)) = true := by simp; omega
    rw [decide_eq_true c1, Bool.true_and]
    go_enter Try.func73, Try.ntmps73
    go_wp2_with (first | (go_at_call 113; refine (contains113 _ _ _ _ hr0 hc0).mono ?_; rintro e w1 ⟨rfl, hb⟩))
    go_ret
    exact ⟨by first | rfl | (simp; done), hb⟩
  · have c1a : decide ((l0.length : Int) ≤ (4 : Int)) = false := by simp; omega
    rw [decide_eq_false c1, Bool.false_and]
    go_enter Try.func73, Try.ntmps73
    go_wp2
    go_ret
    exact ⟨by first | rfl | (simp; done), Below.refl _ _⟩
def l06Are.f (l0 : List S31) : Option Bool := some (are l0)
set_option maxHeartbeats 4000000 in
set_option maxRecDepth 100000 in
theorem l06Are.calls (A0 : Option Addr) (c0 : Nat) (l0 : List S31) (r : Bool) (w : World) (hr0 : Kd.C k31 w A0 l0.length l0) (hc0 : l0.length ≤ c0) (h : l06Are.f l0 = some r) :
    Calls Try.prog 68 #[.slice A0 l0.length c0] w fun e w' => e = .returned (.bool r) ∧ Below w.heap.size w w' := by
  replace h := Option.some.inj h
  have HR0 := Aside0.mk hr0
  clear hr0
  have hmx : l0.length ≤ 9223372036854775807 := Kd.C_max HR0.out
  unfold are at h
  by_cases c1 : l0.length ≤ 4
  · have c1a : decide ((l0.length : Int) ≤ (4 : Int)) = true := by simp; omega
    rw [decide_eq_true c1, Bool.true_and] at h
    have HR := Aside0.mk h
    clear h
    go_enter Try.func68, Try.ntmps68
    go_wp2
    go_loopg [3] l0.length (fun kq v3 w' => ∃ (i : Nat), v3 = .int .i64 (i : Int) ∧ Aside0 (i + kq = l0.length) ∧ Aside0 ((!((l0.drop i).any fun x => !tis x)) = r) ∧ Aside0 (Below w.heap.size w w'))
    case atStart => exact ⟨0, rfl, ⟨by simp⟩, HR, ⟨Below.refl _ _⟩⟩
    case round =>
      clear HR
      obtain ⟨i, rfl, HI, HX, HB⟩ := hrel
      have hi := HI.out
      have hx0 := HX.out
      cases gk with
      | zero =>
        have hc : decide ((i : Int) < (l0.length : Int)) = false := by simp; omega
        rw [List.drop_eq_nil_of_le (by omega)] at hx0
        replace hx0 : true = r := hx0
        subst hx0
        go_wp2
        go_ret
        exact ⟨rfl, HB.out⟩
      | succ k1 =>
        have hil : i < l0.length := by omega
        have hc : decide ((i : Int) < (l0.length : Int)) = true := by simp; omega
        have p0 : (0 : Int) ≤ (i : Int) := by omega
        have q0 : (i : Int) < (l0.length : Int) := by omega
        obtain ⟨ad, Ae, ce, ead, hx_0, hx_1, hle, hCe⟩ := at_T31 HR0.out (i : Int) p0 q0
        cases ead
        replace hx_0 := (HB.out.cell (World.block_lt_of_cell? w _ hx_0)).trans hx_0
        replace hx_1 := (HB.out.cell (World.block_lt_of_cell? w _ hx_1)).trans hx_1
        have hCw := Kd.C_below hCe HB.out
        rw [Int.toNat_natCast] at hx_0 hx_1
        rw [show rd_T31 l0 (i : Int) = l0[i] by simp [rd_T31, hil]] at hx_0 hx_1 hle hCw
        rw [List.drop_eq_getElem_cons hil, List.any_cons] at hx0
        clear hCe
        generalize l0[i] = x at hx_0 hx_1 hx0 hle hCw
        have p0b := eq_true p0
        have q0b := eq_true q0
        cases e : tis x with
        | false =>
          rw [e] at hx0
          replace hx0 : false = r := by simpa using hx0
          subst hx0
          go_wp2_with (first | (go_at_call 41; refine (l06Is_at _ _ _ _ _ _ hx_0 hx_1 hle hCw _ e).mono ?_; rintro e w1 ⟨rfl, hb⟩))
          go_ret
          exact ⟨rfl, below_step HB.out hb⟩
        | true =>
          rw [e] at hx0
          replace hx0 : (!((l0.drop (i + 1)).any fun x => !tis x)) = r := by simpa using hx0
          go_wp2_with (first | (go_at_call 41; refine (l06Is_at _ _ _ _ _ _ hx_0 hx_1 hle hCw _ e).mono ?_; rintro e w1 ⟨rfl, hb⟩))
          go_roundg k1
          case measure => omega
          case rel => exact ⟨i + 1, rfl, ⟨by omega⟩, ⟨hx0⟩, ⟨below_step HB.out hb⟩⟩
  · have c1a : decide ((l0.length : Int) ≤ (4 : Int)) = false := by simp; omega
    rw [decide_eq_false c1, Bool.false_and] at h
    subst h
    have c3 : decide ((0 : Int) < (l0.length : Int)) = true := by simp; omega
    go_enter Try.func68, Try.ntmps68
    go_wp2
    go_loopg [3] 0 (fun kq v3 w' => v3 = .int .i64 0 ∧ Aside0 (Below w.heap.size w w'))
    case atStart => exact ⟨rfl, ⟨Below.refl _ _⟩⟩
    case round =>
      obtain ⟨rfl, HB⟩ := hrel
      go_wp2
      go_ret
      exact ⟨rfl, HB.out⟩
def ltz (x : Nat) : Bool := FloatKind.f32.format.order x 0 == some .lt
set_option maxHeartbeats 4000000 in
set_option maxRecDepth 100000 in
theorem lit117 (x : Nat) (w : World) : Calls Try.prog 117 #[.float .f32 x] w fun e w' => e = .returned (.bool (ltz x)) ∧ Drawn0 w w' := by
  unfold ltz
  go_enter Try.func117, Try.ntmps117
  go_wp2
  go_ret
  exact ⟨rfl, Drawn0.refl _⟩
set_option maxHeartbeats 4000000 in
set_option maxRecDepth 100000 in
theorem index133n (A : Option Addr) (c : Nat) (xs : List Nat) (r : Int) (hr : ix (fun x => ltz x) xs 0 = r) (w : World) (hr0 : Kd.C (Kd.float .f32) w A xs.length xs) (hc0 : xs.length ≤ c) :
    Calls Try.prog 133 #[.slice A xs.length c, .func (.func 117) #[] #[]] w fun e w' => e = .returned (.int .i64 r) ∧ Drawn0 w w' := by
  have HR0 := Aside0.mk hr0
  clear hr0
  have hmx : xs.length ≤ 9223372036854775807 := Kd.C_max HR0.out
  go_enter Try.func133, Try.ntmps133
  go_wp2
  go_loopg [8] xs.length (fun kq v8 w' => ∃ (i : Nat), v8 = .int .i64 (i : Int) ∧ Aside0 (i + kq = xs.length) ∧ Aside0 (ix (fun x => ltz x) (xs.drop i) (i : Int) = r) ∧ Drawn0 w w')
  case atStart => exact ⟨0, rfl, ⟨by simp⟩, ⟨hr⟩, Drawn0.refl _⟩
  case round =>
    obtain ⟨i, rfl, HI, HX, ⟨m, rfl⟩⟩ := hrel
    have hi := HI.out
    have hx0 := HX.out
    cases gk with
    | zero =>
      have hc : decide ((i : Int) < (xs.length : Int)) = false := by simp; omega
      rw [List.drop_eq_nil_of_le (by omega), ix] at hx0
      subst hx0
      go_wp2
      go_ret
      exact ⟨rfl, ⟨_, rfl⟩⟩
    | succ k1 =>
      have hil : i < xs.length := by omega
      have hc : decide ((i : Int) < (xs.length : Int)) = true := by simp; omega
      have p0 : (0 : Int) ≤ (i : Int) := by omega
      have q0 : (i : Int) < (xs.length : Int) := by omega
      obtain ⟨ad, ead, hx⟩ := Kd.at_float HR0.out (i : Int) p0 q0
      cases ead
      rw [Int.toNat_natCast, show rdOf (0 : Nat) xs (i : Int) = xs[i] by simp [rdOf, hil]] at hx
      rw [List.drop_eq_getElem_cons hil, ix] at hx0
      generalize xs[i] = x at hx hx0
      have p0b := eq_true p0
      have q0b := eq_true q0
      cases e : ltz x with
      | true =>
        rw [e, if_pos (by rfl)] at hx0
        subst hx0
        go_wp2_with (first | (go_at_call 117; refine (lit117 _ _).mono ?_; rw [e]; rintro e w1 ⟨rfl, ⟨nd, rfl⟩⟩))
        go_ret
        exact ⟨rfl, ⟨_, rfl⟩⟩
      | false =>
        rw [e, if_neg (by decide)] at hx0
        go_wp2_with (first | (go_at_call 117; refine (lit117 _ _).mono ?_; rw [e]; rintro e w1 ⟨rfl, ⟨nd, rfl⟩⟩))
        go_roundg k1
        case measure => omega
        case rel => exact ⟨i + 1, rfl, ⟨by omega⟩, ⟨hx0⟩, ⟨_, rfl⟩⟩
set_option maxHeartbeats 4000000 in
set_option maxRecDepth 100000 in
theorem contains116n (A : Option Addr) (c : Nat) (xs : List Nat) (w : World) (hr0 : Kd.C (Kd.float .f32) w A xs.length xs) (hc0 : xs.length ≤ c) :
    Calls Try.prog 116 #[.slice A xs.length c, .func (.func 117) #[] #[]] w fun e w' => e = .returned (.bool (xs.any fun x => ltz x)) ∧ Drawn0 w w' := by
  have hg := ix_ge (fun x => ltz x) xs 0 (Int.le_refl _)
  go_enter Try.func116, Try.ntmps116
  go_wp2_with (first | (go_at_call 133; refine (index133n _ _ _ _ rfl _ hr0 hc0).mono ?_; rintro e w1 ⟨rfl, ⟨nd, rfl⟩⟩))
  go_ret
  exact ⟨by first | rfl | (rw [← hg]; rfl), ⟨_, rfl⟩⟩
theorem geq_lt {x : Nat} (h : fin x = true) : ((FloatKind.f32.format.order x 0 == some .gt) || (FloatKind.f32.format.order x 0 == some .eq)) = !ltz x := by
  obtain ⟨s, m, e, hx⟩ := num_of_fin h
  unfold ltz Ieee.Format.order
  have h0 : FloatKind.f32.format.read 0 = .number false 0 (-149) := by decide
  rw [hx, h0]
  simp only [Ieee.Datum.order]
  cases compare (Ieee.signed s m (e - min e (-149)).toNat) (Ieee.signed false 0 (-149 - min e (-149)).toNat) <;> rfl
def level (x : Nat) : Bool := fin x && !ltz x
set_option maxHeartbeats 4000000 in
set_option maxRecDepth 100000 in
theorem least70 (x : Nat) (w : World) : Calls Try.prog 70 #[.float .f32 x] w fun e w' => e = .returned (.bool (level x)) ∧ Drawn0 w w' := by
  unfold level
  cases e1 : fin x with
  | false =>
    go_enter Try.func70, Try.ntmps70
    go_wp2_with (first | (go_at_call 58; refine (l01Finite.calls _ _ _ rfl).mono ?_; rw [e1]; rintro e w1 ⟨rfl, ⟨nd, rfl⟩⟩))
    go_ret
    exact ⟨rfl, ⟨_, rfl⟩⟩
  | true =>
    go_enter Try.func70, Try.ntmps70
    go_wp2_with (first | (go_at_call 58; refine (l01Finite.calls _ _ _ rfl).mono ?_; rw [e1]; rintro e w1 ⟨rfl, ⟨nd, rfl⟩⟩))
    go_ret
    exact ⟨by show Ending.returned (Value.bool _) = _; rw [geq_lt e1]; rfl, ⟨_, rfl⟩⟩
theorem vfin_E {v c : S46} (h : EV v c) : vfin c = vfin v := by
  unfold vfin
  rw [fin_E h.1, fin_E h.2.1, fin_E h.2.2]
theorem vE_fin {v c : S46} (h : EV v c) (hf : vfin v = true) : c = v := by
  unfold vfin at hf
  simp only [Bool.and_eq_true] at hf
  have k0 := E_fin h.1 hf.1
  have k1 := E_fin h.2.1 hf.2.1
  have k2 := E_fin h.2.2 hf.2.2
  cases v
  cases c
  simp only at k0 k1 k2
  rw [k0, k1, k2]
end XV
end Go.Proofs.Ytffofpiejcolfaa
end
section
set_option linter.unusedVariables false
set_option linter.unusedSimpArgs false
namespace Go.Proofs.Ytffofpiejcolfaa
open Go.RowKit Go.Proofs.YtffofpiejcolfaaW.PrintWords Go.Proofs.YtffofpiejcolfaaW.PrintLast Go.Proofs.YtffofpiejcolfaaW.PrintMore
attribute [local go_sem] max2_int min2_int max_two min_two max_three min_three max_four min_four
namespace XW
open XF XL XC XY XE XN XK XG XV L0 L3
def thr (l : List S31) (i : Nat) : S31 := rd_T31 l (i : Int)
def allI (at_ : S46) (core : Nat) (l : List S31) (i : Nat) (acc : S46) : S46 := opV .add acc (mulV (flowV at_ core (thr l i).f0) (ar .quo (thr l i).f1 1095307227))
def allV (at_ : S46) (core : Nat) (l : List S31) : S46 := iterV (allI at_ core l) l.length 0 ⟨0, 0, 0⟩
theorem quo_ok {x : Nat} (h : fin x = true) : fok .quo .f32 x 1095307227 = true ∧ fop .quo .f32 x 1095307227 = ar .quo x 1095307227 := by
  obtain ⟨s, m, e, hx⟩ := num_of_fin h
  have hc : ∃ n d, FloatKind.f32.format.read 1095307227 = .number false n d ∧ n ≠ 0 := ⟨_, _, rfl, by decide⟩
  obtain ⟨n, d, hc, hn⟩ := hc
  have hf : ∃ r, floatBits .quo .f32 x 1095307227 = some r := by
    unfold floatBits Ieee.Format.div
    rw [hx, hc]
    simp only [Ieee.Datum.quotient, if_neg hn, Option.map_some]
    exact ⟨_, rfl⟩
  obtain ⟨r, hr⟩ := hf
  refine ⟨(fok_of hr).1, ?_⟩
  unfold ar
  rw [hr, (fok_of hr).2]
  rfl
theorem thr_fin {l : List S31} (h : are l = true) (i : Nat) (hi : i < l.length) : (∀ k, k < (thr l i).f0.length → vfin (pt (thr l i).f0 k) = true) ∧ fin (thr l i).f1 = true := by
  have e : thr l i = l[i] := by simp [thr, rd_T31, hi]
  rw [e]
  unfold are at h
  simp only [Bool.and_eq_true, Bool.not_eq_true', List.any_eq_false] at h
  have ht := h.2 l[i] (List.getElem_mem hi)
  have ht2 : isThread l[i].f0 l[i].f1 = true := by simpa [tis] using ht
  unfold isThread at ht2
  simp only [Bool.and_eq_true, Bool.not_eq_true', List.any_eq_false] at ht2
  refine ⟨fun k hk => ?_, ht2.2.2.2⟩
  have e2 : pt l[i].f0 k = l[i].f0[k] := by simp [pt, rd_T46, hk]
  rw [e2]
  simpa using ht2.2.2.1 l[i].f0[k] (List.getElem_mem hk)
set_option maxHeartbeats 4000000 in
set_option maxRecDepth 100000 in
theorem flow77 (A : Option Addr) (c : Nat) (l : List S31) (at_ : S46) (core : Nat) (w : World) (hle : l.length ≤ c) (hC : Kd.C k31 w A l.length l) (hare : are l = true) (hat : vfin at_ = true) :
    Calls Try.prog 77 #[.slice A l.length c, vv at_, .float .f32 core] w fun e w' => ∃ v, e = .returned (vv v) ∧ EV (allV at_ core l) v ∧ Below w.heap.size w w' := by
  have hmx : l.length ≤ 9223372036854775807 := Kd.C_max hC
  have HC := Aside0.mk hC
  have HAR := Aside0.mk hare
  clear hC hare
  have hB := below_alloc (below_alloc (below_alloc (Below.refl w.heap.size w) (.cells #[.float .f32 at_.f0, .float .f32 at_.f1, .float .f32 at_.f2] 46 (0, 0))) (.cells #[.float .f32 0, .float .f32 0, .float .f32 0] 46 (0, 0))) (.cells #[.float .f32 0, .float .f32 0, .float .f32 0] 46 (0, 0))
  go_enter Try.func77, Try.ntmps77
  go_wp2
  have B4 : (((w.alloc (.cells #[.float .f32 at_.f0, .float .f32 at_.f1, .float .f32 at_.f2] 46 (0, 0))).alloc (.cells #[.float .f32 0, .float .f32 0, .float .f32 0] 46 (0, 0))).alloc (.cells #[.float .f32 0, .float .f32 0, .float .f32 0] 46 (0, 0))).heap[w.heap.size]? = some (.cells #[.float .f32 at_.f0, .float .f32 at_.f1, .float .f32 at_.f2] 46 (0, 0)) := blk_alloc (blk_alloc (heap_alloc_new _ _) _) _
  have B6 : (((w.alloc (.cells #[.float .f32 at_.f0, .float .f32 at_.f1, .float .f32 at_.f2] 46 (0, 0))).alloc (.cells #[.float .f32 0, .float .f32 0, .float .f32 0] 46 (0, 0))).alloc (.cells #[.float .f32 0, .float .f32 0, .float .f32 0] 46 (0, 0))).heap[w.heap.size + 1]? = some (.cells #[.float .f32 0, .float .f32 0, .float .f32 0] 46 (0, 0)) := blk_alloc (by simpa using heap_alloc_new (w.alloc (.cells #[.float .f32 at_.f0, .float .f32 at_.f1, .float .f32 at_.f2] 46 (0, 0))) (.cells #[.float .f32 0, .float .f32 0, .float .f32 0] 46 (0, 0))) _
  have B7 : (((w.alloc (.cells #[.float .f32 at_.f0, .float .f32 at_.f1, .float .f32 at_.f2] 46 (0, 0))).alloc (.cells #[.float .f32 0, .float .f32 0, .float .f32 0] 46 (0, 0))).alloc (.cells #[.float .f32 0, .float .f32 0, .float .f32 0] 46 (0, 0))).heap[w.heap.size + 2]? = some (.cells #[.float .f32 0, .float .f32 0, .float .f32 0] 46 (0, 0)) := by simpa using heap_alloc_new ((w.alloc (.cells #[.float .f32 at_.f0, .float .f32 at_.f1, .float .f32 at_.f2] 46 (0, 0))).alloc (.cells #[.float .f32 0, .float .f32 0, .float .f32 0] 46 (0, 0))) (.cells #[.float .f32 0, .float .f32 0, .float .f32 0] 46 (0, 0))
  go_loopg [12] l.length (fun kq v22 w' => ∃ (i : Nat) (v a : S46), v22 = .int .i64 (i : Int) ∧ Aside0 (i + kq = l.length) ∧ Aside0 (EV v a) ∧ Aside0 (iterV (allI at_ core l) kq i v = allV at_ core l) ∧ Aside0 (Below w.heap.size w w') ∧ Aside0 (w'.heap[w.heap.size]? = some (.cells #[.float .f32 at_.f0, .float .f32 at_.f1, .float .f32 at_.f2] 46 (0, 0))) ∧ Aside0 (w'.heap[w.heap.size + 1]? = some (.cells #[.float .f32 0, .float .f32 0, .float .f32 0] 46 (0, 0))) ∧ Aside0 (w'.heap[w.heap.size + 2]? = some (.cells #[.float .f32 a.f0, .float .f32 a.f1, .float .f32 a.f2] 46 (0, 0))))
  case atStart => exact ⟨0, ⟨0, 0, 0⟩, ⟨0, 0, 0⟩, rfl, ⟨by simp⟩, ⟨EV.refl _⟩, ⟨rfl⟩, ⟨hB⟩, ⟨B4⟩, ⟨B6⟩, ⟨B7⟩⟩
  case round =>
    clear B4 B6 B7 hB
    obtain ⟨i, v, a, rfl, HI, HA, HX, HBW, B4, B6, B7⟩ := hrel
    have hi := HI.out
    cases gk with
    | zero =>
      have hc : decide ((i : Int) < (l.length : Int)) = false := by simp; omega
      have hx0 := HX.out
      replace hx0 : v = allV at_ core l := hx0
      subst hx0
      have z0 : wr.cell? ⟨w.heap.size + 2, 0, none⟩ = some (.float .f32 a.f0) := (blk_cell B7.out 0).trans rfl
      have z1 : wr.cell? ⟨w.heap.size + 2, 1, none⟩ = some (.float .f32 a.f1) := (blk_cell B7.out 1).trans rfl
      have z2 : wr.cell? ⟨w.heap.size + 2, 2, none⟩ = some (.float .f32 a.f2) := (blk_cell B7.out 2).trans rfl
      have y0 : wr.cell? ⟨w.heap.size + 1, 0, none⟩ = some (.float .f32 0) := (blk_cell B6.out 0).trans rfl
      have y1 : wr.cell? ⟨w.heap.size + 1, 1, none⟩ = some (.float .f32 0) := (blk_cell B6.out 1).trans rfl
      have y2 : wr.cell? ⟨w.heap.size + 1, 2, none⟩ = some (.float .f32 0) := (blk_cell B6.out 2).trans rfl
      have hf0 := blk_frozen B6.out 0
      have hf1 := blk_frozen B6.out 1
      have hf2 := blk_frozen B6.out 2
      go_wp2
      refine bodyPost_ret (results_cell_row rfl _ _ (w.heap.size + 1) 46 #[.float .f32 a.f0, .float .f32 a.f1, .float .f32 a.f2] (0, 0) _ rfl (by
        refine blk_put (cs := #[.float .f32 a.f0, .float .f32 a.f1, .float .f32 0]) ?_ 2 _ rfl
        refine blk_put (cs := #[.float .f32 a.f0, .float .f32 0, .float .f32 0]) ?_ 1 _ rfl
        refine blk_put (cs := #[.float .f32 0, .float .f32 0, .float .f32 0]) ?_ 0 _ rfl
        exact B6.out) Try.underlying46 rfl (by kernel_rfl)) rfl ?_
      exact ⟨a, rfl, HA.out, below_set (below_set (below_set HBW.out (Nat.le_succ _)) (Nat.le_succ _)) (Nat.le_succ _)⟩
    | succ k1 =>
      have hil : i < l.length := by omega
      have hc : decide ((i : Int) < (l.length : Int)) = true := by simp; omega
      have hwi : wrap64 ((i : Int) + 1) = ((i + 1 : Nat) : Int) := by unfold wrap64; omega
      have hx0 := HX.out
      replace hx0 : iterV (allI at_ core l) k1 (i + 1) (allI at_ core l i v) = allV at_ core l := hx0
      have HX1 := Aside0.mk hx0
      clear hx0 HX
      obtain ⟨ad, Ae, ce, ead, hx_0, hx_1, hlx, hCe⟩ := at_T31 (Kd.C_below HC.out HBW.out) (i : Int) (by omega) (by omega)
      subst ead
      have hfx := thr_fin HAR.out i hil
      rw [Int.toNat_natCast] at hx_0 hx_1
      have hilI : (i : Int) < (l.length : Int) := by omega
      unfold allI at HX1
      change wr.cell? _ = some (.slice Ae (thr l i).f0.length ce) at hx_0
      change wr.cell? _ = some (.float .f32 (thr l i).f1) at hx_1
      change (thr l i).f0.length ≤ ce at hlx
      change Kd.C k46 wr Ae (thr l i).f0.length (thr l i).f0 at hCe
      generalize thr l i = x at hx_0 hx_1 hlx hCe hfx HX1
      have KCx := Aside0.mk hCe
      clear hCe
      obtain ⟨hq1, hq2⟩ := quo_ok hfx.2
      have HQ2 := Aside0.mk hq2
      clear hq2
      go_wp2
      have p0 : wr.cell? ⟨w.heap.size, 0, none⟩ = some (.float .f32 at_.f0) := (blk_cell B4.out 0).trans rfl
      have p1 : wr.cell? ⟨w.heap.size, 1, none⟩ = some (.float .f32 at_.f1) := (blk_cell B4.out 1).trans rfl
      have p2 : wr.cell? ⟨w.heap.size, 2, none⟩ = some (.float .f32 at_.f2) := (blk_cell B4.out 2).trans rfl
      have z0 : wr.cell? ⟨w.heap.size + 2, 0, none⟩ = some (.float .f32 a.f0) := (blk_cell B7.out 0).trans rfl
      have z1 : wr.cell? ⟨w.heap.size + 2, 1, none⟩ = some (.float .f32 a.f1) := (blk_cell B7.out 1).trans rfl
      have z2 : wr.cell? ⟨w.heap.size + 2, 2, none⟩ = some (.float .f32 a.f2) := (blk_cell B7.out 2).trans rfl
      refine start_ (n := 16) (S := fun w' => Below wr.heap.size wr w') (ds := [15]) #[false, false, false, false, false, false, false, false, false, false, false, false, false, false, false, false] (by kernel_rfl) rfl rfl (below_drew1 (Below.refl _ _)) (fun hHeld => ?_)
      refine pure_ (i := 1) (N := some 16) (v := ?_) (a' := ?_) #[false, true, false, false, false, false, false, false, false, false, false, false, false, false, false, false] rfl rfl (by kernel_rfl) (fun _ _ _ h => h) (Or.inl ⟨by rfl, ?_⟩) ?_ ?_
      rotate_left
      · intro w'
        go_simp
        with_reducible rfl
      rotate_left
      · simp only [Act.put, List.setIfInBounds_toArray, List.set_cons_zero, List.set_cons_succ, i64_w, i32_w]
        rfl
      refine pure_ (i := 2) (N := some 17) (v := ?_) (a' := ?_) #[false, true, true, false, false, false, false, false, false, false, false, false, false, false, false, false] rfl rfl (by kernel_rfl) (fun _ _ _ h => h) (Or.inl ⟨by rfl, ?_⟩) ?_ ?_
      rotate_left
      · intro w'
        go_simp
        with_reducible rfl
      rotate_left
      · simp only [Act.put, List.setIfInBounds_toArray, List.set_cons_zero, List.set_cons_succ, i64_w, i32_w]
        rfl
      refine pure_ (i := 3) (N := some 18) (v := ?_) (a' := ?_) #[false, true, true, true, false, false, false, false, false, false, false, false, false, false, false, false] rfl rfl (by kernel_rfl) (fun _ _ _ h => h) (Or.inl ⟨by rfl, ?_⟩) ?_ ?_
      rotate_left
      · intro w'
        go_simp
        with_reducible rfl
      rotate_left
      · simp only [Act.put, List.setIfInBounds_toArray, List.set_cons_zero, List.set_cons_succ, i64_w, i32_w]
        rfl
      refine pure_ (i := 5) (N := some 20) (v := ?_) (a' := ?_) #[false, true, true, true, false, true, false, false, false, false, false, false, false, false, false, false] rfl rfl (by kernel_rfl) (fun _ _ _ h => h) (Or.inl ⟨by rfl, ?_⟩) ?_ ?_
      rotate_left
      · intro w'
        go_simp
        with_reducible rfl
      rotate_left
      · simp only [Act.put, List.setIfInBounds_toArray, List.set_cons_zero, List.set_cons_succ, i64_w, i32_w]
        rfl
      refine pure_ (i := 7) (N := some 22) (v := ?_) (a' := ?_) #[false, true, true, true, false, true, false, true, false, false, false, false, false, false, false, false] rfl rfl (by kernel_rfl) (fun _ _ _ h => h) (Or.inl ⟨by rfl, ?_⟩) ?_ ?_
      rotate_left
      · intro w'
        go_simp
        with_reducible rfl
      rotate_left
      · simp only [Act.put, List.setIfInBounds_toArray, List.set_cons_zero, List.set_cons_succ, i64_w, i32_w]
        rfl
      refine pure_ (i := 8) (N := some 23) (v := ?_) (a' := ?_) #[false, true, true, true, false, true, false, true, true, false, false, false, false, false, false, false] rfl rfl (by kernel_rfl) (fun _ _ _ h => h) (Or.inl ⟨by rfl, ?_⟩) ?_ ?_
      rotate_left
      · intro w'
        go_simp
        with_reducible rfl
      rotate_left
      · simp only [Act.put, List.setIfInBounds_toArray, List.set_cons_zero, List.set_cons_succ, i64_w, i32_w]
        rfl
      refine pure_ (i := 9) (N := some 24) (v := ?_) (a' := ?_) #[false, true, true, true, false, true, false, true, true, true, false, false, false, false, false, false] rfl rfl (by kernel_rfl) (fun _ _ _ h => h) (Or.inl ⟨by rfl, ?_⟩) ?_ ?_
      rotate_left
      · intro w'
        go_simp
        with_reducible rfl
      rotate_left
      · simp only [Act.put, List.setIfInBounds_toArray, List.set_cons_zero, List.set_cons_succ, i64_w, i32_w]
        rfl
      refine pure_ (i := 10) (N := some 25) (v := ?_) (a' := ?_) #[false, true, true, true, false, true, false, true, true, true, true, false, false, false, false, false] rfl rfl (by kernel_rfl) (fun _ _ _ h => h) (Or.inl ⟨by rfl, ?_⟩) ?_ ?_
      rotate_left
      · intro w'
        go_simp
        with_reducible rfl
      rotate_left
      · simp only [Act.put, List.setIfInBounds_toArray, List.set_cons_zero, List.set_cons_succ, i64_w, i32_w]
        rfl
      refine take_ (i := 0) (N := some 15) (v := ?_) (a' := ?_) #[true, true, true, true, false, true, false, true, true, true, true, false, false, false, false, false] rfl rfl (by kernel_rfl) (fun _ _ _ h => h) (Or.inl ⟨by rfl, ?_⟩) hHeld ?_ ?_
      rotate_left
      · rintro w' s0
        have c0 := cell_b s0 z0
        have c1 := cell_b s0 z1
        have c2 := cell_b s0 z2
        go_simp
        with_reducible rfl
      rotate_left
      · simp only [Act.put, List.setIfInBounds_toArray, List.set_cons_zero, List.set_cons_succ, i64_w, i32_w]
        rfl
      refine take_ (i := 4) (N := some 19) (v := ?_) (a' := ?_) #[true, true, true, true, true, true, false, true, true, true, true, false, false, false, false, false] rfl rfl (by kernel_rfl) (fun _ _ _ h => h) (Or.inl ⟨by rfl, ?_⟩) hHeld ?_ ?_
      rotate_left
      · rintro w' s0
        have c0 := cell_b s0 p0
        have c1 := cell_b s0 p1
        have c2 := cell_b s0 p2
        go_simp
        with_reducible rfl
      rotate_left
      · simp only [Act.put, List.setIfInBounds_toArray, List.set_cons_zero, List.set_cons_succ, i64_w, i32_w]
        rfl
      refine take_ (i := 11) (N := some 26) (v := ?_) (a' := ?_) #[true, true, true, true, true, true, false, true, true, true, true, true, false, false, false, false] rfl rfl (by kernel_rfl) (fun _ _ _ h => h) (Or.inl ⟨by rfl, ?_⟩) hHeld ?_ ?_
      rotate_left
      · rintro w' s0
        have c0 := cell_b s0 hx_1
        go_simp
        with_reducible rfl
      rotate_left
      · simp only [Act.put, List.setIfInBounds_toArray, List.set_cons_zero, List.set_cons_succ, i64_w, i32_w]
        rfl
      refine pure_ (i := 12) (N := some 27) (v := ?_) (a' := ?_) #[true, true, true, true, true, true, false, true, true, true, true, true, true, false, false, false] rfl rfl (by kernel_rfl) (fun _ _ _ h => h) (Or.inl ⟨by rfl, ?_⟩) ?_ ?_
      rotate_left
      · intro w'
        go_simp
        with_reducible rfl
      rotate_left
      · simp only [Act.put, List.setIfInBounds_toArray, List.set_cons_zero, List.set_cons_succ, i64_w, i32_w]
        rfl
      refine one_ (i := 6) (N := some 21) #[true, true, true, true, true, true, true, true, true, true, true, true, true, false, false, false] rfl rfl (by kernel_rfl) (by decide) (fun K hK => ?_)
      refine goes_ Try.func118 (by kernel_rfl) rfl #[.pointer (some (ad.add (i * 2))), vv at_, .float .f32 core] (by rfl) rfl rfl (by (try simp only [List.map_toArray, List.map_cons, List.map_nil]); first | done | rfl) ?_
      refine (flow118 (ad.add (i * 2)) Ae ce x.f0 at_ core _ (cell_b (below_drew1 (Below.refl _ _)) hx_0) hlx (Kd.C_below KCx.out (below_drew1 (Below.refl _ _))) hfx.1 hat).mono ?_
      rintro e w1 ⟨fl, rfl, hfl, hb1⟩
      refine ⟨_, rfl, ?_⟩
      have L1 := Aside0.mk (below_step (below_drew1 (Below.refl wr.heap.size wr)) hb1)
      clear hb1
      refine hK.out _ _ L1.out (fun _ => ?_)
      clear hK K
      refine norm_ (a' := ?_) ?_ ?_
      rotate_left
      · show Act.put _ (some 21) _ = _
        simp only [Act.put, List.setIfInBounds_toArray, List.set_cons_zero, List.set_cons_succ]
        rfl
      refine one_ (i := 13) (N := some 28) #[true, true, true, true, true, true, true, true, true, true, true, true, true, true, false, false] rfl rfl (by kernel_rfl) (by decide) (fun K hK => ?_)
      refine goes_ Try.func107 (by kernel_rfl) rfl #[vv fl, .float .f32 (fop .quo .f32 x.f1 1095307227)] (by rfl) rfl rfl (by (try simp only [List.map_toArray, List.map_cons, List.map_nil]); first | done | rfl) ?_
      refine (scale107 _ fl _ _ hfl (E.refl _) _).mono ?_
      rintro e w2 ⟨sc, rfl, hsc, hb2⟩
      refine ⟨_, rfl, ?_⟩
      have L2 := Aside0.mk (below_step L1.out hb2)
      clear hb2
      refine hK.out _ _ L2.out (fun _ => ?_)
      clear hK K
      refine norm_ (a' := ?_) ?_ ?_
      rotate_left
      · show Act.put _ (some 28) _ = _
        simp only [Act.put, List.setIfInBounds_toArray, List.set_cons_zero, List.set_cons_succ]
        rfl
      refine one_ (i := 14) (N := some 29) #[true, true, true, true, true, true, true, true, true, true, true, true, true, true, true, false] rfl rfl (by kernel_rfl) (by decide) (fun K hK => ?_)
      refine goes_ Try.func108 (by kernel_rfl) rfl #[vv a, vv sc] (by rfl) rfl rfl (by (try simp only [List.map_toArray, List.map_cons, List.map_nil]); first | done | rfl) ?_
      refine (add108 _ _ a sc HA.out hsc _).mono ?_
      rintro e w3 ⟨nw, rfl, hnw, hb3⟩
      refine ⟨_, rfl, ?_⟩
      have L3 := Aside0.mk (below_step L2.out hb3)
      clear hb3
      refine hK.out _ _ L3.out (fun _ => ?_)
      clear hK K
      refine norm_ (a' := ?_) ?_ ?_
      rotate_left
      · show Act.put _ (some 29) _ = _
        simp only [Act.put, List.setIfInBounds_toArray, List.set_cons_zero, List.set_cons_succ]
        rfl
      have E4 := Aside0.mk (blk_below B4.out L3.out)
      have E6 := Aside0.mk (blk_below B6.out L3.out)
      have E7 := Aside0.mk (blk_below B7.out L3.out)
      have y0 : w3.cell? ⟨w.heap.size + 2, 0, none⟩ = some (.float .f32 a.f0) := (blk_cell E7.out 0).trans rfl
      have y1 : w3.cell? ⟨w.heap.size + 2, 1, none⟩ = some (.float .f32 a.f1) := (blk_cell E7.out 1).trans rfl
      have y2 : w3.cell? ⟨w.heap.size + 2, 2, none⟩ = some (.float .f32 a.f2) := (blk_cell E7.out 2).trans rfl
      have fy0 := blk_frozen E7.out 0
      have fy1 := blk_frozen E7.out 1
      have fy2 := blk_frozen E7.out 2
      refine last_ (i := 15) (N := none) #[true, true, true, true, true, true, true, true, true, true, true, true, true, true, true, true] rfl rfl (by kernel_rfl) (by decide) (fun K hK => ?_)
      refine skip_ (w1 := ?_) (by rfl) rfl ?_ ?_
      rotate_left
      · go_simp
        rfl
      refine hK.out _ _ ?_
      clear hK K
      refine done_ (by kernel_rfl) ?_
      go_wp2
      go_roundg k1
      case measure => omega
      case rel =>
        refine ⟨i + 1, _, nw, rfl, ⟨by omega⟩, ⟨?_⟩, HX1, ⟨?_⟩, ⟨?_⟩, ⟨?_⟩, ⟨?_⟩⟩
        · rw [← HQ2.out]
          exact hnw
        · have hle2 : w.heap.size ≤ w.heap.size + 2 := by omega
          exact below_set (below_set (below_set (below_step HBW.out L3.out) hle2) hle2) hle2
        · refine blk_far ?_ (by show w.heap.size ≠ w.heap.size + 2; omega) _
          refine blk_far ?_ (by show w.heap.size ≠ w.heap.size + 2; omega) _
          refine blk_far ?_ (by show w.heap.size ≠ w.heap.size + 2; omega) _
          exact E4.out
        · refine blk_far ?_ (by show w.heap.size + 1 ≠ w.heap.size + 2; omega) _
          refine blk_far ?_ (by show w.heap.size + 1 ≠ w.heap.size + 2; omega) _
          refine blk_far ?_ (by show w.heap.size + 1 ≠ w.heap.size + 2; omega) _
          exact E6.out
        · refine blk_put (cs := #[.float .f32 nw.f0, .float .f32 nw.f1, .float .f32 a.f2]) ?_ 2 _ rfl
          refine blk_put (cs := #[.float .f32 nw.f0, .float .f32 a.f1, .float .f32 a.f2]) ?_ 1 _ rfl
          refine blk_put (cs := #[.float .f32 a.f0, .float .f32 a.f1, .float .f32 a.f2]) ?_ 0 _ rfl
          exact E7.out
end XW
end Go.Proofs.Ytffofpiejcolfaa
end
section
set_option linter.unusedVariables false
set_option linter.unusedSimpArgs false
namespace Go.Proofs.Ytffofpiejcolfaa
open Go.RowKit Go.Proofs.YtffofpiejcolfaaW.PrintWords Go.Proofs.YtffofpiejcolfaaW.PrintLast Go.Proofs.YtffofpiejcolfaaW.PrintMore
attribute [local go_sem] max2_int min2_int max_two min_two max_three min_three max_four min_four
namespace XW
open XF XL XC XY XE XN XK XG XV L0 L3
set_option maxHeartbeats 4000000 in
set_option maxRecDepth 100000 in
theorem flow72 (A : Option Addr) (c : Nat) (l : List S31) (at_ : S46) (core : Nat) (w : World) (hle : l.length ≤ c) (hC : Kd.C k31 w A l.length l) (hare : are l = true) (hat : vfin at_ = true) :
    Calls Try.prog 72 #[.slice A l.length c, vv at_, .float .f32 core] w fun e w' => ∃ v, e = .returned (vv v) ∧ EV (allV at_ core l) v ∧ Below w.heap.size w w' := by
  have hmx : l.length ≤ 9223372036854775807 := Kd.C_max hC
  have HC := Aside0.mk hC
  have HAR := Aside0.mk hare
  clear hC hare
  have hB := below_alloc (below_alloc (below_alloc (Below.refl w.heap.size w) (.cells #[.float .f32 at_.f0, .float .f32 at_.f1, .float .f32 at_.f2] 46 (0, 0))) (.cells #[.float .f32 0, .float .f32 0, .float .f32 0] 46 (0, 0))) (.cells #[.float .f32 0, .float .f32 0, .float .f32 0] 46 (0, 0))
  go_enter Try.func72, Try.ntmps72
  go_wp2
  have B4 : (((w.alloc (.cells #[.float .f32 at_.f0, .float .f32 at_.f1, .float .f32 at_.f2] 46 (0, 0))).alloc (.cells #[.float .f32 0, .float .f32 0, .float .f32 0] 46 (0, 0))).alloc (.cells #[.float .f32 0, .float .f32 0, .float .f32 0] 46 (0, 0))).heap[w.heap.size]? = some (.cells #[.float .f32 at_.f0, .float .f32 at_.f1, .float .f32 at_.f2] 46 (0, 0)) := blk_alloc (blk_alloc (heap_alloc_new _ _) _) _
  have B6 : (((w.alloc (.cells #[.float .f32 at_.f0, .float .f32 at_.f1, .float .f32 at_.f2] 46 (0, 0))).alloc (.cells #[.float .f32 0, .float .f32 0, .float .f32 0] 46 (0, 0))).alloc (.cells #[.float .f32 0, .float .f32 0, .float .f32 0] 46 (0, 0))).heap[w.heap.size + 1]? = some (.cells #[.float .f32 0, .float .f32 0, .float .f32 0] 46 (0, 0)) := blk_alloc (by simpa using heap_alloc_new (w.alloc (.cells #[.float .f32 at_.f0, .float .f32 at_.f1, .float .f32 at_.f2] 46 (0, 0))) (.cells #[.float .f32 0, .float .f32 0, .float .f32 0] 46 (0, 0))) _
  have B7 : (((w.alloc (.cells #[.float .f32 at_.f0, .float .f32 at_.f1, .float .f32 at_.f2] 46 (0, 0))).alloc (.cells #[.float .f32 0, .float .f32 0, .float .f32 0] 46 (0, 0))).alloc (.cells #[.float .f32 0, .float .f32 0, .float .f32 0] 46 (0, 0))).heap[w.heap.size + 2]? = some (.cells #[.float .f32 0, .float .f32 0, .float .f32 0] 46 (0, 0)) := by simpa using heap_alloc_new ((w.alloc (.cells #[.float .f32 at_.f0, .float .f32 at_.f1, .float .f32 at_.f2] 46 (0, 0))).alloc (.cells #[.float .f32 0, .float .f32 0, .float .f32 0] 46 (0, 0))) (.cells #[.float .f32 0, .float .f32 0, .float .f32 0] 46 (0, 0))
  go_loopg [8] l.length (fun kq v22 w' => ∃ (i : Nat) (v a : S46), v22 = .int .i64 (i : Int) ∧ Aside0 (i + kq = l.length) ∧ Aside0 (EV v a) ∧ Aside0 (iterV (allI at_ core l) kq i v = allV at_ core l) ∧ Aside0 (Below w.heap.size w w') ∧ Aside0 (w'.heap[w.heap.size]? = some (.cells #[.float .f32 at_.f0, .float .f32 at_.f1, .float .f32 at_.f2] 46 (0, 0))) ∧ Aside0 (w'.heap[w.heap.size + 1]? = some (.cells #[.float .f32 0, .float .f32 0, .float .f32 0] 46 (0, 0))) ∧ Aside0 (w'.heap[w.heap.size + 2]? = some (.cells #[.float .f32 a.f0, .float .f32 a.f1, .float .f32 a.f2] 46 (0, 0))))
  case atStart => exact ⟨0, ⟨0, 0, 0⟩, ⟨0, 0, 0⟩, rfl, ⟨by simp⟩, ⟨EV.refl _⟩, ⟨rfl⟩, ⟨hB⟩, ⟨B4⟩, ⟨B6⟩, ⟨B7⟩⟩
  case round =>
    clear B4 B6 B7 hB
    obtain ⟨i, v, a, rfl, HI, HA, HX, HBW, B4, B6, B7⟩ := hrel
    have hi := HI.out
    cases gk with
    | zero =>
      have hc : decide ((i : Int) < (l.length : Int)) = false := by simp; omega
      have hx0 := HX.out
      replace hx0 : v = allV at_ core l := hx0
      subst hx0
      have z0 : wr.cell? ⟨w.heap.size + 2, 0, none⟩ = some (.float .f32 a.f0) := (blk_cell B7.out 0).trans rfl
      have z1 : wr.cell? ⟨w.heap.size + 2, 1, none⟩ = some (.float .f32 a.f1) := (blk_cell B7.out 1).trans rfl
      have z2 : wr.cell? ⟨w.heap.size + 2, 2, none⟩ = some (.float .f32 a.f2) := (blk_cell B7.out 2).trans rfl
      have y0 : wr.cell? ⟨w.heap.size + 1, 0, none⟩ = some (.float .f32 0) := (blk_cell B6.out 0).trans rfl
      have y1 : wr.cell? ⟨w.heap.size + 1, 1, none⟩ = some (.float .f32 0) := (blk_cell B6.out 1).trans rfl
      have y2 : wr.cell? ⟨w.heap.size + 1, 2, none⟩ = some (.float .f32 0) := (blk_cell B6.out 2).trans rfl
      have hf0 := blk_frozen B6.out 0
      have hf1 := blk_frozen B6.out 1
      have hf2 := blk_frozen B6.out 2
      go_wp2
      refine bodyPost_ret (results_cell_row rfl _ _ (w.heap.size + 1) 46 #[.float .f32 a.f0, .float .f32 a.f1, .float .f32 a.f2] (0, 0) _ rfl (by
        refine blk_put (cs := #[.float .f32 a.f0, .float .f32 a.f1, .float .f32 0]) ?_ 2 _ rfl
        refine blk_put (cs := #[.float .f32 a.f0, .float .f32 0, .float .f32 0]) ?_ 1 _ rfl
        refine blk_put (cs := #[.float .f32 0, .float .f32 0, .float .f32 0]) ?_ 0 _ rfl
        exact B6.out) Try.underlying46 rfl (by kernel_rfl)) rfl ?_
      exact ⟨a, rfl, HA.out, below_set (below_set (below_set HBW.out (Nat.le_succ _)) (Nat.le_succ _)) (Nat.le_succ _)⟩
    | succ k1 =>
      have hil : i < l.length := by omega
      have hc : decide ((i : Int) < (l.length : Int)) = true := by simp; omega
      have hwi : wrap64 ((i : Int) + 1) = ((i + 1 : Nat) : Int) := by unfold wrap64; omega
      have hx0 := HX.out
      replace hx0 : iterV (allI at_ core l) k1 (i + 1) (allI at_ core l i v) = allV at_ core l := hx0
      have HX1 := Aside0.mk hx0
      clear hx0 HX
      obtain ⟨ad, Ae, ce, ead, hx_0, hx_1, hlx, hCe⟩ := at_T31 (Kd.C_below HC.out HBW.out) (i : Int) (by omega) (by omega)
      subst ead
      have hfx := thr_fin HAR.out i hil
      rw [Int.toNat_natCast] at hx_0 hx_1
      have hilI : (i : Int) < (l.length : Int) := by omega
      unfold allI at HX1
      change wr.cell? _ = some (.slice Ae (thr l i).f0.length ce) at hx_0
      change wr.cell? _ = some (.float .f32 (thr l i).f1) at hx_1
      change (thr l i).f0.length ≤ ce at hlx
      change Kd.C k46 wr Ae (thr l i).f0.length (thr l i).f0 at hCe
      generalize thr l i = x at hx_0 hx_1 hlx hCe hfx HX1
      have KCx := Aside0.mk hCe
      clear hCe
      obtain ⟨hq1, hq2⟩ := quo_ok hfx.2
      have HQ2 := Aside0.mk hq2
      clear hq2
      obtain ⟨wo, rfl⟩ : ∃ wo, wo = wr := ⟨_, rfl⟩
      go_wp2
      go_loopg [11] x.f0.length (fun kq v11 w' => ∃ (k : Nat) (v2 a2 : S46), v11 = .int .i64 (k : Int) ∧ Aside0 (k + kq = x.f0.length) ∧ Aside0 (EV v2 a2) ∧ Aside0 (iterV (flowI at_ core x.f0) kq k v2 = flowV at_ core x.f0) ∧ Aside0 (Below wo.heap.size wo w') ∧ Aside0 (w'.heap[wo.heap.size]? = some (.cells #[.float .f32 a2.f0, .float .f32 a2.f1, .float .f32 a2.f2] 46 (0, 0))))
      case atStart => exact ⟨0, ⟨0, 0, 0⟩, ⟨0, 0, 0⟩, rfl, ⟨by simp⟩, ⟨EV.refl _⟩, ⟨rfl⟩, ⟨below_alloc (Below.refl _ _) _⟩, ⟨heap_alloc_new _ _⟩⟩
      case round =>
        obtain ⟨k, v2, a2, rfl, HK, HA2, HY, HZ, B10⟩ := hrel
        have hk := HK.out
        obtain ⟨wi, rfl⟩ : ∃ wi, wi = wr := ⟨_, rfl⟩
        have f0 := cell_b HZ.out hx_0
        have hmx2 : x.f0.length ≤ 9223372036854775807 := Kd.C_max KCx.out
        cases gk with
        | zero =>
          have hck : decide ((k : Int) < (x.f0.length : Int)) = false := by simp; omega
          have hy0 := HY.out
          replace hy0 : v2 = flowV at_ core x.f0 := hy0
          subst hy0
          go_wp2
          have z0 : wi.cell? ⟨w.heap.size + 2, 0, none⟩ = some (.float .f32 a.f0) := (blk_cell (blk_below B7.out HZ.out) 0).trans rfl
          have z1 : wi.cell? ⟨w.heap.size + 2, 1, none⟩ = some (.float .f32 a.f1) := (blk_cell (blk_below B7.out HZ.out) 1).trans rfl
          have z2 : wi.cell? ⟨w.heap.size + 2, 2, none⟩ = some (.float .f32 a.f2) := (blk_cell (blk_below B7.out HZ.out) 2).trans rfl
          have y0 : wi.cell? ⟨wo.heap.size, 0, none⟩ = some (.float .f32 a2.f0) := (blk_cell B10.out 0).trans rfl
          have y1 : wi.cell? ⟨wo.heap.size, 1, none⟩ = some (.float .f32 a2.f1) := (blk_cell B10.out 1).trans rfl
          have y2 : wi.cell? ⟨wo.heap.size, 2, none⟩ = some (.float .f32 a2.f2) := (blk_cell B10.out 2).trans rfl
          have hx1 := cell_b HZ.out hx_1
          refine start_ (n := 10) (S := fun w' => Below wi.heap.size wi w') (ds := [9]) #[false, false, false, false, false, false, false, false, false, false] (by kernel_rfl) rfl rfl (below_drew1 (Below.refl _ _)) (fun hHeld => ?_)
          refine pure_ (i := 2) (N := some 85) (v := ?_) (a' := ?_) #[false, false, true, false, false, false, false, false, false, false] rfl rfl (by kernel_rfl) (fun _ _ _ h => h) (Or.inl ⟨by rfl, ?_⟩) ?_ ?_
          rotate_left
          · intro w'
            go_simp
            with_reducible rfl
          rotate_left
          · simp only [Act.put, List.setIfInBounds_toArray, List.set_cons_zero, List.set_cons_succ, i64_w, i32_w]
            rfl
          refine pure_ (i := 3) (N := some 86) (v := ?_) (a' := ?_) #[false, false, true, true, false, false, false, false, false, false] rfl rfl (by kernel_rfl) (fun _ _ _ h => h) (Or.inl ⟨by rfl, ?_⟩) ?_ ?_
          rotate_left
          · intro w'
            go_simp
            with_reducible rfl
          rotate_left
          · simp only [Act.put, List.setIfInBounds_toArray, List.set_cons_zero, List.set_cons_succ, i64_w, i32_w]
            rfl
          refine pure_ (i := 4) (N := some 87) (v := ?_) (a' := ?_) #[false, false, true, true, true, false, false, false, false, false] rfl rfl (by kernel_rfl) (fun _ _ _ h => h) (Or.inl ⟨by rfl, ?_⟩) ?_ ?_
          rotate_left
          · intro w'
            go_simp
            with_reducible rfl
          rotate_left
          · simp only [Act.put, List.setIfInBounds_toArray, List.set_cons_zero, List.set_cons_succ, i64_w, i32_w]
            rfl
          refine take_ (i := 0) (N := some 83) (v := ?_) (a' := ?_) #[true, false, true, true, true, false, false, false, false, false] rfl rfl (by kernel_rfl) (fun _ _ _ h => h) (Or.inl ⟨by rfl, ?_⟩) hHeld ?_ ?_
          rotate_left
          · rintro w' s0
            have c0 := cell_b s0 z0
            have c1 := cell_b s0 z1
            have c2 := cell_b s0 z2
            go_simp
            with_reducible rfl
          rotate_left
          · simp only [Act.put, List.setIfInBounds_toArray, List.set_cons_zero, List.set_cons_succ, i64_w, i32_w]
            rfl
          refine take_ (i := 1) (N := some 84) (v := ?_) (a' := ?_) #[true, true, true, true, true, false, false, false, false, false] rfl rfl (by kernel_rfl) (fun _ _ _ h => h) (Or.inl ⟨by rfl, ?_⟩) hHeld ?_ ?_
          rotate_left
          · rintro w' s0
            have c0 := cell_b s0 y0
            have c1 := cell_b s0 y1
            have c2 := cell_b s0 y2
            go_simp
            with_reducible rfl
          rotate_left
          · simp only [Act.put, List.setIfInBounds_toArray, List.set_cons_zero, List.set_cons_succ, i64_w, i32_w]
            rfl
          refine take_ (i := 5) (N := some 88) (v := ?_) (a' := ?_) #[true, true, true, true, true, true, false, false, false, false] rfl rfl (by kernel_rfl) (fun _ _ _ h => h) (Or.inl ⟨by rfl, ?_⟩) hHeld ?_ ?_
          rotate_left
          · rintro w' s0
            have c0 := cell_b s0 hx1
            go_simp
            with_reducible rfl
          rotate_left
          · simp only [Act.put, List.setIfInBounds_toArray, List.set_cons_zero, List.set_cons_succ, i64_w, i32_w]
            rfl
          refine pure_ (i := 6) (N := some 89) (v := ?_) (a' := ?_) #[true, true, true, true, true, true, true, false, false, false] rfl rfl (by kernel_rfl) (fun _ _ _ h => h) (Or.inl ⟨by rfl, ?_⟩) ?_ ?_
          rotate_left
          · intro w'
            go_simp
            with_reducible rfl
          rotate_left
          · simp only [Act.put, List.setIfInBounds_toArray, List.set_cons_zero, List.set_cons_succ, i64_w, i32_w]
            rfl
          refine one_ (i := 7) (N := some 90) #[true, true, true, true, true, true, true, true, false, false] rfl rfl (by kernel_rfl) (by decide) (fun K hK => ?_)
          refine goes_ Try.func83 (by kernel_rfl) rfl #[vv a2, .float .f32 (fop .quo .f32 x.f1 1095307227)] (by rfl) rfl rfl (by (try simp only [List.map_toArray, List.map_cons, List.map_nil]); first | done | rfl) ?_
          refine (scale83 _ a2 _ _ HA2.out (E.refl _) _).mono ?_
          rintro e w2 ⟨sc, rfl, hsc, hb2⟩
          refine ⟨_, rfl, ?_⟩
          have L2 := Aside0.mk (below_step (below_drew1 (Below.refl wi.heap.size wi)) hb2)
          clear hb2
          refine hK.out _ _ L2.out (fun _ => ?_)
          clear hK K
          refine norm_ (a' := ?_) ?_ ?_
          rotate_left
          · show Act.put _ (some 90) _ = _
            simp only [Act.put, List.setIfInBounds_toArray, List.set_cons_zero, List.set_cons_succ]
            rfl
          refine one_ (i := 8) (N := some 91) #[true, true, true, true, true, true, true, true, true, false] rfl rfl (by kernel_rfl) (by decide) (fun K hK => ?_)
          refine goes_ Try.func82 (by kernel_rfl) rfl #[vv a, vv sc] (by rfl) rfl rfl (by (try simp only [List.map_toArray, List.map_cons, List.map_nil]); first | done | rfl) ?_
          refine (add82 _ _ a sc HA.out hsc _).mono ?_
          rintro e w3 ⟨nw, rfl, hnw, hb3⟩
          refine ⟨_, rfl, ?_⟩
          have L3 := Aside0.mk (below_step L2.out hb3)
          clear hb3
          refine hK.out _ _ L3.out (fun _ => ?_)
          clear hK K
          refine norm_ (a' := ?_) ?_ ?_
          rotate_left
          · show Act.put _ (some 91) _ = _
            simp only [Act.put, List.setIfInBounds_toArray, List.set_cons_zero, List.set_cons_succ]
            rfl
          have E4 := Aside0.mk (blk_below B4.out (below_step HZ.out L3.out))
          have E6 := Aside0.mk (blk_below B6.out (below_step HZ.out L3.out))
          have E7 := Aside0.mk (blk_below B7.out (below_step HZ.out L3.out))
          have y0 : w3.cell? ⟨w.heap.size + 2, 0, none⟩ = some (.float .f32 a.f0) := (blk_cell E7.out 0).trans rfl
          have y1 : w3.cell? ⟨w.heap.size + 2, 1, none⟩ = some (.float .f32 a.f1) := (blk_cell E7.out 1).trans rfl
          have y2 : w3.cell? ⟨w.heap.size + 2, 2, none⟩ = some (.float .f32 a.f2) := (blk_cell E7.out 2).trans rfl
          have fy0 := blk_frozen E7.out 0
          have fy1 := blk_frozen E7.out 1
          have fy2 := blk_frozen E7.out 2
          refine last_ (i := 9) (N := none) #[true, true, true, true, true, true, true, true, true, true] rfl rfl (by kernel_rfl) (by decide) (fun K hK => ?_)
          refine skip_ (w1 := ?_) (by rfl) rfl ?_ ?_
          rotate_left
          · go_simp
            rfl
          refine hK.out _ _ ?_
          clear hK K
          refine done_ (by kernel_rfl) ?_
          go_wp2
          go_roundg k1
          case measure => omega
          case rel =>
            refine ⟨i + 1, _, nw, rfl, ⟨by omega⟩, ⟨?_⟩, HX1, ⟨?_⟩, ⟨?_⟩, ⟨?_⟩, ⟨?_⟩⟩
            · rw [← HQ2.out]
              exact hnw
            · have hle2 : w.heap.size ≤ w.heap.size + 2 := by omega
              exact below_set (below_set (below_set (below_step HBW.out (below_step HZ.out L3.out)) hle2) hle2) hle2
            · refine blk_far ?_ (by show w.heap.size ≠ w.heap.size + 2; omega) _
              refine blk_far ?_ (by show w.heap.size ≠ w.heap.size + 2; omega) _
              refine blk_far ?_ (by show w.heap.size ≠ w.heap.size + 2; omega) _
              exact E4.out
            · refine blk_far ?_ (by show w.heap.size + 1 ≠ w.heap.size + 2; omega) _
              refine blk_far ?_ (by show w.heap.size + 1 ≠ w.heap.size + 2; omega) _
              refine blk_far ?_ (by show w.heap.size + 1 ≠ w.heap.size + 2; omega) _
              exact E6.out
            · refine blk_put (cs := #[.float .f32 nw.f0, .float .f32 nw.f1, .float .f32 a.f2]) ?_ 2 _ rfl
              refine blk_put (cs := #[.float .f32 nw.f0, .float .f32 a.f1, .float .f32 a.f2]) ?_ 1 _ rfl
              refine blk_put (cs := #[.float .f32 a.f0, .float .f32 a.f1, .float .f32 a.f2]) ?_ 0 _ rfl
              exact E7.out
        | succ k2 =>
          have hkl : k < x.f0.length := by omega
          have hck : decide ((k : Int) < (x.f0.length : Int)) = true := by simp; omega
          have hwk : wrap64 ((k : Int) + 1) = ((k + 1 : Nat) : Int) := by unfold wrap64; omega
          have hy0 := HY.out
          replace hy0 : iterV (flowI at_ core x.f0) k2 (k + 1) (flowI at_ core x.f0 k v2) = flowV at_ core x.f0 := hy0
          have HY1 := Aside0.mk hy0
          clear hy0 HY
          have hfx1 := hfx.1 k hkl
          have hfy1 := hfx.1 ((k + 1) % x.f0.length) (Nat.mod_lt _ (by omega))
          obtain ⟨x1, hx1⟩ : ∃ x1, rd_T46 x.f0 (k : Int) = x1 := ⟨_, rfl⟩
          obtain ⟨y1, hy1⟩ : ∃ y1, rd_T46 x.f0 (((k + 1) % x.f0.length : Nat) : Int) = y1 := ⟨_, rfl⟩
          have HX1r : Aside0 (pt x.f0 k = x1) := ⟨hx1⟩
          have HY1r : Aside0 (nx x.f0 k = y1) := ⟨hy1⟩
          change vfin (rd_T46 x.f0 (k : Int)) = true at hfx1
          change vfin (rd_T46 x.f0 (((k + 1) % x.f0.length : Nat) : Int)) = true at hfy1
          rw [hx1] at hfx1
          rw [hy1] at hfy1
          cases hgt : (FloatKind.f32.format.order (dnV (opV .sub at_ x1) (opV .sub at_ y1) core) 0 == some .gt) with
          | false =>
            have HG0 := Aside0.mk hgt
            clear hgt
            go_wp2_with (first | (go_at_call 80; (with_reducible refine (ends80 (ad.add (i * 2)) Ae ce x.f0 k ((k + 1) % x.f0.length) _ f0 hlx (Kd.C_below KCx.out HZ.out) hkl rfl x1 y1 hx1 hy1).mono ?_); rintro e w3 ⟨rfl, hb3⟩; have H3 := Aside0.mk (below_alloc (below_alloc (below_step HZ.out hb3) (.cells #[.float .f32 x1.f0, .float .f32 x1.f1, .float .f32 x1.f2] 46 (0, 0))) (.cells #[.float .f32 y1.f0, .float .f32 y1.f1, .float .f32 y1.f2] 46 (0, 0))); have D10a := Aside0.mk (blk_alloc (blk_alloc (blk_below B10.out hb3) (.cells #[.float .f32 x1.f0, .float .f32 x1.f1, .float .f32 x1.f2] 46 (0, 0))) (.cells #[.float .f32 y1.f0, .float .f32 y1.f1, .float .f32 y1.f2] 46 (0, 0))); have EX := Aside0.mk (blk_alloc (heap_alloc_new w3 (.cells #[.float .f32 x1.f0, .float .f32 x1.f1, .float .f32 x1.f2] 46 (0, 0))) (.cells #[.float .f32 y1.f0, .float .f32 y1.f1, .float .f32 y1.f2] 46 (0, 0))); have EY := Aside0.mk (heap_two w3 (.cells #[.float .f32 x1.f0, .float .f32 x1.f1, .float .f32 x1.f2] 46 (0, 0)) (.cells #[.float .f32 y1.f0, .float .f32 y1.f1, .float .f32 y1.f2] 46 (0, 0))); clear hb3 f0; have p0 : ((w3.alloc (.cells #[.float .f32 x1.f0, .float .f32 x1.f1, .float .f32 x1.f2] 46 (0, 0))).alloc (.cells #[.float .f32 y1.f0, .float .f32 y1.f1, .float .f32 y1.f2] 46 (0, 0))).cell? ⟨w.heap.size, 0, none⟩ = some (.float .f32 at_.f0) := (blk_cell (blk_below B4.out H3.out) 0).trans rfl; have p1 : ((w3.alloc (.cells #[.float .f32 x1.f0, .float .f32 x1.f1, .float .f32 x1.f2] 46 (0, 0))).alloc (.cells #[.float .f32 y1.f0, .float .f32 y1.f1, .float .f32 y1.f2] 46 (0, 0))).cell? ⟨w.heap.size, 1, none⟩ = some (.float .f32 at_.f1) := (blk_cell (blk_below B4.out H3.out) 1).trans rfl; have p2 : ((w3.alloc (.cells #[.float .f32 x1.f0, .float .f32 x1.f1, .float .f32 x1.f2] 46 (0, 0))).alloc (.cells #[.float .f32 y1.f0, .float .f32 y1.f1, .float .f32 y1.f2] 46 (0, 0))).cell? ⟨w.heap.size, 2, none⟩ = some (.float .f32 at_.f2) := (blk_cell (blk_below B4.out H3.out) 2).trans rfl; skip) | (go_at_call 54; have _m := H4; clear _m; refine (less54 at_ y1 at_ y1 (EV.refl _) (EV.refl _) _).mono ?_; rintro e w5 ⟨t, rfl, ht, hb5⟩; have HT := Aside0.mk (EV_is ht (sub_v hat hfy1)); have H5 := Aside0.mk (below_alloc (below_step H4.out hb5) (.cells #[.float .f32 t.f0, .float .f32 t.f1, .float .f32 t.f2] 46 (0, 0))); have ER5 := Aside0.mk (blk_alloc (blk_below ER.out hb5) (.cells #[.float .f32 t.f0, .float .f32 t.f1, .float .f32 t.f2] 46 (0, 0))); have D10c := Aside0.mk (blk_alloc (blk_below D10b.out hb5) (.cells #[.float .f32 t.f0, .float .f32 t.f1, .float .f32 t.f2] 46 (0, 0))); have ES := Aside0.mk (heap_alloc_new w5 (.cells #[.float .f32 t.f0, .float .f32 t.f1, .float .f32 t.f2] 46 (0, 0))); clear ht hb5 p0 p1 p2 q0 q1 q2 EY4 ER D10b; have u0 : (w5.alloc (.cells #[.float .f32 t.f0, .float .f32 t.f1, .float .f32 t.f2] 46 (0, 0))).cell? ⟨w4.heap.size, 0, none⟩ = some (.float .f32 r.f0) := (blk_cell ER5.out 0).trans rfl; have u1 : (w5.alloc (.cells #[.float .f32 t.f0, .float .f32 t.f1, .float .f32 t.f2] 46 (0, 0))).cell? ⟨w4.heap.size, 1, none⟩ = some (.float .f32 r.f1) := (blk_cell ER5.out 1).trans rfl; have u2 : (w5.alloc (.cells #[.float .f32 t.f0, .float .f32 t.f1, .float .f32 t.f2] 46 (0, 0))).cell? ⟨w4.heap.size, 2, none⟩ = some (.float .f32 r.f2) := (blk_cell ER5.out 2).trans rfl; skip) | (go_at_call 54; refine (less54 at_ x1 at_ x1 (EV.refl _) (EV.refl _) _).mono ?_; rintro e w4 ⟨r, rfl, hr, hb4⟩; have HR := Aside0.mk (EV_is hr (sub_v hat hfx1)); have H4 := Aside0.mk (below_alloc (below_step H3.out hb4) (.cells #[.float .f32 r.f0, .float .f32 r.f1, .float .f32 r.f2] 46 (0, 0))); have EY4 := Aside0.mk (blk_alloc (blk_below EY.out hb4) (.cells #[.float .f32 r.f0, .float .f32 r.f1, .float .f32 r.f2] 46 (0, 0))); have D10b := Aside0.mk (blk_alloc (blk_below D10a.out hb4) (.cells #[.float .f32 r.f0, .float .f32 r.f1, .float .f32 r.f2] 46 (0, 0))); have ER := Aside0.mk (heap_alloc_new w4 (.cells #[.float .f32 r.f0, .float .f32 r.f1, .float .f32 r.f2] 46 (0, 0))); clear hr hb4 p0 p1 p2 EX EY D10a; have p0 : (w4.alloc (.cells #[.float .f32 r.f0, .float .f32 r.f1, .float .f32 r.f2] 46 (0, 0))).cell? ⟨w.heap.size, 0, none⟩ = some (.float .f32 at_.f0) := (blk_cell (blk_below B4.out H4.out) 0).trans rfl; have p1 : (w4.alloc (.cells #[.float .f32 r.f0, .float .f32 r.f1, .float .f32 r.f2] 46 (0, 0))).cell? ⟨w.heap.size, 1, none⟩ = some (.float .f32 at_.f1) := (blk_cell (blk_below B4.out H4.out) 1).trans rfl; have p2 : (w4.alloc (.cells #[.float .f32 r.f0, .float .f32 r.f1, .float .f32 r.f2] 46 (0, 0))).cell? ⟨w.heap.size, 2, none⟩ = some (.float .f32 at_.f2) := (blk_cell (blk_below B4.out H4.out) 2).trans rfl; have q0 : (w4.alloc (.cells #[.float .f32 r.f0, .float .f32 r.f1, .float .f32 r.f2] 46 (0, 0))).cell? ⟨(w3.heap.size + 1), 0, none⟩ = some (.float .f32 y1.f0) := (blk_cell EY4.out 0).trans rfl; have q1 : (w4.alloc (.cells #[.float .f32 r.f0, .float .f32 r.f1, .float .f32 r.f2] 46 (0, 0))).cell? ⟨(w3.heap.size + 1), 1, none⟩ = some (.float .f32 y1.f1) := (blk_cell EY4.out 1).trans rfl; have q2 : (w4.alloc (.cells #[.float .f32 r.f0, .float .f32 r.f1, .float .f32 r.f2] 46 (0, 0))).cell? ⟨(w3.heap.size + 1), 2, none⟩ = some (.float .f32 y1.f2) := (blk_cell EY4.out 2).trans rfl; skip) | (go_at_call 81; have _m := H6; clear _m; refine (spec_l01VLong.calls t.f0 t.f1 t.f2 (szV t) _ (size_ok (by rw [HT.out]; exact sub_v hat hfy1)).2.1).mono ?_; rintro e w7 ⟨rfl, hb7⟩; have H7 := Aside0.mk (below_step H6.out hb7); have C10 := Aside0.mk (blk_below ER6.out hb7); have C11 := Aside0.mk (blk_below ES6.out hb7); have C9 := Aside0.mk (blk_below D10d.out hb7); clear hb7 sv0 sv1 sv2 ER6 ES6 D10d; have u0 : w7.cell? ⟨w4.heap.size, 0, none⟩ = some (.float .f32 r.f0) := (blk_cell C10.out 0).trans rfl; have u1 : w7.cell? ⟨w4.heap.size, 1, none⟩ = some (.float .f32 r.f1) := (blk_cell C10.out 1).trans rfl; have u2 : w7.cell? ⟨w4.heap.size, 2, none⟩ = some (.float .f32 r.f2) := (blk_cell C10.out 2).trans rfl; have sv0 : w7.cell? ⟨w5.heap.size, 0, none⟩ = some (.float .f32 t.f0) := (blk_cell C11.out 0).trans rfl; have sv1 : w7.cell? ⟨w5.heap.size, 1, none⟩ = some (.float .f32 t.f1) := (blk_cell C11.out 1).trans rfl; have sv2 : w7.cell? ⟨w5.heap.size, 2, none⟩ = some (.float .f32 t.f2) := (blk_cell C11.out 2).trans rfl; skip) | (go_at_call 81; refine (spec_l01VLong.calls r.f0 r.f1 r.f2 (szV r) _ (size_ok (by rw [HR.out]; exact sub_v hat hfx1)).2.1).mono ?_; rintro e w6 ⟨rfl, hb6⟩; have H6 := Aside0.mk (below_step H5.out hb6); have ER6 := Aside0.mk (blk_below ER5.out hb6); have ES6 := Aside0.mk (blk_below ES.out hb6); have D10d := Aside0.mk (blk_below D10c.out hb6); clear hb6 u0 u1 u2 ER5 ES D10c; have sv0 : w6.cell? ⟨w5.heap.size, 0, none⟩ = some (.float .f32 t.f0) := (blk_cell ES6.out 0).trans rfl; have sv1 : w6.cell? ⟨w5.heap.size, 1, none⟩ = some (.float .f32 t.f1) := (blk_cell ES6.out 1).trans rfl; have sv2 : w6.cell? ⟨w5.heap.size, 2, none⟩ = some (.float .f32 t.f2) := (blk_cell ES6.out 2).trans rfl; skip) | (go_at_call 55; refine (inner55 r t r t (EV.refl r) (EV.refl t) _).mono ?_; rintro e w9 ⟨nn, rfl, hnn, hb9⟩) | ((with_reducible refine gate_dst (N := 58) rfl ?_); refine wpList_ar rfl _ _ _ _ _ rfl arM _ _ rfl rfl (E.refl _) (E.refl _) ?_; intro ca nca hca) | ((with_reducible refine gate_dst (N := 64) rfl ?_); refine wpList_ar rfl _ _ _ _ _ rfl arA _ _ rfl rfl hca hnn ?_; intro cb ncb hcb) | ((with_reducible refine gate_dst (N := 65) rfl ?_); refine wpList_ar rfl _ _ _ _ _ rfl arM _ _ rfl rfl hca hcb ?_; intro cc ncc hcc) | ((with_reducible refine gate_dst (N := 68) rfl ?_); refine wpList_ar rfl _ _ _ _ _ rfl arM _ _ rfl rfl (E.refl _) (E.refl _) ?_; intro cd ncd hcd) | ((with_reducible refine gate_dst (N := 69) rfl ?_); refine wpList_ar rfl _ _ _ _ _ rfl arA _ _ rfl rfl hcc hcd ?_; intro dd ndd hdd; have hqg : (FloatKind.f32.format.order dd 0 == some .gt) = false := by rw [order_E hdd]; rw [HR.out, HT.out]; exact HG0.out))
            go_roundg k2
            case measure => omega
            case rel =>
              have HE := below_step (pw_below_drewN (Below.refl w7.heap.size w7) _) hb9
              refine ⟨k + 1, v2, a2, rfl, ⟨by omega⟩, HA2, ⟨?_⟩, ⟨pw_below_drewN (below_step H7.out HE) _⟩, ⟨blk_drewN (blk_below C9.out HE) _⟩⟩
              have := HY1.out
              unfold flowI at this
              rw [HX1r.out, HY1r.out] at this
              unfold flowS at this
              rw [HG0.out, if_neg (by decide)] at this
              exact this
          | true =>
            have HG0 := Aside0.mk hgt
            clear hgt
            go_wp2_with (first | (go_at_call 80; (with_reducible refine (ends80 (ad.add (i * 2)) Ae ce x.f0 k ((k + 1) % x.f0.length) _ f0 hlx (Kd.C_below KCx.out HZ.out) hkl rfl x1 y1 hx1 hy1).mono ?_); rintro e w3 ⟨rfl, hb3⟩; have H3 := Aside0.mk (below_alloc (below_alloc (below_step HZ.out hb3) (.cells #[.float .f32 x1.f0, .float .f32 x1.f1, .float .f32 x1.f2] 46 (0, 0))) (.cells #[.float .f32 y1.f0, .float .f32 y1.f1, .float .f32 y1.f2] 46 (0, 0))); have D10a := Aside0.mk (blk_alloc (blk_alloc (blk_below B10.out hb3) (.cells #[.float .f32 x1.f0, .float .f32 x1.f1, .float .f32 x1.f2] 46 (0, 0))) (.cells #[.float .f32 y1.f0, .float .f32 y1.f1, .float .f32 y1.f2] 46 (0, 0))); have EX := Aside0.mk (blk_alloc (heap_alloc_new w3 (.cells #[.float .f32 x1.f0, .float .f32 x1.f1, .float .f32 x1.f2] 46 (0, 0))) (.cells #[.float .f32 y1.f0, .float .f32 y1.f1, .float .f32 y1.f2] 46 (0, 0))); have EY := Aside0.mk (heap_two w3 (.cells #[.float .f32 x1.f0, .float .f32 x1.f1, .float .f32 x1.f2] 46 (0, 0)) (.cells #[.float .f32 y1.f0, .float .f32 y1.f1, .float .f32 y1.f2] 46 (0, 0))); clear hb3 f0; have p0 : ((w3.alloc (.cells #[.float .f32 x1.f0, .float .f32 x1.f1, .float .f32 x1.f2] 46 (0, 0))).alloc (.cells #[.float .f32 y1.f0, .float .f32 y1.f1, .float .f32 y1.f2] 46 (0, 0))).cell? ⟨w.heap.size, 0, none⟩ = some (.float .f32 at_.f0) := (blk_cell (blk_below B4.out H3.out) 0).trans rfl; have p1 : ((w3.alloc (.cells #[.float .f32 x1.f0, .float .f32 x1.f1, .float .f32 x1.f2] 46 (0, 0))).alloc (.cells #[.float .f32 y1.f0, .float .f32 y1.f1, .float .f32 y1.f2] 46 (0, 0))).cell? ⟨w.heap.size, 1, none⟩ = some (.float .f32 at_.f1) := (blk_cell (blk_below B4.out H3.out) 1).trans rfl; have p2 : ((w3.alloc (.cells #[.float .f32 x1.f0, .float .f32 x1.f1, .float .f32 x1.f2] 46 (0, 0))).alloc (.cells #[.float .f32 y1.f0, .float .f32 y1.f1, .float .f32 y1.f2] 46 (0, 0))).cell? ⟨w.heap.size, 2, none⟩ = some (.float .f32 at_.f2) := (blk_cell (blk_below B4.out H3.out) 2).trans rfl; skip) | (go_at_call 54; have _m := H4; clear _m; refine (less54 at_ y1 at_ y1 (EV.refl _) (EV.refl _) _).mono ?_; rintro e w5 ⟨t, rfl, ht, hb5⟩; have HT := Aside0.mk (EV_is ht (sub_v hat hfy1)); have H5 := Aside0.mk (below_alloc (below_step H4.out hb5) (.cells #[.float .f32 t.f0, .float .f32 t.f1, .float .f32 t.f2] 46 (0, 0))); have ER5 := Aside0.mk (blk_alloc (blk_below ER.out hb5) (.cells #[.float .f32 t.f0, .float .f32 t.f1, .float .f32 t.f2] 46 (0, 0))); have D10c := Aside0.mk (blk_alloc (blk_below D10b.out hb5) (.cells #[.float .f32 t.f0, .float .f32 t.f1, .float .f32 t.f2] 46 (0, 0))); have ES := Aside0.mk (heap_alloc_new w5 (.cells #[.float .f32 t.f0, .float .f32 t.f1, .float .f32 t.f2] 46 (0, 0))); clear ht hb5 p0 p1 p2 q0 q1 q2 EY4 ER D10b; have u0 : (w5.alloc (.cells #[.float .f32 t.f0, .float .f32 t.f1, .float .f32 t.f2] 46 (0, 0))).cell? ⟨w4.heap.size, 0, none⟩ = some (.float .f32 r.f0) := (blk_cell ER5.out 0).trans rfl; have u1 : (w5.alloc (.cells #[.float .f32 t.f0, .float .f32 t.f1, .float .f32 t.f2] 46 (0, 0))).cell? ⟨w4.heap.size, 1, none⟩ = some (.float .f32 r.f1) := (blk_cell ER5.out 1).trans rfl; have u2 : (w5.alloc (.cells #[.float .f32 t.f0, .float .f32 t.f1, .float .f32 t.f2] 46 (0, 0))).cell? ⟨w4.heap.size, 2, none⟩ = some (.float .f32 r.f2) := (blk_cell ER5.out 2).trans rfl; skip) | (go_at_call 54; refine (less54 at_ x1 at_ x1 (EV.refl _) (EV.refl _) _).mono ?_; rintro e w4 ⟨r, rfl, hr, hb4⟩; have HR := Aside0.mk (EV_is hr (sub_v hat hfx1)); have H4 := Aside0.mk (below_alloc (below_step H3.out hb4) (.cells #[.float .f32 r.f0, .float .f32 r.f1, .float .f32 r.f2] 46 (0, 0))); have EY4 := Aside0.mk (blk_alloc (blk_below EY.out hb4) (.cells #[.float .f32 r.f0, .float .f32 r.f1, .float .f32 r.f2] 46 (0, 0))); have D10b := Aside0.mk (blk_alloc (blk_below D10a.out hb4) (.cells #[.float .f32 r.f0, .float .f32 r.f1, .float .f32 r.f2] 46 (0, 0))); have ER := Aside0.mk (heap_alloc_new w4 (.cells #[.float .f32 r.f0, .float .f32 r.f1, .float .f32 r.f2] 46 (0, 0))); clear hr hb4 p0 p1 p2 EX EY D10a; have p0 : (w4.alloc (.cells #[.float .f32 r.f0, .float .f32 r.f1, .float .f32 r.f2] 46 (0, 0))).cell? ⟨w.heap.size, 0, none⟩ = some (.float .f32 at_.f0) := (blk_cell (blk_below B4.out H4.out) 0).trans rfl; have p1 : (w4.alloc (.cells #[.float .f32 r.f0, .float .f32 r.f1, .float .f32 r.f2] 46 (0, 0))).cell? ⟨w.heap.size, 1, none⟩ = some (.float .f32 at_.f1) := (blk_cell (blk_below B4.out H4.out) 1).trans rfl; have p2 : (w4.alloc (.cells #[.float .f32 r.f0, .float .f32 r.f1, .float .f32 r.f2] 46 (0, 0))).cell? ⟨w.heap.size, 2, none⟩ = some (.float .f32 at_.f2) := (blk_cell (blk_below B4.out H4.out) 2).trans rfl; have q0 : (w4.alloc (.cells #[.float .f32 r.f0, .float .f32 r.f1, .float .f32 r.f2] 46 (0, 0))).cell? ⟨(w3.heap.size + 1), 0, none⟩ = some (.float .f32 y1.f0) := (blk_cell EY4.out 0).trans rfl; have q1 : (w4.alloc (.cells #[.float .f32 r.f0, .float .f32 r.f1, .float .f32 r.f2] 46 (0, 0))).cell? ⟨(w3.heap.size + 1), 1, none⟩ = some (.float .f32 y1.f1) := (blk_cell EY4.out 1).trans rfl; have q2 : (w4.alloc (.cells #[.float .f32 r.f0, .float .f32 r.f1, .float .f32 r.f2] 46 (0, 0))).cell? ⟨(w3.heap.size + 1), 2, none⟩ = some (.float .f32 y1.f2) := (blk_cell EY4.out 2).trans rfl; skip) | (go_at_call 81; have _m := H6; clear _m; refine (spec_l01VLong.calls t.f0 t.f1 t.f2 (szV t) _ (size_ok (by rw [HT.out]; exact sub_v hat hfy1)).2.1).mono ?_; rintro e w7 ⟨rfl, hb7⟩; have H7 := Aside0.mk (below_step H6.out hb7); have C10 := Aside0.mk (blk_below ER6.out hb7); have C11 := Aside0.mk (blk_below ES6.out hb7); have C9 := Aside0.mk (blk_below D10d.out hb7); clear hb7 sv0 sv1 sv2 ER6 ES6 D10d; have u0 : w7.cell? ⟨w4.heap.size, 0, none⟩ = some (.float .f32 r.f0) := (blk_cell C10.out 0).trans rfl; have u1 : w7.cell? ⟨w4.heap.size, 1, none⟩ = some (.float .f32 r.f1) := (blk_cell C10.out 1).trans rfl; have u2 : w7.cell? ⟨w4.heap.size, 2, none⟩ = some (.float .f32 r.f2) := (blk_cell C10.out 2).trans rfl; have sv0 : w7.cell? ⟨w5.heap.size, 0, none⟩ = some (.float .f32 t.f0) := (blk_cell C11.out 0).trans rfl; have sv1 : w7.cell? ⟨w5.heap.size, 1, none⟩ = some (.float .f32 t.f1) := (blk_cell C11.out 1).trans rfl; have sv2 : w7.cell? ⟨w5.heap.size, 2, none⟩ = some (.float .f32 t.f2) := (blk_cell C11.out 2).trans rfl; skip) | (go_at_call 81; refine (spec_l01VLong.calls r.f0 r.f1 r.f2 (szV r) _ (size_ok (by rw [HR.out]; exact sub_v hat hfx1)).2.1).mono ?_; rintro e w6 ⟨rfl, hb6⟩; have H6 := Aside0.mk (below_step H5.out hb6); have ER6 := Aside0.mk (blk_below ER5.out hb6); have ES6 := Aside0.mk (blk_below ES.out hb6); have D10d := Aside0.mk (blk_below D10c.out hb6); clear hb6 u0 u1 u2 ER5 ES D10c; have sv0 : w6.cell? ⟨w5.heap.size, 0, none⟩ = some (.float .f32 t.f0) := (blk_cell ES6.out 0).trans rfl; have sv1 : w6.cell? ⟨w5.heap.size, 1, none⟩ = some (.float .f32 t.f1) := (blk_cell ES6.out 1).trans rfl; have sv2 : w6.cell? ⟨w5.heap.size, 2, none⟩ = some (.float .f32 t.f2) := (blk_cell ES6.out 2).trans rfl; skip) | (go_at_call 55; refine (inner55 r t r t (EV.refl r) (EV.refl t) _).mono ?_; rintro e w9 ⟨nn, rfl, hnn, hb9⟩) | ((with_reducible refine gate_dst (N := 58) rfl ?_); refine wpList_ar rfl _ _ _ _ _ rfl arM _ _ rfl rfl (E.refl _) (E.refl _) ?_; intro ca nca hca) | ((with_reducible refine gate_dst (N := 64) rfl ?_); refine wpList_ar rfl _ _ _ _ _ rfl arA _ _ rfl rfl hca hnn ?_; intro cb ncb hcb) | ((with_reducible refine gate_dst (N := 65) rfl ?_); refine wpList_ar rfl _ _ _ _ _ rfl arM _ _ rfl rfl hca hcb ?_; intro cc ncc hcc) | ((with_reducible refine gate_dst (N := 68) rfl ?_); refine wpList_ar rfl _ _ _ _ _ rfl arM _ _ rfl rfl (E.refl _) (E.refl _) ?_; intro cd ncd hcd) | ((with_reducible refine gate_dst (N := 69) rfl ?_); refine wpList_ar rfl _ _ _ _ _ rfl arA _ _ rfl rfl hcc hcd ?_; intro dd ndd hdd; have hqg : (FloatKind.f32.format.order dd 0 == some .gt) = true := by rw [order_E hdd]; rw [HR.out, HT.out]; exact HG0.out))
            have HG : Aside0 ((FloatKind.f32.format.order (dnV r t core) 0 == some .gt) = true) := ⟨by rw [HR.out, HT.out]; exact HG0.out⟩
            have HE := Aside0.mk (below_step (pw_below_drewN (Below.refl w7.heap.size w7) _) hb9)
            have D6 := Aside0.mk (blk_below C9.out HE.out)
            have D10 := Aside0.mk (blk_below C10.out HE.out)
            have D11 := Aside0.mk (blk_below C11.out HE.out)
            have HW9 := Aside0.mk (below_step H7.out HE.out)
            have hdq : dd = dnV r t core := E_gt hdd HG.out
            have RV : isV r := by rw [HR.out]; exact sub_v hat hfx1
            have TV : isV t := by rw [HT.out]; exact sub_v hat hfy1
            obtain ⟨fa, hfa, _⟩ := add_nn (size_ok RV).2.2 (size_ok TV).2.2
            have hfk := (fok_of hfa).1
            have hfv : fop .add .f32 (szV r) (szV t) = ar .add (szV r) (szV t) := by
              unfold ar
              rw [hfa, (fok_of hfa).2]
              rfl
            have HFV := Aside0.mk hfv
            have HDQ := Aside0.mk hdq
            clear hfv hdq hfa HE hb9 u0 u1 u2 sv0 sv1 sv2 C9 C10 C11 H3 H4 H5 H6
            have u0 : w9.cell? ⟨w4.heap.size, 0, none⟩ = some (.float .f32 r.f0) := (blk_cell D10.out 0).trans rfl
            have u1 : w9.cell? ⟨w4.heap.size, 1, none⟩ = some (.float .f32 r.f1) := (blk_cell D10.out 1).trans rfl
            have u2 : w9.cell? ⟨w4.heap.size, 2, none⟩ = some (.float .f32 r.f2) := (blk_cell D10.out 2).trans rfl
            have sv0 : w9.cell? ⟨w5.heap.size, 0, none⟩ = some (.float .f32 t.f0) := (blk_cell D11.out 0).trans rfl
            have sv1 : w9.cell? ⟨w5.heap.size, 1, none⟩ = some (.float .f32 t.f1) := (blk_cell D11.out 1).trans rfl
            have sv2 : w9.cell? ⟨w5.heap.size, 2, none⟩ = some (.float .f32 t.f2) := (blk_cell D11.out 2).trans rfl
            have z0 : w9.cell? ⟨wo.heap.size, 0, none⟩ = some (.float .f32 a2.f0) := (blk_cell D6.out 0).trans rfl
            have z1 : w9.cell? ⟨wo.heap.size, 1, none⟩ = some (.float .f32 a2.f1) := (blk_cell D6.out 1).trans rfl
            have z2 : w9.cell? ⟨wo.heap.size, 2, none⟩ = some (.float .f32 a2.f2) := (blk_cell D6.out 2).trans rfl
            refine start_ (n := 12) (S := fun w' => Below w9.heap.size w9 w') (ds := [11]) #[false, false, false, false, false, false, false, false, false, false, false, false] (by kernel_rfl) rfl rfl (below_drew1 (pw_below_drewN (Below.refl _ _) _)) (fun hHeld => ?_)
            refine pure_ (i := 4) (N := some 76) (v := ?_) (a' := ?_) #[false, false, false, false, true, false, false, false, false, false, false, false] rfl rfl (by kernel_rfl) (fun _ _ _ h => h) (Or.inl ⟨by rfl, ?_⟩) ?_ ?_
            rotate_left
            · intro w'
              go_simp
              with_reducible rfl
            rotate_left
            · simp only [Act.put, List.setIfInBounds_toArray, List.set_cons_zero, List.set_cons_succ, i64_w, i32_w]
              rfl
            refine pure_ (i := 5) (N := some 77) (v := ?_) (a' := ?_) #[false, false, false, false, true, true, false, false, false, false, false, false] rfl rfl (by kernel_rfl) (fun _ _ _ h => h) (Or.inl ⟨by rfl, ?_⟩) ?_ ?_
            rotate_left
            · intro w'
              go_simp
              with_reducible rfl
            rotate_left
            · simp only [Act.put, List.setIfInBounds_toArray, List.set_cons_zero, List.set_cons_succ, i64_w, i32_w]
              rfl
            refine pure_ (i := 7) (N := some 79) (v := ?_) (a' := ?_) #[false, false, false, false, true, true, false, true, false, false, false, false] rfl rfl (by kernel_rfl) (fun _ _ _ h => h) (Or.inl ⟨by rfl, ?_⟩) ?_ ?_
            rotate_left
            · intro w'
              go_simp
              with_reducible rfl
            rotate_left
            · simp only [Act.put, List.setIfInBounds_toArray, List.set_cons_zero, List.set_cons_succ, i64_w, i32_w]
              rfl
            refine pure_ (i := 6) (N := some 78) (v := ?_) (a' := ?_) #[false, false, false, false, true, true, true, true, false, false, false, false] rfl rfl (by kernel_rfl) (fun _ _ _ h => h) (Or.inl ⟨by rfl, ?_⟩) ?_ ?_
            rotate_left
            · intro w'
              go_simp
              with_reducible rfl
            rotate_left
            · simp only [Act.put, List.setIfInBounds_toArray, List.set_cons_zero, List.set_cons_succ, i64_w, i32_w]
              rfl
            refine take_ (i := 0) (N := some 72) (v := ?_) (a' := ?_) #[true, false, false, false, true, true, true, true, false, false, false, false] rfl rfl (by kernel_rfl) (fun _ _ _ h => h) (Or.inl ⟨by rfl, ?_⟩) hHeld ?_ ?_
            rotate_left
            · rintro w' s0
              have c0 := cell_b s0 z0
              have c1 := cell_b s0 z1
              have c2 := cell_b s0 z2
              go_simp
              with_reducible rfl
            rotate_left
            · simp only [Act.put, List.setIfInBounds_toArray, List.set_cons_zero, List.set_cons_succ, i64_w, i32_w]
              rfl
            refine take_ (i := 1) (N := some 73) (v := ?_) (a' := ?_) #[true, true, false, false, true, true, true, true, false, false, false, false] rfl rfl (by kernel_rfl) (fun _ _ _ h => h) (Or.inl ⟨by rfl, ?_⟩) hHeld ?_ ?_
            rotate_left
            · rintro w' s0
              have c0 := cell_b s0 u0
              have c1 := cell_b s0 u1
              have c2 := cell_b s0 u2
              go_simp
              with_reducible rfl
            rotate_left
            · simp only [Act.put, List.setIfInBounds_toArray, List.set_cons_zero, List.set_cons_succ, i64_w, i32_w]
              rfl
            refine take_ (i := 2) (N := some 74) (v := ?_) (a' := ?_) #[true, true, true, false, true, true, true, true, false, false, false, false] rfl rfl (by kernel_rfl) (fun _ _ _ h => h) (Or.inl ⟨by rfl, ?_⟩) hHeld ?_ ?_
            rotate_left
            · rintro w' s0
              have c0 := cell_b s0 sv0
              have c1 := cell_b s0 sv1
              have c2 := cell_b s0 sv2
              go_simp
              with_reducible rfl
            rotate_left
            · simp only [Act.put, List.setIfInBounds_toArray, List.set_cons_zero, List.set_cons_succ, i64_w, i32_w]
              rfl
            refine join_ (σ := S46 × Nat) 3 #[true, true, true, true, true, true, true, true, true, false, false, false] (fun s => [(75, vv s.1), (80, .float .f32 s.2)]) (fun s w' => Aside0 (Below w9.heap.size w9 w') ∧ Aside0 (EV (crossV r t) s.1) ∧ Aside0 (E (ar .quo (fop .add .f32 (szV r) (szV t)) dd) s.2)) ?_ (fun hcont => ?_)
            · rintro ⟨cr, qu⟩ w' ⟨HB, HC1, HQ1⟩
              refine norm_ (a' := ?_) ?_ ?_
              rotate_left
              · simp only [putAll, Act.put, List.setIfInBounds_toArray, List.set_cons_zero, List.set_cons_succ]
                rfl
              refine one_ (i := 9) (N := some 81) #[true, true, true, true, true, true, true, true, true, true, false, false] rfl rfl (by kernel_rfl) (by decide) (fun K hK => ?_)
              refine goes_ Try.func83 (by kernel_rfl) rfl #[vv cr, .float .f32 qu] (by rfl) rfl rfl (by (try simp only [List.map_toArray, List.map_cons, List.map_nil]); first | done | rfl) ?_
              refine (scale83 _ cr _ qu HC1.out HQ1.out _).mono ?_
              rintro e w10 ⟨sc, rfl, hsc, hb10⟩
              refine ⟨_, rfl, ?_⟩
              have L10 := Aside0.mk (below_step HB.out hb10)
              clear hb10
              refine hK.out _ _ L10.out (fun _ => ?_)
              clear hK K
              refine norm_ (a' := ?_) ?_ ?_
              rotate_left
              · show Act.put _ (some 81) _ = _
                simp only [Act.put, List.setIfInBounds_toArray, List.set_cons_zero, List.set_cons_succ]
                rfl
              refine one_ (i := 10) (N := some 82) #[true, true, true, true, true, true, true, true, true, true, true, false] rfl rfl (by kernel_rfl) (by decide) (fun K hK => ?_)
              refine goes_ Try.func82 (by kernel_rfl) rfl #[vv a2, vv sc] (by rfl) rfl rfl (by (try simp only [List.map_toArray, List.map_cons, List.map_nil]); first | done | rfl) ?_
              refine (add82 _ _ a2 sc HA2.out hsc _).mono ?_
              rintro e w11 ⟨nw, rfl, hnw, hb11⟩
              refine ⟨_, rfl, ?_⟩
              have L11 := Aside0.mk (below_step L10.out hb11)
              clear hb11
              refine hK.out _ _ L11.out (fun _ => ?_)
              clear hK K
              refine norm_ (a' := ?_) ?_ ?_
              rotate_left
              · show Act.put _ (some 82) _ = _
                simp only [Act.put, List.setIfInBounds_toArray, List.set_cons_zero, List.set_cons_succ]
                rfl
              have E7 := Aside0.mk (blk_below D6.out L11.out)
              have y0 : w11.cell? ⟨wo.heap.size, 0, none⟩ = some (.float .f32 a2.f0) := (blk_cell E7.out 0).trans rfl
              have y1 : w11.cell? ⟨wo.heap.size, 1, none⟩ = some (.float .f32 a2.f1) := (blk_cell E7.out 1).trans rfl
              have y2 : w11.cell? ⟨wo.heap.size, 2, none⟩ = some (.float .f32 a2.f2) := (blk_cell E7.out 2).trans rfl
              have fy0 := blk_frozen E7.out 0
              have fy1 := blk_frozen E7.out 1
              have fy2 := blk_frozen E7.out 2
              refine last_ (i := 11) (N := none) #[true, true, true, true, true, true, true, true, true, true, true, true] rfl rfl (by kernel_rfl) (by decide) (fun K hK => ?_)
              refine skip_ (w1 := ?_) (by rfl) rfl ?_ ?_
              rotate_left
              · go_simp
                rfl
              refine hK.out _ _ ?_
              clear hK K
              refine done_ (by kernel_rfl) ?_
              go_wp2
              go_roundg k2
              case measure => omega
              case rel =>
                refine ⟨k + 1, _, nw, rfl, ⟨by omega⟩, ⟨?_⟩, HY1, ⟨?_⟩, ⟨?_⟩⟩
                · unfold flowI
                  rw [HX1r.out, HY1r.out, ← HR.out, ← HT.out]
                  unfold flowS
                  rw [if_pos HG.out, ← HDQ.out, ← HFV.out]
                  exact hnw
                · exact below_set (below_set (below_set (below_step HW9.out L11.out) (Nat.le_refl _)) (Nat.le_refl _)) (Nat.le_refl _)
                · refine blk_put (cs := #[.float .f32 nw.f0, .float .f32 nw.f1, .float .f32 a2.f2]) ?_ 2 _ rfl
                  refine blk_put (cs := #[.float .f32 nw.f0, .float .f32 a2.f1, .float .f32 a2.f2]) ?_ 1 _ rfl
                  refine blk_put (cs := #[.float .f32 a2.f0, .float .f32 a2.f1, .float .f32 a2.f2]) ?_ 0 _ rfl
                  exact E7.out
            refine two_ (i := 3) (j := 8) (Ni := some 75) (Nj := some 80) #[true, true, true, true, true, true, true, true, false, false, false, false] #[true, true, true, false, true, true, true, true, true, false, false, false] rfl rfl rfl rfl (by kernel_rfl) (by decide) (by decide) (fun K hK => ?_) (fun K hK => ?_)
            · refine goes_ Try.func56 (by kernel_rfl) rfl #[vv r, vv t] (by rfl) rfl rfl (by (try simp only [List.map_toArray, List.map_cons, List.map_nil]); first | done | rfl) ?_
              refine (cross56 r t r t (EV.refl r) (EV.refl t) _).mono ?_
              rintro e w10 ⟨cr, rfl, hcr, hb10⟩
              refine ⟨_, rfl, ?_⟩
              have L10 := Aside0.mk (below_step (below_drew1 (pw_below_drewN (Below.refl w9.heap.size w9) _)) hb10)
              clear hb10
              refine hK.out _ _ L10.out (fun _ => ?_)
              clear hK K
              refine norm_ (a' := ?_) ?_ ?_
              rotate_left
              · show Act.put _ (some 75) _ = _
                simp only [Act.put, List.setIfInBounds_toArray, List.set_cons_zero, List.set_cons_succ]
                rfl
              refine one_ (i := 8) (N := some 80) #[true, true, true, true, true, true, true, true, true, false, false, false] rfl rfl (by kernel_rfl) (by decide) (fun K hK => ?_)
              refine ar_ _ _ _ _ _ rfl arQ _ _ rfl rfl (E.refl _) (E.refl _) (by rfl) rfl ?_
              intro qu nq hqu
              refine hK.out _ _ (pw_below_drewN L10.out nq) (fun _ => ?_)
              exact norm_ (by first | rfl | (simp only [putAll, Act.put, List.setIfInBounds_toArray, List.set_cons_zero, List.set_cons_succ]; rfl)) (hcont (cr, qu) _ ⟨⟨pw_below_drewN L10.out nq⟩, ⟨hcr⟩, ⟨hqu⟩⟩)
            · refine ar_ _ _ _ _ _ rfl arQ _ _ rfl rfl (E.refl _) (E.refl _) (by rfl) rfl ?_
              intro qu nq hqu
              refine hK.out _ _ (pw_below_drewN (below_drew1 (pw_below_drewN (Below.refl _ _) _)) nq) (fun hS9 => ?_)
              have L9 : Aside0 (Below w9.heap.size w9 _) := ⟨hS9⟩
              clear hK K hS9
              refine norm_ (a' := ?_) ?_ ?_
              rotate_left
              · show Act.put _ (some 80) _ = _
                simp only [Act.put, List.setIfInBounds_toArray, List.set_cons_zero, List.set_cons_succ]
                rfl
              refine one_ (i := 3) (N := some 75) #[true, true, true, true, true, true, true, true, true, false, false, false] rfl rfl (by kernel_rfl) (by decide) (fun K hK => ?_)
              refine goes_ Try.func56 (by kernel_rfl) rfl #[vv r, vv t] (by rfl) rfl rfl (by (try simp only [List.map_toArray, List.map_cons, List.map_nil]); first | done | rfl) ?_
              refine (cross56 r t r t (EV.refl r) (EV.refl t) _).mono ?_
              rintro e w10 ⟨cr, rfl, hcr, hb10⟩
              refine ⟨_, rfl, ?_⟩
              refine hK.out _ _ (below_step L9.out hb10) (fun _ => ?_)
              exact norm_ (by first | rfl | (simp only [putAll, Act.put, List.setIfInBounds_toArray, List.set_cons_zero, List.set_cons_succ]; rfl)) (hcont (cr, qu) _ ⟨⟨below_step L9.out hb10⟩, ⟨hcr⟩, ⟨hqu⟩⟩)
end XW
end Go.Proofs.Ytffofpiejcolfaa
end
section
set_option linter.unusedVariables false
set_option linter.unusedSimpArgs false
namespace Go.Proofs.Ytffofpiejcolfaa
open Go.RowKit Go.Proofs.YtffofpiejcolfaaW.PrintWords Go.Proofs.YtffofpiejcolfaaW.PrintLast Go.Proofs.YtffofpiejcolfaaW.PrintMore
attribute [local go_sem] max2_int min2_int max_two min_two max_three min_three max_four min_four
namespace XW
open XF XL XC XY XE XN XK XG XV L0 L3
end XW
end Go.Proofs.Ytffofpiejcolfaa
end
section
set_option linter.unusedVariables false
set_option linter.unusedSimpArgs false
namespace Go.Proofs.Ytffofpiejcolfaa
open Go.RowKit Go.Proofs.YtffofpiejcolfaaW.PrintWords Go.Proofs.YtffofpiejcolfaaW.PrintLast Go.Proofs.YtffofpiejcolfaaW.PrintMore
attribute [local go_sem] max2_int min2_int max_two min_two max_three min_three max_four min_four
namespace XM
open XW XF XL XC XY XE XN XK XG XV L0 L3
def threadFlow.f (l0 : List S31) (x y z core : Nat) : Option (Nat × Nat × Nat) := if are l0 = true then (if vfin ⟨x, y, z⟩ = true then some ((allV ⟨x, y, z⟩ core l0).f0, (allV ⟨x, y, z⟩ core l0).f1, (allV ⟨x, y, z⟩ core l0).f2) else none) else none
def l06Flow.f (l0 : List S31) (x y z core : Nat) : Option (Nat × Nat × Nat) := threadFlow.f l0 x y z core
theorem flow_some {l0 : List S31} {x y z core t1 t2 t3 : Nat} (h : threadFlow.f l0 x y z core = some (t1, t2, t3)) : are l0 = true ∧ vfin ⟨x, y, z⟩ = true ∧ allV ⟨x, y, z⟩ core l0 = ⟨t1, t2, t3⟩ := by
  unfold threadFlow.f at h
  cases e1 : are l0 with
  | false => rw [e1, if_neg (by decide)] at h; cases h
  | true =>
    rw [e1, if_pos rfl] at h
    cases e2 : vfin ⟨x, y, z⟩ with
    | false => rw [e2, if_neg (by decide)] at h; cases h
    | true =>
      rw [e2, if_pos rfl] at h
      have h2 := Option.some.inj h
      simp only [Prod.mk.injEq] at h2
      obtain ⟨rfl, rfl, rfl⟩ := h2
      exact ⟨rfl, rfl, rfl⟩
theorem threadFlow.calls (A0 : Option Addr) (c0 : Nat) (l0 : List S31) (x y z core t1 t2 t3 : Nat) (w : World) (hr0 : Kd.C k31 w A0 l0.length l0) (hc0 : l0.length ≤ c0) (h : threadFlow.f l0 x y z core = some (t1, t2, t3)) :
    Calls Try.prog 77 #[.slice A0 l0.length c0, .agg #[.float .f32 x, .float .f32 y, .float .f32 z], .float .f32 core] w fun e w' => ∃ n1 n2 n3, e = .returned (.agg #[.float .f32 n1, .float .f32 n2, .float .f32 n3]) ∧ EV ⟨t1, t2, t3⟩ ⟨n1, n2, n3⟩ ∧ Below w.heap.size w w' := by
  obtain ⟨h1, h2, h3⟩ := flow_some h
  refine (flow77 A0 c0 l0 ⟨x, y, z⟩ core w hc0 hr0 h1 h2).mono ?_
  rintro e w1 ⟨⟨n1, n2, n3⟩, rfl, hv, hb⟩
  exact ⟨n1, n2, n3, rfl, h3 ▸ hv, hb⟩
theorem l06Flow.calls (A0 : Option Addr) (c0 : Nat) (l0 : List S31) (x y z core t1 t2 t3 : Nat) (w : World) (hr0 : Kd.C k31 w A0 l0.length l0) (hc0 : l0.length ≤ c0) (h : l06Flow.f l0 x y z core = some (t1, t2, t3)) :
    Calls Try.prog 72 #[.slice A0 l0.length c0, .agg #[.float .f32 x, .float .f32 y, .float .f32 z], .float .f32 core] w fun e w' => ∃ n1 n2 n3, e = .returned (.agg #[.float .f32 n1, .float .f32 n2, .float .f32 n3]) ∧ EV ⟨t1, t2, t3⟩ ⟨n1, n2, n3⟩ ∧ Below w.heap.size w w' := by
  obtain ⟨h1, h2, h3⟩ := flow_some h
  refine (flow72 A0 c0 l0 ⟨x, y, z⟩ core w hc0 hr0 h1 h2).mono ?_
  rintro e w1 ⟨⟨n1, n2, n3⟩, rfl, hv, hb⟩
  exact ⟨n1, n2, n3, rfl, h3 ▸ hv, hb⟩
theorem flow_any {t1 t2 t3 n1 n2 n3 : Nat} {b : Bool} (hv : EV ⟨t1, t2, t3⟩ ⟨n1, n2, n3⟩) (h : XC.finiteVector.f t1 t2 t3 = some b) : XC.finiteVector.f n1 n2 n3 = some b := by
  have e : vfin ⟨n1, n2, n3⟩ = vfin ⟨t1, t2, t3⟩ := vfin_E hv
  have h2 : vfin ⟨t1, t2, t3⟩ = b := Option.some.inj h
  exact congrArg some (e.trans h2)
theorem flow_true {t1 t2 t3 n1 n2 n3 : Nat} (hv : EV ⟨t1, t2, t3⟩ ⟨n1, n2, n3⟩) (h : XC.finiteVector.f t1 t2 t3 = some true) : n1 = t1 ∧ n2 = t2 ∧ n3 = t3 := by
  have h2 : vfin ⟨t1, t2, t3⟩ = true := Option.some.inj h
  have e := vE_fin hv h2
  injection e with e1 e2 e3
  exact ⟨e1, e2, e3⟩
theorem flowS_any {t1 t2 t3 n1 n2 n3 : Nat} {b : Bool} (hv : EV ⟨t1, t2, t3⟩ ⟨n1, n2, n3⟩) (h : spec_l01VFinite.f t1 t2 t3 = some b) : spec_l01VFinite.f n1 n2 n3 = some b := (vf ⟨n1, n2, n3⟩).trans (flow_any hv ((vf ⟨t1, t2, t3⟩).symm.trans h))
theorem flowS_true {t1 t2 t3 n1 n2 n3 : Nat} (hv : EV ⟨t1, t2, t3⟩ ⟨n1, n2, n3⟩) (h : spec_l01VFinite.f t1 t2 t3 = some true) : n1 = t1 ∧ n2 = t2 ∧ n3 = t3 := flow_true hv ((vf ⟨t1, t2, t3⟩).symm.trans h)
def nn3 (v : S46) : Bool := !isn .f32 v.f0 && (!isn .f32 v.f1 && !isn .f32 v.f2)
theorem EV_nn {v c : S46} (h : EV v c) (hn : nn3 v = true) : c = v := by
  unfold nn3 at hn
  simp only [Bool.and_eq_true, Bool.not_eq_true'] at hn
  have k0 := E_n h.1 hn.1
  have k1 := E_n h.2.1 hn.2.1
  have k2 := E_n h.2.2 hn.2.2
  cases v
  cases c
  simp only at k0 k1 k2
  rw [k0, k1, k2]
def ex3 (v : S46) : Option (Nat × Nat × Nat) := if nn3 v = true then some (v.f0, v.f1, v.f2) else none
theorem ex3_some {v : S46} {t1 t2 t3 : Nat} (h : ex3 v = some (t1, t2, t3)) : nn3 v = true ∧ v = ⟨t1, t2, t3⟩ := by
  unfold ex3 at h
  cases e : nn3 v with
  | false => rw [e, if_neg (by decide)] at h; cases h
  | true =>
    rw [e, if_pos rfl] at h
    have h2 := Option.some.inj h
    simp only [Prod.mk.injEq] at h2
    obtain ⟨rfl, rfl, rfl⟩ := h2
    exact ⟨rfl, rfl⟩
def addI.f (a0 a1 a2 b0 b1 b2 : Nat) : Option (Nat × Nat × Nat) := ex3 (opV .add ⟨a0, a1, a2⟩ ⟨b0, b1, b2⟩)
def addS.f (a0 a1 a2 b0 b1 b2 : Nat) : Option (Nat × Nat × Nat) := addI.f a0 a1 a2 b0 b1 b2
def scaleI.f (a0 a1 a2 s : Nat) : Option (Nat × Nat × Nat) := ex3 (mulV ⟨a0, a1, a2⟩ s)
def scaleS.f (a0 a1 a2 s : Nat) : Option (Nat × Nat × Nat) := scaleI.f a0 a1 a2 s
theorem addI.calls (a0 a1 a2 b0 b1 b2 t1 t2 t3 : Nat) (w : World) (h : addI.f a0 a1 a2 b0 b1 b2 = some (t1, t2, t3)) :
    Calls Try.prog 108 #[.agg #[.float .f32 a0, .float .f32 a1, .float .f32 a2], .agg #[.float .f32 b0, .float .f32 b1, .float .f32 b2]] w fun e w' => e = .returned (.agg #[.float .f32 t1, .float .f32 t2, .float .f32 t3]) ∧ Below w.heap.size w w' := by
  obtain ⟨h1, h2⟩ := ex3_some (v := opV .add ⟨a0, a1, a2⟩ ⟨b0, b1, b2⟩) h
  refine (add108 ⟨a0, a1, a2⟩ ⟨b0, b1, b2⟩ ⟨a0, a1, a2⟩ ⟨b0, b1, b2⟩ (EV.refl _) (EV.refl _) w).mono ?_
  rintro e w1 ⟨c, rfl, hv, hb⟩
  obtain rfl := EV_nn hv h1
  rw [h2]
  exact ⟨rfl, hb⟩
theorem addS.calls (a0 a1 a2 b0 b1 b2 t1 t2 t3 : Nat) (w : World) (h : addS.f a0 a1 a2 b0 b1 b2 = some (t1, t2, t3)) :
    Calls Try.prog 82 #[.agg #[.float .f32 a0, .float .f32 a1, .float .f32 a2], .agg #[.float .f32 b0, .float .f32 b1, .float .f32 b2]] w fun e w' => e = .returned (.agg #[.float .f32 t1, .float .f32 t2, .float .f32 t3]) ∧ Below w.heap.size w w' := by
  obtain ⟨h1, h2⟩ := ex3_some (v := opV .add ⟨a0, a1, a2⟩ ⟨b0, b1, b2⟩) h
  refine (add82 ⟨a0, a1, a2⟩ ⟨b0, b1, b2⟩ ⟨a0, a1, a2⟩ ⟨b0, b1, b2⟩ (EV.refl _) (EV.refl _) w).mono ?_
  rintro e w1 ⟨c, rfl, hv, hb⟩
  obtain rfl := EV_nn hv h1
  rw [h2]
  exact ⟨rfl, hb⟩
theorem scaleI.calls (a0 a1 a2 s t1 t2 t3 : Nat) (w : World) (h : scaleI.f a0 a1 a2 s = some (t1, t2, t3)) :
    Calls Try.prog 107 #[.agg #[.float .f32 a0, .float .f32 a1, .float .f32 a2], .float .f32 s] w fun e w' => e = .returned (.agg #[.float .f32 t1, .float .f32 t2, .float .f32 t3]) ∧ Below w.heap.size w w' := by
  obtain ⟨h1, h2⟩ := ex3_some (v := mulV ⟨a0, a1, a2⟩ s) h
  refine (scale107 ⟨a0, a1, a2⟩ ⟨a0, a1, a2⟩ s s (EV.refl _) (E.refl _) w).mono ?_
  rintro e w1 ⟨c, rfl, hv, hb⟩
  obtain rfl := EV_nn hv h1
  rw [h2]
  exact ⟨rfl, hb⟩
theorem scaleS.calls (a0 a1 a2 s t1 t2 t3 : Nat) (w : World) (h : scaleS.f a0 a1 a2 s = some (t1, t2, t3)) :
    Calls Try.prog 83 #[.agg #[.float .f32 a0, .float .f32 a1, .float .f32 a2], .float .f32 s] w fun e w' => e = .returned (.agg #[.float .f32 t1, .float .f32 t2, .float .f32 t3]) ∧ Below w.heap.size w w' := by
  obtain ⟨h1, h2⟩ := ex3_some (v := mulV ⟨a0, a1, a2⟩ s) h
  refine (scale83 ⟨a0, a1, a2⟩ ⟨a0, a1, a2⟩ s s (EV.refl _) (E.refl _) w).mono ?_
  rintro e w1 ⟨c, rfl, hv, hb⟩
  obtain rfl := EV_nn hv h1
  rw [h2]
  exact ⟨rfl, hb⟩
def l02Least.f (x : Nat) : Option Bool := some (level x)
theorem l02Least.calls (x : Nat) (r : Bool) (w : World) (h : l02Least.f x = some r) : Calls Try.prog 70 #[.float .f32 x] w fun e w' => e = .returned (.bool r) ∧ Drawn0 w w' := by
  obtain rfl := Option.some.inj h
  exact least70 x w
def levelOk.f (l0 : List Nat) : Option Bool := some (!(l0.any fun x => !fin x) && !(l0.any fun x => ltz x))
set_option maxHeartbeats 4000000 in
set_option maxRecDepth 100000 in
theorem levelOk.calls (A0 : Option Addr) (c0 : Nat) (l0 : List Nat) (r : Bool) (w : World) (hr0 : Kd.C (Kd.float .f32) w A0 l0.length l0) (hc0 : l0.length ≤ c0) (h : levelOk.f l0 = some r) :
    Calls Try.prog 75 #[.slice A0 l0.length c0] w fun e w' => e = .returned (.bool r) ∧ Drawn0 w w' := by
  obtain rfl := Option.some.inj h
  cases e1 : (!(l0.any fun x => !fin x)) with
  | false =>
    go_enter Try.func75, Try.ntmps75
    go_wp2_with (first | (go_at_call 115; refine (finite115 A0 c0 l0 _ hr0 hc0).mono ?_; rw [e1]; rintro e w1 ⟨rfl, ⟨nd, rfl⟩⟩))
    go_ret
    exact ⟨rfl, ⟨_, rfl⟩⟩
  | true =>
    go_enter Try.func75, Try.ntmps75
    go_wp2_with (first | (go_at_call 115; refine (finite115 A0 c0 l0 _ hr0 hc0).mono ?_; rw [e1]; rintro e w1 ⟨rfl, ⟨nd, rfl⟩⟩) | (go_at_call 116; refine (contains116n A0 c0 l0 _ (Kd.C_below hr0 (pw_below_drewN (Below.refl _ _) _)) hc0).mono ?_; rintro e w1 ⟨rfl, ⟨nd, rfl⟩⟩))
    go_ret
    exact ⟨by first | rfl | (simp; done), ⟨_, rfl⟩⟩
theorem blk_ne_new {w : World} {p : Addr} {v : Value} {g : Nat} (h : w.cell? p = some v) (hg : g = w.heap.size) : p.block ≠ g := by
  have := World.block_lt_of_cell? w _ h
  omega
theorem cell_far {w : World} {p q : Addr} {v : Value} (h : w.cell? p = some v) (hne : p.block ≠ q.block) (u : Value) : (w.setCell q u).cell? p = some v := by
  have e : (w.setCell q u).heap[p.block]? = w.heap[p.block]? := Below.heap_setCell w q u p.block hne
  unfold World.cell? at h ⊢
  rw [e]
  exact h
theorem cell_keep3 {w : World} {p : Addr} {v : Value} {g : Nat} (h : w.cell? p = some v) (hne : p.block ≠ g) (a b c : Value) : (((w.setCell ⟨g, 0, none⟩ a).setCell ⟨g, 1, none⟩ b).setCell ⟨g, 2, none⟩ c).cell? p = some v := cell_far (cell_far (cell_far h hne _) hne _) hne _
theorem eql_nil (P : Program) (w : World) (t e : TypeId) (a : Option Addr) (l c : Nat) (h : P.underlying t = some (.slice e)) : (binOp .eql t (.slice a l c) (.slice none 0 0)).run P w = .ok (.bool a.isNone) w := by
  simp [binOp, run_equal_slice_nil w t e a l c h]
def clone.f (l0 : List S46) : Option (List S46) := if l0.length < 11728124029610 then some l0 else none
set_option maxHeartbeats 4000000 in
set_option maxRecDepth 100000 in
theorem clone.calls (A0 : Option Addr) (c0 : Nat) (l0 r : List S46) (w : World) (hr0 : Kd.C k46 w A0 l0.length l0) (hc0 : l0.length ≤ c0) (h : clone.f l0 = some r) :
    Calls Try.prog 121 #[.slice A0 l0.length c0] w fun e w' => ∃ v0_ : Value, e = .returned (v0_) ∧ Kd.R k46 46 w' w.heap.size (fun _ => True) v0_ r ∧ Below w.heap.size w w' := by
  have hlen : l0.length < 11728124029610 ∧ l0 = r := by
    unfold clone.f at h
    by_cases c : l0.length < 11728124029610
    · rw [if_pos c] at h
      exact ⟨c, Option.some.inj h⟩
    · rw [if_neg c] at h
      cases h
  obtain ⟨hlen, rfl⟩ := hlen
  have he := eql_nil Try.prog w 29 46 A0 l0.length c0 Try.underlying29
  cases A0 with
  | none =>
    have hz : l0 = [] := by
      rcases Nat.eq_zero_or_pos l0.length with h0 | h0
      · exact List.eq_nil_of_length_eq_zero h0
      · obtain ⟨ad, h, _⟩ := hr0.2.2 h0
        cases h
    subst hz
    replace he : (binOp .eql 29 (.slice none 0 c0) (.slice none 0 0)).run Try.prog w = .ok (.bool true) w := he
    go_enter Try.func121, Try.ntmps121
    go_wp2
    go_ret
    exact ⟨_, rfl, Kd.R_nil _ _ _ _ _, Below.refl _ _⟩
  | some ad =>
    replace he : (binOp .eql 29 (.slice (some ad) l0.length c0) (.slice none 0 0)).run Try.prog w = .ok (.bool false) w := he
    go_enter Try.func121, Try.ntmps121
    go_wp2_with (first | ((with_reducible refine gate_dst (N := 5) rfl ?_); refine Kd.R_lit k46 _ 46 ?hg (N := 5) ?hd (xs := ([] : List S46)) (inner := []) (ok := fun _ => True) (okp := fun _ => True) ?hr ?hp (fun _ hk => hk) trivial (Below.refl _ _) (Nat.le_refl _) (by simp) ?_; (case hd => rfl); (case hg => rfl); (case hr => first | (go_simp; done) | (go_simp; rfl)); (case hp => exact (Reps.none _ _)); intro v1 w1 ho1 hb1 hg_ hnew_; clear hg_ hnew_) | ((with_reducible refine gate_dst (N := 7) rfl ?_); refine Kd.R_append_rows k46 (Rr := k46.K w1) (w0 := w) w.heap.size rfl (.tmp 5) (.tmp 6) 29 46 (.agg #[(.float .f32 0), (.float .f32 0), (.float .f32 0)]) 12 rfl Try.underlying29 L0.info46 rfl (by decide) (by decide) v1 [] l0 (some ad) l0.length c0 (fun _ => True) (fun _ => False) rfl rfl ho1 (Kd.C_below hr0 hb1) ?hKM (fun _ h => h.elim) (fun _ _ => trivial) hb1 hb1.size ?hl ?_; (case hKM => intro x cs hx; obtain rfl := k46_open hx; exact k46_mkM _ _ _ x); (case hl => simp; omega); intro v2 w2 ho2 hb2 _ _))
    go_ret
    exact ⟨_, rfl, ho2, hb2⟩
end XM
end Go.Proofs.Ytffofpiejcolfaa
end
section
set_option linter.unusedVariables false
set_option linter.unusedSimpArgs false
namespace Go.Proofs.Ytffofpiejcolfaa
open Go.RowKit Go.Proofs.YtffofpiejcolfaaW.PrintWords Go.Proofs.YtffofpiejcolfaaW.PrintLast Go.Proofs.YtffofpiejcolfaaW.PrintMore
attribute [local go_sem] max2_int min2_int max_two min_two max_three min_three max_four min_four
namespace XM
open XW XF XL XC XY XE XN XK XG XV L0 L3
set_option maxHeartbeats 4000000 in
set_option maxRecDepth 100000 in
theorem own120 (ad : Addr) (A : Option Addr) (c : Nat) (l : List S46) (a : Nat) (w : World) (f0 : w.cell? ad = some (.slice A l.length c)) (f1 : w.cell? ⟨ad.block, ad.off + 1, none⟩ = some (.float .f32 a)) (hle : l.length ≤ c) (hC : Kd.C k46 w A l.length l) (hlen : l.length < 11728124029610) :
    Calls Try.prog 120 #[.pointer (some ad)] w fun e w' => ∃ v0_ : Value, e = .returned (.agg #[v0_, .float .f32 a]) ∧ Kd.R k46 46 w' w.heap.size (fun _ => True) v0_ l ∧ Below w.heap.size w w' := by
  have B0 : (w.alloc (.cells #[.slice none 0 0, .float .f32 0] 31 (0, 0))).drew.heap[w.heap.size]? = some (.cells #[.slice none 0 0, .float .f32 0] 31 (0, 0)) := blk_drew (heap_alloc_new _ _)
  have HBd : Below w.heap.size w (w.alloc (.cells #[.slice none 0 0, .float .f32 0] 31 (0, 0))).drew := below_drew1 (below_alloc (Below.refl w.heap.size w) _)
  go_enter Try.func120, Try.ntmps120
  go_wp2
  refine start_ (n := 12) (S := fun w' => w'.cell? ad = some (.slice A l.length c) ∧ w'.cell? ⟨ad.block, ad.off + 1, none⟩ = some (.float .f32 a)) (ds := [11]) #[false, false, false, false, false, false, false, false, false, false, false, false] (by kernel_rfl) rfl rfl ⟨cell_b HBd f0, cell_b HBd f1⟩ (fun hHeld => ?_)
  generalize (w.alloc (.cells #[.slice none 0 0, .float .f32 0] 31 (0, 0))).drew = w2 at B0 HBd hHeld ⊢
  refine pure_ (i := 1) (N := some 4) (v := ?_) (a' := ?_) #[false, true, false, false, false, false, false, false, false, false, false, false] rfl rfl (by kernel_rfl) (fun _ _ _ h => h) (Or.inl ⟨by rfl, ?_⟩) ?_ ?_
  rotate_left
  · intro w'
    go_simp
    with_reducible rfl
  rotate_left
  · simp only [Act.put, List.setIfInBounds_toArray, List.set_cons_zero, List.set_cons_succ, i64_w, i32_w]
    rfl
  refine pure_ (i := 2) (N := some 5) (v := ?_) (a' := ?_) #[false, true, true, false, false, false, false, false, false, false, false, false] rfl rfl (by kernel_rfl) (fun _ _ _ h => h) (Or.inl ⟨by rfl, ?_⟩) ?_ ?_
  rotate_left
  · intro w'
    go_simp
    with_reducible rfl
  rotate_left
  · simp only [Act.put, List.setIfInBounds_toArray, List.set_cons_zero, List.set_cons_succ, i64_w, i32_w]
    rfl
  refine pure_ (i := 3) (N := some 6) (v := ?_) (a' := ?_) #[false, true, true, true, false, false, false, false, false, false, false, false] rfl rfl (by kernel_rfl) (fun _ _ _ h => h) (Or.inl ⟨by rfl, ?_⟩) ?_ ?_
  rotate_left
  · intro w'
    go_simp
    with_reducible rfl
  rotate_left
  · simp only [Act.put, List.setIfInBounds_toArray, List.set_cons_zero, List.set_cons_succ, i64_w, i32_w]
    rfl
  refine pure_ (i := 6) (N := some 9) (v := ?_) (a' := ?_) #[false, true, true, true, false, false, true, false, false, false, false, false] rfl rfl (by kernel_rfl) (fun _ _ _ h => h) (Or.inl ⟨by rfl, ?_⟩) ?_ ?_
  rotate_left
  · intro w'
    go_simp
    with_reducible rfl
  rotate_left
  · simp only [Act.put, List.setIfInBounds_toArray, List.set_cons_zero, List.set_cons_succ, i64_w, i32_w]
    rfl
  refine pure_ (i := 7) (N := some 10) (v := ?_) (a' := ?_) #[false, true, true, true, false, false, true, true, false, false, false, false] rfl rfl (by kernel_rfl) (fun _ _ _ h => h) (Or.inl ⟨by rfl, ?_⟩) ?_ ?_
  rotate_left
  · intro w'
    go_simp
    with_reducible rfl
  rotate_left
  · simp only [Act.put, List.setIfInBounds_toArray, List.set_cons_zero, List.set_cons_succ, i64_w, i32_w]
    rfl
  refine pure_ (i := 8) (N := some 11) (v := ?_) (a' := ?_) #[false, true, true, true, false, false, true, true, true, false, false, false] rfl rfl (by kernel_rfl) (fun _ _ _ h => h) (Or.inl ⟨by rfl, ?_⟩) ?_ ?_
  rotate_left
  · intro w'
    go_simp
    with_reducible rfl
  rotate_left
  · simp only [Act.put, List.setIfInBounds_toArray, List.set_cons_zero, List.set_cons_succ, i64_w, i32_w]
    rfl
  refine take_ (i := 4) (N := some 7) (v := ?_) (a' := ?_) #[false, true, true, true, true, false, true, true, true, false, false, false] rfl rfl (by kernel_rfl) (fun _ _ _ h => h) (Or.inl ⟨by rfl, ?_⟩) hHeld ?_ ?_
  rotate_left
  · rintro w' ⟨s0, s1⟩
    go_simp
    with_reducible rfl
  rotate_left
  · simp only [Act.put, List.setIfInBounds_toArray, List.set_cons_zero, List.set_cons_succ, i64_w, i32_w]
    rfl
  refine take_ (i := 9) (N := some 12) (v := ?_) (a' := ?_) #[false, true, true, true, true, false, true, true, true, true, false, false] rfl rfl (by kernel_rfl) (fun _ _ _ h => h) (Or.inl ⟨by rfl, ?_⟩) hHeld ?_ ?_
  rotate_left
  · rintro w' ⟨s0, s1⟩
    go_simp
    with_reducible rfl
  rotate_left
  · simp only [Act.put, List.setIfInBounds_toArray, List.set_cons_zero, List.set_cons_succ, i64_w, i32_w]
    rfl
  refine one_ (i := 0) (N := some 3) #[true, true, true, true, true, false, true, true, true, true, false, false] rfl rfl (by kernel_rfl) (by decide) (fun K hK => ?_)
  refine Kd.R_lit_step k46 (w0 := w) w.heap.size 46 (by rfl) (N := 3) rfl (xs := ([] : List S46)) (inner := []) (ok := fun k => k ≠ w.heap.size) (okp := fun _ => False) ?hr (Reps.none _ _) (fun _ h => h.elim) (Nat.ne_of_gt (blk_lt B0)) HBd HBd.size (by simp) ?_
  (case hr => first | (go_simp; done) | (go_simp; rfl))
  intro v1 w3 ho1 hb1 hg1 _
  have B1 := blk_grown B0 hg1 (by simp)
  refine hK.out _ _ ⟨cell_b hb1 f0, cell_b hb1 f1⟩ (fun hHeld2 => ?_)
  clear hK K
  refine norm_ (a' := ?_) ?_ ?_
  rotate_left
  · show Act.put _ (some 3) _ = _
    simp only [Act.put, List.setIfInBounds_toArray, List.set_cons_zero, List.set_cons_succ]
    rfl
  refine one_ (i := 5) (N := some 8) #[true, true, true, true, true, true, true, true, true, true, false, false] rfl rfl (by kernel_rfl) (by decide) (fun K hK => ?_)
  refine Kd.R_append_rows_step k46 (Rr := k46.K w3) (w0 := w) w.heap.size (by rfl) (.tmp 3) (.tmp 7) 29 46 (.agg #[(.float .f32 0), (.float .f32 0), (.float .f32 0)]) 12 rfl Try.underlying29 L0.info46 rfl (by decide) (by decide) v1 [] l A l.length c (fun k => k ≠ w.heap.size) (fun _ => False) rfl rfl ho1 (Kd.C_below hC hb1) ?hKM (fun _ h => h.elim) (fun k hk => by have := blk_lt B1; omega) hb1 hb1.size ?hl ?_
  (case hKM => intro x cs hx; obtain rfl := k46_open hx; exact k46_mkM _ _ _ x)
  (case hl => simp; omega)
  intro v2 w4 ho2 hb2 hg2 _
  have B2 := blk_grown B1 hg2 (Kd.R_away ho1 (fun _ hk => hk))
  rw [List.nil_append] at ho2
  obtain ⟨A2, c2, e2⟩ := Kd.R_slice ho2
  subst e2
  refine hK.out _ _ ⟨cell_b hb2 f0, cell_b hb2 f1⟩ (fun hHeld3 => ?_)
  clear hK K
  refine norm_ (a' := ?_) ?_ ?_
  rotate_left
  · show Act.put _ (some 8) _ = _
    simp only [Act.put, List.setIfInBounds_toArray, List.set_cons_zero, List.set_cons_succ]
    rfl
  refine pure_ (i := 10) (N := some 13) (v := ?_) (a' := ?_) #[true, true, true, true, true, true, true, true, true, true, true, false] rfl rfl (by kernel_rfl) (fun _ _ _ h => h) (Or.inl ⟨by rfl, ?_⟩) ?_ ?_
  rotate_left
  · intro w'
    go_simp
    with_reducible rfl
  rotate_left
  · simp only [Act.put, List.setIfInBounds_toArray, List.set_cons_zero, List.set_cons_succ, i64_w, i32_w]
    rfl
  have z0 : w4.cell? ⟨w.heap.size, 0, none⟩ = some (.slice none 0 0) := (blk_cell B2 0).trans rfl
  have z1 : w4.cell? ⟨w.heap.size, 1, none⟩ = some (.float .f32 0) := (blk_cell B2 1).trans rfl
  have y0 := blk_frozen B2 0
  have y1 := blk_frozen B2 1
  refine last_ (i := 11) (N := none) #[true, true, true, true, true, true, true, true, true, true, true, true] rfl rfl (by kernel_rfl) (by decide) (fun K hK => ?_)
  refine skip_ (w1 := ?_) (by rfl) rfl ?_ ?_
  rotate_left
  · go_simp
    rfl
  refine hK.out _ _ ?_
  clear hK K
  refine done_ (by kernel_rfl) ?_
  go_wp2
  refine bodyPost_ret (results_cell_row rfl _ _ w.heap.size 31 #[.slice A2 l.length c2, .float .f32 a] (0, 0) _ rfl (by
    refine blk_put (cs := #[.slice A2 l.length c2, .float .f32 0]) ?_ 1 _ rfl
    refine blk_put (cs := #[.slice none 0 0, .float .f32 0]) ?_ 0 _ rfl
    exact B2) Try.underlying31 rfl (by kernel_rfl)) rfl ?_
  exact ⟨_, rfl, Kd.R_mono (Kd.R_far (p := ⟨w.heap.size, 1, none⟩) (Kd.R_far (p := ⟨w.heap.size, 0, none⟩) ho2 (fun _ hk => hk) _) (fun _ hk => hk) _) (fun _ _ => trivial), below_set (below_set hb2 (Nat.le_refl _)) (Nat.le_refl _)⟩
def l06Owns.f (l0 : List S31) : Option (List S31) := if (decide (l0.length < 4398046511104) && l0.all fun t => decide (t.f0.length < 11728124029610)) = true then some l0 else none
set_option maxHeartbeats 4000000 in
set_option maxRecDepth 100000 in
theorem l06Owns.calls (A0 : Option Addr) (c0 : Nat) (l0 r : List S31) (w : World) (hr0 : Kd.C k31 w A0 l0.length l0) (hc0 : l0.length ≤ c0) (h : l06Owns.f l0 = some r) :
    Calls Try.prog 92 #[.slice A0 l0.length c0] w fun e w' => ∃ v0_ : Value, e = .returned (v0_) ∧ Kd.S k31 31 w' w.heap.size (fun _ => True) v0_ r ∧ Below w.heap.size w w' := by
  unfold l06Owns.f at h
  cases hb0 : (decide (l0.length < 4398046511104) && l0.all fun t => decide (t.f0.length < 11728124029610)) with
  | false => rw [hb0, if_neg (by decide)] at h; cases h
  | true =>
  rw [hb0, if_pos rfl] at h
  obtain rfl := Option.some.inj h
  rw [Bool.and_eq_true, decide_eq_true_eq, List.all_eq_true] at hb0
  obtain ⟨hlen, hall⟩ := hb0
  have hmx : l0.length ≤ 9223372036854775807 := by omega
  have HC := Aside0.mk hr0
  clear hr0
  go_enter Try.func92, Try.ntmps92
  go_wp2_with (first | ((with_reducible refine gate_dst (N := 5) rfl ?_); refine Kd.S_lit k31 _ 31 ?hg (N := 5) ?hd (xs := ([] : List S31)) (inner := []) (ok := fun _ => True) (okp := fun _ => True) ?hr ?hp (fun _ hk => hk) trivial (Below.refl _ _) (Nat.le_refl _) (by simp) ?_; (case hd => rfl); (case hg => rfl); (case hr => first | (go_simp; done) | (go_simp; rfl)); (case hp => exact (Reps.none _ _)); intro v1 w1 ho1 hb1 hg_ hnew_; clear hg_ hnew_))
  go_loopg [3, 4] l0.length (fun kq v3 v4 w' => ∃ (i : Nat), v4 = .int .i64 (i : Int) ∧ Aside0 (i + kq = l0.length) ∧ Aside0 (Kd.S k31 31 w' w.heap.size (fun _ => True) v3 (l0.take i)) ∧ Aside0 (Below w.heap.size w w'))
  case atStart => exact ⟨0, rfl, ⟨by simp⟩, ⟨by rw [List.take_zero]; exact ho1⟩, ⟨hb1⟩⟩
  case round =>
    clear ho1 hb1
    obtain ⟨i, rfl, HI, HO_3, HB⟩ := hrel
    have hi := HI.out
    cases gk with
    | zero =>
      have hc : decide ((i : Int) < (l0.length : Int)) = false := by simp; omega
      have HO := HO_3.out
      rw [List.take_of_length_le (by omega)] at HO
      go_wp2
      go_ret
      exact ⟨_, rfl, HO, HB.out⟩
    | succ k1 =>
      have hil : i < l0.length := by omega
      have hc : decide ((i : Int) < (l0.length : Int)) = true := by simp; omega
      have hwi : wrap64 ((i : Int) + 1) = ((i + 1 : Nat) : Int) := by unfold wrap64; omega
      obtain ⟨ad, Ae, ce, ead, f0, f1, hlx, hCx⟩ := at_T31 (Kd.C_below HC.out HB.out) (i : Int) (by omega) (by omega)
      subst ead
      rw [Int.toNat_natCast] at f0 f1
      have hilI : (i : Int) < (l0.length : Int) := by omega
      have hlen1 : (rd_T31 l0 (i : Int)).f0.length < 11728124029610 := by
        have e : rd_T31 l0 (i : Int) = l0[i] := by simp [rd_T31, hil]
        rw [e]
        simpa using hall l0[i] (List.getElem_mem hil)
      have hsn : l0.take (i + 1) = l0.take i ++ [rd_T31 l0 (i : Int)] := by
        have e : rd_T31 l0 (i : Int) = l0[i] := by simp [rd_T31, hil]
        rw [e, List.take_succ_eq_append_getElem hil]
      have HSN := Aside0.mk hsn
      clear hsn hall
      generalize rd_T31 l0 (i : Int) = x at f0 f1 hlx hCx hlen1 HSN
      go_wp2_with (first | (go_at_call 120; (with_reducible refine (own120 (ad.add (i * 2)) Ae ce x.f0 x.f1 _ f0 f1 hlx hCx hlen1).mono ?_); rintro e w2 ⟨v2, rfl, ho2, hb2⟩; obtain ⟨A2, c2, e2⟩ := Kd.R_slice ho2; subst e2; have HO2 := Aside0.mk (Kd.S_elder' HO_3.out (Kd.R_base ho2) hb2); have HR2 := Aside0.mk (Kd.R_apart' (Kd.R_lower ho2 HB.out.size) (Kd.S_typed HO2.out) (by decide)); have HB2 := Aside0.mk (below_step HB.out hb2); clear ho2 hb2) | ((with_reducible refine gate_dst (N := 18) rfl ?_); refine Kd.S_append k31 (w0 := w) w.heap.size rfl (.tmp 12) (.tmp 17) 49 31 (.agg #[(.slice none 0 0), (.float .f32 0)]) 32 rfl Try.underlying49 L3.info31 rfl (by decide) (by decide) u3 (l0.take i) x [.slice A2 x.f0.length c2, .float .f32 x.f1] (fun _ => True) (fun k_ => some k_ = (.slice A2 x.f0.length c2 : Value).ownBlock) rfl rfl ?aP (fun k_ hk_ => HR2.out.1 k_ hk_.symm) (fun _ _ => trivial) ?aO HB2.out HB2.out.size ?aL ?_; (case aP => exact k31_mkM _ _ _ x (Kd.R_mono (Kd.R_tight rfl HR2.out) (fun _ h_ => h_))); (case aO => exact Kd.S_mono HO2.out (fun k_ hk => ⟨trivial, fun e_ => hk.2 e_⟩)); (case aL => rw [List.length_take]; omega); intro v3 w3 ho3 hb3 _ _))
      go_roundg k1
      case measure => omega
      case rel => exact ⟨i + 1, rfl, ⟨by omega⟩, ⟨by rw [HSN.out]; exact ho3⟩, ⟨hb3⟩⟩
end XM
end Go.Proofs.Ytffofpiejcolfaa
end
section
namespace Go.Proofs.Ytffofpiejcolfaa.L4
open Go.Proofs.Ytffofpiejcolfaa.L0 Go.Proofs.Ytffofpiejcolfaa.L3
open Go.RowKit Go.Proofs.YtffofpiejcolfaaW.PrintWords Go.Proofs.YtffofpiejcolfaaW.PrintLast Go.Proofs.YtffofpiejcolfaaW.PrintMore
attribute [local go_sem] max2_int min2_int max_two min_two max_three min_three max_four min_four
set_option linter.unusedVariables false
set_option linter.unusedSimpArgs false
def errW : Option Int → Value
  | none => .nilIface
  | some c => .iface 0 (.int .i64 c)
theorem errW_none : errW none = .nilIface := rfl
theorem errW_some (c : Int) : errW (some c) = .iface 0 (.int .i64 c) := rfl
theorem info31 : (Try.prog.info? 31).map (fun i => (i.zero, i.size, i.bytes)) = some (some (.agg #[(.slice none 0 0), (.float .f32 0)]), 2, 32) := by kernel_rfl
theorem info46 : (Try.prog.info? 46).map (fun i => (i.zero, i.size, i.bytes)) = some (some (.agg #[(.float .f32 0), (.float .f32 0), (.float .f32 0)]), 3, 12) := by kernel_rfl
end Go.Proofs.Ytffofpiejcolfaa.L4
end
section
namespace Go.Proofs.Ytffofpiejcolfaa.L4
open Go.Proofs.Ytffofpiejcolfaa.L0 Go.Proofs.Ytffofpiejcolfaa.L3
open Go.RowKit Go.Proofs.YtffofpiejcolfaaW.PrintWords Go.Proofs.YtffofpiejcolfaaW.PrintLast Go.Proofs.YtffofpiejcolfaaW.PrintMore
attribute [local go_sem] max2_int min2_int max_two min_two max_three min_three max_four min_four
set_option linter.unusedVariables false
set_option linter.unusedSimpArgs false
def laws_heldVectorS.l0 : Nat → List (S46) → Int → Int → Option (Int)
  | 0, _, _, _ => none
  | k + 1, x0, x1, x5 => if x5 < (x0.length : Int) then (if 0 ≤ x5 then (if (FloatKind.f32.format.order ((rd_T46 x0 x5).f0) (floatOfInt .f32 x1) != some .eq) = true then (some (-1)) else (if (FloatKind.f32.format.order ((rd_T46 x0 x5).f1) (floatOfInt .f32 (wrap64 (x1 + 1))) != some .eq) = true then (some (-1)) else (if (FloatKind.f32.format.order ((rd_T46 x0 x5).f2) (floatOfInt .f32 (wrap64 ((wrap64 (x1 + 1)) + 1))) != some .eq) = true then (some (-1)) else (laws_heldVectorS.l0 k x0 (wrap64 ((wrap64 ((wrap64 (x1 + 1)) + 1)) + 1)) (wrap64 (x5 + 1)))))) else (none)) else (some x1)
def laws_heldVectorS.f (k : Nat) (l0 : List (S46)) (a1 : Int) : Option (Int) := laws_heldVectorS.l0 k l0 a1 0
theorem laws_heldVectorS.mono_l : ∀ k, (∀ y0 y1 y2, LeO (laws_heldVectorS.l0 k y0 y1 y2) (laws_heldVectorS.l0 (k + 1) y0 y1 y2))
  | 0 => fun _ _ _ r h => by simp [laws_heldVectorS.l0] at h
  | k + 1 => by
    have ih0 := laws_heldVectorS.mono_l k
    · intro y0 y1 y2
      unfold laws_heldVectorS.l0
      repeat' first
      | (with_reducible exact ih0 _ _ _)
      | (with_reducible exact LeO.refl _)
      | (with_reducible exact LeO.none _)
      | (with_reducible refine LeO.ite ?_ ?_)
      | (with_reducible refine LeO.bind ?_ (fun _ => ?_))
      | exact ih0 _ _ _
      | exact LeO.none _
      | refine LeO.ite ?_ ?_
      | refine LeO.bind ?_ (fun _ => ?_)
theorem laws_heldVectorS.mono : ∀ a0 a1 k, LeO (laws_heldVectorS.f k a0 a1) (laws_heldVectorS.f (k + 1) a0 a1) := by
  intro a0 a1 k
  have ih0 := laws_heldVectorS.mono_l k
  unfold laws_heldVectorS.f
  repeat' first
      | (with_reducible exact ih0 _ _ _)
      | (with_reducible exact LeO.refl _)
      | (with_reducible exact LeO.none _)
      | (with_reducible refine LeO.ite ?_ ?_)
      | (with_reducible refine LeO.bind ?_ (fun _ => ?_))
      | exact ih0 _ _ _
      | exact LeO.none _
      | refine LeO.ite ?_ ?_
      | refine LeO.bind ?_ (fun _ => ?_)
set_option maxHeartbeats 8000000 in
set_option maxRecDepth 100000 in
theorem laws_heldVectorS.calls (k : Nat) (A0 : Option Addr) (c0 : Nat) (l0 : List (S46)) (a1 : Int) (r : Int) (w : World) (hr0 : Kd.C k46 w A0 l0.length l0) (hc0 : l0.length ≤ c0) (h : laws_heldVectorS.f k l0 a1 = some r) :
    Calls Try.prog 89 #[.slice A0 l0.length c0, .int .i64 a1] w fun e w' => e = .returned (.int .i64 r) ∧ Drawn0 w w' := by
  have HR0 := Aside0.mk hr0
  have HC0 := Aside0.mk hc0
  clear hr0 hc0
  have H : (laws_heldVectorS.l0 k l0 a1 0) = some r := h
  clear h
  have H' := Aside0.mk H
  clear H
  go_enter Try.func89, Try.ntmps89
  go_wp2
  go_loopg [1, 5] k (fun kq v1 v5 w' => ∃ (x1_1 : Int) (x5_1 : Int), v1 = .int .i64 x1_1 ∧ v5 = .int .i64 x5_1 ∧ Aside0 (laws_heldVectorS.l0 kq l0 x1_1 x5_1 = some r) ∧ Aside0 (kq ≤ k) ∧ Drawn0 w w')
  case atStart => exact ⟨(a1), (0), (by first | rfl | (simp; done) | (simp [*]; done)), (by first | rfl | (simp; done) | (simp [*]; done)), H', ⟨Nat.le_refl _⟩, by repeat (first | exact Drawn0.refl _ | apply Drawn0.step)⟩
  case round =>
    clear H'
    try clear p2
    obtain ⟨x1_1, x5_1, rfl, rfl, HA, HK1, ⟨m1, rfl⟩⟩ := hrel
    cases gk with
    | zero => exact absurd HA.out (by simp [laws_heldVectorS.l0])
    | succ k1 =>
      have H := HA.out
      clear HA
      simp only [laws_heldVectorS.l0] at H
      by_cases c3 : x5_1 < (l0.length : Int)
      · rw [if_pos c3] at H
        have c3b0 : decide (x5_1 < (l0.length : Int)) = true := decide_eq_true c3
        clear c3
        by_cases c4 : 0 ≤ x5_1
        · rw [if_pos c4] at H
          have c4b0 : decide (0 ≤ x5_1) = true := decide_eq_true c4
          clear c4
          by_cases c5 : (FloatKind.f32.format.order ((rd_T46 l0 x5_1).f0) (floatOfInt .f32 x1_1) != some .eq) = true
          · rw [if_pos c5] at H
            have c5b0 : (FloatKind.f32.format.order ((rd_T46 l0 x5_1).f0) (floatOfInt .f32 x1_1) != some .eq) = true := c5
            (try (have c5b1 : decide (FloatKind.f32.format.order ((rd_T46 l0 x5_1).f0) (floatOfInt .f32 x1_1) = some .eq) = false := by simpa using c5))
            (try (have c5b2 : (FloatKind.f32.format.order ((rd_T46 l0 x5_1).f0) (floatOfInt .f32 x1_1) == some .eq) = false := by simpa using c5))
            (try (have c5b3 : ¬ (FloatKind.f32.format.order ((rd_T46 l0 x5_1).f0) (floatOfInt .f32 x1_1) = some .eq) := by simpa using c5))
            clear c5
            obtain rfl := Option.some.inj H
            have p101 : 0 ≤ (x5_1 : Int) := of_decide_eq_true (by first | (with_reducible assumption) | assumption)
            have q101 : x5_1 < (l0.length : Int) := of_decide_eq_true (by first | (with_reducible assumption) | assumption)
            obtain ⟨ad101, e101, hx101_0, hx101_1, hx101_2⟩ := at_T46 HR0.out x5_1 p101 q101
            cases e101
            replace p101 := eq_true p101
            replace q101 := eq_true q101
            go_wp2
            go_ret
            exact ⟨by first | rfl | (simp; done) | (simp [*]; done), by repeat (first | exact Drawn0.refl _ | apply Drawn0.step)⟩
          · rw [if_neg c5] at H
            have c5b0 : (FloatKind.f32.format.order ((rd_T46 l0 x5_1).f0) (floatOfInt .f32 x1_1) != some .eq) = false := by simpa using c5
            (try (have c5b1 : decide (FloatKind.f32.format.order ((rd_T46 l0 x5_1).f0) (floatOfInt .f32 x1_1) = some .eq) = true := by simpa using c5))
            (try (have c5b2 : (FloatKind.f32.format.order ((rd_T46 l0 x5_1).f0) (floatOfInt .f32 x1_1) == some .eq) = true := by simpa using c5))
            clear c5
            by_cases c6 : (FloatKind.f32.format.order ((rd_T46 l0 x5_1).f1) (floatOfInt .f32 (wrap64 (x1_1 + 1))) != some .eq) = true
            · rw [if_pos c6] at H
              have c6b0 : (FloatKind.f32.format.order ((rd_T46 l0 x5_1).f1) (floatOfInt .f32 (wrap64 (x1_1 + 1))) != some .eq) = true := c6
              (try (have c6b1 : decide (FloatKind.f32.format.order ((rd_T46 l0 x5_1).f1) (floatOfInt .f32 (wrap64 (x1_1 + 1))) = some .eq) = false := by simpa using c6))
              (try (have c6b2 : (FloatKind.f32.format.order ((rd_T46 l0 x5_1).f1) (floatOfInt .f32 (wrap64 (x1_1 + 1))) == some .eq) = false := by simpa using c6))
              (try (have c6b3 : ¬ (FloatKind.f32.format.order ((rd_T46 l0 x5_1).f1) (floatOfInt .f32 (wrap64 (x1_1 + 1))) = some .eq) := by simpa using c6))
              clear c6
              obtain rfl := Option.some.inj H
              have p101 : 0 ≤ (x5_1 : Int) := of_decide_eq_true (by first | (with_reducible assumption) | assumption)
              have q101 : x5_1 < (l0.length : Int) := of_decide_eq_true (by first | (with_reducible assumption) | assumption)
              obtain ⟨ad101, e101, hx101_0, hx101_1, hx101_2⟩ := at_T46 HR0.out x5_1 p101 q101
              cases e101
              replace p101 := eq_true p101
              replace q101 := eq_true q101
              have p102 : 0 ≤ (x5_1 : Int) := of_decide_eq_true (by first | (with_reducible assumption) | assumption)
              have q102 : x5_1 < (l0.length : Int) := of_decide_eq_true (by first | (with_reducible assumption) | assumption)
              obtain ⟨ad102, e102, hx102_0, hx102_1, hx102_2⟩ := at_T46 HR0.out x5_1 p102 q102
              obtain rfl : ad101 = ad102 := (by injection e102)
              replace p102 := eq_true p102
              replace q102 := eq_true q102
              go_wp2
              go_ret
              exact ⟨by first | rfl | (simp; done) | (simp [*]; done), by repeat (first | exact Drawn0.refl _ | apply Drawn0.step)⟩
            · rw [if_neg c6] at H
              have c6b0 : (FloatKind.f32.format.order ((rd_T46 l0 x5_1).f1) (floatOfInt .f32 (wrap64 (x1_1 + 1))) != some .eq) = false := by simpa using c6
              (try (have c6b1 : decide (FloatKind.f32.format.order ((rd_T46 l0 x5_1).f1) (floatOfInt .f32 (wrap64 (x1_1 + 1))) = some .eq) = true := by simpa using c6))
              (try (have c6b2 : (FloatKind.f32.format.order ((rd_T46 l0 x5_1).f1) (floatOfInt .f32 (wrap64 (x1_1 + 1))) == some .eq) = true := by simpa using c6))
              clear c6
              by_cases c7 : (FloatKind.f32.format.order ((rd_T46 l0 x5_1).f2) (floatOfInt .f32 (wrap64 ((wrap64 (x1_1 + 1)) + 1))) != some .eq) = true
              · rw [if_pos c7] at H
                have c7b0 : (FloatKind.f32.format.order ((rd_T46 l0 x5_1).f2) (floatOfInt .f32 (wrap64 ((wrap64 (x1_1 + 1)) + 1))) != some .eq) = true := c7
                (try (have c7b1 : decide (FloatKind.f32.format.order ((rd_T46 l0 x5_1).f2) (floatOfInt .f32 (wrap64 ((wrap64 (x1_1 + 1)) + 1))) = some .eq) = false := by simpa using c7))
                (try (have c7b2 : (FloatKind.f32.format.order ((rd_T46 l0 x5_1).f2) (floatOfInt .f32 (wrap64 ((wrap64 (x1_1 + 1)) + 1))) == some .eq) = false := by simpa using c7))
                (try (have c7b3 : ¬ (FloatKind.f32.format.order ((rd_T46 l0 x5_1).f2) (floatOfInt .f32 (wrap64 ((wrap64 (x1_1 + 1)) + 1))) = some .eq) := by simpa using c7))
                clear c7
                obtain rfl := Option.some.inj H
                have p101 : 0 ≤ (x5_1 : Int) := of_decide_eq_true (by first | (with_reducible assumption) | assumption)
                have q101 : x5_1 < (l0.length : Int) := of_decide_eq_true (by first | (with_reducible assumption) | assumption)
                obtain ⟨ad101, e101, hx101_0, hx101_1, hx101_2⟩ := at_T46 HR0.out x5_1 p101 q101
                cases e101
                replace p101 := eq_true p101
                replace q101 := eq_true q101
                have p102 : 0 ≤ (x5_1 : Int) := of_decide_eq_true (by first | (with_reducible assumption) | assumption)
                have q102 : x5_1 < (l0.length : Int) := of_decide_eq_true (by first | (with_reducible assumption) | assumption)
                obtain ⟨ad102, e102, hx102_0, hx102_1, hx102_2⟩ := at_T46 HR0.out x5_1 p102 q102
                obtain rfl : ad101 = ad102 := (by injection e102)
                replace p102 := eq_true p102
                replace q102 := eq_true q102
                have p103 : 0 ≤ (x5_1 : Int) := of_decide_eq_true (by first | (with_reducible assumption) | assumption)
                have q103 : x5_1 < (l0.length : Int) := of_decide_eq_true (by first | (with_reducible assumption) | assumption)
                obtain ⟨ad103, e103, hx103_0, hx103_1, hx103_2⟩ := at_T46 HR0.out x5_1 p103 q103
                obtain rfl : ad101 = ad103 := (by injection e103)
                replace p103 := eq_true p103
                replace q103 := eq_true q103
                go_wp2
                go_ret
                exact ⟨by first | rfl | (simp; done) | (simp [*]; done), by repeat (first | exact Drawn0.refl _ | apply Drawn0.step)⟩
              · rw [if_neg c7] at H
                have c7b0 : (FloatKind.f32.format.order ((rd_T46 l0 x5_1).f2) (floatOfInt .f32 (wrap64 ((wrap64 (x1_1 + 1)) + 1))) != some .eq) = false := by simpa using c7
                (try (have c7b1 : decide (FloatKind.f32.format.order ((rd_T46 l0 x5_1).f2) (floatOfInt .f32 (wrap64 ((wrap64 (x1_1 + 1)) + 1))) = some .eq) = true := by simpa using c7))
                (try (have c7b2 : (FloatKind.f32.format.order ((rd_T46 l0 x5_1).f2) (floatOfInt .f32 (wrap64 ((wrap64 (x1_1 + 1)) + 1))) == some .eq) = true := by simpa using c7))
                clear c7
                have H' := Aside0.mk H
                clear H
                have p101 : 0 ≤ (x5_1 : Int) := of_decide_eq_true (by first | (with_reducible assumption) | assumption)
                have q101 : x5_1 < (l0.length : Int) := of_decide_eq_true (by first | (with_reducible assumption) | assumption)
                obtain ⟨ad101, e101, hx101_0, hx101_1, hx101_2⟩ := at_T46 HR0.out x5_1 p101 q101
                cases e101
                replace p101 := eq_true p101
                replace q101 := eq_true q101
                have p102 : 0 ≤ (x5_1 : Int) := of_decide_eq_true (by first | (with_reducible assumption) | assumption)
                have q102 : x5_1 < (l0.length : Int) := of_decide_eq_true (by first | (with_reducible assumption) | assumption)
                obtain ⟨ad102, e102, hx102_0, hx102_1, hx102_2⟩ := at_T46 HR0.out x5_1 p102 q102
                obtain rfl : ad101 = ad102 := (by injection e102)
                replace p102 := eq_true p102
                replace q102 := eq_true q102
                have p103 : 0 ≤ (x5_1 : Int) := of_decide_eq_true (by first | (with_reducible assumption) | assumption)
                have q103 : x5_1 < (l0.length : Int) := of_decide_eq_true (by first | (with_reducible assumption) | assumption)
                obtain ⟨ad103, e103, hx103_0, hx103_1, hx103_2⟩ := at_T46 HR0.out x5_1 p103 q103
                obtain rfl : ad101 = ad103 := (by injection e103)
                replace p103 := eq_true p103
                replace q103 := eq_true q103
                go_wp2
                go_roundg k1
                case measure => have := HK1.out; omega
                case rel => exact ⟨(wrap64 ((wrap64 ((wrap64 (x1_1 + 1)) + 1)) + 1)), (wrap64 (x5_1 + 1)), (by first | rfl | (simp; done) | (simp [*]; done)), (by first | rfl | (simp; done) | (simp [*]; done)), H', ⟨by have := HK1.out; omega⟩, by repeat (first | exact Drawn0.refl _ | apply Drawn0.step)⟩
        · rw [if_neg c4] at H
          exact absurd H (by simp)
      · rw [if_neg c3] at H
        have c3b0 : decide (x5_1 < (l0.length : Int)) = false := decide_eq_false c3
        clear c3
        obtain rfl := Option.some.inj H
        go_wp2
        go_ret
        exact ⟨by first | rfl | (simp; done) | (simp [*]; done), by repeat (first | exact Drawn0.refl _ | apply Drawn0.step)⟩
def laws_heldThreadS.l0 : Nat → List (S31) → Int → Int → Option (Int)
  | 0, _, _, _ => none
  | k + 1, x0, x1, x5 => if x5 < (x0.length : Int) then (if 0 ≤ x5 then ((laws_heldVectorS.f k ((rd_T31 x0 x5).f0) x1).bind fun t105 => (if t105 < 0 then (some (-1)) else (if (FloatKind.f32.format.order ((rd_T31 x0 x5).f1) (floatOfInt .f32 t105) != some .eq) = true then (some (-1)) else (laws_heldThreadS.l0 k x0 (wrap64 (t105 + 1)) (wrap64 (x5 + 1)))))) else (none)) else (some x1)
def laws_heldThreadS.f (k : Nat) (l0 : List (S31)) (a1 : Int) : Option (Int) := laws_heldThreadS.l0 k l0 a1 0
theorem laws_heldThreadS.mono_l : ∀ k, (∀ y0 y1 y2, LeO (laws_heldThreadS.l0 k y0 y1 y2) (laws_heldThreadS.l0 (k + 1) y0 y1 y2))
  | 0 => fun _ _ _ r h => by simp [laws_heldThreadS.l0] at h
  | k + 1 => by
    have ih0 := laws_heldThreadS.mono_l k
    · intro y0 y1 y2
      unfold laws_heldThreadS.l0
      repeat' first
      | (with_reducible exact ih0 _ _ _)
      | (with_reducible exact laws_heldVectorS.mono _ _ _)
      | (with_reducible exact LeO.refl _)
      | (with_reducible exact LeO.none _)
      | (with_reducible refine LeO.ite ?_ ?_)
      | (with_reducible refine LeO.bind ?_ (fun _ => ?_))
      | exact ih0 _ _ _
      | exact laws_heldVectorS.mono _ _ _
      | exact LeO.none _
      | refine LeO.ite ?_ ?_
      | refine LeO.bind ?_ (fun _ => ?_)
theorem laws_heldThreadS.mono : ∀ a0 a1 k, LeO (laws_heldThreadS.f k a0 a1) (laws_heldThreadS.f (k + 1) a0 a1) := by
  intro a0 a1 k
  have ih0 := laws_heldThreadS.mono_l k
  unfold laws_heldThreadS.f
  repeat' first
      | (with_reducible exact ih0 _ _ _)
      | (with_reducible exact laws_heldVectorS.mono _ _ _)
      | (with_reducible exact LeO.refl _)
      | (with_reducible exact LeO.none _)
      | (with_reducible refine LeO.ite ?_ ?_)
      | (with_reducible refine LeO.bind ?_ (fun _ => ?_))
      | exact ih0 _ _ _
      | exact laws_heldVectorS.mono _ _ _
      | exact LeO.none _
      | refine LeO.ite ?_ ?_
      | refine LeO.bind ?_ (fun _ => ?_)
set_option maxHeartbeats 8000000 in
set_option maxRecDepth 100000 in
theorem laws_heldThreadS.calls (k : Nat) (A0 : Option Addr) (c0 : Nat) (l0 : List (S31)) (a1 : Int) (r : Int) (w : World) (hr0 : Kd.C k31 w A0 l0.length l0) (hc0 : l0.length ≤ c0) (h : laws_heldThreadS.f k l0 a1 = some r) :
    Calls Try.prog 37 #[.slice A0 l0.length c0, .int .i64 a1] w fun e w' => e = .returned (.int .i64 r) ∧ Drawn0 w w' := by
  have HR0 := Aside0.mk hr0
  have HC0 := Aside0.mk hc0
  clear hr0 hc0
  have H : (laws_heldThreadS.l0 k l0 a1 0) = some r := h
  clear h
  have H' := Aside0.mk H
  clear H
  go_enter Try.func37, Try.ntmps37
  go_wp2
  go_loopg [1, 5] k (fun kq v1 v5 w' => ∃ (x1_1 : Int) (x5_1 : Int), v1 = .int .i64 x1_1 ∧ v5 = .int .i64 x5_1 ∧ Aside0 (laws_heldThreadS.l0 kq l0 x1_1 x5_1 = some r) ∧ Aside0 (kq ≤ k) ∧ Drawn0 w w')
  case atStart => exact ⟨(a1), (0), (by first | rfl | (simp; done) | (simp [*]; done)), (by first | rfl | (simp; done) | (simp [*]; done)), H', ⟨Nat.le_refl _⟩, by repeat (first | exact Drawn0.refl _ | apply Drawn0.step)⟩
  case round =>
    clear H'
    try clear p2
    obtain ⟨x1_1, x5_1, rfl, rfl, HA, HK1, ⟨m1, rfl⟩⟩ := hrel
    cases gk with
    | zero => exact absurd HA.out (by simp [laws_heldThreadS.l0])
    | succ k1 =>
      have H := HA.out
      clear HA
      simp only [laws_heldThreadS.l0] at H
      by_cases c3 : x5_1 < (l0.length : Int)
      · rw [if_pos c3] at H
        have c3b0 : decide (x5_1 < (l0.length : Int)) = true := decide_eq_true c3
        clear c3
        by_cases c4 : 0 ≤ x5_1
        · rw [if_pos c4] at H
          have c4b0 : decide (0 ≤ x5_1) = true := decide_eq_true c4
          clear c4
          replace H := Option.bind_eq_some_iff.mp H
          obtain ⟨t105, A50, H⟩ := H
          replace H : (if t105 < 0 then (some (-1)) else (if (FloatKind.f32.format.order ((rd_T31 l0 x5_1).f1) (floatOfInt .f32 t105) != some .eq) = true then (some (-1)) else (laws_heldThreadS.l0 k1 l0 (wrap64 (t105 + 1)) (wrap64 (x5_1 + 1))))) = some r := H
          have A5 := Aside0.mk A50
          clear A50
          by_cases c6 : t105 < 0
          · rw [if_pos c6] at H
            have c6b0 : decide (t105 < 0) = true := decide_eq_true c6
            clear c6
            obtain rfl := Option.some.inj H
            have p104 : 0 ≤ (x5_1 : Int) := of_decide_eq_true (by first | (with_reducible assumption) | assumption)
            have q104 : x5_1 < (l0.length : Int) := of_decide_eq_true (by first | (with_reducible assumption) | assumption)
            obtain ⟨ad104, A104_0, c104_0, e104, hx104_0, hx104_1, hl104_0, hi104_0⟩ := at_T31 HR0.out x5_1 p104 q104
            cases e104
            have HR104_0 := Aside0.mk hi104_0
            have HC104_0 := Aside0.mk hl104_0
            clear hi104_0 hl104_0
            replace p104 := eq_true p104
            replace q104 := eq_true q104
            go_wp2_with (first | ((with_reducible refine gate_callee (f := 89) rfl ?_); refine goesL_ (some 18) rfl rfl Try.func89 (by kernel_rfl) rfl #[.slice A104_0 ((rd_T31 l0 x5_1).f0).length c104_0, .int .i64 x1_1] rfl (by (try simp only [List.map_toArray, List.map_cons, List.map_nil]); first | done | rfl | (simp only [List.length_drop, List.length_take]; rfl)) ?_; (with_reducible refine (laws_heldVectorS.calls k1 _ _ ((rd_T31 l0 x5_1).f0) x1_1 t105 _ ?side1 ?side2 A5.out).mono ?_); (case side1 => repeat (first | exact HR104_0.out | (with_reducible refine Kd.C_alloc ?_ _) | (with_reducible refine Kd.C_drewN ?_ _) | (with_reducible refine Kd.C_drew ?_))); (case side2 => exact HC104_0.out); rintro e w' ⟨rfl, ⟨nd, rfl⟩⟩; refine ⟨_, rfl, ?_⟩))
            go_ret
            exact ⟨by first | rfl | (simp; done) | (simp [*]; done), by repeat (first | exact Drawn0.refl _ | apply Drawn0.step)⟩
          · rw [if_neg c6] at H
            have c6b0 : decide (t105 < 0) = false := decide_eq_false c6
            clear c6
            by_cases c7 : (FloatKind.f32.format.order ((rd_T31 l0 x5_1).f1) (floatOfInt .f32 t105) != some .eq) = true
            · rw [if_pos c7] at H
              have c7b0 : (FloatKind.f32.format.order ((rd_T31 l0 x5_1).f1) (floatOfInt .f32 t105) != some .eq) = true := c7
              (try (have c7b1 : decide (FloatKind.f32.format.order ((rd_T31 l0 x5_1).f1) (floatOfInt .f32 t105) = some .eq) = false := by simpa using c7))
              (try (have c7b2 : (FloatKind.f32.format.order ((rd_T31 l0 x5_1).f1) (floatOfInt .f32 t105) == some .eq) = false := by simpa using c7))
              (try (have c7b3 : ¬ (FloatKind.f32.format.order ((rd_T31 l0 x5_1).f1) (floatOfInt .f32 t105) = some .eq) := by simpa using c7))
              clear c7
              obtain rfl := Option.some.inj H
              have p104 : 0 ≤ (x5_1 : Int) := of_decide_eq_true (by first | (with_reducible assumption) | assumption)
              have q104 : x5_1 < (l0.length : Int) := of_decide_eq_true (by first | (with_reducible assumption) | assumption)
              obtain ⟨ad104, A104_0, c104_0, e104, hx104_0, hx104_1, hl104_0, hi104_0⟩ := at_T31 HR0.out x5_1 p104 q104
              cases e104
              have HR104_0 := Aside0.mk hi104_0
              have HC104_0 := Aside0.mk hl104_0
              clear hi104_0 hl104_0
              replace p104 := eq_true p104
              replace q104 := eq_true q104
              go_wp2_with (first | ((with_reducible refine gate_callee (f := 89) rfl ?_); refine goesL_ (some 18) rfl rfl Try.func89 (by kernel_rfl) rfl #[.slice A104_0 ((rd_T31 l0 x5_1).f0).length c104_0, .int .i64 x1_1] rfl (by (try simp only [List.map_toArray, List.map_cons, List.map_nil]); first | done | rfl | (simp only [List.length_drop, List.length_take]; rfl)) ?_; (with_reducible refine (laws_heldVectorS.calls k1 _ _ ((rd_T31 l0 x5_1).f0) x1_1 t105 _ ?side1 ?side2 A5.out).mono ?_); (case side1 => repeat (first | exact HR104_0.out | (with_reducible refine Kd.C_alloc ?_ _) | (with_reducible refine Kd.C_drewN ?_ _) | (with_reducible refine Kd.C_drew ?_))); (case side2 => exact HC104_0.out); rintro e w' ⟨rfl, ⟨nd, rfl⟩⟩; refine ⟨_, rfl, ?_⟩; have p106 : 0 ≤ (x5_1 : Int) := of_decide_eq_true (by first | (with_reducible assumption) | assumption); have q106 : x5_1 < (l0.length : Int) := of_decide_eq_true (by first | (with_reducible assumption) | assumption); obtain ⟨ad106, A106_0, c106_0, e106, hx106_0, hx106_1, hl106_0, hi106_0⟩ := at_T31 HR0.out x5_1 p106 q106; obtain rfl : ad104 = ad106 := (by injection e106); have HR106_0 := Aside0.mk hi106_0; have HC106_0 := Aside0.mk hl106_0; clear hi106_0 hl106_0; replace p106 := eq_true p106; replace q106 := eq_true q106; have ea_ := Option.some.inj (hx104_0.symm.trans hx106_0); injection ea_ with ea_ en_ ec_; subst ea_; subst ec_; clear en_))
              go_ret
              exact ⟨by first | rfl | (simp; done) | (simp [*]; done), by repeat (first | exact Drawn0.refl _ | apply Drawn0.step)⟩
            · rw [if_neg c7] at H
              have c7b0 : (FloatKind.f32.format.order ((rd_T31 l0 x5_1).f1) (floatOfInt .f32 t105) != some .eq) = false := by simpa using c7
              (try (have c7b1 : decide (FloatKind.f32.format.order ((rd_T31 l0 x5_1).f1) (floatOfInt .f32 t105) = some .eq) = true := by simpa using c7))
              (try (have c7b2 : (FloatKind.f32.format.order ((rd_T31 l0 x5_1).f1) (floatOfInt .f32 t105) == some .eq) = true := by simpa using c7))
              clear c7
              have H' := Aside0.mk H
              clear H
              have p104 : 0 ≤ (x5_1 : Int) := of_decide_eq_true (by first | (with_reducible assumption) | assumption)
              have q104 : x5_1 < (l0.length : Int) := of_decide_eq_true (by first | (with_reducible assumption) | assumption)
              obtain ⟨ad104, A104_0, c104_0, e104, hx104_0, hx104_1, hl104_0, hi104_0⟩ := at_T31 HR0.out x5_1 p104 q104
              cases e104
              have HR104_0 := Aside0.mk hi104_0
              have HC104_0 := Aside0.mk hl104_0
              clear hi104_0 hl104_0
              replace p104 := eq_true p104
              replace q104 := eq_true q104
              go_wp2_with (first | ((with_reducible refine gate_callee (f := 89) rfl ?_); refine goesL_ (some 18) rfl rfl Try.func89 (by kernel_rfl) rfl #[.slice A104_0 ((rd_T31 l0 x5_1).f0).length c104_0, .int .i64 x1_1] rfl (by (try simp only [List.map_toArray, List.map_cons, List.map_nil]); first | done | rfl | (simp only [List.length_drop, List.length_take]; rfl)) ?_; (with_reducible refine (laws_heldVectorS.calls k1 _ _ ((rd_T31 l0 x5_1).f0) x1_1 t105 _ ?side1 ?side2 A5.out).mono ?_); (case side1 => repeat (first | exact HR104_0.out | (with_reducible refine Kd.C_alloc ?_ _) | (with_reducible refine Kd.C_drewN ?_ _) | (with_reducible refine Kd.C_drew ?_))); (case side2 => exact HC104_0.out); rintro e w' ⟨rfl, ⟨nd, rfl⟩⟩; refine ⟨_, rfl, ?_⟩; have p106 : 0 ≤ (x5_1 : Int) := of_decide_eq_true (by first | (with_reducible assumption) | assumption); have q106 : x5_1 < (l0.length : Int) := of_decide_eq_true (by first | (with_reducible assumption) | assumption); obtain ⟨ad106, A106_0, c106_0, e106, hx106_0, hx106_1, hl106_0, hi106_0⟩ := at_T31 HR0.out x5_1 p106 q106; obtain rfl : ad104 = ad106 := (by injection e106); have HR106_0 := Aside0.mk hi106_0; have HC106_0 := Aside0.mk hl106_0; clear hi106_0 hl106_0; replace p106 := eq_true p106; replace q106 := eq_true q106; have ea_ := Option.some.inj (hx104_0.symm.trans hx106_0); injection ea_ with ea_ en_ ec_; subst ea_; subst ec_; clear en_))
              go_roundg k1
              case measure => have := HK1.out; omega
              case rel => exact ⟨(wrap64 (t105 + 1)), (wrap64 (x5_1 + 1)), (by first | rfl | (simp; done) | (simp [*]; done)), (by first | rfl | (simp; done) | (simp [*]; done)), H', ⟨by have := HK1.out; omega⟩, by repeat (first | exact Drawn0.refl _ | apply Drawn0.step)⟩
        · rw [if_neg c4] at H
          exact absurd H (by simp)
      · rw [if_neg c3] at H
        have c3b0 : decide (x5_1 < (l0.length : Int)) = false := decide_eq_false c3
        clear c3
        obtain rfl := Option.some.inj H
        go_wp2
        go_ret
        exact ⟨by first | rfl | (simp; done) | (simp [*]; done), by repeat (first | exact Drawn0.refl _ | apply Drawn0.step)⟩
def spec_l06Can.f (l0 : List (S31)) (a1 : Nat) (a2 : Nat) : Option (Bool) := (XV.l06Are.f l0).bind fun t107 => (if t107 = true then ((XM.l02Least.f a1).bind fun t108 => (if t108 = true then ((XL.l01Finite.f a2).bind fun t109 => (some t109)) else (some false))) else (some false))
set_option maxHeartbeats 8000000 in
set_option maxRecDepth 100000 in
theorem spec_l06Can.calls (A0 : Option Addr) (c0 : Nat) (l0 : List (S31)) (a1 : Nat) (a2 : Nat) (r : Bool) (w : World) (hr0 : Kd.C k31 w A0 l0.length l0) (hc0 : l0.length ≤ c0) (h : spec_l06Can.f l0 a1 a2 = some r) :
    Calls Try.prog 90 #[.slice A0 l0.length c0, .float .f32 a1, .float .f32 a2] w fun e w' => e = .returned (.bool r) ∧ Below w.heap.size w w' := by
  have HR0 := Aside0.mk hr0
  have HC0 := Aside0.mk hc0
  clear hr0 hc0
  have HB := Aside0.mk (Below.refl w.heap.size w)
  have H : ((XV.l06Are.f l0).bind fun t107 => (if t107 = true then ((XM.l02Least.f a1).bind fun t108 => (if t108 = true then ((XL.l01Finite.f a2).bind fun t109 => (some t109)) else (some false))) else (some false))) = some r := h
  clear h
  replace H := Option.bind_eq_some_iff.mp H
  obtain ⟨t107, A40, H⟩ := H
  replace H : (if t107 = true then ((XM.l02Least.f a1).bind fun t108 => (if t108 = true then ((XL.l01Finite.f a2).bind fun t109 => (some t109)) else (some false))) else (some false)) = some r := H
  have A4 := Aside0.mk A40
  clear A40
  by_cases c5 : t107 = true
  · subst c5
    have H1 : ((XM.l02Least.f a1).bind fun t108 => (if t108 = true then ((XL.l01Finite.f a2).bind fun t109 => (some t109)) else (some false))) = some r := by rw [if_pos rfl] at H; exact H
    clear H
    have H := H1
    clear H1
    replace H := Option.bind_eq_some_iff.mp H
    obtain ⟨t108, A60, H⟩ := H
    replace H : (if t108 = true then ((XL.l01Finite.f a2).bind fun t109 => (some t109)) else (some false)) = some r := H
    have A6 := Aside0.mk A60
    clear A60
    by_cases c7 : t108 = true
    · subst c7
      have H1 : ((XL.l01Finite.f a2).bind fun t109 => (some t109)) = some r := by rw [if_pos rfl] at H; exact H
      clear H
      have H := H1
      clear H1
      replace H := Option.bind_eq_some_iff.mp H
      obtain ⟨t109, A80, H⟩ := H
      replace H : (some t109) = some r := H
      have A8 := Aside0.mk A80
      clear A80
      obtain rfl := Option.some.inj H
      go_enter Try.func90, Try.ntmps90
      go_wp2_with (first | ((with_reducible refine gate_callee (f := 68) rfl ?_); refine goesL_ (some 8) rfl rfl Try.func68 (by kernel_rfl) rfl #[.slice A0 l0.length c0] rfl (by (try simp only [List.map_toArray, List.map_cons, List.map_nil]); first | done | rfl | (simp only [List.length_drop, List.length_take]; rfl)) ?_; (with_reducible refine (XV.l06Are.calls _ _ l0 true _ ?side1 ?side2 A4.out).mono ?_); (case side1 => repeat (first | exact HR0.out | (with_reducible refine Kd.C_alloc ?_ _) | (with_reducible refine Kd.C_drewN ?_ _) | (with_reducible refine Kd.C_drew ?_))); (case side2 => exact HC0.out); rintro e w9 ⟨rfl, hb⟩; refine ⟨_, rfl, ?_⟩; have n0_ := Aside0.mk (below_step (by repeat (first | (with_reducible first | exact HB.out | apply below_alloc | apply pw_below_drewN | apply below_drew1) | exact HB.out)) hb); clear HB; have HB := n0_; clear n0_; (try clear hb); (try clear hb2); (try clear hk); (try clear hi)) | (go_at_call 70; (with_reducible refine (XM.l02Least.calls a1 true _ A6.out).mono ?_); rintro e w' ⟨rfl, ⟨nd, rfl⟩⟩) | (go_at_call 58; (with_reducible refine (XL.l01Finite.calls a2 t109 _ A8.out).mono ?_); rintro e w' ⟨rfl, ⟨nd, rfl⟩⟩))
      go_ret
      exact ⟨by first | rfl | (simp [errW_none, errW_some] <;> rfl) | (simp [*, errW_none, errW_some] <;> rfl), by repeat (first | (with_reducible first | exact HB.out | apply below_alloc | apply pw_below_drewN | apply below_drew1) | exact HB.out)⟩
    · replace c7 := Bool.eq_false_iff.mpr c7
      subst c7
      have H1 : (some false) = some r := by rw [if_neg (show ¬ (false = true) by decide)] at H; exact H
      clear H
      have H := H1
      clear H1
      obtain rfl := Option.some.inj H
      go_enter Try.func90, Try.ntmps90
      go_wp2_with (first | ((with_reducible refine gate_callee (f := 68) rfl ?_); refine goesL_ (some 8) rfl rfl Try.func68 (by kernel_rfl) rfl #[.slice A0 l0.length c0] rfl (by (try simp only [List.map_toArray, List.map_cons, List.map_nil]); first | done | rfl | (simp only [List.length_drop, List.length_take]; rfl)) ?_; (with_reducible refine (XV.l06Are.calls _ _ l0 true _ ?side1 ?side2 A4.out).mono ?_); (case side1 => repeat (first | exact HR0.out | (with_reducible refine Kd.C_alloc ?_ _) | (with_reducible refine Kd.C_drewN ?_ _) | (with_reducible refine Kd.C_drew ?_))); (case side2 => exact HC0.out); rintro e w10 ⟨rfl, hb⟩; refine ⟨_, rfl, ?_⟩; have n0_ := Aside0.mk (below_step (by repeat (first | (with_reducible first | exact HB.out | apply below_alloc | apply pw_below_drewN | apply below_drew1) | exact HB.out)) hb); clear HB; have HB := n0_; clear n0_; (try clear hb); (try clear hb2); (try clear hk); (try clear hi)) | (go_at_call 70; (with_reducible refine (XM.l02Least.calls a1 false _ A6.out).mono ?_); rintro e w' ⟨rfl, ⟨nd, rfl⟩⟩))
      go_ret
      exact ⟨by first | rfl | (simp [errW_none, errW_some] <;> rfl) | (simp [*, errW_none, errW_some] <;> rfl), by repeat (first | (with_reducible first | exact HB.out | apply below_alloc | apply pw_below_drewN | apply below_drew1) | exact HB.out)⟩
  · replace c5 := Bool.eq_false_iff.mpr c5
    subst c5
    have H1 : (some false) = some r := by rw [if_neg (show ¬ (false = true) by decide)] at H; exact H
    clear H
    have H := H1
    clear H1
    obtain rfl := Option.some.inj H
    go_enter Try.func90, Try.ntmps90
    go_wp2_with (first | ((with_reducible refine gate_callee (f := 68) rfl ?_); refine goesL_ (some 8) rfl rfl Try.func68 (by kernel_rfl) rfl #[.slice A0 l0.length c0] rfl (by (try simp only [List.map_toArray, List.map_cons, List.map_nil]); first | done | rfl | (simp only [List.length_drop, List.length_take]; rfl)) ?_; (with_reducible refine (XV.l06Are.calls _ _ l0 false _ ?side1 ?side2 A4.out).mono ?_); (case side1 => repeat (first | exact HR0.out | (with_reducible refine Kd.C_alloc ?_ _) | (with_reducible refine Kd.C_drewN ?_ _) | (with_reducible refine Kd.C_drew ?_))); (case side2 => exact HC0.out); rintro e w11 ⟨rfl, hb⟩; refine ⟨_, rfl, ?_⟩; have n0_ := Aside0.mk (below_step (by repeat (first | (with_reducible first | exact HB.out | apply below_alloc | apply pw_below_drewN | apply below_drew1) | exact HB.out)) hb); clear HB; have HB := n0_; clear n0_; (try clear hb); (try clear hb2); (try clear hk); (try clear hi)))
    go_ret
    exact ⟨by first | rfl | (simp [errW_none, errW_some] <;> rfl) | (simp [*, errW_none, errW_some] <;> rfl), by repeat (first | (with_reducible first | exact HB.out | apply below_alloc | apply pw_below_drewN | apply below_drew1) | exact HB.out)⟩
end Go.Proofs.Ytffofpiejcolfaa.L4
end
