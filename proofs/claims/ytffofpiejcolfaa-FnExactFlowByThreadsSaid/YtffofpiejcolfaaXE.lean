/- Vectors of floats up to the bits of a NaN: sums, differences, products; what comes out may be a NaN, whose bits the tape tells. -/
import Derived.Test.YtffofpiejcolfaaXN
import Derived.Test.YtffofpiejcolfaaXTL
set_option linter.unusedVariables false
set_option linter.unusedSimpArgs false
namespace Go.Proofs.Ytffofpiejcolfaa
open Go.RowKit Go.Proofs.YtffofpiejcolfaaW.PrintWords Go.Proofs.YtffofpiejcolfaaW.PrintLast Go.Proofs.YtffofpiejcolfaaW.PrintMore
attribute [local go_sem] max2_int min2_int max_two min_two max_three min_three max_four min_four   -- for this text's walks alone
namespace XE
open XF XL XC XY L0
/-- The same number, or a NaN for a NaN. -/
def E (x b : Nat) : Prop := b = x ∨ (isn .f32 x = true ∧ isn .f32 b = true)
theorem E.refl (x : Nat) : E x x := .inl rfl
/-- Arithmetic up to a NaN's bits. -/
def ar (op : BinOp) (x y : Nat) : Nat := (floatBits op .f32 x y).getD 2143289344
theorem isn_q : isn .f32 2143289344 = true := by decide
theorem read_nan {x : Nat} (h : isn .f32 x = true) : ∃ s f, FloatKind.f32.format.read x = .nan s f := by
  unfold isn at h
  cases hx : FloatKind.f32.format.read x with
  | nan s f => exact ⟨s, f, rfl⟩
  | infinity s => rw [hx] at h; cases h
  | number s m e => rw [hx] at h; cases h
theorem fb_l {op : BinOp} {x y : Nat} (h : isn .f32 x = true) : floatBits op .f32 x y = none := by
  obtain ⟨s, f, hx⟩ := read_nan h
  cases op <;> (first | rfl | (unfold floatBits; simp only [Ieee.Format.add, Ieee.Format.sub, Ieee.Format.mul, Ieee.Format.div, hx]; cases FloatKind.f32.format.read y <;> rfl))
theorem fb_r {op : BinOp} {x y : Nat} (h : isn .f32 y = true) : floatBits op .f32 x y = none := by
  obtain ⟨s, f, hx⟩ := read_nan h
  cases op <;> (first | rfl | (unfold floatBits; simp only [Ieee.Format.add, Ieee.Format.sub, Ieee.Format.mul, Ieee.Format.div, hx]; cases FloatKind.f32.format.read x <;> rfl))
theorem run_ar {P : Program} (w : World) (op : BinOp) (hop : arith op) (t : TypeId) {x y a b : Nat} (hx : E x a) (hy : E y b) : ∃ c n, (binOp op t (.float .f32 a) (.float .f32 b)).run P w = .ok (.float .f32 c) (w.drewN n) ∧ E (ar op x y) c := by
  unfold ar
  cases hf : floatBits op .f32 a b with
  | some r =>
    have h1 : a = x := by
      rcases hx with h | h
      · exact h
      · rw [fb_l h.2] at hf
        cases hf
    have h2 : b = y := by
      rcases hy with h | h
      · exact h
      · rw [fb_r h.2] at hf
        cases hf
    subst h1 h2
    refine ⟨r, 0, ?_, ?_⟩
    · rcases hop with rfl | rfl | rfl | rfl <;> exact run_float_arith w _ t .f32 _ _ _ hf
    · rw [hf]
      exact E.refl _
  | none =>
    refine ⟨_, 1, run_arith_none w op hop t .f32 a b hf, ?_⟩
    have h : floatBits op .f32 x y = none := by
      rcases hx with rfl | h
      · rcases hy with rfl | h2
        · exact hf
        · exact fb_r h2.1
      · exact fb_l h.1
    rw [h]
    exact .inr ⟨isn_q, nanv_isn _ _ _ _⟩
theorem wpList_ar {P : Program} {ops : Array Oper} {rest : List Oper} {o : Oper} {a : Act} {w : World} {Q : Exit → Act → World → Prop} (hgd : o.guard = none) (op : BinOp) (tx ty : TypeId) (u v : Operand) (ho : o.op = .binOp op tx u v ty) (hop : arith op) (b c : Nat) (hu : a.eval u = .float .f32 b) (hv : a.eval v = .float .f32 c) {x y : Nat} (hx : E x b) (hy : E y c)
    (h : ∀ d n, E (ar op x y) d → wpList P ops Q rest (a.put o.dst (.float .f32 d)) (w.drewN n)) : wpList P ops Q (o :: rest) a w := by
  refine wpList_plain hgd fun K hK => ?_
  obtain ⟨d, n, hr, hc⟩ := run_ar (P := P) w op hop tx hx hy
  have hg : ∀ p q : Value, (eqGuard op tx u v p q).run P w = .ok () w := by
    intro p q
    rcases hop with rfl | rfl | rfl | rfl <;> rfl
  unfold Oper.wp execOp
  simp only [ho, Sem.run_bind, hu, hv, hg, hr, Result.andThen_ok, Sem.run_pure]
  exact hK _ _ (h d n hc)
/-- A vector's value. -/
abbrev vv (c : S46) : Value := .agg #[.float .f32 c.f0, .float .f32 c.f1, .float .f32 c.f2]
def EV (v c : S46) : Prop := E v.f0 c.f0 ∧ E v.f1 c.f1 ∧ E v.f2 c.f2
theorem EV.refl (v : S46) : EV v v := ⟨E.refl _, E.refl _, E.refl _⟩
def opV (op : BinOp) (x y : S46) : S46 := ⟨ar op x.f0 y.f0, ar op x.f1 y.f1, ar op x.f2 y.f2⟩
def mulV (x : S46) (s : Nat) : S46 := ⟨ar .mul x.f0 s, ar .mul x.f1 s, ar .mul x.f2 s⟩
def inV (x y : S46) : Nat := ar .add (ar .add (ar .mul x.f0 y.f0) (ar .mul x.f1 y.f1)) (ar .mul x.f2 y.f2)
def crs (a b c d : Nat) : Nat := ar .sub (ar .mul a b) (ar .mul c d)
def crossV (x y : S46) : S46 := ⟨crs x.f1 y.f2 x.f2 y.f1, crs x.f2 y.f0 x.f0 y.f2, crs x.f0 y.f1 x.f1 y.f0⟩
theorem arA : arith .add := .inl rfl
theorem arS : arith .sub := .inr (.inl rfl)
theorem arM : arith .mul := .inr (.inr (.inl rfl))
theorem arQ : arith .quo := .inr (.inr (.inr rfl))
set_option maxHeartbeats 4000000 in
set_option maxRecDepth 100000 in
theorem less60 (x y a b : S46) (hx : EV x a) (hy : EV y b) (w : World) : Calls Try.prog 60 #[vv a, vv b] w fun e w' => ∃ c, e = .returned (vv c) ∧ EV (opV .sub x y) c ∧ Below w.heap.size w w' := by
  obtain ⟨x0, x1, x2⟩ := hx
  obtain ⟨y0, y1, y2⟩ := hy
  go_enter Try.func60, Try.ntmps60
  go_wp2_with (first | (refine wpList_ar rfl _ _ _ _ _ rfl (by first | exact arS | exact arA | exact arM | exact arQ) _ _ rfl rfl (by first | assumption | exact E.refl _) (by first | assumption | exact E.refl _) ?_; intro c n hc))
  rename_i c0 n0 h0 c1 n1 h1
  refine bodyPost_ret (results_cell_row rfl _ _ (w.heap.size + 1 + 1) 46 #[.float .f32 c0, .float .f32 c1, .float .f32 c] (0, 0) _ rfl (by
    refine blk_put (cs := #[.float .f32 c0, .float .f32 c1, .float .f32 0]) ?_ 2 _ rfl
    refine blk_put (cs := #[.float .f32 c0, .float .f32 0, .float .f32 0]) ?_ 1 _ rfl
    refine blk_put (cs := #[.float .f32 0, .float .f32 0, .float .f32 0]) ?_ 0 _ rfl
    (with_reducible repeat (first | refine blk_drewN ?_ _ | refine blk_drew ?_))
    exact by simpa using heap_alloc_new ((w.alloc (.cells #[.float .f32 a.f0, .float .f32 a.f1, .float .f32 a.f2] 46)).alloc (.cells #[.float .f32 b.f0, .float .f32 b.f1, .float .f32 b.f2] 46)) (.cells #[.float .f32 0, .float .f32 0, .float .f32 0] 46)) Try.underlying46 rfl (by kernel_rfl)) rfl ?_
  exact ⟨⟨c0, c1, c⟩, rfl, ⟨h0, h1, hc⟩, by repeat (first | exact Below.refl _ _ | apply pw_below_drewN | apply below_alloc | apply below_drew1 | refine below_set ?_ (by show w.heap.size ≤ _; first | exact Nat.le_refl _ | exact Nat.le_succ _ | omega))⟩
set_option maxHeartbeats 4000000 in
set_option maxRecDepth 100000 in
theorem less54 (x y a b : S46) (hx : EV x a) (hy : EV y b) (w : World) : Calls Try.prog 54 #[vv a, vv b] w fun e w' => ∃ c, e = .returned (vv c) ∧ EV (opV .sub x y) c ∧ Below w.heap.size w w' := by
  obtain ⟨x0, x1, x2⟩ := hx
  obtain ⟨y0, y1, y2⟩ := hy
  go_enter Try.func54, Try.ntmps54
  go_wp2_with (first | (refine wpList_ar rfl _ _ _ _ _ rfl (by first | exact arS | exact arA | exact arM | exact arQ) _ _ rfl rfl (by first | assumption | exact E.refl _) (by first | assumption | exact E.refl _) ?_; intro c n hc))
  rename_i c0 n0 h0 c1 n1 h1
  refine bodyPost_ret (results_cell_row rfl _ _ (w.heap.size + 1 + 1) 46 #[.float .f32 c0, .float .f32 c1, .float .f32 c] (0, 0) _ rfl (by
    refine blk_put (cs := #[.float .f32 c0, .float .f32 c1, .float .f32 0]) ?_ 2 _ rfl
    refine blk_put (cs := #[.float .f32 c0, .float .f32 0, .float .f32 0]) ?_ 1 _ rfl
    refine blk_put (cs := #[.float .f32 0, .float .f32 0, .float .f32 0]) ?_ 0 _ rfl
    (with_reducible repeat (first | refine blk_drewN ?_ _ | refine blk_drew ?_))
    exact by simpa using heap_alloc_new ((w.alloc (.cells #[.float .f32 a.f0, .float .f32 a.f1, .float .f32 a.f2] 46)).alloc (.cells #[.float .f32 b.f0, .float .f32 b.f1, .float .f32 b.f2] 46)) (.cells #[.float .f32 0, .float .f32 0, .float .f32 0] 46)) Try.underlying46 rfl (by kernel_rfl)) rfl ?_
  exact ⟨⟨c0, c1, c⟩, rfl, ⟨h0, h1, hc⟩, by repeat (first | exact Below.refl _ _ | apply pw_below_drewN | apply below_alloc | apply below_drew1 | refine below_set ?_ (by show w.heap.size ≤ _; first | exact Nat.le_refl _ | exact Nat.le_succ _ | omega))⟩
set_option maxHeartbeats 4000000 in
set_option maxRecDepth 100000 in
theorem add108 (x y a b : S46) (hx : EV x a) (hy : EV y b) (w : World) : Calls Try.prog 108 #[vv a, vv b] w fun e w' => ∃ c, e = .returned (vv c) ∧ EV (opV .add x y) c ∧ Below w.heap.size w w' := by
  obtain ⟨x0, x1, x2⟩ := hx
  obtain ⟨y0, y1, y2⟩ := hy
  go_enter Try.func108, Try.ntmps108
  go_wp2_with (first | (refine wpList_ar rfl _ _ _ _ _ rfl (by first | exact arS | exact arA | exact arM | exact arQ) _ _ rfl rfl (by first | assumption | exact E.refl _) (by first | assumption | exact E.refl _) ?_; intro c n hc))
  rename_i c0 n0 h0 c1 n1 h1
  refine bodyPost_ret (results_cell_row rfl _ _ (w.heap.size + 1 + 1) 46 #[.float .f32 c0, .float .f32 c1, .float .f32 c] (0, 0) _ rfl (by
    refine blk_put (cs := #[.float .f32 c0, .float .f32 c1, .float .f32 0]) ?_ 2 _ rfl
    refine blk_put (cs := #[.float .f32 c0, .float .f32 0, .float .f32 0]) ?_ 1 _ rfl
    refine blk_put (cs := #[.float .f32 0, .float .f32 0, .float .f32 0]) ?_ 0 _ rfl
    (with_reducible repeat (first | refine blk_drewN ?_ _ | refine blk_drew ?_))
    exact by simpa using heap_alloc_new ((w.alloc (.cells #[.float .f32 a.f0, .float .f32 a.f1, .float .f32 a.f2] 46)).alloc (.cells #[.float .f32 b.f0, .float .f32 b.f1, .float .f32 b.f2] 46)) (.cells #[.float .f32 0, .float .f32 0, .float .f32 0] 46)) Try.underlying46 rfl (by kernel_rfl)) rfl ?_
  exact ⟨⟨c0, c1, c⟩, rfl, ⟨h0, h1, hc⟩, by repeat (first | exact Below.refl _ _ | apply pw_below_drewN | apply below_alloc | apply below_drew1 | refine below_set ?_ (by show w.heap.size ≤ _; first | exact Nat.le_refl _ | exact Nat.le_succ _ | omega))⟩
set_option maxHeartbeats 4000000 in
set_option maxRecDepth 100000 in
theorem add82 (x y a b : S46) (hx : EV x a) (hy : EV y b) (w : World) : Calls Try.prog 82 #[vv a, vv b] w fun e w' => ∃ c, e = .returned (vv c) ∧ EV (opV .add x y) c ∧ Below w.heap.size w w' := by
  obtain ⟨x0, x1, x2⟩ := hx
  obtain ⟨y0, y1, y2⟩ := hy
  go_enter Try.func82, Try.ntmps82
  go_wp2_with (first | (refine wpList_ar rfl _ _ _ _ _ rfl (by first | exact arS | exact arA | exact arM | exact arQ) _ _ rfl rfl (by first | assumption | exact E.refl _) (by first | assumption | exact E.refl _) ?_; intro c n hc))
  rename_i c0 n0 h0 c1 n1 h1
  refine bodyPost_ret (results_cell_row rfl _ _ (w.heap.size + 1 + 1) 46 #[.float .f32 c0, .float .f32 c1, .float .f32 c] (0, 0) _ rfl (by
    refine blk_put (cs := #[.float .f32 c0, .float .f32 c1, .float .f32 0]) ?_ 2 _ rfl
    refine blk_put (cs := #[.float .f32 c0, .float .f32 0, .float .f32 0]) ?_ 1 _ rfl
    refine blk_put (cs := #[.float .f32 0, .float .f32 0, .float .f32 0]) ?_ 0 _ rfl
    (with_reducible repeat (first | refine blk_drewN ?_ _ | refine blk_drew ?_))
    exact by simpa using heap_alloc_new ((w.alloc (.cells #[.float .f32 a.f0, .float .f32 a.f1, .float .f32 a.f2] 46)).alloc (.cells #[.float .f32 b.f0, .float .f32 b.f1, .float .f32 b.f2] 46)) (.cells #[.float .f32 0, .float .f32 0, .float .f32 0] 46)) Try.underlying46 rfl (by kernel_rfl)) rfl ?_
  exact ⟨⟨c0, c1, c⟩, rfl, ⟨h0, h1, hc⟩, by repeat (first | exact Below.refl _ _ | apply pw_below_drewN | apply below_alloc | apply below_drew1 | refine below_set ?_ (by show w.heap.size ≤ _; first | exact Nat.le_refl _ | exact Nat.le_succ _ | omega))⟩
set_option maxHeartbeats 4000000 in
set_option maxRecDepth 100000 in
theorem scale107 (x a : S46) (s t : Nat) (hx : EV x a) (hs : E s t) (w : World) : Calls Try.prog 107 #[vv a, .float .f32 t] w fun e w' => ∃ c, e = .returned (vv c) ∧ EV (mulV x s) c ∧ Below w.heap.size w w' := by
  obtain ⟨x0, x1, x2⟩ := hx
  go_enter Try.func107, Try.ntmps107
  go_wp2_with (first | (refine wpList_ar rfl _ _ _ _ _ rfl (by first | exact arS | exact arA | exact arM | exact arQ) _ _ rfl rfl (by first | assumption | exact E.refl _) (by first | assumption | exact E.refl _) ?_; intro c n hc))
  rename_i c0 n0 h0 c1 n1 h1
  refine bodyPost_ret (results_cell_row rfl _ _ (w.heap.size + 1) 46 #[.float .f32 c0, .float .f32 c1, .float .f32 c] (0, 0) _ rfl (by
    refine blk_put (cs := #[.float .f32 c0, .float .f32 c1, .float .f32 0]) ?_ 2 _ rfl
    refine blk_put (cs := #[.float .f32 c0, .float .f32 0, .float .f32 0]) ?_ 1 _ rfl
    refine blk_put (cs := #[.float .f32 0, .float .f32 0, .float .f32 0]) ?_ 0 _ rfl
    (with_reducible repeat (first | refine blk_drewN ?_ _ | refine blk_drew ?_))
    exact by simpa using heap_alloc_new (w.alloc (.cells #[.float .f32 a.f0, .float .f32 a.f1, .float .f32 a.f2] 46)) (.cells #[.float .f32 0, .float .f32 0, .float .f32 0] 46)) Try.underlying46 rfl (by kernel_rfl)) rfl ?_
  exact ⟨⟨c0, c1, c⟩, rfl, ⟨h0, h1, hc⟩, by repeat (first | exact Below.refl _ _ | apply pw_below_drewN | apply below_alloc | apply below_drew1 | refine below_set ?_ (by show w.heap.size ≤ _; first | exact Nat.le_refl _ | exact Nat.le_succ _ | omega))⟩
set_option maxHeartbeats 4000000 in
set_option maxRecDepth 100000 in
theorem scale83 (x a : S46) (s t : Nat) (hx : EV x a) (hs : E s t) (w : World) : Calls Try.prog 83 #[vv a, .float .f32 t] w fun e w' => ∃ c, e = .returned (vv c) ∧ EV (mulV x s) c ∧ Below w.heap.size w w' := by
  obtain ⟨x0, x1, x2⟩ := hx
  go_enter Try.func83, Try.ntmps83
  go_wp2_with (first | (refine wpList_ar rfl _ _ _ _ _ rfl (by first | exact arS | exact arA | exact arM | exact arQ) _ _ rfl rfl (by first | assumption | exact E.refl _) (by first | assumption | exact E.refl _) ?_; intro c n hc))
  rename_i c0 n0 h0 c1 n1 h1
  refine bodyPost_ret (results_cell_row rfl _ _ (w.heap.size + 1) 46 #[.float .f32 c0, .float .f32 c1, .float .f32 c] (0, 0) _ rfl (by
    refine blk_put (cs := #[.float .f32 c0, .float .f32 c1, .float .f32 0]) ?_ 2 _ rfl
    refine blk_put (cs := #[.float .f32 c0, .float .f32 0, .float .f32 0]) ?_ 1 _ rfl
    refine blk_put (cs := #[.float .f32 0, .float .f32 0, .float .f32 0]) ?_ 0 _ rfl
    (with_reducible repeat (first | refine blk_drewN ?_ _ | refine blk_drew ?_))
    exact by simpa using heap_alloc_new (w.alloc (.cells #[.float .f32 a.f0, .float .f32 a.f1, .float .f32 a.f2] 46)) (.cells #[.float .f32 0, .float .f32 0, .float .f32 0] 46)) Try.underlying46 rfl (by kernel_rfl)) rfl ?_
  exact ⟨⟨c0, c1, c⟩, rfl, ⟨h0, h1, hc⟩, by repeat (first | exact Below.refl _ _ | apply pw_below_drewN | apply below_alloc | apply below_drew1 | refine below_set ?_ (by show w.heap.size ≤ _; first | exact Nat.le_refl _ | exact Nat.le_succ _ | omega))⟩
set_option maxHeartbeats 4000000 in
set_option maxRecDepth 100000 in
theorem inner62 (x y a b : S46) (hx : EV x a) (hy : EV y b) (w : World) : Calls Try.prog 62 #[vv a, vv b] w fun e w' => ∃ c, e = .returned (.float .f32 c) ∧ E (inV x y) c ∧ Below w.heap.size w w' := by
  obtain ⟨x0, x1, x2⟩ := hx
  obtain ⟨y0, y1, y2⟩ := hy
  go_enter Try.func62, Try.ntmps62
  go_wp2_with (first | (refine wpList_ar rfl _ _ _ _ _ rfl (by first | exact arS | exact arA | exact arM | exact arQ) _ _ rfl rfl (by first | assumption | exact E.refl _) (by first | assumption | exact E.refl _) ?_; intro c n hc))
  go_ret
  exact ⟨_, rfl, hc, by repeat (first | exact Below.refl _ _ | apply pw_below_drewN | apply below_alloc | apply below_drew1 | refine below_set ?_ (by show w.heap.size ≤ _; first | exact Nat.le_refl _ | exact Nat.le_succ _ | omega))⟩
set_option maxHeartbeats 4000000 in
set_option maxRecDepth 100000 in
theorem inner55 (x y a b : S46) (hx : EV x a) (hy : EV y b) (w : World) : Calls Try.prog 55 #[vv a, vv b] w fun e w' => ∃ c, e = .returned (.float .f32 c) ∧ E (inV x y) c ∧ Below w.heap.size w w' := by
  obtain ⟨x0, x1, x2⟩ := hx
  obtain ⟨y0, y1, y2⟩ := hy
  go_enter Try.func55, Try.ntmps55
  go_wp2_with (first | (refine wpList_ar rfl _ _ _ _ _ rfl (by first | exact arS | exact arA | exact arM | exact arQ) _ _ rfl rfl (by first | assumption | exact E.refl _) (by first | assumption | exact E.refl _) ?_; intro c n hc))
  go_ret
  exact ⟨_, rfl, hc, by repeat (first | exact Below.refl _ _ | apply pw_below_drewN | apply below_alloc | apply below_drew1 | refine below_set ?_ (by show w.heap.size ≤ _; first | exact Nat.le_refl _ | exact Nat.le_succ _ | omega))⟩
set_option maxHeartbeats 4000000 in
set_option maxRecDepth 100000 in
theorem crossed110 (x y z v a b c d : Nat) (hx : E x a) (hy : E y b) (hz : E z c) (hv : E v d) (w : World) : Calls Try.prog 110 #[.float .f32 a, .float .f32 b, .float .f32 c, .float .f32 d] w fun e w' => ∃ r, e = .returned (.float .f32 r) ∧ E (crs x y z v) r ∧ Drawn0 w w' := by
  go_enter Try.func110, Try.ntmps110
  go_wp2_with (first | (refine wpList_ar rfl _ _ _ _ _ rfl (by first | exact arS | exact arA | exact arM | exact arQ) _ _ rfl rfl (by first | assumption | exact E.refl _) (by first | assumption | exact E.refl _) ?_; intro c n hc))
  go_ret
  exact ⟨_, rfl, hc, ⟨_, rfl⟩⟩
set_option maxHeartbeats 4000000 in
set_option maxRecDepth 100000 in
theorem cross56 (x y a b : S46) (hx : EV x a) (hy : EV y b) (w : World) : Calls Try.prog 56 #[vv a, vv b] w fun e w' => ∃ c, e = .returned (vv c) ∧ EV (crossV x y) c ∧ Below w.heap.size w w' := by
  obtain ⟨x0, x1, x2⟩ := hx
  obtain ⟨y0, y1, y2⟩ := hy
  go_enter Try.func56, Try.ntmps56
  go_wp2_with (first | (refine wpList_ar rfl _ _ _ _ _ rfl (by first | exact arS | exact arA | exact arM | exact arQ) _ _ rfl rfl (by first | assumption | exact E.refl _) (by first | assumption | exact E.refl _) ?_; intro c n hc))
  rename_i p1 m1 k1 p2 m2 k2 c0 n0 h0 p4 m4 k4 p5 m5 k5 c1 n1 h1 p7 m7 k7 p8 m8 k8
  refine bodyPost_ret (results_cell_row rfl _ _ (w.heap.size + 1 + 1) 46 #[.float .f32 c0, .float .f32 c1, .float .f32 c] (0, 0) _ rfl (by
    refine blk_put (cs := #[.float .f32 c0, .float .f32 c1, .float .f32 0]) ?_ 2 _ rfl
    refine blk_put (cs := #[.float .f32 c0, .float .f32 0, .float .f32 0]) ?_ 1 _ rfl
    refine blk_put (cs := #[.float .f32 0, .float .f32 0, .float .f32 0]) ?_ 0 _ rfl
    (with_reducible repeat (first | refine blk_drewN ?_ _ | refine blk_drew ?_))
    exact by simpa using heap_alloc_new ((w.alloc (.cells #[.float .f32 a.f0, .float .f32 a.f1, .float .f32 a.f2] 46)).alloc (.cells #[.float .f32 b.f0, .float .f32 b.f1, .float .f32 b.f2] 46)) (.cells #[.float .f32 0, .float .f32 0, .float .f32 0] 46)) Try.underlying46 rfl (by kernel_rfl)) rfl ?_
  exact ⟨⟨c0, c1, c⟩, rfl, ⟨h0, h1, hc⟩, by repeat (first | exact Below.refl _ _ | apply pw_below_drewN | apply below_alloc | apply below_drew1 | refine below_set ?_ (by show w.heap.size ≤ _; first | exact Nat.le_refl _ | exact Nat.le_succ _ | omega))⟩
end XE
end Go.Proofs.Ytffofpiejcolfaa
