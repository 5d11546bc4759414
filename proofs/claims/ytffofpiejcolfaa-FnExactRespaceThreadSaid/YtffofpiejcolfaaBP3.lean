/- Words, walks and plain laws that a claim of this seat needs, one text after the other (part 3). -/
import Derived.Test.YtffofpiejcolfaaBP2
import Derived.Laws.BitsAllLaws
set_option linter.unusedVariables false
set_option linter.unusedSimpArgs false
section
set_option linter.unusedVariables false
set_option linter.unusedSimpArgs false
namespace Go.Proofs.Ytffofpiejcolfaa
open Go.RowKit Go.Proofs.YtffofpiejcolfaaW.PrintWords Go.Proofs.YtffofpiejcolfaaW.PrintLast Go.Proofs.YtffofpiejcolfaaW.PrintMore
attribute [local go_sem] max2_int min2_int max_two min_two max_three min_three max_four min_four
namespace XT
open XF XL XC L0
theorem heap_two (w : World) (o1 o2 : Obj) : ((w.alloc o1).alloc o2).heap[w.heap.size + 1]? = some o2 := by
  have := heap_alloc_new (w.alloc o1) o2
  simpa using this
theorem cell_first (w : World) (c : Array Value) (t : TypeId) (o2 : Obj) (i : Nat) : ((w.alloc (.cells c t)).alloc o2).cell? ⟨w.heap.size, i, none⟩ = c[i]? := by
  have h : ((w.alloc (.cells c t)).alloc o2).heap[w.heap.size]? = some (.cells c t) := (heap_alloc_old (w.alloc _) o2 (by simp)).trans (heap_alloc_new w _)
  unfold World.cell?
  rw [h]
  rfl
theorem cell_second (w : World) (o1 : Obj) (c : Array Value) (t : TypeId) (i : Nat) : ((w.alloc o1).alloc (.cells c t)).cell? ⟨w.heap.size + 1, i, none⟩ = c[i]? := by
  unfold World.cell?
  rw [heap_two]
  rfl
def eqThread.f (l0_0 : List S46) (a0_1 : Nat) (l1_0 : List S46) (a1_1 : Nat) : Option Bool :=
  (laws_eqVectorS.f (l0_0.length + 1) l0_0 l1_0).bind fun t => some (t && sfc a0_1 a1_1)
set_option maxHeartbeats 4000000 in
set_option maxRecDepth 100000 in
theorem eqThread.calls (A0_0 : Option Addr) (c0_0 : Nat) (l0_0 : List S46) (a0_1 : Nat) (A1_0 : Option Addr) (c1_0 : Nat) (l1_0 : List S46) (a1_1 : Nat) (r : Bool) (w : World) (hr0_0 : Kd.C k46 w A0_0 l0_0.length l0_0) (hc0_0 : l0_0.length ≤ c0_0) (hr1_0 : Kd.C k46 w A1_0 l1_0.length l1_0) (hc1_0 : l1_0.length ≤ c1_0) (h : eqThread.f l0_0 a0_1 l1_0 a1_1 = some r) :
    Calls Try.prog 16 #[.agg #[.slice A0_0 l0_0.length c0_0, .float .f32 a0_1], .agg #[.slice A1_0 l1_0.length c1_0, .float .f32 a1_1]] w fun e w' => e = .returned (.bool r) ∧ Below w.heap.size w w' := by
  obtain ⟨t, ht, h2⟩ := Option.bind_eq_some_iff.1 h
  obtain rfl := Option.some.inj h2
  clear h h2
  have q0 : (Try.prog.underlying 23).isSome = true := by kernel_rfl
  have q1 := Try.underlying34
  cases t with
  | false =>
    go_enter Try.func16, Try.ntmps16
    go_wp2_with (first | (go_at_call 48; refine (laws_eqVectorS.calls _ _ _ _ _ _ _ _ _ (Kd.C_alloc (Kd.C_alloc hr0_0 _) _) hc0_0 (Kd.C_alloc (Kd.C_alloc hr1_0 _) _) hc1_0 ht).mono ?_; rintro e w1 ⟨rfl, hb⟩))
    go_ret
    exact ⟨by first | rfl | (simp [*]; done), below_step (below_alloc (below_alloc (Below.refl _ _) _) _) hb⟩
  | true =>
    cases es : sfc a0_1 a1_1 with
    | false =>
      go_enter Try.func16, Try.ntmps16
      go_wp2_with (first | (go_at_call 48; refine (laws_eqVectorS.calls _ _ _ _ _ _ _ _ _ (Kd.C_alloc (Kd.C_alloc hr0_0 _) _) hc0_0 (Kd.C_alloc (Kd.C_alloc hr1_0 _) _) hc1_0 ht).mono ?_; rintro e w1 ⟨rfl, hb⟩; have f1 := (hb.cell (p := ⟨w.heap.size, 1, none⟩) (by first | (simp; done) | (simp; omega))).trans (cell_first _ _ _ _ 1); have g1 := (hb.cell (p := ⟨w.heap.size + 1, 1, none⟩) (by first | (simp; done) | (simp; omega))).trans (cell_second _ _ _ _ 1); have hbw := below_step (below_alloc (below_alloc (Below.refl w.heap.size w) _) _) hb; clear hb) | (refine wpList_conv rfl _ _ _ rfl q0 q1 _ rfl ?_; intro b' n hc) | (go_at_call 15; refine (sameFloat_c _ _ _ _ (by assumption) (by assumption) _).mono ?_; rw [es]; rintro e w1 ⟨rfl, ⟨nd, rfl⟩⟩))
      go_ret
      exact ⟨by first | rfl | (simp [*]; done), by repeat (first | exact hbw | apply pw_below_drewN)⟩
    | true =>
      go_enter Try.func16, Try.ntmps16
      go_wp2_with (first | (go_at_call 48; refine (laws_eqVectorS.calls _ _ _ _ _ _ _ _ _ (Kd.C_alloc (Kd.C_alloc hr0_0 _) _) hc0_0 (Kd.C_alloc (Kd.C_alloc hr1_0 _) _) hc1_0 ht).mono ?_; rintro e w1 ⟨rfl, hb⟩; have f1 := (hb.cell (p := ⟨w.heap.size, 1, none⟩) (by first | (simp; done) | (simp; omega))).trans (cell_first _ _ _ _ 1); have g1 := (hb.cell (p := ⟨w.heap.size + 1, 1, none⟩) (by first | (simp; done) | (simp; omega))).trans (cell_second _ _ _ _ 1); have hbw := below_step (below_alloc (below_alloc (Below.refl w.heap.size w) _) _) hb; clear hb) | (refine wpList_conv rfl _ _ _ rfl q0 q1 _ rfl ?_; intro b' n hc) | (go_at_call 15; refine (sameFloat_c _ _ _ _ (by assumption) (by assumption) _).mono ?_; rw [es]; rintro e w1 ⟨rfl, ⟨nd, rfl⟩⟩))
      go_ret
      exact ⟨by first | rfl | (simp [*]; done), by repeat (first | exact hbw | apply pw_below_drewN)⟩
end XT
end Go.Proofs.Ytffofpiejcolfaa
end
section
set_option linter.unusedVariables false
set_option linter.unusedSimpArgs false
namespace Go.Proofs.Ytffofpiejcolfaa
open Go.RowKit Go.Proofs.YtffofpiejcolfaaW.PrintWords Go.Proofs.YtffofpiejcolfaaW.PrintLast Go.Proofs.YtffofpiejcolfaaW.PrintMore
attribute [local go_sem] max2_int min2_int max_two min_two max_three min_three max_four min_four
namespace XE
open XF XL XC XY L0
def E (x b : Nat) : Prop := b = x ∨ (isn .f32 x = true ∧ isn .f32 b = true)
theorem E.refl (x : Nat) : E x x := .inl rfl
def ar (op : BinOp) (x y : Nat) : Nat := (floatBits op .f32 x y).getD 2143289344
theorem isn_q : isn .f32 2143289344 = true := by decide
theorem read_nan {x : Nat} (h : isn .f32 x = true) : ∃ s f, FloatKind.f32.format.read x = .nan s f := by
  unfold isn at h
  cases hx : FloatKind.f32.format.read x with
  | nan s f => exact ⟨s, f, rfl⟩
  | infinity s => rw [hx] at h; cases h
  | number s m e => rw [hx] at h; cases h
theorem fb_l {op : BinOp} {x y : Nat} (h : isn .f32 x = true) : floatBits op .f32 x y = none := by
  obtain ⟨s, f, hx⟩ := read_nan h
  cases op <;> (first | rfl | (unfold floatBits; simp only [Ieee.Format.add, Ieee.Format.sub, Ieee.Format.mul, Ieee.Format.div, hx]; cases FloatKind.f32.format.read y <;> rfl))
theorem fb_r {op : BinOp} {x y : Nat} (h : isn .f32 y = true) : floatBits op .f32 x y = none := by
  obtain ⟨s, f, hx⟩ := read_nan h
  cases op <;> (first | rfl | (unfold floatBits; simp only [Ieee.Format.add, Ieee.Format.sub, Ieee.Format.mul, Ieee.Format.div, hx]; cases FloatKind.f32.format.read x <;> rfl))
theorem run_ar {P : Program} (w : World) (op : BinOp) (hop : arith op) (t : TypeId) {x y a b : Nat} (hx : E x a) (hy : E y b) : ∃ c n, (binOp op t (.float .f32 a) (.float .f32 b)).run P w = .ok (.float .f32 c) (w.drewN n) ∧ E (ar op x y) c := by
  unfold ar
  cases hf : floatBits op .f32 a b with
  | some r =>
    have h1 : a = x := by
      rcases hx with h | h
      · exact h
      · rw [fb_l h.2] at hf
        cases hf
    have h2 : b = y := by
      rcases hy with h | h
      · exact h
      · rw [fb_r h.2] at hf
        cases hf
    subst h1 h2
    refine ⟨r, 0, ?_, ?_⟩
    · rcases hop with rfl | rfl | rfl | rfl <;> exact run_float_arith w _ t .f32 _ _ _ hf
    · rw [hf]
      exact E.refl _
  | none =>
    refine ⟨_, 1, run_arith_none w op hop t .f32 a b hf, ?_⟩
    have h : floatBits op .f32 x y = none := by
      rcases hx with rfl | h
      · rcases hy with rfl | h2
        · exact hf
        · exact fb_r h2.1
      · exact fb_l h.1
    rw [h]
    exact .inr ⟨isn_q, nanv_isn _ _ _ _⟩
theorem wpList_ar {P : Program} {ops : Array Oper} {rest : List Oper} {o : Oper} {a : Act} {w : World} {Q : Exit → Act → World → Prop} (hgd : o.guard = none) (op : BinOp) (tx ty : TypeId) (u v : Operand) (ho : o.op = .binOp op tx u v ty) (hop : arith op) (b c : Nat) (hu : a.eval u = .float .f32 b) (hv : a.eval v = .float .f32 c) {x y : Nat} (hx : E x b) (hy : E y c)
    (h : ∀ d n, E (ar op x y) d → wpList P ops Q rest (a.put o.dst (.float .f32 d)) (w.drewN n)) : wpList P ops Q (o :: rest) a w := by
  refine wpList_plain hgd fun K hK => ?_
  obtain ⟨d, n, hr, hc⟩ := run_ar (P := P) w op hop tx hx hy
  have hg : ∀ p q : Value, (eqGuard op tx u v p q).run P w = .ok () w := by
    intro p q
    rcases hop with rfl | rfl | rfl | rfl <;> rfl
  unfold Oper.wp execOp
  simp only [ho, Sem.run_bind, hu, hv, hg, hr, Result.andThen_ok, Sem.run_pure]
  exact hK _ _ (h d n hc)
abbrev vv (c : S46) : Value := .agg #[.float .f32 c.f0, .float .f32 c.f1, .float .f32 c.f2]
def EV (v c : S46) : Prop := E v.f0 c.f0 ∧ E v.f1 c.f1 ∧ E v.f2 c.f2
theorem EV.refl (v : S46) : EV v v := ⟨E.refl _, E.refl _, E.refl _⟩
def opV (op : BinOp) (x y : S46) : S46 := ⟨ar op x.f0 y.f0, ar op x.f1 y.f1, ar op x.f2 y.f2⟩
def mulV (x : S46) (s : Nat) : S46 := ⟨ar .mul x.f0 s, ar .mul x.f1 s, ar .mul x.f2 s⟩
theorem arA : arith .add := .inl rfl
theorem arS : arith .sub := .inr (.inl rfl)
theorem arM : arith .mul := .inr (.inr (.inl rfl))
theorem arQ : arith .quo := .inr (.inr (.inr rfl))
set_option maxHeartbeats 4000000 in
set_option maxRecDepth 100000 in
theorem less60 (x y a b : S46) (hx : EV x a) (hy : EV y b) (w : World) : Calls Try.prog 60 #[vv a, vv b] w fun e w' => ∃ c, e = .returned (vv c) ∧ EV (opV .sub x y) c ∧ Below w.heap.size w w' := by
  obtain ⟨x0, x1, x2⟩ := hx
  obtain ⟨y0, y1, y2⟩ := hy
  go_enter Try.func60, Try.ntmps60
  go_wp2_with (first | (refine wpList_ar rfl _ _ _ _ _ rfl (by first | exact arS | exact arA | exact arM | exact arQ) _ _ rfl rfl (by first | assumption | exact E.refl _) (by first | assumption | exact E.refl _) ?_; intro c n hc))
  rename_i c0 n0 h0 c1 n1 h1
  refine bodyPost_ret (results_cell_row rfl _ _ (w.heap.size + 1 + 1) 46 #[.float .f32 c0, .float .f32 c1, .float .f32 c] (0, 0) _ rfl (by
    refine blk_put (cs := #[.float .f32 c0, .float .f32 c1, .float .f32 0]) ?_ 2 _ rfl
    refine blk_put (cs := #[.float .f32 c0, .float .f32 0, .float .f32 0]) ?_ 1 _ rfl
    refine blk_put (cs := #[.float .f32 0, .float .f32 0, .float .f32 0]) ?_ 0 _ rfl
    (with_reducible repeat (first | refine blk_drewN ?_ _ | refine blk_drew ?_))
    exact by simpa using heap_alloc_new ((w.alloc (.cells #[.float .f32 a.f0, .float .f32 a.f1, .float .f32 a.f2] 46)).alloc (.cells #[.float .f32 b.f0, .float .f32 b.f1, .float .f32 b.f2] 46)) (.cells #[.float .f32 0, .float .f32 0, .float .f32 0] 46)) Try.underlying46 rfl (by kernel_rfl)) rfl ?_
  exact ⟨⟨c0, c1, c⟩, rfl, ⟨h0, h1, hc⟩, by repeat (first | exact Below.refl _ _ | apply pw_below_drewN | apply below_alloc | apply below_drew1 | refine below_set ?_ (by show w.heap.size ≤ _; first | exact Nat.le_refl _ | exact Nat.le_succ _ | omega))⟩
set_option maxHeartbeats 4000000 in
set_option maxRecDepth 100000 in
theorem less54 (x y a b : S46) (hx : EV x a) (hy : EV y b) (w : World) : Calls Try.prog 54 #[vv a, vv b] w fun e w' => ∃ c, e = .returned (vv c) ∧ EV (opV .sub x y) c ∧ Below w.heap.size w w' := by
  obtain ⟨x0, x1, x2⟩ := hx
  obtain ⟨y0, y1, y2⟩ := hy
  go_enter Try.func54, Try.ntmps54
  go_wp2_with (first | (refine wpList_ar rfl _ _ _ _ _ rfl (by first | exact arS | exact arA | exact arM | exact arQ) _ _ rfl rfl (by first | assumption | exact E.refl _) (by first | assumption | exact E.refl _) ?_; intro c n hc))
  rename_i c0 n0 h0 c1 n1 h1
  refine bodyPost_ret (results_cell_row rfl _ _ (w.heap.size + 1 + 1) 46 #[.float .f32 c0, .float .f32 c1, .float .f32 c] (0, 0) _ rfl (by
    refine blk_put (cs := #[.float .f32 c0, .float .f32 c1, .float .f32 0]) ?_ 2 _ rfl
    refine blk_put (cs := #[.float .f32 c0, .float .f32 0, .float .f32 0]) ?_ 1 _ rfl
    refine blk_put (cs := #[.float .f32 0, .float .f32 0, .float .f32 0]) ?_ 0 _ rfl
    (with_reducible repeat (first | refine blk_drewN ?_ _ | refine blk_drew ?_))
    exact by simpa using heap_alloc_new ((w.alloc (.cells #[.float .f32 a.f0, .float .f32 a.f1, .float .f32 a.f2] 46)).alloc (.cells #[.float .f32 b.f0, .float .f32 b.f1, .float .f32 b.f2] 46)) (.cells #[.float .f32 0, .float .f32 0, .float .f32 0] 46)) Try.underlying46 rfl (by kernel_rfl)) rfl ?_
  exact ⟨⟨c0, c1, c⟩, rfl, ⟨h0, h1, hc⟩, by repeat (first | exact Below.refl _ _ | apply pw_below_drewN | apply below_alloc | apply below_drew1 | refine below_set ?_ (by show w.heap.size ≤ _; first | exact Nat.le_refl _ | exact Nat.le_succ _ | omega))⟩
set_option maxHeartbeats 4000000 in
set_option maxRecDepth 100000 in
theorem add108 (x y a b : S46) (hx : EV x a) (hy : EV y b) (w : World) : Calls Try.prog 108 #[vv a, vv b] w fun e w' => ∃ c, e = .returned (vv c) ∧ EV (opV .add x y) c ∧ Below w.heap.size w w' := by
  obtain ⟨x0, x1, x2⟩ := hx
  obtain ⟨y0, y1, y2⟩ := hy
  go_enter Try.func108, Try.ntmps108
  go_wp2_with (first | (refine wpList_ar rfl _ _ _ _ _ rfl (by first | exact arS | exact arA | exact arM | exact arQ) _ _ rfl rfl (by first | assumption | exact E.refl _) (by first | assumption | exact E.refl _) ?_; intro c n hc))
  rename_i c0 n0 h0 c1 n1 h1
  refine bodyPost_ret (results_cell_row rfl _ _ (w.heap.size + 1 + 1) 46 #[.float .f32 c0, .float .f32 c1, .float .f32 c] (0, 0) _ rfl (by
    refine blk_put (cs := #[.float .f32 c0, .float .f32 c1, .float .f32 0]) ?_ 2 _ rfl
    refine blk_put (cs := #[.float .f32 c0, .float .f32 0, .float .f32 0]) ?_ 1 _ rfl
    refine blk_put (cs := #[.float .f32 0, .float .f32 0, .float .f32 0]) ?_ 0 _ rfl
    (with_reducible repeat (first | refine blk_drewN ?_ _ | refine blk_drew ?_))
    exact by simpa using heap_alloc_new ((w.alloc (.cells #[.float .f32 a.f0, .float .f32 a.f1, .float .f32 a.f2] 46)).alloc (.cells #[.float .f32 b.f0, .float .f32 b.f1, .float .f32 b.f2] 46)) (.cells #[.float .f32 0, .float .f32 0, .float .f32 0] 46)) Try.underlying46 rfl (by kernel_rfl)) rfl ?_
  exact ⟨⟨c0, c1, c⟩, rfl, ⟨h0, h1, hc⟩, by repeat (first | exact Below.refl _ _ | apply pw_below_drewN | apply below_alloc | apply below_drew1 | refine below_set ?_ (by show w.heap.size ≤ _; first | exact Nat.le_refl _ | exact Nat.le_succ _ | omega))⟩
set_option maxHeartbeats 4000000 in
set_option maxRecDepth 100000 in
theorem add82 (x y a b : S46) (hx : EV x a) (hy : EV y b) (w : World) : Calls Try.prog 82 #[vv a, vv b] w fun e w' => ∃ c, e = .returned (vv c) ∧ EV (opV .add x y) c ∧ Below w.heap.size w w' := by
  obtain ⟨x0, x1, x2⟩ := hx
  obtain ⟨y0, y1, y2⟩ := hy
  go_enter Try.func82, Try.ntmps82
  go_wp2_with (first | (refine wpList_ar rfl _ _ _ _ _ rfl (by first | exact arS | exact arA | exact arM | exact arQ) _ _ rfl rfl (by first | assumption | exact E.refl _) (by first | assumption | exact E.refl _) ?_; intro c n hc))
  rename_i c0 n0 h0 c1 n1 h1
  refine bodyPost_ret (results_cell_row rfl _ _ (w.heap.size + 1 + 1) 46 #[.float .f32 c0, .float .f32 c1, .float .f32 c] (0, 0) _ rfl (by
    refine blk_put (cs := #[.float .f32 c0, .float .f32 c1, .float .f32 0]) ?_ 2 _ rfl
    refine blk_put (cs := #[.float .f32 c0, .float .f32 0, .float .f32 0]) ?_ 1 _ rfl
    refine blk_put (cs := #[.float .f32 0, .float .f32 0, .float .f32 0]) ?_ 0 _ rfl
    (with_reducible repeat (first | refine blk_drewN ?_ _ | refine blk_drew ?_))
    exact by simpa using heap_alloc_new ((w.alloc (.cells #[.float .f32 a.f0, .float .f32 a.f1, .float .f32 a.f2] 46)).alloc (.cells #[.float .f32 b.f0, .float .f32 b.f1, .float .f32 b.f2] 46)) (.cells #[.float .f32 0, .float .f32 0, .float .f32 0] 46)) Try.underlying46 rfl (by kernel_rfl)) rfl ?_
  exact ⟨⟨c0, c1, c⟩, rfl, ⟨h0, h1, hc⟩, by repeat (first | exact Below.refl _ _ | apply pw_below_drewN | apply below_alloc | apply below_drew1 | refine below_set ?_ (by show w.heap.size ≤ _; first | exact Nat.le_refl _ | exact Nat.le_succ _ | omega))⟩
set_option maxHeartbeats 4000000 in
set_option maxRecDepth 100000 in
theorem scale107 (x a : S46) (s t : Nat) (hx : EV x a) (hs : E s t) (w : World) : Calls Try.prog 107 #[vv a, .float .f32 t] w fun e w' => ∃ c, e = .returned (vv c) ∧ EV (mulV x s) c ∧ Below w.heap.size w w' := by
  obtain ⟨x0, x1, x2⟩ := hx
  go_enter Try.func107, Try.ntmps107
  go_wp2_with (first | (refine wpList_ar rfl _ _ _ _ _ rfl (by first | exact arS | exact arA | exact arM | exact arQ) _ _ rfl rfl (by first | assumption | exact E.refl _) (by first | assumption | exact E.refl _) ?_; intro c n hc))
  rename_i c0 n0 h0 c1 n1 h1
  refine bodyPost_ret (results_cell_row rfl _ _ (w.heap.size + 1) 46 #[.float .f32 c0, .float .f32 c1, .float .f32 c] (0, 0) _ rfl (by
    refine blk_put (cs := #[.float .f32 c0, .float .f32 c1, .float .f32 0]) ?_ 2 _ rfl
    refine blk_put (cs := #[.float .f32 c0, .float .f32 0, .float .f32 0]) ?_ 1 _ rfl
    refine blk_put (cs := #[.float .f32 0, .float .f32 0, .float .f32 0]) ?_ 0 _ rfl
    (with_reducible repeat (first | refine blk_drewN ?_ _ | refine blk_drew ?_))
    exact by simpa using heap_alloc_new (w.alloc (.cells #[.float .f32 a.f0, .float .f32 a.f1, .float .f32 a.f2] 46)) (.cells #[.float .f32 0, .float .f32 0, .float .f32 0] 46)) Try.underlying46 rfl (by kernel_rfl)) rfl ?_
  exact ⟨⟨c0, c1, c⟩, rfl, ⟨h0, h1, hc⟩, by repeat (first | exact Below.refl _ _ | apply pw_below_drewN | apply below_alloc | apply below_drew1 | refine below_set ?_ (by show w.heap.size ≤ _; first | exact Nat.le_refl _ | exact Nat.le_succ _ | omega))⟩
set_option maxHeartbeats 4000000 in
set_option maxRecDepth 100000 in
theorem scale83 (x a : S46) (s t : Nat) (hx : EV x a) (hs : E s t) (w : World) : Calls Try.prog 83 #[vv a, .float .f32 t] w fun e w' => ∃ c, e = .returned (vv c) ∧ EV (mulV x s) c ∧ Below w.heap.size w w' := by
  obtain ⟨x0, x1, x2⟩ := hx
  go_enter Try.func83, Try.ntmps83
  go_wp2_with (first | (refine wpList_ar rfl _ _ _ _ _ rfl (by first | exact arS | exact arA | exact arM | exact arQ) _ _ rfl rfl (by first | assumption | exact E.refl _) (by first | assumption | exact E.refl _) ?_; intro c n hc))
  rename_i c0 n0 h0 c1 n1 h1
  refine bodyPost_ret (results_cell_row rfl _ _ (w.heap.size + 1) 46 #[.float .f32 c0, .float .f32 c1, .float .f32 c] (0, 0) _ rfl (by
    refine blk_put (cs := #[.float .f32 c0, .float .f32 c1, .float .f32 0]) ?_ 2 _ rfl
    refine blk_put (cs := #[.float .f32 c0, .float .f32 0, .float .f32 0]) ?_ 1 _ rfl
    refine blk_put (cs := #[.float .f32 0, .float .f32 0, .float .f32 0]) ?_ 0 _ rfl
    (with_reducible repeat (first | refine blk_drewN ?_ _ | refine blk_drew ?_))
    exact by simpa using heap_alloc_new (w.alloc (.cells #[.float .f32 a.f0, .float .f32 a.f1, .float .f32 a.f2] 46)) (.cells #[.float .f32 0, .float .f32 0, .float .f32 0] 46)) Try.underlying46 rfl (by kernel_rfl)) rfl ?_
  exact ⟨⟨c0, c1, c⟩, rfl, ⟨h0, h1, hc⟩, by repeat (first | exact Below.refl _ _ | apply pw_below_drewN | apply below_alloc | apply below_drew1 | refine below_set ?_ (by show w.heap.size ≤ _; first | exact Nat.le_refl _ | exact Nat.le_succ _ | omega))⟩
end XE
end Go.Proofs.Ytffofpiejcolfaa
end
section
set_option linter.unusedVariables false
set_option linter.unusedSimpArgs false
namespace Go.Proofs.Ytffofpiejcolfaa
open Go.RowKit Go.Proofs.YtffofpiejcolfaaW.PrintWords Go.Proofs.YtffofpiejcolfaaW.PrintLast Go.Proofs.YtffofpiejcolfaaW.PrintMore
attribute [local go_sem] max2_int min2_int max_two min_two max_three min_three max_four min_four
namespace XE
open XF XL XC XY L0
end XE
end Go.Proofs.Ytffofpiejcolfaa
end
section
set_option linter.unusedVariables false
set_option linter.unusedSimpArgs false
namespace Go.Proofs.Ytffofpiejcolfaa
open Go.RowKit Go.Proofs.YtffofpiejcolfaaW.PrintWords Go.Proofs.YtffofpiejcolfaaW.PrintLast Go.Proofs.YtffofpiejcolfaaW.PrintMore
attribute [local go_sem] max2_int min2_int max_two min_two max_three min_three max_four min_four
namespace XK
open XF XL XC XY XE XN L0
theorem fin_nan {x : Nat} (h : isn .f32 x = true) : fin x = false := by
  unfold fin
  rw [fb_l h]
theorem fin_E {x b : Nat} (h : E x b) : fin b = fin x := by
  rcases h with rfl | h
  · rfl
  · rw [fin_nan h.1, fin_nan h.2]
theorem E_fin {x b : Nat} (h : E x b) (hf : fin x = true) : b = x := by
  rcases h with h | h
  · exact h
  · rw [fin_nan h.1] at hf
    cases hf
set_option maxHeartbeats 4000000 in
set_option maxRecDepth 100000 in
theorem segE64 (ad : Addr) (A : Option Addr) (c : Nat) (l : List S46) (i j : Nat) (w : World) (f0 : w.cell? ad = some (.slice A l.length c)) (hle : l.length ≤ c) (hC : Kd.C k46 w A l.length l) (hi : i < l.length) (hj : (i + 1) % l.length = j) (x y : S46) (hx : rd_T46 l (i : Int) = x) (hy : rd_T46 l (j : Int) = y) :
    Calls Try.prog 64 #[.pointer (some ad), .int .i64 (i : Int)] w fun e w' => ∃ d, e = .returned (vv d) ∧ EV (opV .sub y x) d ∧ Below w.heap.size w w' := by
  have hmx : l.length ≤ 9223372036854775807 := Kd.C_max hC
  obtain ⟨ae, rfl, hx_0, hx_1, hx_2⟩ := at_T46 hC (i : Int) (by omega) (by omega)
  rw [Int.toNat_natCast, hx] at hx_0 hx_1 hx_2
  have hbk : ad.block < w.heap.size := World.block_lt_of_cell? w _ f0
  have hb_0 := World.block_lt_of_cell? w _ hx_0
  have hb_1 := World.block_lt_of_cell? w _ hx_1
  have hb_2 := World.block_lt_of_cell? w _ hx_2
  have hilI : (i : Int) < (l.length : Int) := by omega
  have hB := below_alloc (Below.refl w.heap.size w) (.cells #[.float .f32 0, .float .f32 0, .float .f32 0] 46 (0, 0))
  have g0 := f0
  have gx_0 := hx_0
  have gx_1 := hx_1
  have gx_2 := hx_2
  replace f0 := (hB.cell hbk).trans f0
  replace hx_0 := (hB.cell hb_0).trans hx_0
  replace hx_1 := (hB.cell hb_1).trans hx_1
  replace hx_2 := (hB.cell hb_2).trans hx_2
  go_enter Try.func64, Try.ntmps64
  go_wp2
  refine start_ (n := 12) (S := fun w' => w'.cell? ad = some (.slice (some ae) l.length c) ∧ w'.cell? (ae.add (i * 3)) = some (.float .f32 x.f0) ∧ w'.cell? ⟨(ae.add (i * 3)).block, (ae.add (i * 3)).off + 1, none⟩ = some (.float .f32 x.f1) ∧ w'.cell? ⟨(ae.add (i * 3)).block, (ae.add (i * 3)).off + 2, none⟩ = some (.float .f32 x.f2)) (ds := [11]) #[false, false, false, false, false, false, false, false, false, false, false, false] (by kernel_rfl) rfl rfl ⟨f0, hx_0, hx_1, hx_2⟩ (fun hHeld => ?_)
  refine pure_ (i := 0) (N := some 5) (v := ?_) (a' := ?_) #[true, false, false, false, false, false, false, false, false, false, false, false] rfl rfl (by kernel_rfl) (fun _ _ _ h => h) (Or.inl ⟨by rfl, ?_⟩) ?_ ?_
  rotate_left
  · intro w'
    go_simp
    with_reducible rfl
  rotate_left
  · simp only [Act.put, List.setIfInBounds_toArray, List.set_cons_zero, List.set_cons_succ, i64_w, i32_w]
    rfl
  refine pure_ (i := 1) (N := some 6) (v := ?_) (a' := ?_) #[true, true, false, false, false, false, false, false, false, false, false, false] rfl rfl (by kernel_rfl) (fun _ _ _ h => h) (Or.inl ⟨by rfl, ?_⟩) ?_ ?_
  rotate_left
  · intro w'
    go_simp
    with_reducible rfl
  rotate_left
  · simp only [Act.put, List.setIfInBounds_toArray, List.set_cons_zero, List.set_cons_succ, i64_w, i32_w]
    rfl
  refine pure_ (i := 3) (N := some 8) (v := ?_) (a' := ?_) #[true, true, false, true, false, false, false, false, false, false, false, false] rfl rfl (by kernel_rfl) (fun _ _ _ h => h) (Or.inl ⟨by rfl, ?_⟩) ?_ ?_
  rotate_left
  · intro w'
    go_simp
    with_reducible rfl
  rotate_left
  · simp only [Act.put, List.setIfInBounds_toArray, List.set_cons_zero, List.set_cons_succ, i64_w, i32_w]
    rfl
  refine pure_ (i := 4) (N := some 9) (v := ?_) (a' := ?_) #[true, true, false, true, true, false, false, false, false, false, false, false] rfl rfl (by kernel_rfl) (fun _ _ _ h => h) (Or.inl ⟨by rfl, ?_⟩) ?_ ?_
  rotate_left
  · intro w'
    go_simp
    with_reducible rfl
  rotate_left
  · simp only [Act.put, List.setIfInBounds_toArray, List.set_cons_zero, List.set_cons_succ, i64_w, i32_w]
    rfl
  refine pure_ (i := 5) (N := some 10) (v := ?_) (a' := ?_) #[true, true, false, true, true, true, false, false, false, false, false, false] rfl rfl (by kernel_rfl) (fun _ _ _ h => h) (Or.inl ⟨by rfl, ?_⟩) ?_ ?_
  rotate_left
  · intro w'
    go_simp
    with_reducible rfl
  rotate_left
  · simp only [Act.put, List.setIfInBounds_toArray, List.set_cons_zero, List.set_cons_succ, i64_w, i32_w]
    rfl
  refine pure_ (i := 7) (N := some 12) (v := ?_) (a' := ?_) #[true, true, false, true, true, true, false, true, false, false, false, false] rfl rfl (by kernel_rfl) (fun _ _ _ h => h) (Or.inl ⟨by rfl, ?_⟩) ?_ ?_
  rotate_left
  · intro w'
    go_simp
    with_reducible rfl
  rotate_left
  · simp only [Act.put, List.setIfInBounds_toArray, List.set_cons_zero, List.set_cons_succ, i64_w, i32_w]
    rfl
  refine take_ (i := 6) (N := some 11) (v := ?_) (a' := ?_) #[true, true, false, true, true, true, true, true, false, false, false, false] rfl rfl (by kernel_rfl) (fun _ _ _ h => h) (Or.inl ⟨by rfl, ?_⟩) hHeld ?_ ?_
  rotate_left
  · rintro w' ⟨s0, s1, s2, s3⟩
    go_simp
    with_reducible rfl
  rotate_left
  · simp only [Act.put, List.setIfInBounds_toArray, List.set_cons_zero, List.set_cons_succ, i64_w, i32_w]
    rfl
  refine pure_ (i := 8) (N := some 13) (v := ?_) (a' := ?_) #[true, true, false, true, true, true, true, true, true, false, false, false] rfl rfl (by kernel_rfl) (fun _ _ _ h => h) (Or.inl ⟨by rfl, ?_⟩) ?_ ?_
  rotate_left
  · intro w'
    go_simp
    with_reducible rfl
  rotate_left
  · simp only [Act.put, List.setIfInBounds_toArray, List.set_cons_zero, List.set_cons_succ, i64_w, i32_w]
    rfl
  refine take_ (i := 9) (N := some 14) (v := ?_) (a' := ?_) #[true, true, false, true, true, true, true, true, true, true, false, false] rfl rfl (by kernel_rfl) (fun _ _ _ h => h) (Or.inl ⟨by rfl, ?_⟩) hHeld ?_ ?_
  rotate_left
  · rintro w' ⟨s0, s1, s2, s3⟩
    go_simp
    with_reducible rfl
  rotate_left
  · simp only [Act.put, List.setIfInBounds_toArray, List.set_cons_zero, List.set_cons_succ, i64_w, i32_w]
    rfl
  refine one_ (i := 2) (N := some 7) #[true, true, true, true, true, true, true, true, true, true, false, false] rfl rfl (by kernel_rfl) (by decide) (fun K hK => ?_)
  refine goes_ Try.func109 (by kernel_rfl) rfl #[.pointer (some ad), .int .i64 (i : Int)] (by rfl) rfl rfl (by (try simp only [List.map_toArray, List.map_cons, List.map_nil]); first | done | rfl) ?_
  refine (next109 ad (some ae) c l i j (w.alloc (.cells #[.float .f32 0, .float .f32 0, .float .f32 0] 46 (0, 0))).drew f0 hle (Kd.C_below hC (below_drew1 hB)) hi hj y hy).mono ?_
  rintro e w1 ⟨rfl, hb1⟩
  refine ⟨_, rfl, ?_⟩
  have HB1 := Aside0.mk (below_step (below_drew1 hB) hb1)
  have BK1 := blk_below (g := w.heap.size) (o := .cells #[.float .f32 0, .float .f32 0, .float .f32 0] 46 (0, 0)) (blk_drew (heap_alloc_new w _)) hb1
  clear hb1
  refine hK.out _ _ ⟨cell_b HB1.out g0, cell_b HB1.out gx_0, cell_b HB1.out gx_1, cell_b HB1.out gx_2⟩ (fun hHeld1 => ?_)
  clear hK K
  refine norm_ (a' := ?_) ?_ ?_
  rotate_left
  · show Act.put _ (some 7) _ = _
    simp only [Act.put, List.setIfInBounds_toArray, List.set_cons_zero, List.set_cons_succ]
    rfl
  refine one_ (i := 10) (N := some 15) #[true, true, true, true, true, true, true, true, true, true, true, false] rfl rfl (by kernel_rfl) (by decide) (fun K hK => ?_)
  refine goes_ Try.func60 (by kernel_rfl) rfl #[.agg #[.float .f32 y.f0, .float .f32 y.f1, .float .f32 y.f2], .agg #[.float .f32 x.f0, .float .f32 x.f1, .float .f32 x.f2]] (by rfl) rfl rfl (by (try simp only [List.map_toArray, List.map_cons, List.map_nil]); first | done | rfl) ?_
  refine (less60 y x y x (EV.refl y) (EV.refl x) _).mono ?_
  rintro e w2 ⟨d, rfl, hd, hb2⟩
  refine ⟨_, rfl, ?_⟩
  have HB2 := Aside0.mk (below_step HB1.out hb2)
  have BK2 := blk_below (g := w.heap.size) (o := .cells #[.float .f32 0, .float .f32 0, .float .f32 0] 46 (0, 0)) BK1 hb2
  clear hb2
  refine hK.out _ _ ⟨cell_b HB2.out g0, cell_b HB2.out gx_0, cell_b HB2.out gx_1, cell_b HB2.out gx_2⟩ (fun hHeld2 => ?_)
  clear hK K
  refine norm_ (a' := ?_) ?_ ?_
  rotate_left
  · show Act.put _ (some 15) _ = _
    simp only [Act.put, List.setIfInBounds_toArray, List.set_cons_zero, List.set_cons_succ]
    rfl
  have hcz_0 : w2.cell? ⟨w.heap.size, 0, none⟩ = some (.float .f32 0) := (blk_cell BK2 0).trans rfl
  have hcz_1 : w2.cell? ⟨w.heap.size, 1, none⟩ = some (.float .f32 0) := (blk_cell BK2 1).trans rfl
  have hcz_2 : w2.cell? ⟨w.heap.size, 2, none⟩ = some (.float .f32 0) := (blk_cell BK2 2).trans rfl
  have hfz_0 := blk_frozen BK2 0
  have hfz_1 := blk_frozen BK2 1
  have hfz_2 := blk_frozen BK2 2
  refine last_ (i := 11) (N := none) #[true, true, true, true, true, true, true, true, true, true, true, true] rfl rfl (by kernel_rfl) (by decide) (fun K hK => ?_)
  refine skip_ (w1 := ?_) (by rfl) rfl ?_ ?_
  rotate_left
  · go_simp
    rfl
  refine hK.out _ _ ?_
  clear hK K
  refine done_ (by kernel_rfl) ?_
  go_wp2
  refine bodyPost_ret (results_cell_row rfl _ _ w.heap.size 46 #[.float .f32 d.f0, .float .f32 d.f1, .float .f32 d.f2] (0, 0) _ rfl (by
    refine blk_put (cs := #[.float .f32 d.f0, .float .f32 d.f1, .float .f32 0]) ?_ 2 _ rfl
    refine blk_put (cs := #[.float .f32 d.f0, .float .f32 0, .float .f32 0]) ?_ 1 _ rfl
    refine blk_put (cs := #[.float .f32 0, .float .f32 0, .float .f32 0]) ?_ 0 _ rfl
    exact BK2) Try.underlying46 rfl (by kernel_rfl)) rfl ?_
  exact ⟨d, rfl, hd, below_set (below_set (below_set HB2.out (Nat.le_refl _)) (Nat.le_refl _)) (Nat.le_refl _)⟩
def pt (l : List S46) (i : Nat) : S46 := rd_T46 l (i : Int)
def nx (l : List S46) (i : Nat) : S46 := rd_T46 l (((i + 1) % l.length : Nat) : Int)
def seg (l : List S46) (i : Nat) : S46 := opV .sub (nx l i) (pt l i)
end XK
end Go.Proofs.Ytffofpiejcolfaa
end
section
set_option linter.unusedVariables false
set_option linter.unusedSimpArgs false
namespace Go.Proofs.Ytffofpiejcolfaa
open Go.RowKit Go.Proofs.YtffofpiejcolfaaW.PrintWords Go.Proofs.YtffofpiejcolfaaW.PrintLast Go.Proofs.YtffofpiejcolfaaW.PrintMore
attribute [local go_sem] max2_int min2_int max_two min_two max_three min_three max_four min_four
namespace XG
open XF XL XC XY XE XN XK L0
theorem fok_of {op : BinOp} {k : FloatKind} {x y r : Nat} (h : floatBits op k x y = some r) : fok op k x y = true ∧ fop op k x y = r := by
  unfold fok fop
  rw [h]
  exact ⟨rfl, rfl⟩
theorem cok_of {s k : FloatKind} {x r : Nat} (h : floatToFloatBits s x k = some r) : cok s x k = true ∧ cvt s x k = r := by
  unfold cok cvt
  rw [h]
  exact ⟨rfl, rfl⟩
theorem inner_ok {a b c : Nat} {s1 s2 s3 : Bool} (h1 : Is s1 (FloatKind.f32.format.read a)) (h2 : Is s2 (FloatKind.f32.format.read b)) (h3 : Is s3 (FloatKind.f32.format.read c)) : ∃ r, impl_InnerOf.f a b c a b c = some r ∧ Is false (FloatKind.f32.format.read r) := by
  obtain ⟨p1, g1, i1⟩ := mul_sq h1
  obtain ⟨p2, g2, i2⟩ := mul_sq h2
  obtain ⟨p3, g3, i3⟩ := mul_sq h3
  obtain ⟨q1, g4, i4⟩ := add_nn i1 i2
  obtain ⟨q2, g5, i5⟩ := add_nn i4 i3
  refine ⟨q2, ?_, i5⟩
  unfold impl_InnerOf.f
  rw [if_pos (fok_of g1).1, if_pos (fok_of g2).1, (fok_of g1).2, (fok_of g2).2, if_pos (fok_of g4).1, if_pos (fok_of g3).1, (fok_of g3).2, (fok_of g4).2, if_pos (fok_of g5).1, (fok_of g5).2]
theorem root_both {a : Nat} (h : Is false (FloatKind.f32.format.read a)) : ∃ r, impl_RootNumber.f a = some r ∧ spec_l01Sqrt.f a = some r ∧ Is false (FloatKind.f32.format.read r) := by
  obtain ⟨b, h1, h2⟩ := wide h
  obtain ⟨c, h3, h4⟩ := root_ok h2
  obtain ⟨r, h5, h6⟩ := narrow_ok h4
  refine ⟨r, ?_, ?_, h6⟩
  · unfold impl_RootNumber.f XR.Sqrt.f
    rw [if_pos (cok_of h1).1, (cok_of h1).2, h3]
    simp only [Option.bind_some]
    rw [if_pos (cok_of h5).1, (cok_of h5).2]
  · unfold spec_l01Sqrt.f XR.Sqrt.f spec_l01Narrow.f
    rw [if_pos (cok_of h1).1, (cok_of h1).2, h3]
    simp only [Option.bind_some]
    rw [if_pos (cok_of h5).1, (cok_of h5).2]
    rfl
theorem Is_n {s : Bool} {x : Nat} (h : Is s (FloatKind.f32.format.read x)) : isn .f32 x = false := by
  unfold isn
  rcases h with ⟨m, e, h⟩ | h <;> rw [h] <;> rfl
theorem E_n {x b : Nat} (h : E x b) (hx : isn .f32 x = false) : b = x := by
  rcases h with h | h
  · exact h
  · rw [h.1] at hx
    cases hx
def isV (v : S46) : Prop := (∃ s, Is s (FloatKind.f32.format.read v.f0)) ∧ (∃ s, Is s (FloatKind.f32.format.read v.f1)) ∧ (∃ s, Is s (FloatKind.f32.format.read v.f2))
theorem EV_is {v c : S46} (h : EV v c) (hv : isV v) : c = v := by
  obtain ⟨⟨_, h0⟩, ⟨_, h1⟩, ⟨_, h2⟩⟩ := hv
  obtain ⟨e0, e1, e2⟩ := h
  have k0 := E_n e0 (Is_n h0)
  have k1 := E_n e1 (Is_n h1)
  have k2 := E_n e2 (Is_n h2)
  cases v
  cases c
  simp only at k0 k1 k2
  rw [k0, k1, k2]
theorem nf {x : Nat} (h : fin x = true) : Num x := num_of_fin h
theorem sub_v {x y : S46} (hx : vfin x = true) (hy : vfin y = true) : isV (opV .sub x y) := by
  unfold vfin at hx hy
  simp only [Bool.and_eq_true] at hx hy
  have key : ∀ {a b : Nat}, fin a = true → fin b = true → ∃ s, Is s (FloatKind.f32.format.read (ar .sub a b)) := by
    intro a b ha hb
    obtain ⟨r, h1, h2⟩ := sub_ok (nf ha) (nf hb)
    unfold ar
    rw [h1]
    exact h2
  exact ⟨key hx.1 hy.1, key hx.2.1 hy.2.1, key hx.2.2 hy.2.2⟩
def szV (v : S46) : Nat := (impl_SizeOfVector.f v.f0 v.f1 v.f2).getD 0
theorem size_ok {v : S46} (hv : isV v) : impl_SizeOfVector.f v.f0 v.f1 v.f2 = some (szV v) ∧ spec_l01VLong.f v.f0 v.f1 v.f2 = some (szV v) ∧ Is false (FloatKind.f32.format.read (szV v)) := by
  obtain ⟨⟨_, h0⟩, ⟨_, h1⟩, ⟨_, h2⟩⟩ := hv
  obtain ⟨p, g, k4⟩ := inner_ok h0 h1 h2
  obtain ⟨q, g1, g2, k5⟩ := root_both k4
  have e : impl_SizeOfVector.f v.f0 v.f1 v.f2 = some q := by
    unfold impl_SizeOfVector.f
    rw [g]
    simp only [Option.bind_some]
    rw [g1]
    rfl
  have e2 : szV v = q := by
    unfold szV
    rw [e]
    rfl
  rw [e2]
  refine ⟨e, ?_, k5⟩
  unfold spec_l01VLong.f
  rw [show @spec_l01VInner.f = @impl_InnerOf.f from rfl, g]
  simp only [Option.bind_some]
  rw [g2]
  rfl
end XG
end Go.Proofs.Ytffofpiejcolfaa
end
section
set_option linter.unusedVariables false
set_option linter.unusedSimpArgs false
namespace Go.Proofs.Ytffofpiejcolfaa
open Go.RowKit Go.Proofs.YtffofpiejcolfaaW.PrintWords Go.Proofs.YtffofpiejcolfaaW.PrintLast Go.Proofs.YtffofpiejcolfaaW.PrintMore
attribute [local go_sem] max2_int min2_int max_two min_two max_three min_three max_four min_four
namespace XG
open XF XL XC XY XE XN XK L0
end XG
end Go.Proofs.Ytffofpiejcolfaa
end
section
set_option linter.unusedVariables false
set_option linter.unusedSimpArgs false
namespace Go.Proofs.Ytffofpiejcolfaa
open Go.RowKit Go.Proofs.YtffofpiejcolfaaW.PrintWords Go.Proofs.YtffofpiejcolfaaW.PrintLast Go.Proofs.YtffofpiejcolfaaW.PrintMore
attribute [local go_sem] max2_int min2_int max_two min_two max_three min_three max_four min_four
namespace XV
open XF XL XC XY XE XN XK L0 L3
theorem vfin_E {v c : S46} (h : EV v c) : vfin c = vfin v := by
  unfold vfin
  rw [fin_E h.1, fin_E h.2.1, fin_E h.2.2]
theorem vE_fin {v c : S46} (h : EV v c) (hf : vfin v = true) : c = v := by
  unfold vfin at hf
  simp only [Bool.and_eq_true] at hf
  have k0 := E_fin h.1 hf.1
  have k1 := E_fin h.2.1 hf.2.1
  have k2 := E_fin h.2.2 hf.2.2
  cases v
  cases c
  simp only at k0 k1 k2
  rw [k0, k1, k2]
end XV
end Go.Proofs.Ytffofpiejcolfaa
end
section
set_option linter.unusedVariables false
set_option linter.unusedSimpArgs false
namespace Go.Proofs.Ytffofpiejcolfaa
open Go.RowKit Go.Proofs.YtffofpiejcolfaaW.PrintWords Go.Proofs.YtffofpiejcolfaaW.PrintLast Go.Proofs.YtffofpiejcolfaaW.PrintMore
attribute [local go_sem] max2_int min2_int max_two min_two max_three min_three max_four min_four
namespace XW
open XF XL XC XY XE XN XK XG XV L0 L3
end XW
end Go.Proofs.Ytffofpiejcolfaa
end
section
set_option linter.unusedVariables false
set_option linter.unusedSimpArgs false
namespace Go.Proofs.Ytffofpiejcolfaa
open Go.RowKit Go.Proofs.YtffofpiejcolfaaW.PrintWords Go.Proofs.YtffofpiejcolfaaW.PrintLast Go.Proofs.YtffofpiejcolfaaW.PrintMore
attribute [local go_sem] max2_int min2_int max_two min_two max_three min_three max_four min_four
namespace XW
open XF XL XC XY XE XN XK XG XV L0 L3
end XW
end Go.Proofs.Ytffofpiejcolfaa
end
section
set_option linter.unusedVariables false
set_option linter.unusedSimpArgs false
namespace Go.Proofs.Ytffofpiejcolfaa
open Go.RowKit Go.Proofs.YtffofpiejcolfaaW.PrintWords Go.Proofs.YtffofpiejcolfaaW.PrintLast Go.Proofs.YtffofpiejcolfaaW.PrintMore
attribute [local go_sem] max2_int min2_int max_two min_two max_three min_three max_four min_four
namespace XW
open XF XL XC XY XE XN XK XG XV L0 L3
end XW
end Go.Proofs.Ytffofpiejcolfaa
end
section
set_option linter.unusedVariables false
set_option linter.unusedSimpArgs false
namespace Go.Proofs.Ytffofpiejcolfaa
open Go.RowKit Go.Proofs.YtffofpiejcolfaaW.PrintWords Go.Proofs.YtffofpiejcolfaaW.PrintLast Go.Proofs.YtffofpiejcolfaaW.PrintMore
attribute [local go_sem] max2_int min2_int max_two min_two max_three min_three max_four min_four
namespace XM
open XW XF XL XC XY XE XN XK XG XV L0 L3
end XM
end Go.Proofs.Ytffofpiejcolfaa
end
section
set_option linter.unusedVariables false
set_option linter.unusedSimpArgs false
namespace Go.Proofs.Ytffofpiejcolfaa
open Go.RowKit Go.Proofs.YtffofpiejcolfaaW.PrintWords Go.Proofs.YtffofpiejcolfaaW.PrintLast Go.Proofs.YtffofpiejcolfaaW.PrintMore
attribute [local go_sem] max2_int min2_int max_two min_two max_three min_three max_four min_four
namespace XM
open XW XF XL XC XY XE XN XK XG XV L0 L3
end XM
end Go.Proofs.Ytffofpiejcolfaa
end
section
set_option linter.unusedVariables false
set_option linter.unusedSimpArgs false
namespace Go.Proofs.Ytffofpiejcolfaa
open Go.RowKit Go.Proofs.YtffofpiejcolfaaW.PrintWords Go.Proofs.YtffofpiejcolfaaW.PrintLast Go.Proofs.YtffofpiejcolfaaW.PrintMore
attribute [local go_sem] max2_int min2_int max_two min_two max_three min_three max_four min_four
namespace XP
open XM XF XL XC XY XE XN XK XG XV L0 L3
theorem order_Er {x b y : Nat} (h : E x b) : FloatKind.f32.format.order y b = FloatKind.f32.format.order y x := by
  rcases h with h | h
  · rw [h]
  · rw [order_nan_r h.1, order_nan_r h.2]
def sizeP (l : List S46) (i : Nat) : Nat := szV (seg l i)
def alongF (l : List S46) : Nat → Nat → Nat → S46
  | 0, _, _ => ⟨0, 0, 0⟩
  | k + 1, i, left => if (FloatKind.f32.format.order (sizeP l i) left == some .lt) = true ∧ i + 1 < l.length then alongF l k (i + 1) (ar .sub left (sizeP l i))
    else opV .add (pt l i) (mulV (seg l i) (if (FloatKind.f32.format.order (sizeP l i) 0 != some .eq) = true then ar .quo left (sizeP l i) else 0))
def alongV (l : List S46) (left : Nat) : S46 := alongF l l.length 0 left
theorem seg_is {l : List S46} {i : Nat} (hfin : ∀ i, i < l.length → vfin (pt l i) = true) (hi : i < l.length) : isV (seg l i) := sub_v (hfin _ (Nat.mod_lt _ (by omega))) (hfin i hi)
set_option maxHeartbeats 4000000 in
set_option maxRecDepth 100000 in
theorem along86 (ad : Addr) (A : Option Addr) (c : Nat) (l : List S46) (left0 b0 : Nat) (w : World) (f0 : w.cell? ad = some (.slice A l.length c)) (hle : l.length ≤ c) (hC : Kd.C k46 w A l.length l) (hpos : 0 < l.length) (hfin : ∀ i, i < l.length → vfin (pt l i) = true) (hE : E left0 b0) :
    Calls Try.prog 86 #[.pointer (some ad), .float .f32 b0] w fun e w' => ∃ v, e = .returned (vv v) ∧ EV (alongV l left0) v ∧ Below w.heap.size w w' := by
  have hmx : l.length ≤ 9223372036854775807 := Kd.C_max hC
  have HC := Aside0.mk hC
  have G0 := Aside0.mk f0
  clear hC
  have hB := below_alloc (Below.refl w.heap.size w) (.cells #[.float .f32 0, .float .f32 0, .float .f32 0] 46 (0, 0))
  have hw1 : wrap64 ((l.length : Int) - 1) = (l.length : Int) - 1 := by unfold wrap64; omega
  replace f0 := cell_b hB f0
  go_enter Try.func86, Try.ntmps86
  go_wp2
  have B4 : (w.alloc (.cells #[.float .f32 0, .float .f32 0, .float .f32 0] 46 (0, 0))).heap[w.heap.size]? = some (.cells #[.float .f32 0, .float .f32 0, .float .f32 0] 46 (0, 0)) := heap_alloc_new _ _
  go_loopg [1, 22] l.length (fun kq v1 v22 w' => ∃ (i left b : Nat), v1 = .float .f32 b ∧ v22 = .int .i64 (i : Int) ∧ Aside0 (i + kq = l.length) ∧ Aside0 (E left b) ∧ Aside0 (alongF l kq i left = alongV l left0) ∧ Aside0 (Below w.heap.size w w') ∧ Aside0 (w'.heap[w.heap.size]? = some (.cells #[.float .f32 0, .float .f32 0, .float .f32 0] 46 (0, 0))) ∧ Aside0 (i < l.length))
  case atStart => exact ⟨0, left0, b0, rfl, rfl, ⟨by simp⟩, ⟨hE⟩, ⟨rfl⟩, ⟨hB⟩, ⟨B4⟩, ⟨hpos⟩⟩
  case round =>
    clear B4 hB f0 hE
    obtain ⟨i, left, b, rfl, rfl, HI, HL, HX, HBW, B4, HIL⟩ := hrel
    have hi := HI.out
    have hil := HIL.out
    obtain ⟨wi, rfl⟩ : ∃ wi, wi = wr := ⟨_, rfl⟩
    cases gk with
    | zero => omega
    | succ k1 =>
      have hc : decide ((i : Int) < (l.length : Int)) = true := by simp; omega
      have hwi : wrap64 ((i : Int) + 1) = ((i + 1 : Nat) : Int) := by unfold wrap64; omega
      have hilI : (i : Int) < (l.length : Int) := by omega
      have HX1 := Aside0.mk (show (if (FloatKind.f32.format.order (sizeP l i) left == some .lt) = true ∧ i + 1 < l.length then alongF l k1 (i + 1) (ar .sub left (sizeP l i)) else opV .add (pt l i) (mulV (seg l i) (if (FloatKind.f32.format.order (sizeP l i) 0 != some .eq) = true then ar .quo left (sizeP l i) else 0))) = alongV l left0 from HX.out)
      clear HX
      have HSI := Aside0.mk (seg_is hfin hil)
      obtain ⟨ae, rfl, hx_0, hx_1, hx_2⟩ := at_T46 (Kd.C_below HC.out HBW.out) (i : Int) (by omega) (by omega)
      rw [Int.toNat_natCast] at hx_0 hx_1 hx_2
      obtain ⟨x, hx⟩ : ∃ x, rd_T46 l (i : Int) = x := ⟨_, rfl⟩
      obtain ⟨y, hy⟩ : ∃ y, rd_T46 l (((i + 1) % l.length : Nat) : Int) = y := ⟨_, rfl⟩
      have HSEG : Aside0 (opV .sub y x = seg l i) := ⟨by rw [← hx, ← hy]; rfl⟩
      have HXP : Aside0 (pt l i = x) := ⟨hx⟩
      rw [hx] at hx_0 hx_1 hx_2
      have KC := Aside0.mk (Kd.C_below HC.out HBW.out)
      have f0 := cell_b (below_alloc (Below.refl wi.heap.size wi) (.cells #[.float .f32 x.f0, .float .f32 x.f1, .float .f32 x.f2] 46 (0, 0))) (cell_b HBW.out G0.out)
      have f1 := cell_b HBW.out G0.out
      by_cases hcc : (FloatKind.f32.format.order (sizeP l i) left == some .lt) = true ∧ i + 1 < l.length
      · obtain ⟨hc1, hc2⟩ := hcc
        have HCC := Aside0.mk (And.intro hc1 hc2)
        have q1 : (FloatKind.f32.format.order (sizeP l i) b == some .lt) = true := by rw [order_Er HL.out]; exact hc1
        have q2 : decide ((i : Int) < (l.length : Int) - 1) = true := by simp; omega
        clear hc1 f1
        go_wp2_with (first | (go_at_call 64; (with_reducible refine (segE64 ad (some ae) c l i ((i + 1) % l.length) _ f0 hle (Kd.C_below KC.out (below_alloc (Below.refl wi.heap.size wi) (.cells #[.float .f32 x.f0, .float .f32 x.f1, .float .f32 x.f2] 46 (0, 0)))) hil rfl x y hx hy).mono ?_); rintro e w7 ⟨d, rfl, hd, hb7⟩; obtain rfl : d = seg l i := (EV_is hd (by rw [HSEG.out]; exact HSI.out)).trans HSEG.out; have HB7 := Aside0.mk (below_alloc (below_step (below_alloc (Below.refl wi.heap.size wi) (.cells #[.float .f32 x.f0, .float .f32 x.f1, .float .f32 x.f2] 46 (0, 0))) hb7) (.cells #[.float .f32 (seg l i).f0, .float .f32 (seg l i).f1, .float .f32 (seg l i).f2] 46 (0, 0))); have BX7 := Aside0.mk (blk_alloc (blk_below (heap_alloc_new wi (.cells #[.float .f32 x.f0, .float .f32 x.f1, .float .f32 x.f2] 46 (0, 0))) hb7) (.cells #[.float .f32 (seg l i).f0, .float .f32 (seg l i).f1, .float .f32 (seg l i).f2] 46 (0, 0))); have BD7 := Aside0.mk (heap_alloc_new w7 (.cells #[.float .f32 (seg l i).f0, .float .f32 (seg l i).f1, .float .f32 (seg l i).f2] 46 (0, 0))); clear hd hb7 f0; have d0 := (blk_cell BD7.out 0).trans (rfl : _ = some (Value.float .f32 (seg l i).f0)); have d1 := (blk_cell BD7.out 1).trans (rfl : _ = some (Value.float .f32 (seg l i).f1)); have d2 := (blk_cell BD7.out 2).trans (rfl : _ = some (Value.float .f32 (seg l i).f2)); skip) | (go_at_call 97; refine (impl_SizeOfVector.calls _ _ _ (sizeP l i) _ (size_ok HSI.out).1).mono ?_; rintro e w8 ⟨rfl, hb8⟩; have HB8 := Aside0.mk (below_step HB7.out hb8); have BX8 := Aside0.mk (blk_below BX7.out hb8); have BD8 := Aside0.mk (blk_below BD7.out hb8); clear hb8 d0 d1 d2) | ((with_reducible refine gate_dst (N := 42) rfl ?_); refine wpList_ar rfl _ _ _ _ _ rfl arS _ _ rfl rfl HL.out (E.refl _) ?_; intro b2 n2 hb2))
        go_roundg k1
        case measure => omega
        case rel =>
          have hx9 := HX1.out
          rw [if_pos HCC.out] at hx9
          exact ⟨i + 1, _, b2, rfl, rfl, ⟨by omega⟩, ⟨hb2⟩, ⟨hx9⟩, ⟨pw_below_drewN (below_step HBW.out HB8.out) _⟩, ⟨blk_drewN (blk_below B4.out HB8.out) _⟩, ⟨hc2⟩⟩
      · have HN := Aside0.mk hcc
        have q1 : (FloatKind.f32.format.order (sizeP l i) b == some .lt) = (FloatKind.f32.format.order (sizeP l i) left == some .lt) := by rw [order_Er HL.out]
        cases hc1 : (FloatKind.f32.format.order (sizeP l i) left == some .lt) with
        | false =>
          rw [hc1] at q1
          clear hcc hc1 f1
          cases hz : (FloatKind.f32.format.order (sizeP l i) 0 != some .eq) with
          | false =>
            have HZ := Aside0.mk hz
            go_wp2_with (first | (go_at_call 64; (with_reducible refine (segE64 ad (some ae) c l i ((i + 1) % l.length) _ f0 hle (Kd.C_below KC.out (below_alloc (Below.refl wi.heap.size wi) (.cells #[.float .f32 x.f0, .float .f32 x.f1, .float .f32 x.f2] 46 (0, 0)))) hil rfl x y hx hy).mono ?_); rintro e w7 ⟨d, rfl, hd, hb7⟩; obtain rfl : d = seg l i := (EV_is hd (by rw [HSEG.out]; exact HSI.out)).trans HSEG.out; have HB7 := Aside0.mk (below_alloc (below_step (below_alloc (Below.refl wi.heap.size wi) (.cells #[.float .f32 x.f0, .float .f32 x.f1, .float .f32 x.f2] 46 (0, 0))) hb7) (.cells #[.float .f32 (seg l i).f0, .float .f32 (seg l i).f1, .float .f32 (seg l i).f2] 46 (0, 0))); have BX7 := Aside0.mk (blk_alloc (blk_below (heap_alloc_new wi (.cells #[.float .f32 x.f0, .float .f32 x.f1, .float .f32 x.f2] 46 (0, 0))) hb7) (.cells #[.float .f32 (seg l i).f0, .float .f32 (seg l i).f1, .float .f32 (seg l i).f2] 46 (0, 0))); have BD7 := Aside0.mk (heap_alloc_new w7 (.cells #[.float .f32 (seg l i).f0, .float .f32 (seg l i).f1, .float .f32 (seg l i).f2] 46 (0, 0))); clear hd hb7 f0; have d0 := (blk_cell BD7.out 0).trans (rfl : _ = some (Value.float .f32 (seg l i).f0)); have d1 := (blk_cell BD7.out 1).trans (rfl : _ = some (Value.float .f32 (seg l i).f1)); have d2 := (blk_cell BD7.out 2).trans (rfl : _ = some (Value.float .f32 (seg l i).f2)); skip) | (go_at_call 97; refine (impl_SizeOfVector.calls _ _ _ (sizeP l i) _ (size_ok HSI.out).1).mono ?_; rintro e w8 ⟨rfl, hb8⟩; have HB8 := Aside0.mk (below_step HB7.out hb8); have BX8 := Aside0.mk (blk_below BX7.out hb8); have BD8 := Aside0.mk (blk_below BD7.out hb8); clear hb8 d0 d1 d2))
            have HY4 := Aside0.mk (blk_below B4.out HB8.out)
            have u0 : w8.cell? ⟨(wi.heap.size), 0, none⟩ = some (.float .f32 x.f0) := (blk_cell BX8.out 0).trans rfl
            have u1 : w8.cell? ⟨(wi.heap.size), 1, none⟩ = some (.float .f32 x.f1) := (blk_cell BX8.out 1).trans rfl
            have u2 : w8.cell? ⟨(wi.heap.size), 2, none⟩ = some (.float .f32 x.f2) := (blk_cell BX8.out 2).trans rfl
            have v0 : w8.cell? ⟨w7.heap.size, 0, none⟩ = some (.float .f32 (seg l i).f0) := (blk_cell BD8.out 0).trans rfl
            have v1 : w8.cell? ⟨w7.heap.size, 1, none⟩ = some (.float .f32 (seg l i).f1) := (blk_cell BD8.out 1).trans rfl
            have v2 : w8.cell? ⟨w7.heap.size, 2, none⟩ = some (.float .f32 (seg l i).f2) := (blk_cell BD8.out 2).trans rfl
            refine start_ (n := 6) (S := fun w' => Below w8.heap.size w8 w') (ds := [5]) #[false, false, false, false, false, false] (by kernel_rfl) rfl rfl (below_drew1 (Below.refl _ _)) (fun hHeld => ?_)
            refine pure_ (i := 2) (N := some 50) (v := ?_) (a' := ?_) #[false, false, true, false, false, false] rfl rfl (by kernel_rfl) (fun _ _ _ h => h) (Or.inl ⟨by rfl, ?_⟩) ?_ ?_
            rotate_left
            · intro w'
              go_simp
              with_reducible rfl
            rotate_left
            · simp only [Act.put, List.setIfInBounds_toArray, List.set_cons_zero, List.set_cons_succ, i64_w, i32_w]
              rfl
            refine take_ (i := 0) (N := some 48) (v := ?_) (a' := ?_) #[true, false, true, false, false, false] rfl rfl (by kernel_rfl) (fun _ _ _ h => h) (Or.inl ⟨by rfl, ?_⟩) hHeld ?_ ?_
            rotate_left
            · rintro w' s0
              have c0 := cell_b s0 u0
              have c1 := cell_b s0 u1
              have c2 := cell_b s0 u2
              go_simp
              with_reducible rfl
            rotate_left
            · simp only [Act.put, List.setIfInBounds_toArray, List.set_cons_zero, List.set_cons_succ, i64_w, i32_w]
              rfl
            refine take_ (i := 1) (N := some 49) (v := ?_) (a' := ?_) #[true, true, true, false, false, false] rfl rfl (by kernel_rfl) (fun _ _ _ h => h) (Or.inl ⟨by rfl, ?_⟩) hHeld ?_ ?_
            rotate_left
            · rintro w' s0
              have c0 := cell_b s0 v0
              have c1 := cell_b s0 v1
              have c2 := cell_b s0 v2
              go_simp
              with_reducible rfl
            rotate_left
            · simp only [Act.put, List.setIfInBounds_toArray, List.set_cons_zero, List.set_cons_succ, i64_w, i32_w]
              rfl
            refine one_ (i := 3) (N := some 51) #[true, true, true, true, false, false] rfl rfl (by kernel_rfl) (by decide) (fun K hK => ?_)
            refine goes_ Try.func107 (by kernel_rfl) rfl #[vv (seg l i), .float .f32 0] (by rfl) rfl rfl (by (try simp only [List.map_toArray, List.map_cons, List.map_nil]); first | done | rfl) ?_
            refine (scale107 _ (seg l i) _ 0 (EV.refl _) (E.refl _) _).mono ?_
            rintro e w9 ⟨sc, rfl, hsc, hb9⟩
            refine ⟨_, rfl, ?_⟩
            have L9 := Aside0.mk (below_step (below_drew1 (Below.refl w8.heap.size w8)) hb9)
            clear hb9
            refine hK.out _ _ L9.out (fun _ => ?_)
            clear hK K
            refine norm_ (a' := ?_) ?_ ?_
            rotate_left
            · show Act.put _ (some 51) _ = _
              simp only [Act.put, List.setIfInBounds_toArray, List.set_cons_zero, List.set_cons_succ]
              rfl
            refine one_ (i := 4) (N := some 52) #[true, true, true, true, true, false] rfl rfl (by kernel_rfl) (by decide) (fun K hK => ?_)
            refine goes_ Try.func108 (by kernel_rfl) rfl #[vv x, vv sc] (by rfl) rfl rfl (by (try simp only [List.map_toArray, List.map_cons, List.map_nil]); first | done | rfl) ?_
            refine (add108 _ _ x sc (EV.refl _) hsc _).mono ?_
            rintro e w10 ⟨nw, rfl, hnw, hb10⟩
            refine ⟨_, rfl, ?_⟩
            have L10 := Aside0.mk (below_step L9.out hb10)
            clear hb10
            refine hK.out _ _ L10.out (fun _ => ?_)
            clear hK K
            refine norm_ (a' := ?_) ?_ ?_
            rotate_left
            · show Act.put _ (some 52) _ = _
              simp only [Act.put, List.setIfInBounds_toArray, List.set_cons_zero, List.set_cons_succ]
              rfl
            have E4 := Aside0.mk (blk_below HY4.out L10.out)
            have y0 : w10.cell? ⟨w.heap.size, 0, none⟩ = some (.float .f32 0) := (blk_cell E4.out 0).trans rfl
            have y1 : w10.cell? ⟨w.heap.size, 1, none⟩ = some (.float .f32 0) := (blk_cell E4.out 1).trans rfl
            have y2 : w10.cell? ⟨w.heap.size, 2, none⟩ = some (.float .f32 0) := (blk_cell E4.out 2).trans rfl
            have fy0 := blk_frozen E4.out 0
            have fy1 := blk_frozen E4.out 1
            have fy2 := blk_frozen E4.out 2
            refine last_ (i := 5) (N := none) #[true, true, true, true, true, true] rfl rfl (by kernel_rfl) (by decide) (fun K hK => ?_)
            refine skip_ (w1 := ?_) (by rfl) rfl ?_ ?_
            rotate_left
            · go_simp
              rfl
            refine hK.out _ _ ?_
            clear hK K
            refine done_ (by kernel_rfl) ?_
            go_wp2
            refine bodyPost_ret (results_cell_row rfl _ _ w.heap.size 46 #[.float .f32 nw.f0, .float .f32 nw.f1, .float .f32 nw.f2] (0, 0) _ rfl (by
              refine blk_put (cs := #[.float .f32 nw.f0, .float .f32 nw.f1, .float .f32 0]) ?_ 2 _ rfl
              refine blk_put (cs := #[.float .f32 nw.f0, .float .f32 0, .float .f32 0]) ?_ 1 _ rfl
              refine blk_put (cs := #[.float .f32 0, .float .f32 0, .float .f32 0]) ?_ 0 _ rfl
              exact E4.out) Try.underlying46 rfl (by kernel_rfl)) rfl ?_
            refine ⟨nw, rfl, ?_, below_set (below_set (below_set (below_step (below_step HBW.out HB8.out) L10.out) (Nat.le_refl _)) (Nat.le_refl _)) (Nat.le_refl _)⟩
            have hx9 := HX1.out
            rw [if_neg HN.out, HZ.out, if_neg (by decide)] at hx9
            rw [← hx9, HXP.out]
            exact hnw
          | true =>
            have HZ := Aside0.mk hz
            go_wp2_with (first | (go_at_call 64; (with_reducible refine (segE64 ad (some ae) c l i ((i + 1) % l.length) _ f0 hle (Kd.C_below KC.out (below_alloc (Below.refl wi.heap.size wi) (.cells #[.float .f32 x.f0, .float .f32 x.f1, .float .f32 x.f2] 46 (0, 0)))) hil rfl x y hx hy).mono ?_); rintro e w7 ⟨d, rfl, hd, hb7⟩; obtain rfl : d = seg l i := (EV_is hd (by rw [HSEG.out]; exact HSI.out)).trans HSEG.out; have HB7 := Aside0.mk (below_alloc (below_step (below_alloc (Below.refl wi.heap.size wi) (.cells #[.float .f32 x.f0, .float .f32 x.f1, .float .f32 x.f2] 46 (0, 0))) hb7) (.cells #[.float .f32 (seg l i).f0, .float .f32 (seg l i).f1, .float .f32 (seg l i).f2] 46 (0, 0))); have BX7 := Aside0.mk (blk_alloc (blk_below (heap_alloc_new wi (.cells #[.float .f32 x.f0, .float .f32 x.f1, .float .f32 x.f2] 46 (0, 0))) hb7) (.cells #[.float .f32 (seg l i).f0, .float .f32 (seg l i).f1, .float .f32 (seg l i).f2] 46 (0, 0))); have BD7 := Aside0.mk (heap_alloc_new w7 (.cells #[.float .f32 (seg l i).f0, .float .f32 (seg l i).f1, .float .f32 (seg l i).f2] 46 (0, 0))); clear hd hb7 f0; have d0 := (blk_cell BD7.out 0).trans (rfl : _ = some (Value.float .f32 (seg l i).f0)); have d1 := (blk_cell BD7.out 1).trans (rfl : _ = some (Value.float .f32 (seg l i).f1)); have d2 := (blk_cell BD7.out 2).trans (rfl : _ = some (Value.float .f32 (seg l i).f2)); skip) | (go_at_call 97; refine (impl_SizeOfVector.calls _ _ _ (sizeP l i) _ (size_ok HSI.out).1).mono ?_; rintro e w8 ⟨rfl, hb8⟩; have HB8 := Aside0.mk (below_step HB7.out hb8); have BX8 := Aside0.mk (blk_below BX7.out hb8); have BD8 := Aside0.mk (blk_below BD7.out hb8); clear hb8 d0 d1 d2) | ((with_reducible refine gate_dst (N := 47) rfl ?_); refine wpList_ar rfl _ _ _ _ _ rfl arQ _ _ rfl rfl HL.out (E.refl _) ?_; intro qu nq hqu))
            have HY4 := Aside0.mk (blk_below B4.out HB8.out)
            have u0 : w8.cell? ⟨(wi.heap.size), 0, none⟩ = some (.float .f32 x.f0) := (blk_cell BX8.out 0).trans rfl
            have u1 : w8.cell? ⟨(wi.heap.size), 1, none⟩ = some (.float .f32 x.f1) := (blk_cell BX8.out 1).trans rfl
            have u2 : w8.cell? ⟨(wi.heap.size), 2, none⟩ = some (.float .f32 x.f2) := (blk_cell BX8.out 2).trans rfl
            have v0 : w8.cell? ⟨w7.heap.size, 0, none⟩ = some (.float .f32 (seg l i).f0) := (blk_cell BD8.out 0).trans rfl
            have v1 : w8.cell? ⟨w7.heap.size, 1, none⟩ = some (.float .f32 (seg l i).f1) := (blk_cell BD8.out 1).trans rfl
            have v2 : w8.cell? ⟨w7.heap.size, 2, none⟩ = some (.float .f32 (seg l i).f2) := (blk_cell BD8.out 2).trans rfl
            refine start_ (n := 6) (S := fun w' => Below w8.heap.size w8 w') (ds := [5]) #[false, false, false, false, false, false] (by kernel_rfl) rfl rfl (below_drew1 (pw_below_drewN (Below.refl _ _) _)) (fun hHeld => ?_)
            refine pure_ (i := 2) (N := some 50) (v := ?_) (a' := ?_) #[false, false, true, false, false, false] rfl rfl (by kernel_rfl) (fun _ _ _ h => h) (Or.inl ⟨by rfl, ?_⟩) ?_ ?_
            rotate_left
            · intro w'
              go_simp
              with_reducible rfl
            rotate_left
            · simp only [Act.put, List.setIfInBounds_toArray, List.set_cons_zero, List.set_cons_succ, i64_w, i32_w]
              rfl
            refine take_ (i := 0) (N := some 48) (v := ?_) (a' := ?_) #[true, false, true, false, false, false] rfl rfl (by kernel_rfl) (fun _ _ _ h => h) (Or.inl ⟨by rfl, ?_⟩) hHeld ?_ ?_
            rotate_left
            · rintro w' s0
              have c0 := cell_b s0 u0
              have c1 := cell_b s0 u1
              have c2 := cell_b s0 u2
              go_simp
              with_reducible rfl
            rotate_left
            · simp only [Act.put, List.setIfInBounds_toArray, List.set_cons_zero, List.set_cons_succ, i64_w, i32_w]
              rfl
            refine take_ (i := 1) (N := some 49) (v := ?_) (a' := ?_) #[true, true, true, false, false, false] rfl rfl (by kernel_rfl) (fun _ _ _ h => h) (Or.inl ⟨by rfl, ?_⟩) hHeld ?_ ?_
            rotate_left
            · rintro w' s0
              have c0 := cell_b s0 v0
              have c1 := cell_b s0 v1
              have c2 := cell_b s0 v2
              go_simp
              with_reducible rfl
            rotate_left
            · simp only [Act.put, List.setIfInBounds_toArray, List.set_cons_zero, List.set_cons_succ, i64_w, i32_w]
              rfl
            refine one_ (i := 3) (N := some 51) #[true, true, true, true, false, false] rfl rfl (by kernel_rfl) (by decide) (fun K hK => ?_)
            refine goes_ Try.func107 (by kernel_rfl) rfl #[vv (seg l i), .float .f32 qu] (by rfl) rfl rfl (by (try simp only [List.map_toArray, List.map_cons, List.map_nil]); first | done | rfl) ?_
            refine (scale107 _ (seg l i) _ qu (EV.refl _) hqu _).mono ?_
            rintro e w9 ⟨sc, rfl, hsc, hb9⟩
            refine ⟨_, rfl, ?_⟩
            have L9 := Aside0.mk (below_step (below_drew1 (pw_below_drewN (Below.refl w8.heap.size w8) _)) hb9)
            clear hb9
            refine hK.out _ _ L9.out (fun _ => ?_)
            clear hK K
            refine norm_ (a' := ?_) ?_ ?_
            rotate_left
            · show Act.put _ (some 51) _ = _
              simp only [Act.put, List.setIfInBounds_toArray, List.set_cons_zero, List.set_cons_succ]
              rfl
            refine one_ (i := 4) (N := some 52) #[true, true, true, true, true, false] rfl rfl (by kernel_rfl) (by decide) (fun K hK => ?_)
            refine goes_ Try.func108 (by kernel_rfl) rfl #[vv x, vv sc] (by rfl) rfl rfl (by (try simp only [List.map_toArray, List.map_cons, List.map_nil]); first | done | rfl) ?_
            refine (add108 _ _ x sc (EV.refl _) hsc _).mono ?_
            rintro e w10 ⟨nw, rfl, hnw, hb10⟩
            refine ⟨_, rfl, ?_⟩
            have L10 := Aside0.mk (below_step L9.out hb10)
            clear hb10
            refine hK.out _ _ L10.out (fun _ => ?_)
            clear hK K
            refine norm_ (a' := ?_) ?_ ?_
            rotate_left
            · show Act.put _ (some 52) _ = _
              simp only [Act.put, List.setIfInBounds_toArray, List.set_cons_zero, List.set_cons_succ]
              rfl
            have E4 := Aside0.mk (blk_below HY4.out L10.out)
            have y0 : w10.cell? ⟨w.heap.size, 0, none⟩ = some (.float .f32 0) := (blk_cell E4.out 0).trans rfl
            have y1 : w10.cell? ⟨w.heap.size, 1, none⟩ = some (.float .f32 0) := (blk_cell E4.out 1).trans rfl
            have y2 : w10.cell? ⟨w.heap.size, 2, none⟩ = some (.float .f32 0) := (blk_cell E4.out 2).trans rfl
            have fy0 := blk_frozen E4.out 0
            have fy1 := blk_frozen E4.out 1
            have fy2 := blk_frozen E4.out 2
            refine last_ (i := 5) (N := none) #[true, true, true, true, true, true] rfl rfl (by kernel_rfl) (by decide) (fun K hK => ?_)
            refine skip_ (w1 := ?_) (by rfl) rfl ?_ ?_
            rotate_left
            · go_simp
              rfl
            refine hK.out _ _ ?_
            clear hK K
            refine done_ (by kernel_rfl) ?_
            go_wp2
            refine bodyPost_ret (results_cell_row rfl _ _ w.heap.size 46 #[.float .f32 nw.f0, .float .f32 nw.f1, .float .f32 nw.f2] (0, 0) _ rfl (by
              refine blk_put (cs := #[.float .f32 nw.f0, .float .f32 nw.f1, .float .f32 0]) ?_ 2 _ rfl
              refine blk_put (cs := #[.float .f32 nw.f0, .float .f32 0, .float .f32 0]) ?_ 1 _ rfl
              refine blk_put (cs := #[.float .f32 0, .float .f32 0, .float .f32 0]) ?_ 0 _ rfl
              exact E4.out) Try.underlying46 rfl (by kernel_rfl)) rfl ?_
            refine ⟨nw, rfl, ?_, below_set (below_set (below_set (below_step (below_step HBW.out HB8.out) L10.out) (Nat.le_refl _)) (Nat.le_refl _)) (Nat.le_refl _)⟩
            have hx9 := HX1.out
            rw [if_neg HN.out, HZ.out, if_pos rfl] at hx9
            rw [← hx9, HXP.out]
            exact hnw
        | true =>
          rw [hc1] at q1
          have q2 : decide ((i : Int) < (l.length : Int) - 1) = false := by
            have : ¬ i + 1 < l.length := fun h => hcc ⟨hc1, h⟩
            simp; omega
          clear hcc hc1 f1
          cases hz : (FloatKind.f32.format.order (sizeP l i) 0 != some .eq) with
          | false =>
            have HZ := Aside0.mk hz
            go_wp2_with (first | (go_at_call 64; (with_reducible refine (segE64 ad (some ae) c l i ((i + 1) % l.length) _ f0 hle (Kd.C_below KC.out (below_alloc (Below.refl wi.heap.size wi) (.cells #[.float .f32 x.f0, .float .f32 x.f1, .float .f32 x.f2] 46 (0, 0)))) hil rfl x y hx hy).mono ?_); rintro e w7 ⟨d, rfl, hd, hb7⟩; obtain rfl : d = seg l i := (EV_is hd (by rw [HSEG.out]; exact HSI.out)).trans HSEG.out; have HB7 := Aside0.mk (below_alloc (below_step (below_alloc (Below.refl wi.heap.size wi) (.cells #[.float .f32 x.f0, .float .f32 x.f1, .float .f32 x.f2] 46 (0, 0))) hb7) (.cells #[.float .f32 (seg l i).f0, .float .f32 (seg l i).f1, .float .f32 (seg l i).f2] 46 (0, 0))); have BX7 := Aside0.mk (blk_alloc (blk_below (heap_alloc_new wi (.cells #[.float .f32 x.f0, .float .f32 x.f1, .float .f32 x.f2] 46 (0, 0))) hb7) (.cells #[.float .f32 (seg l i).f0, .float .f32 (seg l i).f1, .float .f32 (seg l i).f2] 46 (0, 0))); have BD7 := Aside0.mk (heap_alloc_new w7 (.cells #[.float .f32 (seg l i).f0, .float .f32 (seg l i).f1, .float .f32 (seg l i).f2] 46 (0, 0))); clear hd hb7 f0; have d0 := (blk_cell BD7.out 0).trans (rfl : _ = some (Value.float .f32 (seg l i).f0)); have d1 := (blk_cell BD7.out 1).trans (rfl : _ = some (Value.float .f32 (seg l i).f1)); have d2 := (blk_cell BD7.out 2).trans (rfl : _ = some (Value.float .f32 (seg l i).f2)); skip) | (go_at_call 97; refine (impl_SizeOfVector.calls _ _ _ (sizeP l i) _ (size_ok HSI.out).1).mono ?_; rintro e w8 ⟨rfl, hb8⟩; have HB8 := Aside0.mk (below_step HB7.out hb8); have BX8 := Aside0.mk (blk_below BX7.out hb8); have BD8 := Aside0.mk (blk_below BD7.out hb8); clear hb8 d0 d1 d2))
            have HY4 := Aside0.mk (blk_below B4.out HB8.out)
            have u0 : w8.cell? ⟨(wi.heap.size), 0, none⟩ = some (.float .f32 x.f0) := (blk_cell BX8.out 0).trans rfl
            have u1 : w8.cell? ⟨(wi.heap.size), 1, none⟩ = some (.float .f32 x.f1) := (blk_cell BX8.out 1).trans rfl
            have u2 : w8.cell? ⟨(wi.heap.size), 2, none⟩ = some (.float .f32 x.f2) := (blk_cell BX8.out 2).trans rfl
            have v0 : w8.cell? ⟨w7.heap.size, 0, none⟩ = some (.float .f32 (seg l i).f0) := (blk_cell BD8.out 0).trans rfl
            have v1 : w8.cell? ⟨w7.heap.size, 1, none⟩ = some (.float .f32 (seg l i).f1) := (blk_cell BD8.out 1).trans rfl
            have v2 : w8.cell? ⟨w7.heap.size, 2, none⟩ = some (.float .f32 (seg l i).f2) := (blk_cell BD8.out 2).trans rfl
            refine start_ (n := 6) (S := fun w' => Below w8.heap.size w8 w') (ds := [5]) #[false, false, false, false, false, false] (by kernel_rfl) rfl rfl (below_drew1 (Below.refl _ _)) (fun hHeld => ?_)
            refine pure_ (i := 2) (N := some 50) (v := ?_) (a' := ?_) #[false, false, true, false, false, false] rfl rfl (by kernel_rfl) (fun _ _ _ h => h) (Or.inl ⟨by rfl, ?_⟩) ?_ ?_
            rotate_left
            · intro w'
              go_simp
              with_reducible rfl
            rotate_left
            · simp only [Act.put, List.setIfInBounds_toArray, List.set_cons_zero, List.set_cons_succ, i64_w, i32_w]
              rfl
            refine take_ (i := 0) (N := some 48) (v := ?_) (a' := ?_) #[true, false, true, false, false, false] rfl rfl (by kernel_rfl) (fun _ _ _ h => h) (Or.inl ⟨by rfl, ?_⟩) hHeld ?_ ?_
            rotate_left
            · rintro w' s0
              have c0 := cell_b s0 u0
              have c1 := cell_b s0 u1
              have c2 := cell_b s0 u2
              go_simp
              with_reducible rfl
            rotate_left
            · simp only [Act.put, List.setIfInBounds_toArray, List.set_cons_zero, List.set_cons_succ, i64_w, i32_w]
              rfl
            refine take_ (i := 1) (N := some 49) (v := ?_) (a' := ?_) #[true, true, true, false, false, false] rfl rfl (by kernel_rfl) (fun _ _ _ h => h) (Or.inl ⟨by rfl, ?_⟩) hHeld ?_ ?_
            rotate_left
            · rintro w' s0
              have c0 := cell_b s0 v0
              have c1 := cell_b s0 v1
              have c2 := cell_b s0 v2
              go_simp
              with_reducible rfl
            rotate_left
            · simp only [Act.put, List.setIfInBounds_toArray, List.set_cons_zero, List.set_cons_succ, i64_w, i32_w]
              rfl
            refine one_ (i := 3) (N := some 51) #[true, true, true, true, false, false] rfl rfl (by kernel_rfl) (by decide) (fun K hK => ?_)
            refine goes_ Try.func107 (by kernel_rfl) rfl #[vv (seg l i), .float .f32 0] (by rfl) rfl rfl (by (try simp only [List.map_toArray, List.map_cons, List.map_nil]); first | done | rfl) ?_
            refine (scale107 _ (seg l i) _ 0 (EV.refl _) (E.refl _) _).mono ?_
            rintro e w9 ⟨sc, rfl, hsc, hb9⟩
            refine ⟨_, rfl, ?_⟩
            have L9 := Aside0.mk (below_step (below_drew1 (Below.refl w8.heap.size w8)) hb9)
            clear hb9
            refine hK.out _ _ L9.out (fun _ => ?_)
            clear hK K
            refine norm_ (a' := ?_) ?_ ?_
            rotate_left
            · show Act.put _ (some 51) _ = _
              simp only [Act.put, List.setIfInBounds_toArray, List.set_cons_zero, List.set_cons_succ]
              rfl
            refine one_ (i := 4) (N := some 52) #[true, true, true, true, true, false] rfl rfl (by kernel_rfl) (by decide) (fun K hK => ?_)
            refine goes_ Try.func108 (by kernel_rfl) rfl #[vv x, vv sc] (by rfl) rfl rfl (by (try simp only [List.map_toArray, List.map_cons, List.map_nil]); first | done | rfl) ?_
            refine (add108 _ _ x sc (EV.refl _) hsc _).mono ?_
            rintro e w10 ⟨nw, rfl, hnw, hb10⟩
            refine ⟨_, rfl, ?_⟩
            have L10 := Aside0.mk (below_step L9.out hb10)
            clear hb10
            refine hK.out _ _ L10.out (fun _ => ?_)
            clear hK K
            refine norm_ (a' := ?_) ?_ ?_
            rotate_left
            · show Act.put _ (some 52) _ = _
              simp only [Act.put, List.setIfInBounds_toArray, List.set_cons_zero, List.set_cons_succ]
              rfl
            have E4 := Aside0.mk (blk_below HY4.out L10.out)
            have y0 : w10.cell? ⟨w.heap.size, 0, none⟩ = some (.float .f32 0) := (blk_cell E4.out 0).trans rfl
            have y1 : w10.cell? ⟨w.heap.size, 1, none⟩ = some (.float .f32 0) := (blk_cell E4.out 1).trans rfl
            have y2 : w10.cell? ⟨w.heap.size, 2, none⟩ = some (.float .f32 0) := (blk_cell E4.out 2).trans rfl
            have fy0 := blk_frozen E4.out 0
            have fy1 := blk_frozen E4.out 1
            have fy2 := blk_frozen E4.out 2
            refine last_ (i := 5) (N := none) #[true, true, true, true, true, true] rfl rfl (by kernel_rfl) (by decide) (fun K hK => ?_)
            refine skip_ (w1 := ?_) (by rfl) rfl ?_ ?_
            rotate_left
            · go_simp
              rfl
            refine hK.out _ _ ?_
            clear hK K
            refine done_ (by kernel_rfl) ?_
            go_wp2
            refine bodyPost_ret (results_cell_row rfl _ _ w.heap.size 46 #[.float .f32 nw.f0, .float .f32 nw.f1, .float .f32 nw.f2] (0, 0) _ rfl (by
              refine blk_put (cs := #[.float .f32 nw.f0, .float .f32 nw.f1, .float .f32 0]) ?_ 2 _ rfl
              refine blk_put (cs := #[.float .f32 nw.f0, .float .f32 0, .float .f32 0]) ?_ 1 _ rfl
              refine blk_put (cs := #[.float .f32 0, .float .f32 0, .float .f32 0]) ?_ 0 _ rfl
              exact E4.out) Try.underlying46 rfl (by kernel_rfl)) rfl ?_
            refine ⟨nw, rfl, ?_, below_set (below_set (below_set (below_step (below_step HBW.out HB8.out) L10.out) (Nat.le_refl _)) (Nat.le_refl _)) (Nat.le_refl _)⟩
            have hx9 := HX1.out
            rw [if_neg HN.out, HZ.out, if_neg (by decide)] at hx9
            rw [← hx9, HXP.out]
            exact hnw
          | true =>
            have HZ := Aside0.mk hz
            go_wp2_with (first | (go_at_call 64; (with_reducible refine (segE64 ad (some ae) c l i ((i + 1) % l.length) _ f0 hle (Kd.C_below KC.out (below_alloc (Below.refl wi.heap.size wi) (.cells #[.float .f32 x.f0, .float .f32 x.f1, .float .f32 x.f2] 46 (0, 0)))) hil rfl x y hx hy).mono ?_); rintro e w7 ⟨d, rfl, hd, hb7⟩; obtain rfl : d = seg l i := (EV_is hd (by rw [HSEG.out]; exact HSI.out)).trans HSEG.out; have HB7 := Aside0.mk (below_alloc (below_step (below_alloc (Below.refl wi.heap.size wi) (.cells #[.float .f32 x.f0, .float .f32 x.f1, .float .f32 x.f2] 46 (0, 0))) hb7) (.cells #[.float .f32 (seg l i).f0, .float .f32 (seg l i).f1, .float .f32 (seg l i).f2] 46 (0, 0))); have BX7 := Aside0.mk (blk_alloc (blk_below (heap_alloc_new wi (.cells #[.float .f32 x.f0, .float .f32 x.f1, .float .f32 x.f2] 46 (0, 0))) hb7) (.cells #[.float .f32 (seg l i).f0, .float .f32 (seg l i).f1, .float .f32 (seg l i).f2] 46 (0, 0))); have BD7 := Aside0.mk (heap_alloc_new w7 (.cells #[.float .f32 (seg l i).f0, .float .f32 (seg l i).f1, .float .f32 (seg l i).f2] 46 (0, 0))); clear hd hb7 f0; have d0 := (blk_cell BD7.out 0).trans (rfl : _ = some (Value.float .f32 (seg l i).f0)); have d1 := (blk_cell BD7.out 1).trans (rfl : _ = some (Value.float .f32 (seg l i).f1)); have d2 := (blk_cell BD7.out 2).trans (rfl : _ = some (Value.float .f32 (seg l i).f2)); skip) | (go_at_call 97; refine (impl_SizeOfVector.calls _ _ _ (sizeP l i) _ (size_ok HSI.out).1).mono ?_; rintro e w8 ⟨rfl, hb8⟩; have HB8 := Aside0.mk (below_step HB7.out hb8); have BX8 := Aside0.mk (blk_below BX7.out hb8); have BD8 := Aside0.mk (blk_below BD7.out hb8); clear hb8 d0 d1 d2) | ((with_reducible refine gate_dst (N := 47) rfl ?_); refine wpList_ar rfl _ _ _ _ _ rfl arQ _ _ rfl rfl HL.out (E.refl _) ?_; intro qu nq hqu))
            have HY4 := Aside0.mk (blk_below B4.out HB8.out)
            have u0 : w8.cell? ⟨(wi.heap.size), 0, none⟩ = some (.float .f32 x.f0) := (blk_cell BX8.out 0).trans rfl
            have u1 : w8.cell? ⟨(wi.heap.size), 1, none⟩ = some (.float .f32 x.f1) := (blk_cell BX8.out 1).trans rfl
            have u2 : w8.cell? ⟨(wi.heap.size), 2, none⟩ = some (.float .f32 x.f2) := (blk_cell BX8.out 2).trans rfl
            have v0 : w8.cell? ⟨w7.heap.size, 0, none⟩ = some (.float .f32 (seg l i).f0) := (blk_cell BD8.out 0).trans rfl
            have v1 : w8.cell? ⟨w7.heap.size, 1, none⟩ = some (.float .f32 (seg l i).f1) := (blk_cell BD8.out 1).trans rfl
            have v2 : w8.cell? ⟨w7.heap.size, 2, none⟩ = some (.float .f32 (seg l i).f2) := (blk_cell BD8.out 2).trans rfl
            refine start_ (n := 6) (S := fun w' => Below w8.heap.size w8 w') (ds := [5]) #[false, false, false, false, false, false] (by kernel_rfl) rfl rfl (below_drew1 (pw_below_drewN (Below.refl _ _) _)) (fun hHeld => ?_)
            refine pure_ (i := 2) (N := some 50) (v := ?_) (a' := ?_) #[false, false, true, false, false, false] rfl rfl (by kernel_rfl) (fun _ _ _ h => h) (Or.inl ⟨by rfl, ?_⟩) ?_ ?_
            rotate_left
            · intro w'
              go_simp
              with_reducible rfl
            rotate_left
            · simp only [Act.put, List.setIfInBounds_toArray, List.set_cons_zero, List.set_cons_succ, i64_w, i32_w]
              rfl
            refine take_ (i := 0) (N := some 48) (v := ?_) (a' := ?_) #[true, false, true, false, false, false] rfl rfl (by kernel_rfl) (fun _ _ _ h => h) (Or.inl ⟨by rfl, ?_⟩) hHeld ?_ ?_
            rotate_left
            · rintro w' s0
              have c0 := cell_b s0 u0
              have c1 := cell_b s0 u1
              have c2 := cell_b s0 u2
              go_simp
              with_reducible rfl
            rotate_left
            · simp only [Act.put, List.setIfInBounds_toArray, List.set_cons_zero, List.set_cons_succ, i64_w, i32_w]
              rfl
            refine take_ (i := 1) (N := some 49) (v := ?_) (a' := ?_) #[true, true, true, false, false, false] rfl rfl (by kernel_rfl) (fun _ _ _ h => h) (Or.inl ⟨by rfl, ?_⟩) hHeld ?_ ?_
            rotate_left
            · rintro w' s0
              have c0 := cell_b s0 v0
              have c1 := cell_b s0 v1
              have c2 := cell_b s0 v2
              go_simp
              with_reducible rfl
            rotate_left
            · simp only [Act.put, List.setIfInBounds_toArray, List.set_cons_zero, List.set_cons_succ, i64_w, i32_w]
              rfl
            refine one_ (i := 3) (N := some 51) #[true, true, true, true, false, false] rfl rfl (by kernel_rfl) (by decide) (fun K hK => ?_)
            refine goes_ Try.func107 (by kernel_rfl) rfl #[vv (seg l i), .float .f32 qu] (by rfl) rfl rfl (by (try simp only [List.map_toArray, List.map_cons, List.map_nil]); first | done | rfl) ?_
            refine (scale107 _ (seg l i) _ qu (EV.refl _) hqu _).mono ?_
            rintro e w9 ⟨sc, rfl, hsc, hb9⟩
            refine ⟨_, rfl, ?_⟩
            have L9 := Aside0.mk (below_step (below_drew1 (pw_below_drewN (Below.refl w8.heap.size w8) _)) hb9)
            clear hb9
            refine hK.out _ _ L9.out (fun _ => ?_)
            clear hK K
            refine norm_ (a' := ?_) ?_ ?_
            rotate_left
            · show Act.put _ (some 51) _ = _
              simp only [Act.put, List.setIfInBounds_toArray, List.set_cons_zero, List.set_cons_succ]
              rfl
            refine one_ (i := 4) (N := some 52) #[true, true, true, true, true, false] rfl rfl (by kernel_rfl) (by decide) (fun K hK => ?_)
            refine goes_ Try.func108 (by kernel_rfl) rfl #[vv x, vv sc] (by rfl) rfl rfl (by (try simp only [List.map_toArray, List.map_cons, List.map_nil]); first | done | rfl) ?_
            refine (add108 _ _ x sc (EV.refl _) hsc _).mono ?_
            rintro e w10 ⟨nw, rfl, hnw, hb10⟩
            refine ⟨_, rfl, ?_⟩
            have L10 := Aside0.mk (below_step L9.out hb10)
            clear hb10
            refine hK.out _ _ L10.out (fun _ => ?_)
            clear hK K
            refine norm_ (a' := ?_) ?_ ?_
            rotate_left
            · show Act.put _ (some 52) _ = _
              simp only [Act.put, List.setIfInBounds_toArray, List.set_cons_zero, List.set_cons_succ]
              rfl
            have E4 := Aside0.mk (blk_below HY4.out L10.out)
            have y0 : w10.cell? ⟨w.heap.size, 0, none⟩ = some (.float .f32 0) := (blk_cell E4.out 0).trans rfl
            have y1 : w10.cell? ⟨w.heap.size, 1, none⟩ = some (.float .f32 0) := (blk_cell E4.out 1).trans rfl
            have y2 : w10.cell? ⟨w.heap.size, 2, none⟩ = some (.float .f32 0) := (blk_cell E4.out 2).trans rfl
            have fy0 := blk_frozen E4.out 0
            have fy1 := blk_frozen E4.out 1
            have fy2 := blk_frozen E4.out 2
            refine last_ (i := 5) (N := none) #[true, true, true, true, true, true] rfl rfl (by kernel_rfl) (by decide) (fun K hK => ?_)
            refine skip_ (w1 := ?_) (by rfl) rfl ?_ ?_
            rotate_left
            · go_simp
              rfl
            refine hK.out _ _ ?_
            clear hK K
            refine done_ (by kernel_rfl) ?_
            go_wp2
            refine bodyPost_ret (results_cell_row rfl _ _ w.heap.size 46 #[.float .f32 nw.f0, .float .f32 nw.f1, .float .f32 nw.f2] (0, 0) _ rfl (by
              refine blk_put (cs := #[.float .f32 nw.f0, .float .f32 nw.f1, .float .f32 0]) ?_ 2 _ rfl
              refine blk_put (cs := #[.float .f32 nw.f0, .float .f32 0, .float .f32 0]) ?_ 1 _ rfl
              refine blk_put (cs := #[.float .f32 0, .float .f32 0, .float .f32 0]) ?_ 0 _ rfl
              exact E4.out) Try.underlying46 rfl (by kernel_rfl)) rfl ?_
            refine ⟨nw, rfl, ?_, below_set (below_set (below_set (below_step (below_step HBW.out HB8.out) L10.out) (Nat.le_refl _)) (Nat.le_refl _)) (Nat.le_refl _)⟩
            have hx9 := HX1.out
            rw [if_neg HN.out, HZ.out, if_pos rfl] at hx9
            rw [← hx9, HXP.out]
            exact hnw
end XP
end Go.Proofs.Ytffofpiejcolfaa
end
section
set_option linter.unusedVariables false
set_option linter.unusedSimpArgs false
namespace Go.Proofs.Ytffofpiejcolfaa
open Go.RowKit Go.Proofs.YtffofpiejcolfaaW.PrintWords Go.Proofs.YtffofpiejcolfaaW.PrintLast Go.Proofs.YtffofpiejcolfaaW.PrintMore
attribute [local go_sem] max2_int min2_int max_two min_two max_three min_three max_four min_four
namespace XP
open XM XF XL XC XY XE XN XK XG XV L0 L3
def EL (l c : List S46) : Prop := l.length = c.length ∧ ∀ (j : Nat) (x y : S46), l[j]? = some x → c[j]? = some y → EV x y
theorem EL.refl (l : List S46) : EL l l := ⟨rfl, fun j x y h1 h2 => by rw [h1] at h2; rw [Option.some.inj h2]; exact EV.refl _⟩
theorem EL.cons {v w : S46} {l c : List S46} (h : EL (v :: l) (w :: c)) : EV v w ∧ EL l c := ⟨h.2 0 v w rfl rfl, by simpa using h.1, fun j x y h1 h2 => h.2 (j + 1) x y h1 h2⟩
theorem EL.snoc {l c : List S46} {v w : S46} (h : EL l c) (hv : EV v w) : EL (l ++ [v]) (c ++ [w]) := by
  refine ⟨by simp [h.1], fun j x y h1 h2 => ?_⟩
  by_cases hj : j < l.length
  · rw [List.getElem?_append_left hj] at h1
    rw [List.getElem?_append_left (by rw [← h.1]; exact hj)] at h2
    exact h.2 j x y h1 h2
  · rw [List.getElem?_append_right (by omega)] at h1
    rw [List.getElem?_append_right (by rw [← h.1]; omega)] at h2
    rw [← h.1] at h2
    cases hk : j - l.length with
    | zero =>
      rw [hk] at h1 h2
      simp at h1 h2
      rw [← h1, ← h2]
      exact hv
    | succ k => rw [hk] at h1; simp at h1
theorem EL_any : ∀ {l c : List S46}, EL l c → (c.any fun x => !vfin x) = (l.any fun x => !vfin x)
  | [], c, h => by rw [List.eq_nil_of_length_eq_zero h.1.symm]
  | v :: l, [], h => by have := h.1; simp at this
  | v :: l, w :: c, h => by
    obtain ⟨h1, h2⟩ := h.cons
    simp only [List.any_cons, EL_any h2, vfin_E h1]
theorem EL_eq : ∀ {l c : List S46}, EL l c → (l.any fun x => !vfin x) = false → c = l
  | [], c, h, _ => List.eq_nil_of_length_eq_zero h.1.symm
  | v :: l, [], h, _ => by have := h.1; simp at this
  | v :: l, w :: c, h, hf => by
    obtain ⟨h1, h2⟩ := h.cons
    simp only [List.any_cons, Bool.or_eq_false_iff, Bool.not_eq_false'] at hf
    rw [EL_eq h2 hf.2, vE_fin h1 hf.1]
def toldT (l : List S46) (s : Nat) : List S46 × Nat × Bool := if isThread l s = true then (l, s, true) else ([], 0, false)
theorem toldT_EL {l c : List S46} (s : Nat) (h : EL l c) : toldT c s = toldT l s := by
  have e : isThread c s = isThread l s := by
    unfold isThread
    rw [← h.1, EL_any h]
  unfold toldT
  rw [e]
  cases hi : isThread l s with
  | false => rfl
  | true =>
    rw [if_pos rfl, if_pos rfl]
    unfold isThread at hi
    simp only [Bool.and_eq_true, Bool.not_eq_true'] at hi
    rw [EL_eq h hi.2.2.1]
set_option maxHeartbeats 4000000 in
set_option maxRecDepth 100000 in
theorem told87 (A : Option Addr) (c : Nat) (l : List S46) (s : Nat) (w w0 : World) (hw0 : w0.heap.size ≤ w.heap.size) (ok : Nat → Prop) (ho : Kd.R k46 46 w w0.heap.size ok (.slice A l.length c) l) :
    Calls Try.prog 87 #[.slice A l.length c, .float .f32 s] w fun e w' => ∃ v0_ : Value, e = .returned (.tuple #[.agg #[v0_, .float .f32 (toldT l s).2.1], .bool (toldT l s).2.2]) ∧ Kd.R k46 46 w' w0.heap.size ok v0_ (toldT l s).1 ∧ Below w.heap.size w w' := by
  obtain ⟨_, hlx, hCx⟩ := Kd.R_reads' ho
  have HB0 := Aside0.mk (below_alloc (below_alloc (Below.refl w.heap.size w) (.cells #[.slice none 0 0, .float .f32 0] 31 (0, 0))) (.cells #[.slice A l.length c, .float .f32 s] 31 (0, 0)))
  have BT := Aside0.mk (heap_two w (.cells #[.slice none 0 0, .float .f32 0] 31 (0, 0)) (.cells #[.slice A l.length c, .float .f32 s] 31 (0, 0)))
  have BZ := Aside0.mk (blk_alloc (heap_alloc_new w (.cells #[.slice none 0 0, .float .f32 0] 31 (0, 0))) (.cells #[.slice A l.length c, .float .f32 s] 31 (0, 0)))
  have f0 := (blk_cell BT.out 0).trans (rfl : _ = some (Value.slice A l.length c))
  have f1 := (blk_cell BT.out 1).trans (rfl : _ = some (Value.float .f32 s))
  unfold toldT
  cases hi : isThread l s with
  | false =>
    rw [if_neg (by decide)]
    go_enter Try.func87, Try.ntmps87
    go_wp2_with (first | (go_at_call 45; refine (IsThread.calls A c l s false _ (Kd.C_below hCx HB0.out) hlx (congrArg some hi)).mono ?_; rintro e w1 ⟨rfl, hb1⟩; have HB1 := Aside0.mk (below_step HB0.out hb1); have BT1 := Aside0.mk (blk_below BT.out hb1); have BZ1 := Aside0.mk (blk_below BZ.out hb1); clear hb1 f0 f1; have g0 := (blk_cell BT1.out 0).trans (rfl : _ = some (Value.slice A l.length c)); have g1 := (blk_cell BT1.out 1).trans (rfl : _ = some (Value.float .f32 s)); have z0 := (blk_cell BZ1.out 0).trans (rfl : _ = some (Value.slice none 0 0)); have z1 := (blk_cell BZ1.out 1).trans (rfl : _ = some (Value.float .f32 0)); have y0 := blk_frozen BZ1.out 0; have y1 := blk_frozen BZ1.out 1))
    refine bodyPost_ret (results_ct rfl _ _ (w.heap.size) 31 #[.slice none 0 0, .float .f32 0] (0, 0) _ rfl (by
      refine blk_put (cs := #[.slice none 0 0, .float .f32 0]) ?_ 1 _ rfl
      refine blk_put (cs := #[.slice none 0 0, .float .f32 0]) ?_ 0 _ rfl
      exact BZ1.out) Try.underlying31 rfl (by kernel_rfl)) rfl ?_
    exact ⟨_, rfl, Kd.R_nil _ _ _ _ _, below_set (below_set HB1.out (Nat.le_refl _)) (Nat.le_refl _)⟩
  | true =>
    rw [if_pos rfl]
    go_enter Try.func87, Try.ntmps87
    go_wp2_with (first | (go_at_call 45; refine (IsThread.calls A c l s true _ (Kd.C_below hCx HB0.out) hlx (congrArg some hi)).mono ?_; rintro e w1 ⟨rfl, hb1⟩; have HB1 := Aside0.mk (below_step HB0.out hb1); have BT1 := Aside0.mk (blk_below BT.out hb1); have BZ1 := Aside0.mk (blk_below BZ.out hb1); clear hb1 f0 f1; have g0 := (blk_cell BT1.out 0).trans (rfl : _ = some (Value.slice A l.length c)); have g1 := (blk_cell BT1.out 1).trans (rfl : _ = some (Value.float .f32 s)); have z0 := (blk_cell BZ1.out 0).trans (rfl : _ = some (Value.slice none 0 0)); have z1 := (blk_cell BZ1.out 1).trans (rfl : _ = some (Value.float .f32 0)); have y0 := blk_frozen BZ1.out 0; have y1 := blk_frozen BZ1.out 1))
    refine bodyPost_ret (results_ct rfl _ _ (w.heap.size) 31 #[.slice A l.length c, .float .f32 s] (0, 0) _ rfl (by
      refine blk_put (cs := #[.slice A l.length c, .float .f32 0]) ?_ 1 _ rfl
      refine blk_put (cs := #[.slice none 0 0, .float .f32 0]) ?_ 0 _ rfl
      exact BZ1.out) Try.underlying31 rfl (by kernel_rfl)) rfl ?_
    have hb := below_set (below_set HB1.out (Nat.le_refl _) (j := 0) (v := .slice A l.length c)) (Nat.le_refl _) (j := 1) (v := .float .f32 s)
    exact ⟨_, rfl, Kd.R_below ho hb, hb⟩
set_option maxHeartbeats 4000000 in
set_option maxRecDepth 100000 in
theorem give84 (A : Option Addr) (c : Nat) (l : List S46) (s : Nat) (w w0 : World) (hw0 : w0.heap.size ≤ w.heap.size) (ok : Nat → Prop) (ho : Kd.R k46 46 w w0.heap.size ok (.slice A l.length c) l) :
    Calls Try.prog 84 #[.agg #[.slice A l.length c, .float .f32 s]] w fun e w' => ∃ v0_ : Value, e = .returned (.tuple #[.agg #[v0_, .float .f32 (toldT l s).2.1], .bool (toldT l s).2.2]) ∧ Kd.R k46 46 w' w0.heap.size ok v0_ (toldT l s).1 ∧ Below w.heap.size w w' := by
  obtain ⟨_, hlx, hCx⟩ := Kd.R_reads' ho
  have HB0 := Aside0.mk (below_alloc (below_alloc (Below.refl w.heap.size w) (.cells #[.slice A l.length c, .float .f32 s] 31 (0, 0))) (.cells #[.slice none 0 0, .float .f32 0] 31 (0, 0)))
  have BT := Aside0.mk (blk_alloc (heap_alloc_new w (.cells #[.slice A l.length c, .float .f32 s] 31 (0, 0))) (.cells #[.slice none 0 0, .float .f32 0] 31 (0, 0)))
  have BZ := Aside0.mk (heap_two w (.cells #[.slice A l.length c, .float .f32 s] 31 (0, 0)) (.cells #[.slice none 0 0, .float .f32 0] 31 (0, 0)))
  have f0 := (blk_cell BT.out 0).trans (rfl : _ = some (Value.slice A l.length c))
  have f1 := (blk_cell BT.out 1).trans (rfl : _ = some (Value.float .f32 s))
  unfold toldT
  cases hi : isThread l s with
  | false =>
    rw [if_neg (by decide)]
    go_enter Try.func84, Try.ntmps84
    go_wp2_with (first | (go_at_call 41; (with_reducible refine (l06Is_at ⟨w.heap.size, 0, none⟩ A c l s _ f0 f1 hlx (Kd.C_below hCx HB0.out) false hi).mono ?_); rintro e w1 ⟨rfl, hb1⟩; have HB1 := Aside0.mk (below_step HB0.out hb1); have BT1 := Aside0.mk (blk_below BT.out hb1); have BZ1 := Aside0.mk (blk_below BZ.out hb1); clear hb1 f0 f1; have g0 := (blk_cell BT1.out 0).trans (rfl : _ = some (Value.slice A l.length c)); have g1 := (blk_cell BT1.out 1).trans (rfl : _ = some (Value.float .f32 s)); have z0 := (blk_cell BZ1.out 0).trans (rfl : _ = some (Value.slice none 0 0)); have z1 := (blk_cell BZ1.out 1).trans (rfl : _ = some (Value.float .f32 0)); have y0 := blk_frozen BZ1.out 0; have y1 := blk_frozen BZ1.out 1))
    refine bodyPost_ret (results_ct rfl _ _ (w.heap.size + 1) 31 #[.slice none 0 0, .float .f32 0] (0, 0) _ rfl (by
      refine blk_put (cs := #[.slice none 0 0, .float .f32 0]) ?_ 1 _ rfl
      refine blk_put (cs := #[.slice none 0 0, .float .f32 0]) ?_ 0 _ rfl
      exact BZ1.out) Try.underlying31 rfl (by kernel_rfl)) rfl ?_
    exact ⟨_, rfl, Kd.R_nil _ _ _ _ _, below_set (below_set HB1.out (Nat.le_succ _)) (Nat.le_succ _)⟩
  | true =>
    rw [if_pos rfl]
    go_enter Try.func84, Try.ntmps84
    go_wp2_with (first | (go_at_call 41; (with_reducible refine (l06Is_at ⟨w.heap.size, 0, none⟩ A c l s _ f0 f1 hlx (Kd.C_below hCx HB0.out) true hi).mono ?_); rintro e w1 ⟨rfl, hb1⟩; have HB1 := Aside0.mk (below_step HB0.out hb1); have BT1 := Aside0.mk (blk_below BT.out hb1); have BZ1 := Aside0.mk (blk_below BZ.out hb1); clear hb1 f0 f1; have g0 := (blk_cell BT1.out 0).trans (rfl : _ = some (Value.slice A l.length c)); have g1 := (blk_cell BT1.out 1).trans (rfl : _ = some (Value.float .f32 s)); have z0 := (blk_cell BZ1.out 0).trans (rfl : _ = some (Value.slice none 0 0)); have z1 := (blk_cell BZ1.out 1).trans (rfl : _ = some (Value.float .f32 0)); have y0 := blk_frozen BZ1.out 0; have y1 := blk_frozen BZ1.out 1))
    refine bodyPost_ret (results_ct rfl _ _ (w.heap.size + 1) 31 #[.slice A l.length c, .float .f32 s] (0, 0) _ rfl (by
      refine blk_put (cs := #[.slice A l.length c, .float .f32 0]) ?_ 1 _ rfl
      refine blk_put (cs := #[.slice none 0 0, .float .f32 0]) ?_ 0 _ rfl
      exact BZ1.out) Try.underlying31 rfl (by kernel_rfl)) rfl ?_
    have hb := below_set (below_set HB1.out (Nat.le_succ _) (j := 0) (v := .slice A l.length c)) (Nat.le_succ _) (j := 1) (v := .float .f32 s)
    exact ⟨_, rfl, Kd.R_below ho hb, hb⟩
def inB (n : Int) : Bool := decide (3 ≤ n ∧ n ≤ 32)
set_option maxHeartbeats 4000000 in
set_option maxRecDepth 100000 in
theorem in85 (n : Int) (w : World) : Calls Try.prog 85 #[.int .i64 n, .int .i64 3, .int .i64 32] w fun e w' => e = .returned (.bool (inB n)) ∧ Drawn0 w w' := by
  unfold inB
  by_cases c1 : 3 ≤ n
  · have d1 : decide (n ≥ 3) = true := decide_eq_true c1
    have e1 : decide (3 ≤ n ∧ n ≤ 32) = decide (n ≤ 32) := by simp [c1]
    rw [e1]
    go_enter Try.func85, Try.ntmps85
    go_wp2
    go_ret
    exact ⟨by first | rfl | (simp; done), by first | exact Drawn0.refl _ | exact ⟨_, rfl⟩⟩
  · have d1 : decide (n ≥ 3) = false := decide_eq_false c1
    have e1 : decide (3 ≤ n ∧ n ≤ 32) = false := decide_eq_false (fun h => c1 h.1)
    rw [e1]
    go_enter Try.func85, Try.ntmps85
    go_wp2
    go_ret
    exact ⟨by first | rfl | (simp; done), by first | exact Drawn0.refl _ | exact ⟨_, rfl⟩⟩
set_option maxHeartbeats 4000000 in
set_option maxRecDepth 100000 in
theorem in79 (n : Int) (w : World) : Calls Try.prog 79 #[.int .i64 n, .int .i64 3, .int .i64 32] w fun e w' => e = .returned (.bool (inB n)) ∧ Drawn0 w w' := by
  unfold inB
  by_cases c1 : 3 ≤ n
  · have d1 : decide (n ≥ 3) = true := decide_eq_true c1
    have e1 : decide (3 ≤ n ∧ n ≤ 32) = decide (n ≤ 32) := by simp [c1]
    rw [e1]
    go_enter Try.func79, Try.ntmps79
    go_wp2
    go_ret
    exact ⟨by first | rfl | (simp; done), by first | exact Drawn0.refl _ | exact ⟨_, rfl⟩⟩
  · have d1 : decide (n ≥ 3) = false := decide_eq_false c1
    have e1 : decide (3 ≤ n ∧ n ≤ 32) = false := decide_eq_false (fun h => c1 h.1)
    rw [e1]
    go_enter Try.func79, Try.ntmps79
    go_wp2
    go_ret
    exact ⟨by first | rfl | (simp; done), by first | exact Drawn0.refl _ | exact ⟨_, rfl⟩⟩
end XP
end Go.Proofs.Ytffofpiejcolfaa
end
section
set_option linter.unusedVariables false
set_option linter.unusedSimpArgs false
namespace Go.Proofs.Ytffofpiejcolfaa
open Go.RowKit Go.Proofs.YtffofpiejcolfaaW.PrintWords Go.Proofs.YtffofpiejcolfaaW.PrintLast Go.Proofs.YtffofpiejcolfaaW.PrintMore
attribute [local go_sem] max2_int min2_int max_two min_two max_three min_three max_four min_four
namespace XP
open XM XF XL XC XY XE XN XK XG XV L0 L3
theorem less_ok {x y : S46} (hx : vfin x = true) (hy : vfin y = true) : ∃ r1 r2 r3 s1 s2 s3, impl_LessVectors.f y.f0 y.f1 y.f2 x.f0 x.f1 x.f2 = some (r1, r2, r3) ∧ Is s1 (FloatKind.f32.format.read r1) ∧ Is s2 (FloatKind.f32.format.read r2) ∧ Is s3 (FloatKind.f32.format.read r3) := by
  unfold vfin at hx hy
  simp only [Bool.and_eq_true] at hx hy
  obtain ⟨r1, h1, s1, k1⟩ := sub_ok (nf hy.1) (nf hx.1)
  obtain ⟨r2, h2, s2, k2⟩ := sub_ok (nf hy.2.1) (nf hx.2.1)
  obtain ⟨r3, h3, s3, k3⟩ := sub_ok (nf hy.2.2) (nf hx.2.2)
  refine ⟨r1, r2, r3, s1, s2, s3, ?_, k1, k2, k3⟩
  unfold impl_LessVectors.f
  rw [if_pos (fok_of h1).1, if_pos (fok_of h2).1, if_pos (fok_of h3).1, (fok_of h1).2, (fok_of h2).2, (fok_of h3).2]
theorem step_ok {l : List S46} {i : Nat} (hx : vfin (rd_T46 l (i : Int)) = true) (hy : vfin (rd_T46 l (((i + 1) % l.length : Nat) : Int)) = true) : ∃ s, sizeI l i = some s ∧ sizeS l i = some s ∧ Is false (FloatKind.f32.format.read s) := by
  obtain ⟨r1, r2, r3, s1, s2, s3, h, k1, k2, k3⟩ := less_ok hx hy
  obtain ⟨p, g, k4⟩ := inner_ok k1 k2 k3
  obtain ⟨q, g1, g2, k5⟩ := root_both k4
  refine ⟨q, ?_, ?_, k5⟩
  · unfold sizeI
    rw [h]
    simp only [Option.bind_some]
    unfold impl_SizeOfVector.f
    rw [g]
    simp only [Option.bind_some]
    rw [g1]
    rfl
  · unfold sizeS
    rw [show @spec_l01VLess.f = @impl_LessVectors.f from rfl, h]
    simp only [Option.bind_some]
    unfold spec_l01VLong.f
    rw [show @spec_l01VInner.f = @impl_InnerOf.f from rfl, g]
    simp only [Option.bind_some]
    rw [g2]
    rfl
theorem rd_fin {l : List S46} (h : (!(l.any fun x => !vfin x)) = true) (i : Nat) (hi : i < l.length) : vfin (rd_T46 l (i : Int)) = true := by
  have e : rd_T46 l (i : Int) = l[i] := by simp [rd_T46, hi]
  rw [e]
  simp only [Bool.not_eq_true', List.any_eq_false, Bool.not_eq_true] at h
  simpa using h l[i] (List.getElem_mem hi)
theorem sum_ok {l : List S46} (h : (!(l.any fun x => !vfin x)) = true) : ∀ (k i acc : Nat), i + k = l.length → Is false (FloatKind.f32.format.read acc) → ∃ s, sumF (sizeI l) k i acc = some s ∧ sumF (sizeS l) k i acc = some s ∧ Is false (FloatKind.f32.format.read s)
  | 0, i, acc, _, ha => ⟨acc, rfl, rfl, ha⟩
  | k + 1, i, acc, hi, ha => by
    obtain ⟨s, h1, h2, h3⟩ := step_ok (rd_fin h i (by omega)) (rd_fin h ((i + 1) % l.length) (Nat.mod_lt _ (by omega)))
    obtain ⟨r, h4, h5⟩ := add_nn ha h3
    obtain ⟨q, h6, h7, h8⟩ := sum_ok h k (i + 1) r (by omega) h5
    refine ⟨q, ?_, ?_, h8⟩
    · unfold sumF
      rw [h1]
      simp only [Option.bind_some]
      rw [if_pos (fok_of h4).1, (fok_of h4).2, h6]
    · unfold sumF
      rw [h2]
      simp only [Option.bind_some]
      rw [if_pos (fok_of h4).1, (fok_of h4).2, h7]
theorem zero_is : Is false (FloatKind.f32.format.read 0) := .inl ⟨0, -149, by decide⟩
def totL (l : List S46) : Nat := (sumF (sizeI l) l.length 0 0).getD 0
theorem tot_ok {l : List S46} {a : Nat} (h : isThread l a = true) : sumF (sizeI l) l.length 0 0 = some (totL l) ∧ sumF (sizeS l) l.length 0 0 = some (totL l) ∧ Is false (FloatKind.f32.format.read (totL l)) := by
  unfold isThread at h
  simp only [Bool.and_eq_true] at h
  obtain ⟨s, h1, h2, h3⟩ := sum_ok h.2.2.1 l.length 0 0 (by omega) zero_is
  have e : totL l = s := by
    unfold totL
    rw [h1]
    rfl
  rw [e]
  exact ⟨h1, h2, h3⟩
theorem len_f (l : List S46) (a : Nat) : impl_Length.f l a = some (if isThread l a = true then (if fin (totL l) = true then (totL l, true) else (0, false)) else (0, false)) := by
  unfold impl_Length.f
  cases h : isThread l a with
  | false => rfl
  | true =>
    rw [if_pos rfl, if_pos rfl, (tot_ok h).1]
    simp only [Option.bind_some]
    unfold impl_toldNumber.f XL.IsFinite.f
    simp only [Option.bind_some]
    cases fin (totL l) <;> rfl
def leftL (l : List S46) (n : Int) (k : Nat) : Nat := ar .mul (floatOfInt .f32 (k : Int)) (ar .quo (totL l) (floatOfInt .f32 n))
def respL (l : List S46) (n : Int) (m : Nat) : List S46 := (List.range m).map fun k => alongV l (leftL l n k)
theorem respL_succ (l : List S46) (n : Int) (m : Nat) : respL l n (m + 1) = respL l n m ++ [alongV l (leftL l n m)] := by
  unfold respL
  rw [List.range_succ, List.map_append]
  rfl
def respR (l : List S46) (a : Nat) (n : Int) : List S46 × Nat × Bool := if isThread l a = true then (if fin (totL l) = true then (if inB n = true then toldT (respL l n n.toNat) a else ([], 0, false)) else ([], 0, false)) else ([], 0, false)
def impl_Respace.f (l : List S46) (a : Nat) (n : Int) : Option (List S46 × Nat × Bool) := some (respR l a n)
theorem thread_fin {l : List S46} {a : Nat} (h : isThread l a = true) : 0 < l.length ∧ ∀ i, i < l.length → vfin (pt l i) = true := by
  unfold isThread at h
  simp only [Bool.and_eq_true, decide_eq_true_eq] at h
  exact ⟨by omega, fun i hi => rd_fin h.2.2.1 i hi⟩
set_option maxHeartbeats 4000000 in
set_option maxRecDepth 100000 in
theorem impl_Respace.calls (A0 : Option Addr) (c0 : Nat) (l0 : List S46) (a0 : Nat) (a1 : Int) (r1 : List S46) (r2 : Nat) (r3 : Bool) (w : World) (hr0 : Kd.C k46 w A0 l0.length l0) (hc0 : l0.length ≤ c0) (h : impl_Respace.f l0 a0 a1 = some (r1, r2, r3)) :
    Calls Try.prog 31 #[.agg #[.slice A0 l0.length c0, .float .f32 a0], .int .i64 a1] w fun e w' => ∃ v0_ : Value, e = .returned (.tuple #[.agg #[v0_, .float .f32 r2], .bool r3]) ∧ Kd.R k46 46 w' w.heap.size (fun _ => True) v0_ r1 ∧ Below w.heap.size w w' := by
  have h2 : respR l0 a0 a1 = (r1, r2, r3) := Option.some.inj h
  obtain ⟨rfl, rfl, rfl⟩ : (respR l0 a0 a1).1 = r1 ∧ (respR l0 a0 a1).2.1 = r2 ∧ (respR l0 a0 a1).2.2 = r3 := by rw [h2]; exact ⟨rfl, rfl, rfl⟩
  clear h h2
  have HC := Aside0.mk hr0
  clear hr0
  have HB0 := Aside0.mk (below_alloc (below_alloc (Below.refl w.heap.size w) (.cells #[.slice A0 l0.length c0, .float .f32 a0] 31 (0, 0))) (.cells #[.slice none 0 0, .float .f32 0] 31 (0, 0)))
  have BT := Aside0.mk (blk_alloc (heap_alloc_new w (.cells #[.slice A0 l0.length c0, .float .f32 a0] 31 (0, 0))) (.cells #[.slice none 0 0, .float .f32 0] 31 (0, 0)))
  have BZ := Aside0.mk (heap_two w (.cells #[.slice A0 l0.length c0, .float .f32 a0] 31 (0, 0)) (.cells #[.slice none 0 0, .float .f32 0] 31 (0, 0)))
  have g0 := (blk_cell BT.out 0).trans (rfl : _ = some (Value.slice A0 l0.length c0))
  have g1 := (blk_cell BT.out 1).trans (rfl : _ = some (Value.float .f32 a0))
  unfold respR
  cases e1 : isThread l0 a0 with
  | false =>
    rw [if_neg (by decide)]
    go_enter Try.func31, Try.ntmps31
    go_wp2_with (first | (go_at_call 14; refine (impl_Length.calls A0 c0 l0 a0 0 false _ (Kd.C_below HC.out HB0.out) hc0 (by simp [len_f, e1])).mono ?_; rintro e w1 ⟨rfl, hb1⟩; have HB1 := Aside0.mk (below_step HB0.out hb1); have BT1 := Aside0.mk (blk_below BT.out hb1); have BZ1 := Aside0.mk (blk_below BZ.out hb1); clear hb1 g0 g1; have g0 := (blk_cell BT1.out 0).trans (rfl : _ = some (Value.slice A0 l0.length c0)); have g1 := (blk_cell BT1.out 1).trans (rfl : _ = some (Value.float .f32 a0)); have z0 := (blk_cell BZ1.out 0).trans (rfl : _ = some (Value.slice none 0 0)); have z1 := (blk_cell BZ1.out 1).trans (rfl : _ = some (Value.float .f32 0)); have y0 := blk_frozen BZ1.out 0; have y1 := blk_frozen BZ1.out 1))
    refine bodyPost_ret (results_ct rfl _ _ (w.heap.size + 1) 31 #[.slice none 0 0, .float .f32 0] (0, 0) _ rfl (by
      refine blk_put (cs := #[.slice none 0 0, .float .f32 0]) ?_ 1 _ rfl
      refine blk_put (cs := #[.slice none 0 0, .float .f32 0]) ?_ 0 _ rfl
      exact BZ1.out) Try.underlying31 rfl (by kernel_rfl)) rfl ?_
    exact ⟨_, rfl, Kd.R_nil _ _ _ _ _, below_set (below_set HB1.out (Nat.le_succ _)) (Nat.le_succ _)⟩
  | true =>
    rw [if_pos rfl]
    cases e2 : fin (totL l0) with
    | false =>
      rw [if_neg (by decide)]
      go_enter Try.func31, Try.ntmps31
      go_wp2_with (first | (go_at_call 14; refine (impl_Length.calls A0 c0 l0 a0 0 false _ (Kd.C_below HC.out HB0.out) hc0 (by simp [len_f, e1, e2])).mono ?_; rintro e w1 ⟨rfl, hb1⟩; have HB1 := Aside0.mk (below_step HB0.out hb1); have BT1 := Aside0.mk (blk_below BT.out hb1); have BZ1 := Aside0.mk (blk_below BZ.out hb1); clear hb1 g0 g1; have g0 := (blk_cell BT1.out 0).trans (rfl : _ = some (Value.slice A0 l0.length c0)); have g1 := (blk_cell BT1.out 1).trans (rfl : _ = some (Value.float .f32 a0)); have z0 := (blk_cell BZ1.out 0).trans (rfl : _ = some (Value.slice none 0 0)); have z1 := (blk_cell BZ1.out 1).trans (rfl : _ = some (Value.float .f32 0)); have y0 := blk_frozen BZ1.out 0; have y1 := blk_frozen BZ1.out 1))
      refine bodyPost_ret (results_ct rfl _ _ (w.heap.size + 1) 31 #[.slice none 0 0, .float .f32 0] (0, 0) _ rfl (by
        refine blk_put (cs := #[.slice none 0 0, .float .f32 0]) ?_ 1 _ rfl
        refine blk_put (cs := #[.slice none 0 0, .float .f32 0]) ?_ 0 _ rfl
        exact BZ1.out) Try.underlying31 rfl (by kernel_rfl)) rfl ?_
      exact ⟨_, rfl, Kd.R_nil _ _ _ _ _, below_set (below_set HB1.out (Nat.le_succ _)) (Nat.le_succ _)⟩
    | true =>
      rw [if_pos rfl]
      cases e3 : inB a1 with
      | false =>
        rw [if_neg (by decide)]
        go_enter Try.func31, Try.ntmps31
        go_wp2_with (first | (go_at_call 14; refine (impl_Length.calls A0 c0 l0 a0 (totL l0) true _ (Kd.C_below HC.out HB0.out) hc0 (by simp [len_f, e1, e2])).mono ?_; rintro e w1 ⟨rfl, hb1⟩; have HB1 := Aside0.mk (below_step HB0.out hb1); have BT1 := Aside0.mk (blk_below BT.out hb1); have BZ1 := Aside0.mk (blk_below BZ.out hb1); clear hb1 g0 g1; have g0 := (blk_cell BT1.out 0).trans (rfl : _ = some (Value.slice A0 l0.length c0)); have g1 := (blk_cell BT1.out 1).trans (rfl : _ = some (Value.float .f32 a0)); have z0 := (blk_cell BZ1.out 0).trans (rfl : _ = some (Value.slice none 0 0)); have z1 := (blk_cell BZ1.out 1).trans (rfl : _ = some (Value.float .f32 0)); have y0 := blk_frozen BZ1.out 0; have y1 := blk_frozen BZ1.out 1) | (go_at_call 85; refine (in85 a1 _).mono ?_; rw [e3]; rintro e w2 ⟨rfl, ⟨nd, rfl⟩⟩; have HB2 := Aside0.mk (pw_below_drewN HB1.out nd); have BT2 := Aside0.mk (blk_drewN BT1.out nd); have BZ2 := Aside0.mk (blk_drewN BZ1.out nd); clear g0 g1 z0 z1 y0 y1; have g0 := (blk_cell BT2.out 0).trans (rfl : _ = some (Value.slice A0 l0.length c0)); have g1 := (blk_cell BT2.out 1).trans (rfl : _ = some (Value.float .f32 a0)); have z0 := (blk_cell BZ2.out 0).trans (rfl : _ = some (Value.slice none 0 0)); have z1 := (blk_cell BZ2.out 1).trans (rfl : _ = some (Value.float .f32 0)); have y0 := blk_frozen BZ2.out 0; have y1 := blk_frozen BZ2.out 1))
        refine bodyPost_ret (results_ct rfl _ _ (w.heap.size + 1) 31 #[.slice none 0 0, .float .f32 0] (0, 0) _ rfl (by
          refine blk_put (cs := #[.slice none 0 0, .float .f32 0]) ?_ 1 _ rfl
          refine blk_put (cs := #[.slice none 0 0, .float .f32 0]) ?_ 0 _ rfl
          exact BZ2.out) Try.underlying31 rfl (by kernel_rfl)) rfl ?_
        exact ⟨_, rfl, Kd.R_nil _ _ _ _ _, below_set (below_set HB2.out (Nat.le_succ _)) (Nat.le_succ _)⟩
      | true =>
        rw [if_pos rfl]
        have HTF := Aside0.mk (thread_fin e1)
        have hin : 3 ≤ a1 ∧ a1 ≤ 32 := by simpa [inB] using e3
        have k0 : (Try.prog.underlying 2).isSome = true := by kernel_rfl
        have k1 := Try.underlying23
        go_enter Try.func31, Try.ntmps31
        go_wp2_with (first | (go_at_call 14; refine (impl_Length.calls A0 c0 l0 a0 (totL l0) true _ (Kd.C_below HC.out HB0.out) hc0 (by simp [len_f, e1, e2])).mono ?_; rintro e w1 ⟨rfl, hb1⟩; have HB1 := Aside0.mk (below_step HB0.out hb1); have BT1 := Aside0.mk (blk_below BT.out hb1); have BZ1 := Aside0.mk (blk_below BZ.out hb1); clear hb1 g0 g1; have g0 := (blk_cell BT1.out 0).trans (rfl : _ = some (Value.slice A0 l0.length c0)); have g1 := (blk_cell BT1.out 1).trans (rfl : _ = some (Value.float .f32 a0)); have z0 := (blk_cell BZ1.out 0).trans (rfl : _ = some (Value.slice none 0 0)); have z1 := (blk_cell BZ1.out 1).trans (rfl : _ = some (Value.float .f32 0)); have y0 := blk_frozen BZ1.out 0; have y1 := blk_frozen BZ1.out 1) | (go_at_call 85; refine (in85 a1 _).mono ?_; rw [e3]; rintro e w2 ⟨rfl, ⟨nd, rfl⟩⟩; have HB2 := Aside0.mk (pw_below_drewN HB1.out nd); have BT2 := Aside0.mk (blk_drewN BT1.out nd); have BZ2 := Aside0.mk (blk_drewN BZ1.out nd); clear g0 g1 z0 z1 y0 y1; have g0 := (blk_cell BT2.out 0).trans (rfl : _ = some (Value.slice A0 l0.length c0)); have g1 := (blk_cell BT2.out 1).trans (rfl : _ = some (Value.float .f32 a0)); have z0 := (blk_cell BZ2.out 0).trans (rfl : _ = some (Value.slice none 0 0)); have z1 := (blk_cell BZ2.out 1).trans (rfl : _ = some (Value.float .f32 0)); have y0 := blk_frozen BZ2.out 0; have y1 := blk_frozen BZ2.out 1) | ((with_reducible refine gate_dst (N := 23) rfl ?_); refine Kd.R_lit k46 _ 46 ?hg (N := 23) ?hd (xs := ([] : List S46)) (inner := []) (ok := fun _ => True) (okp := fun _ => True) ?hr ?hp (fun _ hk => hk) trivial HB2.out HB2.out.size (by simp) ?_; (case hd => rfl); (case hg => rfl); (case hr => first | (go_simp; done) | (go_simp; rfl)); (case hp => exact (Reps.none _ _)); intro v3 w3 ho3 hb3 hg3 _; have HB3 := Aside0.mk hb3; have HO3 := Aside0.mk ho3; have BT3 := Aside0.mk (blk_grown BT2.out hg3 (by simp)); have BZ3 := Aside0.mk (blk_grown BZ2.out hg3 (by simp)); clear hb3 ho3 hg3 g0 g1 z0 z1 y0 y1))
        go_loopg [8, 25] a1.toNat (fun kq v8 v25 w' => ∃ (k : Nat) (acc : List S46), v25 = .int .i64 (k : Int) ∧ Aside0 (k + kq = a1.toNat) ∧ Aside0 (acc.length = k ∧ EL (respL l0 a1 k) acc) ∧ Aside0 (Kd.R k46 46 w' w.heap.size (fun _ => True) v8 acc) ∧ Aside0 (Below w.heap.size w w') ∧ Aside0 (w'.heap[w.heap.size]? = some (.cells #[.slice A0 l0.length c0, .float .f32 a0] 31 (0, 0))) ∧ Aside0 (w'.heap[w.heap.size + 1]? = some (.cells #[.slice none 0 0, .float .f32 0] 31 (0, 0))))
        case atStart => exact ⟨0, [], rfl, ⟨by simp⟩, ⟨rfl, EL.refl _⟩, HO3, HB3, BT3, BZ3⟩
        case round =>
          clear HB3 HO3 BT3 BZ3 HB2 BT2 BZ2 HB1 BT1 BZ1
          obtain ⟨k, acc, rfl, HK, HEL, HO4, HB4, BT4, BZ4⟩ := hrel
          have hk := HK.out
          obtain ⟨wo, rfl⟩ : ∃ wo, wo = wr := ⟨_, rfl⟩
          cases gk with
          | zero =>
            have hck : decide ((k : Int) < a1) = false := by simp; omega
            obtain ⟨A8, c8, e8⟩ := Kd.R_slice HO4.out
            subst e8
            have hT : toldT (respL l0 a1 a1.toNat) a0 = toldT acc a0 := by
              have := HEL.out.2
              rw [show k = a1.toNat by omega] at this
              exact (toldT_EL a0 this).symm
            obtain ⟨tt, htt⟩ : ∃ tt, toldT acc a0 = tt := ⟨_, rfl⟩
            have HTT := Aside0.mk (hT.trans htt)
            clear hT
            have g0 := (blk_cell BT4.out 0).trans (rfl : _ = some (Value.slice A0 l0.length c0)); have g1 := (blk_cell BT4.out 1).trans (rfl : _ = some (Value.float .f32 a0)); have z0 := (blk_cell BZ4.out 0).trans (rfl : _ = some (Value.slice none 0 0)); have z1 := (blk_cell BZ4.out 1).trans (rfl : _ = some (Value.float .f32 0)); have y0 := blk_frozen BZ4.out 0; have y1 := blk_frozen BZ4.out 1
            go_wp2_with (first | (go_at_call 87; have hcall := told87 A8 c8 acc a0 _ w HB4.out.size _ HO4.out; rw [htt] at hcall; refine hcall.mono ?_; clear hcall; rintro e w7 ⟨v7, rfl, ho7, hb7⟩; have BZ7 := Aside0.mk (blk_below BZ4.out hb7); have HO7 := Aside0.mk ho7; have HB7 := Aside0.mk (below_step HB4.out hb7); obtain ⟨A7, c7, e7⟩ := Kd.R_slice HO7.out; subst e7; clear ho7 hb7 g0 g1 z0 z1 y0 y1; have z0 := (blk_cell BZ7.out 0).trans (rfl : _ = some (Value.slice none 0 0)); have z1 := (blk_cell BZ7.out 1).trans (rfl : _ = some (Value.float .f32 0)); have y0 := blk_frozen BZ7.out 0; have y1 := blk_frozen BZ7.out 1))
            refine bodyPost_ret (results_ct rfl _ _ (w.heap.size + 1) 31 #[.slice A7 tt.1.length c7, .float .f32 tt.2.1] (0, 0) _ rfl (by
              refine blk_put (cs := #[.slice A7 tt.1.length c7, .float .f32 0]) ?_ 1 _ rfl
              refine blk_put (cs := #[.slice none 0 0, .float .f32 0]) ?_ 0 _ rfl
              exact BZ7.out) Try.underlying31 rfl (by kernel_rfl)) rfl ?_
            rw [HTT.out]
            refine ⟨_, rfl, ?_, below_set (below_set HB7.out (Nat.le_succ _)) (Nat.le_succ _)⟩
            exact Kd.R_set (Kd.R_set HO7.out BZ7.out (by decide) 0 _) (blk_set BZ7.out 0 _) (by decide) 1 _
          | succ k1 =>
            have hck : decide ((k : Int) < a1) = true := by simp; omega
            have hwk : wrap64 ((k : Int) + 1) = ((k + 1 : Nat) : Int) := by unfold wrap64; omega
            go_wp2_with (first | ((with_reducible refine gate_dst (N := 34) rfl ?_); refine wpList_ar rfl _ _ _ _ _ rfl arQ _ _ rfl rfl (E.refl _) (E.refl _) ?_; intro q1 n1 hq1) | ((with_reducible refine gate_dst (N := 35) rfl ?_); refine wpList_ar rfl _ _ _ _ _ rfl arM _ _ rfl rfl (E.refl _) hq1 ?_; intro q2 n2 hq2; replace hq2 : E (leftL l0 a1 k) q2 := hq2; have BTd := blk_drewN BT4.out (n1 + n2); have fa := (blk_cell BTd 0).trans (rfl : _ = some (Value.slice A0 l0.length c0))) | (go_at_call 86; (with_reducible refine (along86 ⟨w.heap.size, 0, none⟩ A0 c0 l0 (leftL l0 a1 k) q2 _ fa hc0 (Kd.C_below HC.out (pw_below_drewN HB4.out (n1 + n2))) HTF.out.1 HTF.out.2 hq2).mono ?_); rintro e w5 ⟨p, rfl, hp, hb5⟩; have hb5' := below_step (pw_below_drewN (Below.refl wo.heap.size wo) (n1 + n2)) hb5; have HB5 := Aside0.mk (below_step HB4.out hb5'); have BT5 := Aside0.mk (blk_below BT4.out hb5'); have BZ5 := Aside0.mk (blk_below BZ4.out hb5'); have HO5 := Aside0.mk (Kd.R_below HO4.out hb5'); have HP := Aside0.mk hp; clear hp hb5 hb5' fa BTd) | ((with_reducible refine gate_dst (N := 38) rfl ?_); refine Kd.R_append k46 (w0 := w) w.heap.size rfl (.tmp 28) (.tmp 37) 29 46 (.agg #[(.float .f32 0), (.float .f32 0), (.float .f32 0)]) 12 rfl Try.underlying29 L0.info46 rfl (by decide) (by decide) u8 acc p [.float .f32 p.f0, .float .f32 p.f1, .float .f32 p.f2] (fun _ => True) (fun _ => False) rfl rfl ?aP (fun _ h_ => h_.elim) (fun _ _ => trivial) HO5.out HB5.out HB5.out.size ?aL ?_; (case aP => exact k46_mkM _ _ _ p); (case aL => have := HEL.out.1; omega); intro v6 w6 ho6 hb6 hg6 _; have BT6 := Aside0.mk (blk_grown BT5.out hg6 (Kd.R_ne HO5.out BT5.out (by decide))); have BZ6 := Aside0.mk (blk_grown BZ5.out hg6 (Kd.R_ne HO5.out BZ5.out (by decide)))))
            go_roundg k1
            case measure => omega
            case rel => exact ⟨k + 1, acc ++ [p], rfl, ⟨by omega⟩, ⟨by simp [HEL.out.1], by rw [respL_succ]; exact EL.snoc HEL.out.2 HP.out⟩, ⟨ho6⟩, ⟨hb6⟩, BT6, BZ6⟩
end XP
end Go.Proofs.Ytffofpiejcolfaa
end
section
set_option linter.unusedVariables false
set_option linter.unusedSimpArgs false
namespace Go.Proofs.Ytffofpiejcolfaa
open Go.RowKit Go.Proofs.YtffofpiejcolfaaW.PrintWords Go.Proofs.YtffofpiejcolfaaW.PrintLast Go.Proofs.YtffofpiejcolfaaW.PrintMore
attribute [local go_sem] max2_int min2_int max_two min_two max_three min_three max_four min_four
namespace XP
open XM XF XL XC XY XE XN XK XG XV L0 L3
theorem last_eq {i n : Nat} (hn : n ≤ 9223372036854775807) (h : i + 1 = n) : ((i : Int) == wrap64 ((n : Int) - 1)) = true := by
  have : wrap64 ((n : Int) - 1) = (n : Int) - 1 := by unfold wrap64; omega
  rw [this, beq_iff_eq]; omega
theorem last_ne {i n : Nat} (hn : n ≤ 9223372036854775807) (h : i + 1 < n) : ((i : Int) == wrap64 ((n : Int) - 1)) = false := by
  have : wrap64 ((n : Int) - 1) = (n : Int) - 1 := by unfold wrap64; omega
  rw [this, beq_eq_false_iff_ne]; omega
def alongG (l : List S46) : Nat → Nat → Nat → S46
  | 0, _, _ => ⟨0, 0, 0⟩
  | k + 1, i, left => if ((FloatKind.f32.format.order (sizeP l i) left == some .gt) || (FloatKind.f32.format.order (sizeP l i) left == some .eq)) = true ∨ i + 1 = l.length then
      opV .add (pt l i) (mulV (seg l i) (if (FloatKind.f32.format.order (sizeP l i) 0 == some .gt) = true then ar .quo left (sizeP l i) else 0))
    else alongG l k (i + 1) (ar .sub left (sizeP l i))
def alongS (l : List S46) (left : Nat) : S46 := alongG l l.length 0 left
def respS (l : List S46) (n : Int) (m : Nat) : List S46 := (List.range m).map fun k => alongS l (leftL l n k)
theorem respS_succ (l : List S46) (n : Int) (m : Nat) : respS l n (m + 1) = respS l n m ++ [alongS l (leftL l n m)] := by
  unfold respS
  rw [List.range_succ, List.map_append]
  rfl
def respQ (l : List S46) (a : Nat) (n : Int) : List S46 × Nat × Bool := if isThread l a = true then (if inB n = true then (if fin (totL l) = true then toldT (respS l n n.toNat) a else ([], 0, false)) else ([], 0, false)) else ([], 0, false)
def spec_Respace.f (l : List S46) (a : Nat) (n : Int) : Option (List S46 × Nat × Bool) := some (respQ l a n)
set_option maxHeartbeats 4000000 in
set_option maxRecDepth 100000 in
theorem spec_Respace.calls (A0 : Option Addr) (c0 : Nat) (l0 : List S46) (a0 : Nat) (a1 : Int) (r1 : List S46) (r2 : Nat) (r3 : Bool) (w : World) (hr0 : Kd.C k46 w A0 l0.length l0) (hc0 : l0.length ≤ c0) (h : spec_Respace.f l0 a0 a1 = some (r1, r2, r3)) :
    Calls Try.prog 30 #[.agg #[.slice A0 l0.length c0, .float .f32 a0], .int .i64 a1] w fun e w' => ∃ v0_ : Value, e = .returned (.tuple #[.agg #[v0_, .float .f32 r2], .bool r3]) ∧ Kd.R k46 46 w' w.heap.size (fun _ => True) v0_ r1 ∧ Below w.heap.size w w' := by
  have h2 : respQ l0 a0 a1 = (r1, r2, r3) := Option.some.inj h
  obtain ⟨rfl, rfl, rfl⟩ : (respQ l0 a0 a1).1 = r1 ∧ (respQ l0 a0 a1).2.1 = r2 ∧ (respQ l0 a0 a1).2.2 = r3 := by rw [h2]; exact ⟨rfl, rfl, rfl⟩
  clear h h2
  have HC := Aside0.mk hr0
  clear hr0
  have HB0 := Aside0.mk (below_alloc (below_alloc (Below.refl w.heap.size w) (.cells #[.slice A0 l0.length c0, .float .f32 a0] 31 (0, 0))) (.cells #[.slice none 0 0, .float .f32 0] 31 (0, 0)))
  have BT := Aside0.mk (blk_alloc (heap_alloc_new w (.cells #[.slice A0 l0.length c0, .float .f32 a0] 31 (0, 0))) (.cells #[.slice none 0 0, .float .f32 0] 31 (0, 0)))
  have BZ := Aside0.mk (heap_two w (.cells #[.slice A0 l0.length c0, .float .f32 a0] 31 (0, 0)) (.cells #[.slice none 0 0, .float .f32 0] 31 (0, 0)))
  have g0 := (blk_cell BT.out 0).trans (rfl : _ = some (Value.slice A0 l0.length c0))
  have g1 := (blk_cell BT.out 1).trans (rfl : _ = some (Value.float .f32 a0))
  unfold respQ
  cases e1 : isThread l0 a0 with
  | false =>
    rw [if_neg (by decide)]
    go_enter Try.func30, Try.ntmps30
    go_wp2_with (first | (go_at_call 41; (with_reducible refine (l06Is_at ⟨w.heap.size, 0, none⟩ A0 c0 l0 a0 _ g0 g1 hc0 (Kd.C_below HC.out HB0.out) false e1).mono ?_); rintro e w1 ⟨rfl, hb1⟩; have HB1 := Aside0.mk (below_step HB0.out hb1); have BT1 := Aside0.mk (blk_below BT.out hb1); have BZ1 := Aside0.mk (blk_below BZ.out hb1); clear hb1 g0 g1; have g0 := (blk_cell BT1.out 0).trans (rfl : _ = some (Value.slice A0 l0.length c0)); have g1 := (blk_cell BT1.out 1).trans (rfl : _ = some (Value.float .f32 a0)); have z0 := (blk_cell BZ1.out 0).trans (rfl : _ = some (Value.slice none 0 0)); have z1 := (blk_cell BZ1.out 1).trans (rfl : _ = some (Value.float .f32 0)); have y0 := blk_frozen BZ1.out 0; have y1 := blk_frozen BZ1.out 1))
    refine bodyPost_ret (results_ct rfl _ _ (w.heap.size + 1) 31 #[.slice none 0 0, .float .f32 0] (0, 0) _ rfl (by
      refine blk_put (cs := #[.slice none 0 0, .float .f32 0]) ?_ 1 _ rfl
      refine blk_put (cs := #[.slice none 0 0, .float .f32 0]) ?_ 0 _ rfl
      exact BZ1.out) Try.underlying31 rfl (by kernel_rfl)) rfl ?_
    exact ⟨_, rfl, Kd.R_nil _ _ _ _ _, below_set (below_set HB1.out (Nat.le_succ _)) (Nat.le_succ _)⟩
  | true =>
    rw [if_pos rfl]
    cases e3 : inB a1 with
    | false =>
      rw [if_neg (by decide)]
      go_enter Try.func30, Try.ntmps30
      go_wp2_with (first | (go_at_call 41; (with_reducible refine (l06Is_at ⟨w.heap.size, 0, none⟩ A0 c0 l0 a0 _ g0 g1 hc0 (Kd.C_below HC.out HB0.out) true e1).mono ?_); rintro e w1 ⟨rfl, hb1⟩; have HB1 := Aside0.mk (below_step HB0.out hb1); have BT1 := Aside0.mk (blk_below BT.out hb1); have BZ1 := Aside0.mk (blk_below BZ.out hb1); clear hb1 g0 g1; have g0 := (blk_cell BT1.out 0).trans (rfl : _ = some (Value.slice A0 l0.length c0)); have g1 := (blk_cell BT1.out 1).trans (rfl : _ = some (Value.float .f32 a0)); have z0 := (blk_cell BZ1.out 0).trans (rfl : _ = some (Value.slice none 0 0)); have z1 := (blk_cell BZ1.out 1).trans (rfl : _ = some (Value.float .f32 0)); have y0 := blk_frozen BZ1.out 0; have y1 := blk_frozen BZ1.out 1) | (go_at_call 79; refine (in79 a1 _).mono ?_; rw [e3]; rintro e w2 ⟨rfl, ⟨nd, rfl⟩⟩; have HB2 := Aside0.mk (pw_below_drewN HB1.out nd); have BT2 := Aside0.mk (blk_drewN BT1.out nd); have BZ2 := Aside0.mk (blk_drewN BZ1.out nd); clear g0 g1 z0 z1 y0 y1; have g0 := (blk_cell BT2.out 0).trans (rfl : _ = some (Value.slice A0 l0.length c0)); have g1 := (blk_cell BT2.out 1).trans (rfl : _ = some (Value.float .f32 a0)); have z0 := (blk_cell BZ2.out 0).trans (rfl : _ = some (Value.slice none 0 0)); have z1 := (blk_cell BZ2.out 1).trans (rfl : _ = some (Value.float .f32 0)); have y0 := blk_frozen BZ2.out 0; have y1 := blk_frozen BZ2.out 1))
      refine bodyPost_ret (results_ct rfl _ _ (w.heap.size + 1) 31 #[.slice none 0 0, .float .f32 0] (0, 0) _ rfl (by
        refine blk_put (cs := #[.slice none 0 0, .float .f32 0]) ?_ 1 _ rfl
        refine blk_put (cs := #[.slice none 0 0, .float .f32 0]) ?_ 0 _ rfl
        exact BZ2.out) Try.underlying31 rfl (by kernel_rfl)) rfl ?_
      exact ⟨_, rfl, Kd.R_nil _ _ _ _ _, below_set (below_set HB2.out (Nat.le_succ _)) (Nat.le_succ _)⟩
    | true =>
      rw [if_pos rfl]
      cases e2 : fin (totL l0) with
      | false =>
        rw [if_neg (by decide)]
        go_enter Try.func30, Try.ntmps30
        go_wp2_with (first | (go_at_call 41; (with_reducible refine (l06Is_at ⟨w.heap.size, 0, none⟩ A0 c0 l0 a0 _ g0 g1 hc0 (Kd.C_below HC.out HB0.out) true e1).mono ?_); rintro e w1 ⟨rfl, hb1⟩; have HB1 := Aside0.mk (below_step HB0.out hb1); have BT1 := Aside0.mk (blk_below BT.out hb1); have BZ1 := Aside0.mk (blk_below BZ.out hb1); clear hb1 g0 g1; have g0 := (blk_cell BT1.out 0).trans (rfl : _ = some (Value.slice A0 l0.length c0)); have g1 := (blk_cell BT1.out 1).trans (rfl : _ = some (Value.float .f32 a0)); have z0 := (blk_cell BZ1.out 0).trans (rfl : _ = some (Value.slice none 0 0)); have z1 := (blk_cell BZ1.out 1).trans (rfl : _ = some (Value.float .f32 0)); have y0 := blk_frozen BZ1.out 0; have y1 := blk_frozen BZ1.out 1) | (go_at_call 79; refine (in79 a1 _).mono ?_; rw [e3]; rintro e w2 ⟨rfl, ⟨nd, rfl⟩⟩; have HB2 := Aside0.mk (pw_below_drewN HB1.out nd); have BT2 := Aside0.mk (blk_drewN BT1.out nd); have BZ2 := Aside0.mk (blk_drewN BZ1.out nd); clear g0 g1 z0 z1 y0 y1; have g0 := (blk_cell BT2.out 0).trans (rfl : _ = some (Value.slice A0 l0.length c0)); have g1 := (blk_cell BT2.out 1).trans (rfl : _ = some (Value.float .f32 a0)); have z0 := (blk_cell BZ2.out 0).trans (rfl : _ = some (Value.slice none 0 0)); have z1 := (blk_cell BZ2.out 1).trans (rfl : _ = some (Value.float .f32 0)); have y0 := blk_frozen BZ2.out 0; have y1 := blk_frozen BZ2.out 1) | (go_at_call 43; (with_reducible refine (length43 ⟨w.heap.size, 0, none⟩ A0 c0 l0 _ g0 hc0 (Kd.C_below HC.out HB2.out) (totL l0) (tot_ok e1).2.1).mono ?_); rintro e w3 ⟨rfl, hb3⟩; have HB3 := Aside0.mk (below_step HB2.out hb3); have BT3 := Aside0.mk (blk_below BT2.out hb3); have BZ3 := Aside0.mk (blk_below BZ2.out hb3); clear hb3 g0 g1 z0 z1 y0 y1; have g0 := (blk_cell BT3.out 0).trans (rfl : _ = some (Value.slice A0 l0.length c0)); have g1 := (blk_cell BT3.out 1).trans (rfl : _ = some (Value.float .f32 a0)); have z0 := (blk_cell BZ3.out 0).trans (rfl : _ = some (Value.slice none 0 0)); have z1 := (blk_cell BZ3.out 1).trans (rfl : _ = some (Value.float .f32 0)); have y0 := blk_frozen BZ3.out 0; have y1 := blk_frozen BZ3.out 1) | (go_at_call 58; refine (l01Finite.calls (totL l0) _ _ (congrArg some e2)).mono ?_; rintro e w4 ⟨rfl, ⟨ne, rfl⟩⟩; have HB4 := Aside0.mk (pw_below_drewN HB3.out ne); have BT4 := Aside0.mk (blk_drewN BT3.out ne); have BZ4 := Aside0.mk (blk_drewN BZ3.out ne); clear g0 g1 z0 z1 y0 y1; have g0 := (blk_cell BT4.out 0).trans (rfl : _ = some (Value.slice A0 l0.length c0)); have g1 := (blk_cell BT4.out 1).trans (rfl : _ = some (Value.float .f32 a0)); have z0 := (blk_cell BZ4.out 0).trans (rfl : _ = some (Value.slice none 0 0)); have z1 := (blk_cell BZ4.out 1).trans (rfl : _ = some (Value.float .f32 0)); have y0 := blk_frozen BZ4.out 0; have y1 := blk_frozen BZ4.out 1))
        refine bodyPost_ret (results_ct rfl _ _ (w.heap.size + 1) 31 #[.slice none 0 0, .float .f32 0] (0, 0) _ rfl (by
          refine blk_put (cs := #[.slice none 0 0, .float .f32 0]) ?_ 1 _ rfl
          refine blk_put (cs := #[.slice none 0 0, .float .f32 0]) ?_ 0 _ rfl
          exact BZ4.out) Try.underlying31 rfl (by kernel_rfl)) rfl ?_
        exact ⟨_, rfl, Kd.R_nil _ _ _ _ _, below_set (below_set HB4.out (Nat.le_succ _)) (Nat.le_succ _)⟩
      | true =>
        rw [if_pos rfl]
        have HTF := Aside0.mk (thread_fin e1)
        have hin : 3 ≤ a1 ∧ a1 ≤ 32 := by simpa [inB] using e3
        have HMX : Aside0 (l0.length ≤ 9223372036854775807) := ⟨Kd.C_max HC.out⟩
        have k0 : (Try.prog.underlying 2).isSome = true := by kernel_rfl
        have k1 := Try.underlying23
        go_enter Try.func30, Try.ntmps30
        go_wp2_with (first | (go_at_call 41; (with_reducible refine (l06Is_at ⟨w.heap.size, 0, none⟩ A0 c0 l0 a0 _ g0 g1 hc0 (Kd.C_below HC.out HB0.out) true e1).mono ?_); rintro e w1 ⟨rfl, hb1⟩; have HB1 := Aside0.mk (below_step HB0.out hb1); have BT1 := Aside0.mk (blk_below BT.out hb1); have BZ1 := Aside0.mk (blk_below BZ.out hb1); clear hb1 g0 g1; have g0 := (blk_cell BT1.out 0).trans (rfl : _ = some (Value.slice A0 l0.length c0)); have g1 := (blk_cell BT1.out 1).trans (rfl : _ = some (Value.float .f32 a0)); have z0 := (blk_cell BZ1.out 0).trans (rfl : _ = some (Value.slice none 0 0)); have z1 := (blk_cell BZ1.out 1).trans (rfl : _ = some (Value.float .f32 0)); have y0 := blk_frozen BZ1.out 0; have y1 := blk_frozen BZ1.out 1) | (go_at_call 79; refine (in79 a1 _).mono ?_; rw [e3]; rintro e w2 ⟨rfl, ⟨nd, rfl⟩⟩; have HB2 := Aside0.mk (pw_below_drewN HB1.out nd); have BT2 := Aside0.mk (blk_drewN BT1.out nd); have BZ2 := Aside0.mk (blk_drewN BZ1.out nd); clear g0 g1 z0 z1 y0 y1; have g0 := (blk_cell BT2.out 0).trans (rfl : _ = some (Value.slice A0 l0.length c0)); have g1 := (blk_cell BT2.out 1).trans (rfl : _ = some (Value.float .f32 a0)); have z0 := (blk_cell BZ2.out 0).trans (rfl : _ = some (Value.slice none 0 0)); have z1 := (blk_cell BZ2.out 1).trans (rfl : _ = some (Value.float .f32 0)); have y0 := blk_frozen BZ2.out 0; have y1 := blk_frozen BZ2.out 1) | (go_at_call 43; (with_reducible refine (length43 ⟨w.heap.size, 0, none⟩ A0 c0 l0 _ g0 hc0 (Kd.C_below HC.out HB2.out) (totL l0) (tot_ok e1).2.1).mono ?_); rintro e w3 ⟨rfl, hb3⟩; have HB3 := Aside0.mk (below_step HB2.out hb3); have BT3 := Aside0.mk (blk_below BT2.out hb3); have BZ3 := Aside0.mk (blk_below BZ2.out hb3); clear hb3 g0 g1 z0 z1 y0 y1; have g0 := (blk_cell BT3.out 0).trans (rfl : _ = some (Value.slice A0 l0.length c0)); have g1 := (blk_cell BT3.out 1).trans (rfl : _ = some (Value.float .f32 a0)); have z0 := (blk_cell BZ3.out 0).trans (rfl : _ = some (Value.slice none 0 0)); have z1 := (blk_cell BZ3.out 1).trans (rfl : _ = some (Value.float .f32 0)); have y0 := blk_frozen BZ3.out 0; have y1 := blk_frozen BZ3.out 1) | (go_at_call 58; refine (l01Finite.calls (totL l0) _ _ (congrArg some e2)).mono ?_; rintro e w4 ⟨rfl, ⟨ne, rfl⟩⟩; have HB4 := Aside0.mk (pw_below_drewN HB3.out ne); have BT4 := Aside0.mk (blk_drewN BT3.out ne); have BZ4 := Aside0.mk (blk_drewN BZ3.out ne); clear g0 g1 z0 z1 y0 y1; have g0 := (blk_cell BT4.out 0).trans (rfl : _ = some (Value.slice A0 l0.length c0)); have g1 := (blk_cell BT4.out 1).trans (rfl : _ = some (Value.float .f32 a0)); have z0 := (blk_cell BZ4.out 0).trans (rfl : _ = some (Value.slice none 0 0)); have z1 := (blk_cell BZ4.out 1).trans (rfl : _ = some (Value.float .f32 0)); have y0 := blk_frozen BZ4.out 0; have y1 := blk_frozen BZ4.out 1) | ((with_reducible refine gate_dst (N := 30) rfl ?_); refine Kd.R_lit k46 _ 46 ?hg (N := 30) ?hd (xs := ([] : List S46)) (inner := []) (ok := fun _ => True) (okp := fun _ => True) ?hr ?hp (fun _ hk => hk) trivial HB4.out HB4.out.size (by simp) ?_; (case hd => rfl); (case hg => rfl); (case hr => first | (go_simp; done) | (go_simp; rfl)); (case hp => exact (Reps.none _ _)); intro v5 w5 ho5 hb5 hg5 _; obtain ⟨A5, c5, e5⟩ := Kd.R_slice ho5; subst e5; have HB5 := Aside0.mk hb5; have HO5 := Aside0.mk ho5; have BT5 := Aside0.mk (blk_grown BT4.out hg5 (by simp)); have BZ5 := Aside0.mk (blk_grown BZ4.out hg5 (by simp)); clear hb5 ho5 hg5 g0 g1 z0 z1 y0 y1; have g0 := (blk_cell BT5.out 0).trans (rfl : _ = some (Value.slice A0 l0.length c0)); have g1 := (blk_cell BT5.out 1).trans (rfl : _ = some (Value.float .f32 a0)); have z0 := (blk_cell BZ5.out 0).trans (rfl : _ = some (Value.slice none 0 0)); have z1 := (blk_cell BZ5.out 1).trans (rfl : _ = some (Value.float .f32 0)); have y0 := blk_frozen BZ5.out 0; have y1 := blk_frozen BZ5.out 1))
        have HG7 : Aside0 (w5.heap.size ≠ w.heap.size ∧ w5.heap.size ≠ w.heap.size + 1 ∧ w.heap.size ≤ w5.heap.size) := ⟨by have := blk_lt BZ5.out; omega⟩
        go_loopg [8] a1.toNat (fun kq v8 w' => ∃ (k : Nat) (acc : List S46) (A8 : Option Addr) (c8 : Nat), v8 = .int .i64 (k : Int) ∧ Aside0 (k + kq = a1.toNat) ∧ Aside0 (acc.length = k ∧ EL (respS l0 a1 k) acc) ∧ Aside0 (Kd.R k46 46 w' w.heap.size (fun _ => True) (.slice A8 acc.length c8) acc) ∧ Aside0 (Below w.heap.size w w') ∧ Aside0 (w'.heap[w.heap.size]? = some (.cells #[.slice A0 l0.length c0, .float .f32 a0] 31 (0, 0))) ∧ Aside0 (w'.heap[w.heap.size + 1]? = some (.cells #[.slice none 0 0, .float .f32 0] 31 (0, 0))) ∧ Aside0 (w'.heap[w5.heap.size]? = some (.cells #[.slice A8 acc.length c8, .float .f32 a0] 31 (0, 0))))
        case atStart => exact ⟨0, [], A5, c5, rfl, ⟨by simp⟩, ⟨rfl, EL.refl _⟩, ⟨Kd.R_below HO5.out (below_alloc (Below.refl _ _) _)⟩, ⟨below_alloc HB5.out _⟩, ⟨blk_alloc BT5.out _⟩, ⟨blk_alloc BZ5.out _⟩, ⟨heap_alloc_new _ _⟩⟩
        case round =>
          clear HB5 HO5 BT5 BZ5 HB4 BT4 BZ4 HB3 BT3 BZ3 HB2 BT2 BZ2 HB1 BT1 BZ1 g0 g1 z0 z1 y0 y1
          obtain ⟨k, acc, A8, c8, rfl, HK, HEL, HO6, HB6, BT6, BZ6, BO6⟩ := hrel
          have hk := HK.out
          obtain ⟨wo, rfl⟩ : ∃ wo, wo = wr := ⟨_, rfl⟩
          cases gk with
          | zero =>
            have hck : decide ((k : Int) < a1) = false := by simp; omega
            have hT : toldT (respS l0 a1 a1.toNat) a0 = toldT acc a0 := by
              have := HEL.out.2
              rw [show k = a1.toNat by omega] at this
              exact (toldT_EL a0 this).symm
            obtain ⟨tt, htt⟩ : ∃ tt, toldT acc a0 = tt := ⟨_, rfl⟩
            have HTT := Aside0.mk (hT.trans htt)
            clear hT
            have f0 := (blk_cell BO6.out 0).trans (rfl : _ = some (Value.slice A8 acc.length c8))
            have f1 := (blk_cell BO6.out 1).trans (rfl : _ = some (Value.float .f32 a0))
            go_wp2_with (first | (go_at_call 84; have hcall := give84 A8 c8 acc a0 _ w HB6.out.size _ HO6.out; rw [htt] at hcall; refine hcall.mono ?_; clear hcall; rintro e w7 ⟨v7, rfl, ho7, hb7⟩; have BZ7 := Aside0.mk (blk_below BZ6.out hb7); have HO7 := Aside0.mk ho7; have HB7 := Aside0.mk (below_step HB6.out hb7); obtain ⟨A7, c7, e7⟩ := Kd.R_slice HO7.out; subst e7; clear ho7 hb7 f0 f1; have z0 := (blk_cell BZ7.out 0).trans (rfl : _ = some (Value.slice none 0 0)); have z1 := (blk_cell BZ7.out 1).trans (rfl : _ = some (Value.float .f32 0)); have y0 := blk_frozen BZ7.out 0; have y1 := blk_frozen BZ7.out 1))
            refine bodyPost_ret (results_ct rfl _ _ (w.heap.size + 1) 31 #[.slice A7 tt.1.length c7, .float .f32 tt.2.1] (0, 0) _ rfl (by
              refine blk_put (cs := #[.slice A7 tt.1.length c7, .float .f32 0]) ?_ 1 _ rfl
              refine blk_put (cs := #[.slice none 0 0, .float .f32 0]) ?_ 0 _ rfl
              exact BZ7.out) Try.underlying31 rfl (by kernel_rfl)) rfl ?_
            rw [HTT.out]
            refine ⟨_, rfl, ?_, below_set (below_set HB7.out (Nat.le_succ _)) (Nat.le_succ _)⟩
            exact Kd.R_set (Kd.R_set HO7.out BZ7.out (by decide) 0 _) (blk_set BZ7.out 0 _) (by decide) 1 _
          | succ k1 =>
            have hck : decide ((k : Int) < a1) = true := by simp; omega
            have hwk : wrap64 ((k : Int) + 1) = ((k + 1 : Nat) : Int) := by unfold wrap64; omega
            go_wp2_with (first | ((with_reducible refine gate_dst (N := 44) rfl ?_); refine wpList_ar rfl _ _ _ _ _ rfl arQ _ _ rfl rfl (E.refl _) (E.refl _) ?_; intro q1 n1 hq1) | ((with_reducible refine gate_dst (N := 45) rfl ?_); refine wpList_ar rfl _ _ _ _ _ rfl arM _ _ rfl rfl (E.refl _) hq1 ?_; intro q2 n2 hq2; replace hq2 : E (leftL l0 a1 k) q2 := hq2))
            go_loopg [9, 10] l0.length (fun kq v9 v10 w' => ∃ (i left b : Nat), v9 = .float .f32 b ∧ v10 = .int .i64 (i : Int) ∧ Aside0 (i + kq = l0.length) ∧ Aside0 (E left b) ∧ Aside0 (alongG l0 kq i left = alongS l0 (leftL l0 a1 k)) ∧ Aside0 (Below wo.heap.size wo w') ∧ Aside0 (i < l0.length))
            case atStart => exact ⟨0, _, q2, rfl, rfl, ⟨by simp⟩, ⟨hq2⟩, ⟨rfl⟩, ⟨pw_below_drewN (Below.refl _ _) _⟩, ⟨HTF.out.1⟩⟩
            case round =>
              clear hq1 hq2
              obtain ⟨i, left, b, rfl, rfl, HI, HL, HX, HZ, HIL⟩ := hrel
              have hi := HI.out
              have hil := HIL.out
              cases gk with
              | zero => omega
              | succ k2 =>
                have hwi : wrap64 ((i : Int) + 1) = ((i + 1 : Nat) : Int) := by have := HMX.out; unfold wrap64; omega
                have HX1 := Aside0.mk (show (if ((FloatKind.f32.format.order (sizeP l0 i) left == some .gt) || (FloatKind.f32.format.order (sizeP l0 i) left == some .eq)) = true ∨ i + 1 = l0.length then opV .add (pt l0 i) (mulV (seg l0 i) (if (FloatKind.f32.format.order (sizeP l0 i) 0 == some .gt) = true then ar .quo left (sizeP l0 i) else 0)) else alongG l0 k2 (i + 1) (ar .sub left (sizeP l0 i))) = alongS l0 (leftL l0 a1 k) from HX.out)
                clear HX
                have HSI := Aside0.mk (seg_is HTF.out.2 hil)
                obtain ⟨x, hx⟩ : ∃ x, rd_T46 l0 (i : Int) = x := ⟨_, rfl⟩
                obtain ⟨y, hy⟩ : ∃ y, rd_T46 l0 (((i + 1) % l0.length : Nat) : Int) = y := ⟨_, rfl⟩
                have HSEG : Aside0 (opV .sub y x = seg l0 i) := ⟨by rw [← hx, ← hy]; rfl⟩
                have HXP : Aside0 (pt l0 i = x) := ⟨hx⟩
                have f0 := (blk_cell (blk_below BT6.out HZ.out) 0).trans (rfl : _ = some (Value.slice A0 l0.length c0))
                have hgE : ((FloatKind.f32.format.order (sizeP l0 i) b == some .gt) || (FloatKind.f32.format.order (sizeP l0 i) b == some .eq)) = ((FloatKind.f32.format.order (sizeP l0 i) left == some .gt) || (FloatKind.f32.format.order (sizeP l0 i) left == some .eq)) := by rw [order_Er HL.out]
                by_cases hcc : ((FloatKind.f32.format.order (sizeP l0 i) left == some .gt) || (FloatKind.f32.format.order (sizeP l0 i) left == some .eq)) = true ∨ i + 1 = l0.length
                · have HN := Aside0.mk hcc
                  cases hz : (FloatKind.f32.format.order (sizeP l0 i) 0 == some .gt) with
                  | false =>
                    have HQ := Aside0.mk hz
                    cases hge : ((FloatKind.f32.format.order (sizeP l0 i) left == some .gt) || (FloatKind.f32.format.order (sizeP l0 i) left == some .eq)) with
                    | true =>
                      rw [hge] at hgE
                      clear hcc hge
                      go_wp2_with (first | (go_at_call 80; have _m := HZ9; clear _m; (with_reducible refine (ends80 ⟨w.heap.size, 0, none⟩ A0 c0 l0 i ((i + 1) % l0.length) _ fb hc0 (Kd.C_below HC.out (below_step HB6.out HZ9.out)) hil rfl x y hx hy).mono ?_); rintro e w10 ⟨rfl, hb10⟩; have HGX0 := Aside0.mk (below_step HZ9.out hb10).size; have HZ10 := Aside0.mk (below_alloc (below_alloc (below_step HZ9.out hb10) (.cells #[.float .f32 x.f0, .float .f32 x.f1, .float .f32 x.f2] 46 (0, 0))) (.cells #[.float .f32 y.f0, .float .f32 y.f1, .float .f32 y.f2] 46 (0, 0))); have EX := Aside0.mk (blk_alloc (heap_alloc_new w10 (.cells #[.float .f32 x.f0, .float .f32 x.f1, .float .f32 x.f2] 46 (0, 0))) (.cells #[.float .f32 y.f0, .float .f32 y.f1, .float .f32 y.f2] 46 (0, 0))); have EY := Aside0.mk (heap_two w10 (.cells #[.float .f32 x.f0, .float .f32 x.f1, .float .f32 x.f2] 46 (0, 0)) (.cells #[.float .f32 y.f0, .float .f32 y.f1, .float .f32 y.f2] 46 (0, 0))); clear hb10 fb) | (go_at_call 80; (with_reducible refine (ends80 ⟨w.heap.size, 0, none⟩ A0 c0 l0 i ((i + 1) % l0.length) _ f0 hc0 (Kd.C_below HC.out (below_step HB6.out HZ.out)) hil rfl x y hx hy).mono ?_); rintro e w7 ⟨rfl, hb7⟩; have HZ7 := Aside0.mk (below_alloc (below_alloc (below_step HZ.out hb7) (.cells #[.float .f32 x.f0, .float .f32 x.f1, .float .f32 x.f2] 46 (0, 0))) (.cells #[.float .f32 y.f0, .float .f32 y.f1, .float .f32 y.f2] 46 (0, 0))); have EX := Aside0.mk (blk_alloc (heap_alloc_new w7 (.cells #[.float .f32 x.f0, .float .f32 x.f1, .float .f32 x.f2] 46 (0, 0))) (.cells #[.float .f32 y.f0, .float .f32 y.f1, .float .f32 y.f2] 46 (0, 0))); have EY := Aside0.mk (heap_two w7 (.cells #[.float .f32 x.f0, .float .f32 x.f1, .float .f32 x.f2] 46 (0, 0)) (.cells #[.float .f32 y.f0, .float .f32 y.f1, .float .f32 y.f2] 46 (0, 0))); clear hb7 f0; have p0 := (blk_cell EX.out 0).trans (rfl : _ = some (Value.float .f32 x.f0)); have p1 := (blk_cell EX.out 1).trans (rfl : _ = some (Value.float .f32 x.f1)); have p2 := (blk_cell EX.out 2).trans (rfl : _ = some (Value.float .f32 x.f2)); have q0 := (blk_cell EY.out 0).trans (rfl : _ = some (Value.float .f32 y.f0)); have q1 := (blk_cell EY.out 1).trans (rfl : _ = some (Value.float .f32 y.f1)); have q2 := (blk_cell EY.out 2).trans (rfl : _ = some (Value.float .f32 y.f2)); skip) | (go_at_call 54; refine (less54 y x y x (EV.refl _) (EV.refl _) _).mono ?_; rintro e w8 ⟨d, rfl, hd, hb8⟩; obtain rfl : d = seg l0 i := (EV_is hd (by rw [HSEG.out]; exact HSI.out)).trans HSEG.out; have HZ8 := Aside0.mk (below_step HZ7.out hb8); clear hd hb8 p0 p1 p2 q0 q1 q2) | (go_at_call 81; refine (spec_l01VLong.calls _ _ _ (sizeP l0 i) _ (size_ok HSI.out).2.1).mono ?_; rintro e w9 ⟨rfl, hb9⟩; have HZ9 := Aside0.mk (below_step HZ8.out hb9); clear hb9; have fb := (blk_cell (blk_below BT6.out HZ9.out) 0).trans (rfl : _ = some (Value.slice A0 l0.length c0))))
                      as_aux_lemma =>
                        have HZ11 := Aside0.mk (HZ10.out : Below wo.heap.size wo (((w10.alloc (.cells #[.float .f32 x.f0, .float .f32 x.f1, .float .f32 x.f2] 46 (0, 0))).alloc (.cells #[.float .f32 y.f0, .float .f32 y.f1, .float .f32 y.f2] 46 (0, 0)))))
                        have EX11 : (((w10.alloc (.cells #[.float .f32 x.f0, .float .f32 x.f1, .float .f32 x.f2] 46 (0, 0))).alloc (.cells #[.float .f32 y.f0, .float .f32 y.f1, .float .f32 y.f2] 46 (0, 0)))).heap[w10.heap.size]? = some (.cells #[.float .f32 x.f0, .float .f32 x.f1, .float .f32 x.f2] 46 (0, 0)) := EX.out
                        have EY11 : (((w10.alloc (.cells #[.float .f32 x.f0, .float .f32 x.f1, .float .f32 x.f2] 46 (0, 0))).alloc (.cells #[.float .f32 y.f0, .float .f32 y.f1, .float .f32 y.f2] 46 (0, 0)))).heap[w10.heap.size + 1]? = some (.cells #[.float .f32 y.f0, .float .f32 y.f1, .float .f32 y.f2] 46 (0, 0)) := EY.out
                        have BO11 := blk_below BO6.out HZ11.out
                        have HO11 := Kd.R_below HO6.out HZ11.out
                        have BT11 := blk_below BT6.out HZ11.out
                        have BZ11 := blk_below BZ6.out HZ11.out
                        generalize (((w10.alloc (.cells #[.float .f32 x.f0, .float .f32 x.f1, .float .f32 x.f2] 46 (0, 0))).alloc (.cells #[.float .f32 y.f0, .float .f32 y.f1, .float .f32 y.f2] 46 (0, 0)))) = w11 at HZ11 EX11 EY11 BO11 HO11 BT11 BZ11 ⊢
                        have HGX : Aside0 (wo.heap.size ≤ w10.heap.size) := ⟨HGX0.out⟩
                        generalize w10.heap.size = gx at EX11 EY11 HGX ⊢
                        have hne1 : some gx ≠ (Value.slice A8 acc.length c8).ownBlock := fun e => by have := Kd.R_lt HO6.out gx e.symm; have := HGX.out; omega
                        have hne2 : some (gx + 1) ≠ (Value.slice A8 acc.length c8).ownBlock := fun e => by have := Kd.R_lt HO6.out (gx + 1) e.symm; have := HGX.out; omega
                        refine start_ (n := 13) (S := fun w' => w'.heap[gx]? = some (.cells #[.float .f32 x.f0, .float .f32 x.f1, .float .f32 x.f2] 46 (0, 0)) ∧ w'.heap[gx + 1]? = some (.cells #[.float .f32 y.f0, .float .f32 y.f1, .float .f32 y.f2] 46 (0, 0)) ∧ w'.heap[w5.heap.size]? = some (.cells #[.slice A8 acc.length c8, .float .f32 a0] 31 (0, 0))) (ds := [12]) #[false, false, false, false, false, false, false, false, false, false, false, false, false] (by decide +kernel) rfl rfl ⟨blk_drew EX11, blk_drew EY11, blk_drew BO11⟩ (fun hHeld => ?_)
                        refine pure_ (i := 0) (N := some 81) (v := ?_) (a' := ?_) #[true, false, false, false, false, false, false, false, false, false, false, false, false] rfl rfl (by decide +kernel) (fun _ _ _ h => h) (Or.inl ⟨by rfl, ?_⟩) ?_ ?_
                        rotate_left
                        · intro w'
                          go_simp
                          with_reducible rfl
                        rotate_left
                        · simp only [Act.put, List.setIfInBounds_toArray, List.set_cons_zero, List.set_cons_succ, i64_w, i32_w]
                          rfl
                        refine pure_ (i := 6) (N := some 87) (v := ?_) (a' := ?_) #[true, false, false, false, false, false, true, false, false, false, false, false, false] rfl rfl (by decide +kernel) (fun _ _ _ h => h) (Or.inl ⟨by rfl, ?_⟩) ?_ ?_
                        rotate_left
                        · intro w'
                          go_simp
                          with_reducible rfl
                        rotate_left
                        · simp only [Act.put, List.setIfInBounds_toArray, List.set_cons_zero, List.set_cons_succ, i64_w, i32_w]
                          rfl
                        refine take_ (i := 1) (N := some 82) (v := ?_) (a' := ?_) #[true, true, false, false, false, false, true, false, false, false, false, false, false] rfl rfl (by decide +kernel) (fun _ _ _ h => h) (Or.inl ⟨by rfl, ?_⟩) hHeld ?_ ?_
                        rotate_left
                        · rintro w' ⟨s0, s1, s2⟩
                          have c0 := (blk_cell s2 0).trans (rfl : _ = some (Value.slice A8 acc.length c8))
                          go_simp
                          with_reducible rfl
                        rotate_left
                        · simp only [Act.put, List.setIfInBounds_toArray, List.set_cons_zero, List.set_cons_succ, i64_w, i32_w]
                          rfl
                        refine take_ (i := 2) (N := some 83) (v := ?_) (a' := ?_) #[true, true, true, false, false, false, true, false, false, false, false, false, false] rfl rfl (by decide +kernel) (fun _ _ _ h => h) (Or.inl ⟨by rfl, ?_⟩) hHeld ?_ ?_
                        rotate_left
                        · rintro w' ⟨s0, s1, s2⟩
                          have c0 := (blk_cell s0 0).trans (rfl : _ = some (Value.float .f32 x.f0))
                          have c1 := (blk_cell s0 1).trans (rfl : _ = some (Value.float .f32 x.f1))
                          have c2 := (blk_cell s0 2).trans (rfl : _ = some (Value.float .f32 x.f2))
                          go_simp
                          with_reducible rfl
                        rotate_left
                        · simp only [Act.put, List.setIfInBounds_toArray, List.set_cons_zero, List.set_cons_succ, i64_w, i32_w]
                          rfl
                        refine take_ (i := 3) (N := some 84) (v := ?_) (a' := ?_) #[true, true, true, true, false, false, true, false, false, false, false, false, false] rfl rfl (by decide +kernel) (fun _ _ _ h => h) (Or.inl ⟨by rfl, ?_⟩) hHeld ?_ ?_
                        rotate_left
                        · rintro w' ⟨s0, s1, s2⟩
                          have c0 := (blk_cell s1 0).trans (rfl : _ = some (Value.float .f32 y.f0))
                          have c1 := (blk_cell s1 1).trans (rfl : _ = some (Value.float .f32 y.f1))
                          have c2 := (blk_cell s1 2).trans (rfl : _ = some (Value.float .f32 y.f2))
                          go_simp
                          with_reducible rfl
                        rotate_left
                        · simp only [Act.put, List.setIfInBounds_toArray, List.set_cons_zero, List.set_cons_succ, i64_w, i32_w]
                          rfl
                        refine take_ (i := 4) (N := some 85) (v := ?_) (a' := ?_) #[true, true, true, true, true, false, true, false, false, false, false, false, false] rfl rfl (by decide +kernel) (fun _ _ _ h => h) (Or.inl ⟨by rfl, ?_⟩) hHeld ?_ ?_
                        rotate_left
                        · rintro w' ⟨s0, s1, s2⟩
                          have c0 := (blk_cell s0 0).trans (rfl : _ = some (Value.float .f32 x.f0))
                          have c1 := (blk_cell s0 1).trans (rfl : _ = some (Value.float .f32 x.f1))
                          have c2 := (blk_cell s0 2).trans (rfl : _ = some (Value.float .f32 x.f2))
                          go_simp
                          with_reducible rfl
                        rotate_left
                        · simp only [Act.put, List.setIfInBounds_toArray, List.set_cons_zero, List.set_cons_succ, i64_w, i32_w]
                          rfl
                        refine one_ (i := 5) (N := some 86) #[true, true, true, true, true, true, true, false, false, false, false, false, false] rfl rfl (by decide +kernel) (by decide) (fun K hK => ?_)
                        refine goes_ Try.func54 (by kernel_rfl) rfl #[vv y, vv x] (by rfl) rfl rfl (by (try simp only [List.map_toArray, List.map_cons, List.map_nil]); first | done | rfl) ?_
                        refine (less54 y x y x (EV.refl _) (EV.refl _) _).mono ?_
                        rintro e w12 ⟨ds, rfl, hds, hb12⟩
                        refine ⟨_, rfl, ?_⟩
                        have L12 := Aside0.mk (below_step (below_drew1 (Below.refl w11.heap.size w11)) hb12)
                        clear hb12
                        refine hK.out _ _ ⟨blk_below EX11 L12.out, blk_below EY11 L12.out, blk_below BO11 L12.out⟩ (fun _ => ?_)
                        clear hK K
                        refine norm_ (a' := ?_) ?_ ?_
                        rotate_left
                        · show Act.put _ (some 86) _ = _
                          simp only [Act.put, List.setIfInBounds_toArray, List.set_cons_zero, List.set_cons_succ]
                          rfl
                        obtain rfl : ds = seg l0 i := (EV_is hds (by rw [HSEG.out]; exact HSI.out)).trans HSEG.out
                        refine one_ (i := 7) (N := some 88) #[true, true, true, true, true, true, true, true, false, false, false, false, false] rfl rfl (by decide +kernel) (by decide) (fun K hK => ?_)
                        refine goes_ Try.func83 (by kernel_rfl) rfl #[vv (seg l0 i), .float .f32 0] (by rfl) rfl rfl (by (try simp only [List.map_toArray, List.map_cons, List.map_nil]); first | done | rfl) ?_
                        refine (scale83 _ (seg l0 i) _ 0 (EV.refl _) (E.refl _) _).mono ?_
                        rintro e w13 ⟨sc, rfl, hsc, hb13⟩
                        refine ⟨_, rfl, ?_⟩
                        have L13 := Aside0.mk (below_step L12.out hb13)
                        clear hb13
                        refine hK.out _ _ ⟨blk_below EX11 L13.out, blk_below EY11 L13.out, blk_below BO11 L13.out⟩ (fun _ => ?_)
                        clear hK K
                        refine norm_ (a' := ?_) ?_ ?_
                        rotate_left
                        · show Act.put _ (some 88) _ = _
                          simp only [Act.put, List.setIfInBounds_toArray, List.set_cons_zero, List.set_cons_succ]
                          rfl
                        refine one_ (i := 8) (N := some 89) #[true, true, true, true, true, true, true, true, true, false, false, false, false] rfl rfl (by decide +kernel) (by decide) (fun K hK => ?_)
                        refine goes_ Try.func82 (by kernel_rfl) rfl #[vv x, vv sc] (by rfl) rfl rfl (by (try simp only [List.map_toArray, List.map_cons, List.map_nil]); first | done | rfl) ?_
                        refine (add82 _ _ x sc (EV.refl _) hsc _).mono ?_
                        rintro e w14 ⟨p, rfl, hp, hb14⟩
                        refine ⟨_, rfl, ?_⟩
                        have L14 := Aside0.mk (below_step L13.out hb14)
                        clear hb14
                        refine hK.out _ _ ⟨blk_below EX11 L14.out, blk_below EY11 L14.out, blk_below BO11 L14.out⟩ (fun _ => ?_)
                        clear hK K
                        refine norm_ (a' := ?_) ?_ ?_
                        rotate_left
                        · show Act.put _ (some 89) _ = _
                          simp only [Act.put, List.setIfInBounds_toArray, List.set_cons_zero, List.set_cons_succ]
                          rfl
                        refine one_ (i := 9) (N := some 90) #[true, true, true, true, true, true, true, true, true, true, false, false, false] rfl rfl (by decide +kernel) (by decide) (fun K hK => ?_)
                        refine value_ (w1 := ?_) (v := ?_) (by rfl) rfl ?_ ?_
                        rotate_left 2
                        · go_simp
                          constructor
                          · rfl
                          · rfl
                        refine hK.out _ _ ⟨blk_alloc (blk_below EX11 L14.out) _, blk_alloc (blk_below EY11 L14.out) _, blk_alloc (blk_below BO11 L14.out) _⟩ (fun _ => ?_)
                        clear hK K
                        refine norm_ (a' := ?_) ?_ ?_
                        rotate_left
                        · show Act.put _ (some 90) _ = _
                          simp only [Act.put, List.setIfInBounds_toArray, List.set_cons_zero, List.set_cons_succ]
                          rfl
                        refine one_ (i := 10) (N := some 91) #[true, true, true, true, true, true, true, true, true, true, true, false, false] rfl rfl (by decide +kernel) (by decide) (fun K hK => ?_)
                        have HO14 := Aside0.mk (Kd.R_below HO11 L14.out)
                        have HB14 := Aside0.mk (below_step (below_step HB6.out HZ11.out) L14.out)
                        refine Kd.R_append_step k46 (w0 := w) w.heap.size (by rfl) (.tmp 82) (.tmp 90) 29 46 (.agg #[(.float .f32 0), (.float .f32 0), (.float .f32 0)]) 12 rfl Try.underlying29 L0.info46 rfl (by decide) (by decide) (.slice A8 acc.length c8) acc p [.float .f32 p.f0, .float .f32 p.f1, .float .f32 p.f2] (fun _ => True) (fun _ => False) rfl rfl ?aP (fun _ h_ => h_.elim) (fun _ _ => trivial) HO14.out HB14.out HB14.out.size ?aL ?_
                        (case aP => exact k46_mkM _ _ _ p)
                        (case aL => have := HEL.out.1; omega)
                        intro v15 w15 ho15 hb15 hg15 _
                        obtain ⟨A15, c15, e15⟩ := Kd.R_slice ho15
                        subst e15
                        have EX15 := blk_grown (blk_below EX11 L14.out) hg15 hne1
                        have EY15 := blk_grown (blk_below EY11 L14.out) hg15 hne2
                        have BO15 := blk_grown (blk_below BO11 L14.out) hg15 (Kd.R_ne HO14.out (blk_below BO11 L14.out) (by decide))
                        have BT15 := blk_grown (blk_below BT11 L14.out) hg15 (Kd.R_ne HO14.out (blk_below BT11 L14.out) (by decide))
                        have BZ15 := blk_grown (blk_below BZ11 L14.out) hg15 (Kd.R_ne HO14.out (blk_below BZ11 L14.out) (by decide))
                        refine hK.out _ _ ⟨EX15, EY15, BO15⟩ (fun _ => ?_)
                        clear hK K
                        refine norm_ (a' := ?_) ?_ ?_
                        rotate_left
                        · show Act.put _ (some 91) _ = _
                          simp only [Act.put, List.setIfInBounds_toArray, List.set_cons_zero, List.set_cons_succ]
                          rfl
                        refine pure_ (i := 11) (N := some 92) (v := ?_) (a' := ?_) #[true, true, true, true, true, true, true, true, true, true, true, true, false] rfl rfl (by decide +kernel) (fun _ _ _ h => h) (Or.inl ⟨by rfl, ?_⟩) ?_ ?_
                        rotate_left
                        · intro w'
                          go_simp
                          with_reducible rfl
                        rotate_left
                        · simp only [Act.put, List.setIfInBounds_toArray, List.set_cons_zero, List.set_cons_succ, i64_w, i32_w]
                          rfl
                        have z0 := (blk_cell BO15 0).trans (rfl : _ = some (Value.slice A8 acc.length c8))
                        have y0 := blk_frozen BO15 0
                        refine last_ (i := 12) (N := none) #[true, true, true, true, true, true, true, true, true, true, true, true, true] rfl rfl (by decide +kernel) (by decide) (fun K hK => ?_)
                        refine skip_ (w1 := ?_) (by rfl) rfl ?_ ?_
                        rotate_left
                        · go_simp
                          rfl
                        refine hK.out _ _ ?_
                        clear hK K
                        refine done_ (by decide +kernel) ?_
                        go_wp2
                        go_roundg k1
                        case measure => omega
                        case rel =>
                          refine ⟨k + 1, acc ++ [p], A15, c15, rfl, ⟨by omega⟩, ⟨by simp [HEL.out.1], ?_⟩, ⟨Kd.R_mono (Kd.R_set ho15 BO15 (by decide) 0 _) (fun _ _ => trivial)⟩, ⟨below_set hb15 HG7.out.2.2⟩, ⟨blk_far BT15 HG7.out.1.symm _⟩, ⟨blk_far BZ15 HG7.out.2.1.symm _⟩, ⟨?_⟩⟩
                          · rw [respS_succ]
                            refine EL.snoc HEL.out.2 ?_
                            have hx9 := HX1.out
                            rw [if_pos HN.out, HQ.out, if_neg (by decide)] at hx9
                            show EV (alongS l0 (leftL l0 a1 k)) p
                            rw [← hx9, HXP.out]
                            exact hp
                          · have hlen : (acc ++ [p]).length = acc.length + 1 := by simp
                            rw [hlen]
                            exact blk_put (cs := #[.slice A8 acc.length c8, .float .f32 a0]) BO15 0 _ rfl
                    | false =>
                      rw [hge] at hgE
                      have q2 := last_eq HMX.out (hcc.resolve_left (by rw [hge]; decide))
                      clear hcc hge
                      go_wp2_with (first | (go_at_call 80; have _m := HZ9; clear _m; (with_reducible refine (ends80 ⟨w.heap.size, 0, none⟩ A0 c0 l0 i ((i + 1) % l0.length) _ fb hc0 (Kd.C_below HC.out (below_step HB6.out HZ9.out)) hil rfl x y hx hy).mono ?_); rintro e w10 ⟨rfl, hb10⟩; have HGX0 := Aside0.mk (below_step HZ9.out hb10).size; have HZ10 := Aside0.mk (below_alloc (below_alloc (below_step HZ9.out hb10) (.cells #[.float .f32 x.f0, .float .f32 x.f1, .float .f32 x.f2] 46 (0, 0))) (.cells #[.float .f32 y.f0, .float .f32 y.f1, .float .f32 y.f2] 46 (0, 0))); have EX := Aside0.mk (blk_alloc (heap_alloc_new w10 (.cells #[.float .f32 x.f0, .float .f32 x.f1, .float .f32 x.f2] 46 (0, 0))) (.cells #[.float .f32 y.f0, .float .f32 y.f1, .float .f32 y.f2] 46 (0, 0))); have EY := Aside0.mk (heap_two w10 (.cells #[.float .f32 x.f0, .float .f32 x.f1, .float .f32 x.f2] 46 (0, 0)) (.cells #[.float .f32 y.f0, .float .f32 y.f1, .float .f32 y.f2] 46 (0, 0))); clear hb10 fb) | (go_at_call 80; (with_reducible refine (ends80 ⟨w.heap.size, 0, none⟩ A0 c0 l0 i ((i + 1) % l0.length) _ f0 hc0 (Kd.C_below HC.out (below_step HB6.out HZ.out)) hil rfl x y hx hy).mono ?_); rintro e w7 ⟨rfl, hb7⟩; have HZ7 := Aside0.mk (below_alloc (below_alloc (below_step HZ.out hb7) (.cells #[.float .f32 x.f0, .float .f32 x.f1, .float .f32 x.f2] 46 (0, 0))) (.cells #[.float .f32 y.f0, .float .f32 y.f1, .float .f32 y.f2] 46 (0, 0))); have EX := Aside0.mk (blk_alloc (heap_alloc_new w7 (.cells #[.float .f32 x.f0, .float .f32 x.f1, .float .f32 x.f2] 46 (0, 0))) (.cells #[.float .f32 y.f0, .float .f32 y.f1, .float .f32 y.f2] 46 (0, 0))); have EY := Aside0.mk (heap_two w7 (.cells #[.float .f32 x.f0, .float .f32 x.f1, .float .f32 x.f2] 46 (0, 0)) (.cells #[.float .f32 y.f0, .float .f32 y.f1, .float .f32 y.f2] 46 (0, 0))); clear hb7 f0; have p0 := (blk_cell EX.out 0).trans (rfl : _ = some (Value.float .f32 x.f0)); have p1 := (blk_cell EX.out 1).trans (rfl : _ = some (Value.float .f32 x.f1)); have p2 := (blk_cell EX.out 2).trans (rfl : _ = some (Value.float .f32 x.f2)); have q0 := (blk_cell EY.out 0).trans (rfl : _ = some (Value.float .f32 y.f0)); have q1 := (blk_cell EY.out 1).trans (rfl : _ = some (Value.float .f32 y.f1)); have q2 := (blk_cell EY.out 2).trans (rfl : _ = some (Value.float .f32 y.f2)); skip) | (go_at_call 54; refine (less54 y x y x (EV.refl _) (EV.refl _) _).mono ?_; rintro e w8 ⟨d, rfl, hd, hb8⟩; obtain rfl : d = seg l0 i := (EV_is hd (by rw [HSEG.out]; exact HSI.out)).trans HSEG.out; have HZ8 := Aside0.mk (below_step HZ7.out hb8); clear hd hb8 p0 p1 p2 q0 q1 q2) | (go_at_call 81; refine (spec_l01VLong.calls _ _ _ (sizeP l0 i) _ (size_ok HSI.out).2.1).mono ?_; rintro e w9 ⟨rfl, hb9⟩; have HZ9 := Aside0.mk (below_step HZ8.out hb9); clear hb9; have fb := (blk_cell (blk_below BT6.out HZ9.out) 0).trans (rfl : _ = some (Value.slice A0 l0.length c0))))
                      as_aux_lemma =>
                        have HZ11 := Aside0.mk (HZ10.out : Below wo.heap.size wo (((w10.alloc (.cells #[.float .f32 x.f0, .float .f32 x.f1, .float .f32 x.f2] 46 (0, 0))).alloc (.cells #[.float .f32 y.f0, .float .f32 y.f1, .float .f32 y.f2] 46 (0, 0)))))
                        have EX11 : (((w10.alloc (.cells #[.float .f32 x.f0, .float .f32 x.f1, .float .f32 x.f2] 46 (0, 0))).alloc (.cells #[.float .f32 y.f0, .float .f32 y.f1, .float .f32 y.f2] 46 (0, 0)))).heap[w10.heap.size]? = some (.cells #[.float .f32 x.f0, .float .f32 x.f1, .float .f32 x.f2] 46 (0, 0)) := EX.out
                        have EY11 : (((w10.alloc (.cells #[.float .f32 x.f0, .float .f32 x.f1, .float .f32 x.f2] 46 (0, 0))).alloc (.cells #[.float .f32 y.f0, .float .f32 y.f1, .float .f32 y.f2] 46 (0, 0)))).heap[w10.heap.size + 1]? = some (.cells #[.float .f32 y.f0, .float .f32 y.f1, .float .f32 y.f2] 46 (0, 0)) := EY.out
                        have BO11 := blk_below BO6.out HZ11.out
                        have HO11 := Kd.R_below HO6.out HZ11.out
                        have BT11 := blk_below BT6.out HZ11.out
                        have BZ11 := blk_below BZ6.out HZ11.out
                        generalize (((w10.alloc (.cells #[.float .f32 x.f0, .float .f32 x.f1, .float .f32 x.f2] 46 (0, 0))).alloc (.cells #[.float .f32 y.f0, .float .f32 y.f1, .float .f32 y.f2] 46 (0, 0)))) = w11 at HZ11 EX11 EY11 BO11 HO11 BT11 BZ11 ⊢
                        have HGX : Aside0 (wo.heap.size ≤ w10.heap.size) := ⟨HGX0.out⟩
                        generalize w10.heap.size = gx at EX11 EY11 HGX ⊢
                        have hne1 : some gx ≠ (Value.slice A8 acc.length c8).ownBlock := fun e => by have := Kd.R_lt HO6.out gx e.symm; have := HGX.out; omega
                        have hne2 : some (gx + 1) ≠ (Value.slice A8 acc.length c8).ownBlock := fun e => by have := Kd.R_lt HO6.out (gx + 1) e.symm; have := HGX.out; omega
                        refine start_ (n := 13) (S := fun w' => w'.heap[gx]? = some (.cells #[.float .f32 x.f0, .float .f32 x.f1, .float .f32 x.f2] 46 (0, 0)) ∧ w'.heap[gx + 1]? = some (.cells #[.float .f32 y.f0, .float .f32 y.f1, .float .f32 y.f2] 46 (0, 0)) ∧ w'.heap[w5.heap.size]? = some (.cells #[.slice A8 acc.length c8, .float .f32 a0] 31 (0, 0))) (ds := [12]) #[false, false, false, false, false, false, false, false, false, false, false, false, false] (by decide +kernel) rfl rfl ⟨blk_drew EX11, blk_drew EY11, blk_drew BO11⟩ (fun hHeld => ?_)
                        refine pure_ (i := 0) (N := some 81) (v := ?_) (a' := ?_) #[true, false, false, false, false, false, false, false, false, false, false, false, false] rfl rfl (by decide +kernel) (fun _ _ _ h => h) (Or.inl ⟨by rfl, ?_⟩) ?_ ?_
                        rotate_left
                        · intro w'
                          go_simp
                          with_reducible rfl
                        rotate_left
                        · simp only [Act.put, List.setIfInBounds_toArray, List.set_cons_zero, List.set_cons_succ, i64_w, i32_w]
                          rfl
                        refine pure_ (i := 6) (N := some 87) (v := ?_) (a' := ?_) #[true, false, false, false, false, false, true, false, false, false, false, false, false] rfl rfl (by decide +kernel) (fun _ _ _ h => h) (Or.inl ⟨by rfl, ?_⟩) ?_ ?_
                        rotate_left
                        · intro w'
                          go_simp
                          with_reducible rfl
                        rotate_left
                        · simp only [Act.put, List.setIfInBounds_toArray, List.set_cons_zero, List.set_cons_succ, i64_w, i32_w]
                          rfl
                        refine take_ (i := 1) (N := some 82) (v := ?_) (a' := ?_) #[true, true, false, false, false, false, true, false, false, false, false, false, false] rfl rfl (by decide +kernel) (fun _ _ _ h => h) (Or.inl ⟨by rfl, ?_⟩) hHeld ?_ ?_
                        rotate_left
                        · rintro w' ⟨s0, s1, s2⟩
                          have c0 := (blk_cell s2 0).trans (rfl : _ = some (Value.slice A8 acc.length c8))
                          go_simp
                          with_reducible rfl
                        rotate_left
                        · simp only [Act.put, List.setIfInBounds_toArray, List.set_cons_zero, List.set_cons_succ, i64_w, i32_w]
                          rfl
                        refine take_ (i := 2) (N := some 83) (v := ?_) (a' := ?_) #[true, true, true, false, false, false, true, false, false, false, false, false, false] rfl rfl (by decide +kernel) (fun _ _ _ h => h) (Or.inl ⟨by rfl, ?_⟩) hHeld ?_ ?_
                        rotate_left
                        · rintro w' ⟨s0, s1, s2⟩
                          have c0 := (blk_cell s0 0).trans (rfl : _ = some (Value.float .f32 x.f0))
                          have c1 := (blk_cell s0 1).trans (rfl : _ = some (Value.float .f32 x.f1))
                          have c2 := (blk_cell s0 2).trans (rfl : _ = some (Value.float .f32 x.f2))
                          go_simp
                          with_reducible rfl
                        rotate_left
                        · simp only [Act.put, List.setIfInBounds_toArray, List.set_cons_zero, List.set_cons_succ, i64_w, i32_w]
                          rfl
                        refine take_ (i := 3) (N := some 84) (v := ?_) (a' := ?_) #[true, true, true, true, false, false, true, false, false, false, false, false, false] rfl rfl (by decide +kernel) (fun _ _ _ h => h) (Or.inl ⟨by rfl, ?_⟩) hHeld ?_ ?_
                        rotate_left
                        · rintro w' ⟨s0, s1, s2⟩
                          have c0 := (blk_cell s1 0).trans (rfl : _ = some (Value.float .f32 y.f0))
                          have c1 := (blk_cell s1 1).trans (rfl : _ = some (Value.float .f32 y.f1))
                          have c2 := (blk_cell s1 2).trans (rfl : _ = some (Value.float .f32 y.f2))
                          go_simp
                          with_reducible rfl
                        rotate_left
                        · simp only [Act.put, List.setIfInBounds_toArray, List.set_cons_zero, List.set_cons_succ, i64_w, i32_w]
                          rfl
                        refine take_ (i := 4) (N := some 85) (v := ?_) (a' := ?_) #[true, true, true, true, true, false, true, false, false, false, false, false, false] rfl rfl (by decide +kernel) (fun _ _ _ h => h) (Or.inl ⟨by rfl, ?_⟩) hHeld ?_ ?_
                        rotate_left
                        · rintro w' ⟨s0, s1, s2⟩
                          have c0 := (blk_cell s0 0).trans (rfl : _ = some (Value.float .f32 x.f0))
                          have c1 := (blk_cell s0 1).trans (rfl : _ = some (Value.float .f32 x.f1))
                          have c2 := (blk_cell s0 2).trans (rfl : _ = some (Value.float .f32 x.f2))
                          go_simp
                          with_reducible rfl
                        rotate_left
                        · simp only [Act.put, List.setIfInBounds_toArray, List.set_cons_zero, List.set_cons_succ, i64_w, i32_w]
                          rfl
                        refine one_ (i := 5) (N := some 86) #[true, true, true, true, true, true, true, false, false, false, false, false, false] rfl rfl (by decide +kernel) (by decide) (fun K hK => ?_)
                        refine goes_ Try.func54 (by kernel_rfl) rfl #[vv y, vv x] (by rfl) rfl rfl (by (try simp only [List.map_toArray, List.map_cons, List.map_nil]); first | done | rfl) ?_
                        refine (less54 y x y x (EV.refl _) (EV.refl _) _).mono ?_
                        rintro e w12 ⟨ds, rfl, hds, hb12⟩
                        refine ⟨_, rfl, ?_⟩
                        have L12 := Aside0.mk (below_step (below_drew1 (Below.refl w11.heap.size w11)) hb12)
                        clear hb12
                        refine hK.out _ _ ⟨blk_below EX11 L12.out, blk_below EY11 L12.out, blk_below BO11 L12.out⟩ (fun _ => ?_)
                        clear hK K
                        refine norm_ (a' := ?_) ?_ ?_
                        rotate_left
                        · show Act.put _ (some 86) _ = _
                          simp only [Act.put, List.setIfInBounds_toArray, List.set_cons_zero, List.set_cons_succ]
                          rfl
                        obtain rfl : ds = seg l0 i := (EV_is hds (by rw [HSEG.out]; exact HSI.out)).trans HSEG.out
                        refine one_ (i := 7) (N := some 88) #[true, true, true, true, true, true, true, true, false, false, false, false, false] rfl rfl (by decide +kernel) (by decide) (fun K hK => ?_)
                        refine goes_ Try.func83 (by kernel_rfl) rfl #[vv (seg l0 i), .float .f32 0] (by rfl) rfl rfl (by (try simp only [List.map_toArray, List.map_cons, List.map_nil]); first | done | rfl) ?_
                        refine (scale83 _ (seg l0 i) _ 0 (EV.refl _) (E.refl _) _).mono ?_
                        rintro e w13 ⟨sc, rfl, hsc, hb13⟩
                        refine ⟨_, rfl, ?_⟩
                        have L13 := Aside0.mk (below_step L12.out hb13)
                        clear hb13
                        refine hK.out _ _ ⟨blk_below EX11 L13.out, blk_below EY11 L13.out, blk_below BO11 L13.out⟩ (fun _ => ?_)
                        clear hK K
                        refine norm_ (a' := ?_) ?_ ?_
                        rotate_left
                        · show Act.put _ (some 88) _ = _
                          simp only [Act.put, List.setIfInBounds_toArray, List.set_cons_zero, List.set_cons_succ]
                          rfl
                        refine one_ (i := 8) (N := some 89) #[true, true, true, true, true, true, true, true, true, false, false, false, false] rfl rfl (by decide +kernel) (by decide) (fun K hK => ?_)
                        refine goes_ Try.func82 (by kernel_rfl) rfl #[vv x, vv sc] (by rfl) rfl rfl (by (try simp only [List.map_toArray, List.map_cons, List.map_nil]); first | done | rfl) ?_
                        refine (add82 _ _ x sc (EV.refl _) hsc _).mono ?_
                        rintro e w14 ⟨p, rfl, hp, hb14⟩
                        refine ⟨_, rfl, ?_⟩
                        have L14 := Aside0.mk (below_step L13.out hb14)
                        clear hb14
                        refine hK.out _ _ ⟨blk_below EX11 L14.out, blk_below EY11 L14.out, blk_below BO11 L14.out⟩ (fun _ => ?_)
                        clear hK K
                        refine norm_ (a' := ?_) ?_ ?_
                        rotate_left
                        · show Act.put _ (some 89) _ = _
                          simp only [Act.put, List.setIfInBounds_toArray, List.set_cons_zero, List.set_cons_succ]
                          rfl
                        refine one_ (i := 9) (N := some 90) #[true, true, true, true, true, true, true, true, true, true, false, false, false] rfl rfl (by decide +kernel) (by decide) (fun K hK => ?_)
                        refine value_ (w1 := ?_) (v := ?_) (by rfl) rfl ?_ ?_
                        rotate_left 2
                        · go_simp
                          constructor
                          · rfl
                          · rfl
                        refine hK.out _ _ ⟨blk_alloc (blk_below EX11 L14.out) _, blk_alloc (blk_below EY11 L14.out) _, blk_alloc (blk_below BO11 L14.out) _⟩ (fun _ => ?_)
                        clear hK K
                        refine norm_ (a' := ?_) ?_ ?_
                        rotate_left
                        · show Act.put _ (some 90) _ = _
                          simp only [Act.put, List.setIfInBounds_toArray, List.set_cons_zero, List.set_cons_succ]
                          rfl
                        refine one_ (i := 10) (N := some 91) #[true, true, true, true, true, true, true, true, true, true, true, false, false] rfl rfl (by decide +kernel) (by decide) (fun K hK => ?_)
                        have HO14 := Aside0.mk (Kd.R_below HO11 L14.out)
                        have HB14 := Aside0.mk (below_step (below_step HB6.out HZ11.out) L14.out)
                        refine Kd.R_append_step k46 (w0 := w) w.heap.size (by rfl) (.tmp 82) (.tmp 90) 29 46 (.agg #[(.float .f32 0), (.float .f32 0), (.float .f32 0)]) 12 rfl Try.underlying29 L0.info46 rfl (by decide) (by decide) (.slice A8 acc.length c8) acc p [.float .f32 p.f0, .float .f32 p.f1, .float .f32 p.f2] (fun _ => True) (fun _ => False) rfl rfl ?aP (fun _ h_ => h_.elim) (fun _ _ => trivial) HO14.out HB14.out HB14.out.size ?aL ?_
                        (case aP => exact k46_mkM _ _ _ p)
                        (case aL => have := HEL.out.1; omega)
                        intro v15 w15 ho15 hb15 hg15 _
                        obtain ⟨A15, c15, e15⟩ := Kd.R_slice ho15
                        subst e15
                        have EX15 := blk_grown (blk_below EX11 L14.out) hg15 hne1
                        have EY15 := blk_grown (blk_below EY11 L14.out) hg15 hne2
                        have BO15 := blk_grown (blk_below BO11 L14.out) hg15 (Kd.R_ne HO14.out (blk_below BO11 L14.out) (by decide))
                        have BT15 := blk_grown (blk_below BT11 L14.out) hg15 (Kd.R_ne HO14.out (blk_below BT11 L14.out) (by decide))
                        have BZ15 := blk_grown (blk_below BZ11 L14.out) hg15 (Kd.R_ne HO14.out (blk_below BZ11 L14.out) (by decide))
                        refine hK.out _ _ ⟨EX15, EY15, BO15⟩ (fun _ => ?_)
                        clear hK K
                        refine norm_ (a' := ?_) ?_ ?_
                        rotate_left
                        · show Act.put _ (some 91) _ = _
                          simp only [Act.put, List.setIfInBounds_toArray, List.set_cons_zero, List.set_cons_succ]
                          rfl
                        refine pure_ (i := 11) (N := some 92) (v := ?_) (a' := ?_) #[true, true, true, true, true, true, true, true, true, true, true, true, false] rfl rfl (by decide +kernel) (fun _ _ _ h => h) (Or.inl ⟨by rfl, ?_⟩) ?_ ?_
                        rotate_left
                        · intro w'
                          go_simp
                          with_reducible rfl
                        rotate_left
                        · simp only [Act.put, List.setIfInBounds_toArray, List.set_cons_zero, List.set_cons_succ, i64_w, i32_w]
                          rfl
                        have z0 := (blk_cell BO15 0).trans (rfl : _ = some (Value.slice A8 acc.length c8))
                        have y0 := blk_frozen BO15 0
                        refine last_ (i := 12) (N := none) #[true, true, true, true, true, true, true, true, true, true, true, true, true] rfl rfl (by decide +kernel) (by decide) (fun K hK => ?_)
                        refine skip_ (w1 := ?_) (by rfl) rfl ?_ ?_
                        rotate_left
                        · go_simp
                          rfl
                        refine hK.out _ _ ?_
                        clear hK K
                        refine done_ (by decide +kernel) ?_
                        go_wp2
                        go_roundg k1
                        case measure => omega
                        case rel =>
                          refine ⟨k + 1, acc ++ [p], A15, c15, rfl, ⟨by omega⟩, ⟨by simp [HEL.out.1], ?_⟩, ⟨Kd.R_mono (Kd.R_set ho15 BO15 (by decide) 0 _) (fun _ _ => trivial)⟩, ⟨below_set hb15 HG7.out.2.2⟩, ⟨blk_far BT15 HG7.out.1.symm _⟩, ⟨blk_far BZ15 HG7.out.2.1.symm _⟩, ⟨?_⟩⟩
                          · rw [respS_succ]
                            refine EL.snoc HEL.out.2 ?_
                            have hx9 := HX1.out
                            rw [if_pos HN.out, HQ.out, if_neg (by decide)] at hx9
                            show EV (alongS l0 (leftL l0 a1 k)) p
                            rw [← hx9, HXP.out]
                            exact hp
                          · have hlen : (acc ++ [p]).length = acc.length + 1 := by simp
                            rw [hlen]
                            exact blk_put (cs := #[.slice A8 acc.length c8, .float .f32 a0]) BO15 0 _ rfl
                  | true =>
                    have HQ := Aside0.mk hz
                    cases hge : ((FloatKind.f32.format.order (sizeP l0 i) left == some .gt) || (FloatKind.f32.format.order (sizeP l0 i) left == some .eq)) with
                    | true =>
                      rw [hge] at hgE
                      clear hcc hge
                      go_wp2_with (first | (go_at_call 80; have _m := HZ9; clear _m; (with_reducible refine (ends80 ⟨w.heap.size, 0, none⟩ A0 c0 l0 i ((i + 1) % l0.length) _ fb hc0 (Kd.C_below HC.out (below_step HB6.out HZ9.out)) hil rfl x y hx hy).mono ?_); rintro e w10 ⟨rfl, hb10⟩; have HGX0 := Aside0.mk (below_step HZ9.out hb10).size; have HZ10 := Aside0.mk (below_alloc (below_alloc (below_step HZ9.out hb10) (.cells #[.float .f32 x.f0, .float .f32 x.f1, .float .f32 x.f2] 46 (0, 0))) (.cells #[.float .f32 y.f0, .float .f32 y.f1, .float .f32 y.f2] 46 (0, 0))); have EX := Aside0.mk (blk_alloc (heap_alloc_new w10 (.cells #[.float .f32 x.f0, .float .f32 x.f1, .float .f32 x.f2] 46 (0, 0))) (.cells #[.float .f32 y.f0, .float .f32 y.f1, .float .f32 y.f2] 46 (0, 0))); have EY := Aside0.mk (heap_two w10 (.cells #[.float .f32 x.f0, .float .f32 x.f1, .float .f32 x.f2] 46 (0, 0)) (.cells #[.float .f32 y.f0, .float .f32 y.f1, .float .f32 y.f2] 46 (0, 0))); clear hb10 fb) | (go_at_call 80; (with_reducible refine (ends80 ⟨w.heap.size, 0, none⟩ A0 c0 l0 i ((i + 1) % l0.length) _ f0 hc0 (Kd.C_below HC.out (below_step HB6.out HZ.out)) hil rfl x y hx hy).mono ?_); rintro e w7 ⟨rfl, hb7⟩; have HZ7 := Aside0.mk (below_alloc (below_alloc (below_step HZ.out hb7) (.cells #[.float .f32 x.f0, .float .f32 x.f1, .float .f32 x.f2] 46 (0, 0))) (.cells #[.float .f32 y.f0, .float .f32 y.f1, .float .f32 y.f2] 46 (0, 0))); have EX := Aside0.mk (blk_alloc (heap_alloc_new w7 (.cells #[.float .f32 x.f0, .float .f32 x.f1, .float .f32 x.f2] 46 (0, 0))) (.cells #[.float .f32 y.f0, .float .f32 y.f1, .float .f32 y.f2] 46 (0, 0))); have EY := Aside0.mk (heap_two w7 (.cells #[.float .f32 x.f0, .float .f32 x.f1, .float .f32 x.f2] 46 (0, 0)) (.cells #[.float .f32 y.f0, .float .f32 y.f1, .float .f32 y.f2] 46 (0, 0))); clear hb7 f0; have p0 := (blk_cell EX.out 0).trans (rfl : _ = some (Value.float .f32 x.f0)); have p1 := (blk_cell EX.out 1).trans (rfl : _ = some (Value.float .f32 x.f1)); have p2 := (blk_cell EX.out 2).trans (rfl : _ = some (Value.float .f32 x.f2)); have q0 := (blk_cell EY.out 0).trans (rfl : _ = some (Value.float .f32 y.f0)); have q1 := (blk_cell EY.out 1).trans (rfl : _ = some (Value.float .f32 y.f1)); have q2 := (blk_cell EY.out 2).trans (rfl : _ = some (Value.float .f32 y.f2)); skip) | (go_at_call 54; refine (less54 y x y x (EV.refl _) (EV.refl _) _).mono ?_; rintro e w8 ⟨d, rfl, hd, hb8⟩; obtain rfl : d = seg l0 i := (EV_is hd (by rw [HSEG.out]; exact HSI.out)).trans HSEG.out; have HZ8 := Aside0.mk (below_step HZ7.out hb8); clear hd hb8 p0 p1 p2 q0 q1 q2) | (go_at_call 81; refine (spec_l01VLong.calls _ _ _ (sizeP l0 i) _ (size_ok HSI.out).2.1).mono ?_; rintro e w9 ⟨rfl, hb9⟩; have HZ9 := Aside0.mk (below_step HZ8.out hb9); clear hb9; have fb := (blk_cell (blk_below BT6.out HZ9.out) 0).trans (rfl : _ = some (Value.slice A0 l0.length c0))) | ((with_reducible refine gate_dst (N := 80) rfl ?_); refine wpList_ar rfl _ _ _ _ _ rfl arQ _ _ rfl rfl HL.out (E.refl _) ?_; intro qu nq hqu))
                      as_aux_lemma =>
                        have HZ11 := Aside0.mk (pw_below_drewN HZ10.out nq : Below wo.heap.size wo (((w10.alloc (.cells #[.float .f32 x.f0, .float .f32 x.f1, .float .f32 x.f2] 46 (0, 0))).alloc (.cells #[.float .f32 y.f0, .float .f32 y.f1, .float .f32 y.f2] 46 (0, 0))).drewN nq))
                        have EX11 : (((w10.alloc (.cells #[.float .f32 x.f0, .float .f32 x.f1, .float .f32 x.f2] 46 (0, 0))).alloc (.cells #[.float .f32 y.f0, .float .f32 y.f1, .float .f32 y.f2] 46 (0, 0))).drewN nq).heap[w10.heap.size]? = some (.cells #[.float .f32 x.f0, .float .f32 x.f1, .float .f32 x.f2] 46 (0, 0)) := blk_drewN EX.out nq
                        have EY11 : (((w10.alloc (.cells #[.float .f32 x.f0, .float .f32 x.f1, .float .f32 x.f2] 46 (0, 0))).alloc (.cells #[.float .f32 y.f0, .float .f32 y.f1, .float .f32 y.f2] 46 (0, 0))).drewN nq).heap[w10.heap.size + 1]? = some (.cells #[.float .f32 y.f0, .float .f32 y.f1, .float .f32 y.f2] 46 (0, 0)) := blk_drewN EY.out nq
                        have BO11 := blk_below BO6.out HZ11.out
                        have HO11 := Kd.R_below HO6.out HZ11.out
                        have BT11 := blk_below BT6.out HZ11.out
                        have BZ11 := blk_below BZ6.out HZ11.out
                        generalize (((w10.alloc (.cells #[.float .f32 x.f0, .float .f32 x.f1, .float .f32 x.f2] 46 (0, 0))).alloc (.cells #[.float .f32 y.f0, .float .f32 y.f1, .float .f32 y.f2] 46 (0, 0))).drewN nq) = w11 at HZ11 EX11 EY11 BO11 HO11 BT11 BZ11 ⊢
                        have HGX : Aside0 (wo.heap.size ≤ w10.heap.size) := ⟨HGX0.out⟩
                        generalize w10.heap.size = gx at EX11 EY11 HGX ⊢
                        have hne1 : some gx ≠ (Value.slice A8 acc.length c8).ownBlock := fun e => by have := Kd.R_lt HO6.out gx e.symm; have := HGX.out; omega
                        have hne2 : some (gx + 1) ≠ (Value.slice A8 acc.length c8).ownBlock := fun e => by have := Kd.R_lt HO6.out (gx + 1) e.symm; have := HGX.out; omega
                        refine start_ (n := 13) (S := fun w' => w'.heap[gx]? = some (.cells #[.float .f32 x.f0, .float .f32 x.f1, .float .f32 x.f2] 46 (0, 0)) ∧ w'.heap[gx + 1]? = some (.cells #[.float .f32 y.f0, .float .f32 y.f1, .float .f32 y.f2] 46 (0, 0)) ∧ w'.heap[w5.heap.size]? = some (.cells #[.slice A8 acc.length c8, .float .f32 a0] 31 (0, 0))) (ds := [12]) #[false, false, false, false, false, false, false, false, false, false, false, false, false] (by decide +kernel) rfl rfl ⟨blk_drew EX11, blk_drew EY11, blk_drew BO11⟩ (fun hHeld => ?_)
                        refine pure_ (i := 0) (N := some 81) (v := ?_) (a' := ?_) #[true, false, false, false, false, false, false, false, false, false, false, false, false] rfl rfl (by decide +kernel) (fun _ _ _ h => h) (Or.inl ⟨by rfl, ?_⟩) ?_ ?_
                        rotate_left
                        · intro w'
                          go_simp
                          with_reducible rfl
                        rotate_left
                        · simp only [Act.put, List.setIfInBounds_toArray, List.set_cons_zero, List.set_cons_succ, i64_w, i32_w]
                          rfl
                        refine pure_ (i := 6) (N := some 87) (v := ?_) (a' := ?_) #[true, false, false, false, false, false, true, false, false, false, false, false, false] rfl rfl (by decide +kernel) (fun _ _ _ h => h) (Or.inl ⟨by rfl, ?_⟩) ?_ ?_
                        rotate_left
                        · intro w'
                          go_simp
                          with_reducible rfl
                        rotate_left
                        · simp only [Act.put, List.setIfInBounds_toArray, List.set_cons_zero, List.set_cons_succ, i64_w, i32_w]
                          rfl
                        refine take_ (i := 1) (N := some 82) (v := ?_) (a' := ?_) #[true, true, false, false, false, false, true, false, false, false, false, false, false] rfl rfl (by decide +kernel) (fun _ _ _ h => h) (Or.inl ⟨by rfl, ?_⟩) hHeld ?_ ?_
                        rotate_left
                        · rintro w' ⟨s0, s1, s2⟩
                          have c0 := (blk_cell s2 0).trans (rfl : _ = some (Value.slice A8 acc.length c8))
                          go_simp
                          with_reducible rfl
                        rotate_left
                        · simp only [Act.put, List.setIfInBounds_toArray, List.set_cons_zero, List.set_cons_succ, i64_w, i32_w]
                          rfl
                        refine take_ (i := 2) (N := some 83) (v := ?_) (a' := ?_) #[true, true, true, false, false, false, true, false, false, false, false, false, false] rfl rfl (by decide +kernel) (fun _ _ _ h => h) (Or.inl ⟨by rfl, ?_⟩) hHeld ?_ ?_
                        rotate_left
                        · rintro w' ⟨s0, s1, s2⟩
                          have c0 := (blk_cell s0 0).trans (rfl : _ = some (Value.float .f32 x.f0))
                          have c1 := (blk_cell s0 1).trans (rfl : _ = some (Value.float .f32 x.f1))
                          have c2 := (blk_cell s0 2).trans (rfl : _ = some (Value.float .f32 x.f2))
                          go_simp
                          with_reducible rfl
                        rotate_left
                        · simp only [Act.put, List.setIfInBounds_toArray, List.set_cons_zero, List.set_cons_succ, i64_w, i32_w]
                          rfl
                        refine take_ (i := 3) (N := some 84) (v := ?_) (a' := ?_) #[true, true, true, true, false, false, true, false, false, false, false, false, false] rfl rfl (by decide +kernel) (fun _ _ _ h => h) (Or.inl ⟨by rfl, ?_⟩) hHeld ?_ ?_
                        rotate_left
                        · rintro w' ⟨s0, s1, s2⟩
                          have c0 := (blk_cell s1 0).trans (rfl : _ = some (Value.float .f32 y.f0))
                          have c1 := (blk_cell s1 1).trans (rfl : _ = some (Value.float .f32 y.f1))
                          have c2 := (blk_cell s1 2).trans (rfl : _ = some (Value.float .f32 y.f2))
                          go_simp
                          with_reducible rfl
                        rotate_left
                        · simp only [Act.put, List.setIfInBounds_toArray, List.set_cons_zero, List.set_cons_succ, i64_w, i32_w]
                          rfl
                        refine take_ (i := 4) (N := some 85) (v := ?_) (a' := ?_) #[true, true, true, true, true, false, true, false, false, false, false, false, false] rfl rfl (by decide +kernel) (fun _ _ _ h => h) (Or.inl ⟨by rfl, ?_⟩) hHeld ?_ ?_
                        rotate_left
                        · rintro w' ⟨s0, s1, s2⟩
                          have c0 := (blk_cell s0 0).trans (rfl : _ = some (Value.float .f32 x.f0))
                          have c1 := (blk_cell s0 1).trans (rfl : _ = some (Value.float .f32 x.f1))
                          have c2 := (blk_cell s0 2).trans (rfl : _ = some (Value.float .f32 x.f2))
                          go_simp
                          with_reducible rfl
                        rotate_left
                        · simp only [Act.put, List.setIfInBounds_toArray, List.set_cons_zero, List.set_cons_succ, i64_w, i32_w]
                          rfl
                        refine one_ (i := 5) (N := some 86) #[true, true, true, true, true, true, true, false, false, false, false, false, false] rfl rfl (by decide +kernel) (by decide) (fun K hK => ?_)
                        refine goes_ Try.func54 (by kernel_rfl) rfl #[vv y, vv x] (by rfl) rfl rfl (by (try simp only [List.map_toArray, List.map_cons, List.map_nil]); first | done | rfl) ?_
                        refine (less54 y x y x (EV.refl _) (EV.refl _) _).mono ?_
                        rintro e w12 ⟨ds, rfl, hds, hb12⟩
                        refine ⟨_, rfl, ?_⟩
                        have L12 := Aside0.mk (below_step (below_drew1 (Below.refl w11.heap.size w11)) hb12)
                        clear hb12
                        refine hK.out _ _ ⟨blk_below EX11 L12.out, blk_below EY11 L12.out, blk_below BO11 L12.out⟩ (fun _ => ?_)
                        clear hK K
                        refine norm_ (a' := ?_) ?_ ?_
                        rotate_left
                        · show Act.put _ (some 86) _ = _
                          simp only [Act.put, List.setIfInBounds_toArray, List.set_cons_zero, List.set_cons_succ]
                          rfl
                        obtain rfl : ds = seg l0 i := (EV_is hds (by rw [HSEG.out]; exact HSI.out)).trans HSEG.out
                        refine one_ (i := 7) (N := some 88) #[true, true, true, true, true, true, true, true, false, false, false, false, false] rfl rfl (by decide +kernel) (by decide) (fun K hK => ?_)
                        refine goes_ Try.func83 (by kernel_rfl) rfl #[vv (seg l0 i), .float .f32 qu] (by rfl) rfl rfl (by (try simp only [List.map_toArray, List.map_cons, List.map_nil]); first | done | rfl) ?_
                        refine (scale83 _ (seg l0 i) _ qu (EV.refl _) hqu _).mono ?_
                        rintro e w13 ⟨sc, rfl, hsc, hb13⟩
                        refine ⟨_, rfl, ?_⟩
                        have L13 := Aside0.mk (below_step L12.out hb13)
                        clear hb13
                        refine hK.out _ _ ⟨blk_below EX11 L13.out, blk_below EY11 L13.out, blk_below BO11 L13.out⟩ (fun _ => ?_)
                        clear hK K
                        refine norm_ (a' := ?_) ?_ ?_
                        rotate_left
                        · show Act.put _ (some 88) _ = _
                          simp only [Act.put, List.setIfInBounds_toArray, List.set_cons_zero, List.set_cons_succ]
                          rfl
                        refine one_ (i := 8) (N := some 89) #[true, true, true, true, true, true, true, true, true, false, false, false, false] rfl rfl (by decide +kernel) (by decide) (fun K hK => ?_)
                        refine goes_ Try.func82 (by kernel_rfl) rfl #[vv x, vv sc] (by rfl) rfl rfl (by (try simp only [List.map_toArray, List.map_cons, List.map_nil]); first | done | rfl) ?_
                        refine (add82 _ _ x sc (EV.refl _) hsc _).mono ?_
                        rintro e w14 ⟨p, rfl, hp, hb14⟩
                        refine ⟨_, rfl, ?_⟩
                        have L14 := Aside0.mk (below_step L13.out hb14)
                        clear hb14
                        refine hK.out _ _ ⟨blk_below EX11 L14.out, blk_below EY11 L14.out, blk_below BO11 L14.out⟩ (fun _ => ?_)
                        clear hK K
                        refine norm_ (a' := ?_) ?_ ?_
                        rotate_left
                        · show Act.put _ (some 89) _ = _
                          simp only [Act.put, List.setIfInBounds_toArray, List.set_cons_zero, List.set_cons_succ]
                          rfl
                        refine one_ (i := 9) (N := some 90) #[true, true, true, true, true, true, true, true, true, true, false, false, false] rfl rfl (by decide +kernel) (by decide) (fun K hK => ?_)
                        refine value_ (w1 := ?_) (v := ?_) (by rfl) rfl ?_ ?_
                        rotate_left 2
                        · go_simp
                          constructor
                          · rfl
                          · rfl
                        refine hK.out _ _ ⟨blk_alloc (blk_below EX11 L14.out) _, blk_alloc (blk_below EY11 L14.out) _, blk_alloc (blk_below BO11 L14.out) _⟩ (fun _ => ?_)
                        clear hK K
                        refine norm_ (a' := ?_) ?_ ?_
                        rotate_left
                        · show Act.put _ (some 90) _ = _
                          simp only [Act.put, List.setIfInBounds_toArray, List.set_cons_zero, List.set_cons_succ]
                          rfl
                        refine one_ (i := 10) (N := some 91) #[true, true, true, true, true, true, true, true, true, true, true, false, false] rfl rfl (by decide +kernel) (by decide) (fun K hK => ?_)
                        have HO14 := Aside0.mk (Kd.R_below HO11 L14.out)
                        have HB14 := Aside0.mk (below_step (below_step HB6.out HZ11.out) L14.out)
                        refine Kd.R_append_step k46 (w0 := w) w.heap.size (by rfl) (.tmp 82) (.tmp 90) 29 46 (.agg #[(.float .f32 0), (.float .f32 0), (.float .f32 0)]) 12 rfl Try.underlying29 L0.info46 rfl (by decide) (by decide) (.slice A8 acc.length c8) acc p [.float .f32 p.f0, .float .f32 p.f1, .float .f32 p.f2] (fun _ => True) (fun _ => False) rfl rfl ?aP (fun _ h_ => h_.elim) (fun _ _ => trivial) HO14.out HB14.out HB14.out.size ?aL ?_
                        (case aP => exact k46_mkM _ _ _ p)
                        (case aL => have := HEL.out.1; omega)
                        intro v15 w15 ho15 hb15 hg15 _
                        obtain ⟨A15, c15, e15⟩ := Kd.R_slice ho15
                        subst e15
                        have EX15 := blk_grown (blk_below EX11 L14.out) hg15 hne1
                        have EY15 := blk_grown (blk_below EY11 L14.out) hg15 hne2
                        have BO15 := blk_grown (blk_below BO11 L14.out) hg15 (Kd.R_ne HO14.out (blk_below BO11 L14.out) (by decide))
                        have BT15 := blk_grown (blk_below BT11 L14.out) hg15 (Kd.R_ne HO14.out (blk_below BT11 L14.out) (by decide))
                        have BZ15 := blk_grown (blk_below BZ11 L14.out) hg15 (Kd.R_ne HO14.out (blk_below BZ11 L14.out) (by decide))
                        refine hK.out _ _ ⟨EX15, EY15, BO15⟩ (fun _ => ?_)
                        clear hK K
                        refine norm_ (a' := ?_) ?_ ?_
                        rotate_left
                        · show Act.put _ (some 91) _ = _
                          simp only [Act.put, List.setIfInBounds_toArray, List.set_cons_zero, List.set_cons_succ]
                          rfl
                        refine pure_ (i := 11) (N := some 92) (v := ?_) (a' := ?_) #[true, true, true, true, true, true, true, true, true, true, true, true, false] rfl rfl (by decide +kernel) (fun _ _ _ h => h) (Or.inl ⟨by rfl, ?_⟩) ?_ ?_
                        rotate_left
                        · intro w'
                          go_simp
                          with_reducible rfl
                        rotate_left
                        · simp only [Act.put, List.setIfInBounds_toArray, List.set_cons_zero, List.set_cons_succ, i64_w, i32_w]
                          rfl
                        have z0 := (blk_cell BO15 0).trans (rfl : _ = some (Value.slice A8 acc.length c8))
                        have y0 := blk_frozen BO15 0
                        refine last_ (i := 12) (N := none) #[true, true, true, true, true, true, true, true, true, true, true, true, true] rfl rfl (by decide +kernel) (by decide) (fun K hK => ?_)
                        refine skip_ (w1 := ?_) (by rfl) rfl ?_ ?_
                        rotate_left
                        · go_simp
                          rfl
                        refine hK.out _ _ ?_
                        clear hK K
                        refine done_ (by decide +kernel) ?_
                        go_wp2
                        go_roundg k1
                        case measure => omega
                        case rel =>
                          refine ⟨k + 1, acc ++ [p], A15, c15, rfl, ⟨by omega⟩, ⟨by simp [HEL.out.1], ?_⟩, ⟨Kd.R_mono (Kd.R_set ho15 BO15 (by decide) 0 _) (fun _ _ => trivial)⟩, ⟨below_set hb15 HG7.out.2.2⟩, ⟨blk_far BT15 HG7.out.1.symm _⟩, ⟨blk_far BZ15 HG7.out.2.1.symm _⟩, ⟨?_⟩⟩
                          · rw [respS_succ]
                            refine EL.snoc HEL.out.2 ?_
                            have hx9 := HX1.out
                            rw [if_pos HN.out, HQ.out, if_pos rfl] at hx9
                            show EV (alongS l0 (leftL l0 a1 k)) p
                            rw [← hx9, HXP.out]
                            exact hp
                          · have hlen : (acc ++ [p]).length = acc.length + 1 := by simp
                            rw [hlen]
                            exact blk_put (cs := #[.slice A8 acc.length c8, .float .f32 a0]) BO15 0 _ rfl
                    | false =>
                      rw [hge] at hgE
                      have q2 := last_eq HMX.out (hcc.resolve_left (by rw [hge]; decide))
                      clear hcc hge
                      go_wp2_with (first | (go_at_call 80; have _m := HZ9; clear _m; (with_reducible refine (ends80 ⟨w.heap.size, 0, none⟩ A0 c0 l0 i ((i + 1) % l0.length) _ fb hc0 (Kd.C_below HC.out (below_step HB6.out HZ9.out)) hil rfl x y hx hy).mono ?_); rintro e w10 ⟨rfl, hb10⟩; have HGX0 := Aside0.mk (below_step HZ9.out hb10).size; have HZ10 := Aside0.mk (below_alloc (below_alloc (below_step HZ9.out hb10) (.cells #[.float .f32 x.f0, .float .f32 x.f1, .float .f32 x.f2] 46 (0, 0))) (.cells #[.float .f32 y.f0, .float .f32 y.f1, .float .f32 y.f2] 46 (0, 0))); have EX := Aside0.mk (blk_alloc (heap_alloc_new w10 (.cells #[.float .f32 x.f0, .float .f32 x.f1, .float .f32 x.f2] 46 (0, 0))) (.cells #[.float .f32 y.f0, .float .f32 y.f1, .float .f32 y.f2] 46 (0, 0))); have EY := Aside0.mk (heap_two w10 (.cells #[.float .f32 x.f0, .float .f32 x.f1, .float .f32 x.f2] 46 (0, 0)) (.cells #[.float .f32 y.f0, .float .f32 y.f1, .float .f32 y.f2] 46 (0, 0))); clear hb10 fb) | (go_at_call 80; (with_reducible refine (ends80 ⟨w.heap.size, 0, none⟩ A0 c0 l0 i ((i + 1) % l0.length) _ f0 hc0 (Kd.C_below HC.out (below_step HB6.out HZ.out)) hil rfl x y hx hy).mono ?_); rintro e w7 ⟨rfl, hb7⟩; have HZ7 := Aside0.mk (below_alloc (below_alloc (below_step HZ.out hb7) (.cells #[.float .f32 x.f0, .float .f32 x.f1, .float .f32 x.f2] 46 (0, 0))) (.cells #[.float .f32 y.f0, .float .f32 y.f1, .float .f32 y.f2] 46 (0, 0))); have EX := Aside0.mk (blk_alloc (heap_alloc_new w7 (.cells #[.float .f32 x.f0, .float .f32 x.f1, .float .f32 x.f2] 46 (0, 0))) (.cells #[.float .f32 y.f0, .float .f32 y.f1, .float .f32 y.f2] 46 (0, 0))); have EY := Aside0.mk (heap_two w7 (.cells #[.float .f32 x.f0, .float .f32 x.f1, .float .f32 x.f2] 46 (0, 0)) (.cells #[.float .f32 y.f0, .float .f32 y.f1, .float .f32 y.f2] 46 (0, 0))); clear hb7 f0; have p0 := (blk_cell EX.out 0).trans (rfl : _ = some (Value.float .f32 x.f0)); have p1 := (blk_cell EX.out 1).trans (rfl : _ = some (Value.float .f32 x.f1)); have p2 := (blk_cell EX.out 2).trans (rfl : _ = some (Value.float .f32 x.f2)); have q0 := (blk_cell EY.out 0).trans (rfl : _ = some (Value.float .f32 y.f0)); have q1 := (blk_cell EY.out 1).trans (rfl : _ = some (Value.float .f32 y.f1)); have q2 := (blk_cell EY.out 2).trans (rfl : _ = some (Value.float .f32 y.f2)); skip) | (go_at_call 54; refine (less54 y x y x (EV.refl _) (EV.refl _) _).mono ?_; rintro e w8 ⟨d, rfl, hd, hb8⟩; obtain rfl : d = seg l0 i := (EV_is hd (by rw [HSEG.out]; exact HSI.out)).trans HSEG.out; have HZ8 := Aside0.mk (below_step HZ7.out hb8); clear hd hb8 p0 p1 p2 q0 q1 q2) | (go_at_call 81; refine (spec_l01VLong.calls _ _ _ (sizeP l0 i) _ (size_ok HSI.out).2.1).mono ?_; rintro e w9 ⟨rfl, hb9⟩; have HZ9 := Aside0.mk (below_step HZ8.out hb9); clear hb9; have fb := (blk_cell (blk_below BT6.out HZ9.out) 0).trans (rfl : _ = some (Value.slice A0 l0.length c0))) | ((with_reducible refine gate_dst (N := 80) rfl ?_); refine wpList_ar rfl _ _ _ _ _ rfl arQ _ _ rfl rfl HL.out (E.refl _) ?_; intro qu nq hqu))
                      as_aux_lemma =>
                        have HZ11 := Aside0.mk (pw_below_drewN HZ10.out nq : Below wo.heap.size wo (((w10.alloc (.cells #[.float .f32 x.f0, .float .f32 x.f1, .float .f32 x.f2] 46 (0, 0))).alloc (.cells #[.float .f32 y.f0, .float .f32 y.f1, .float .f32 y.f2] 46 (0, 0))).drewN nq))
                        have EX11 : (((w10.alloc (.cells #[.float .f32 x.f0, .float .f32 x.f1, .float .f32 x.f2] 46 (0, 0))).alloc (.cells #[.float .f32 y.f0, .float .f32 y.f1, .float .f32 y.f2] 46 (0, 0))).drewN nq).heap[w10.heap.size]? = some (.cells #[.float .f32 x.f0, .float .f32 x.f1, .float .f32 x.f2] 46 (0, 0)) := blk_drewN EX.out nq
                        have EY11 : (((w10.alloc (.cells #[.float .f32 x.f0, .float .f32 x.f1, .float .f32 x.f2] 46 (0, 0))).alloc (.cells #[.float .f32 y.f0, .float .f32 y.f1, .float .f32 y.f2] 46 (0, 0))).drewN nq).heap[w10.heap.size + 1]? = some (.cells #[.float .f32 y.f0, .float .f32 y.f1, .float .f32 y.f2] 46 (0, 0)) := blk_drewN EY.out nq
                        have BO11 := blk_below BO6.out HZ11.out
                        have HO11 := Kd.R_below HO6.out HZ11.out
                        have BT11 := blk_below BT6.out HZ11.out
                        have BZ11 := blk_below BZ6.out HZ11.out
                        generalize (((w10.alloc (.cells #[.float .f32 x.f0, .float .f32 x.f1, .float .f32 x.f2] 46 (0, 0))).alloc (.cells #[.float .f32 y.f0, .float .f32 y.f1, .float .f32 y.f2] 46 (0, 0))).drewN nq) = w11 at HZ11 EX11 EY11 BO11 HO11 BT11 BZ11 ⊢
                        have HGX : Aside0 (wo.heap.size ≤ w10.heap.size) := ⟨HGX0.out⟩
                        generalize w10.heap.size = gx at EX11 EY11 HGX ⊢
                        have hne1 : some gx ≠ (Value.slice A8 acc.length c8).ownBlock := fun e => by have := Kd.R_lt HO6.out gx e.symm; have := HGX.out; omega
                        have hne2 : some (gx + 1) ≠ (Value.slice A8 acc.length c8).ownBlock := fun e => by have := Kd.R_lt HO6.out (gx + 1) e.symm; have := HGX.out; omega
                        refine start_ (n := 13) (S := fun w' => w'.heap[gx]? = some (.cells #[.float .f32 x.f0, .float .f32 x.f1, .float .f32 x.f2] 46 (0, 0)) ∧ w'.heap[gx + 1]? = some (.cells #[.float .f32 y.f0, .float .f32 y.f1, .float .f32 y.f2] 46 (0, 0)) ∧ w'.heap[w5.heap.size]? = some (.cells #[.slice A8 acc.length c8, .float .f32 a0] 31 (0, 0))) (ds := [12]) #[false, false, false, false, false, false, false, false, false, false, false, false, false] (by decide +kernel) rfl rfl ⟨blk_drew EX11, blk_drew EY11, blk_drew BO11⟩ (fun hHeld => ?_)
                        refine pure_ (i := 0) (N := some 81) (v := ?_) (a' := ?_) #[true, false, false, false, false, false, false, false, false, false, false, false, false] rfl rfl (by decide +kernel) (fun _ _ _ h => h) (Or.inl ⟨by rfl, ?_⟩) ?_ ?_
                        rotate_left
                        · intro w'
                          go_simp
                          with_reducible rfl
                        rotate_left
                        · simp only [Act.put, List.setIfInBounds_toArray, List.set_cons_zero, List.set_cons_succ, i64_w, i32_w]
                          rfl
                        refine pure_ (i := 6) (N := some 87) (v := ?_) (a' := ?_) #[true, false, false, false, false, false, true, false, false, false, false, false, false] rfl rfl (by decide +kernel) (fun _ _ _ h => h) (Or.inl ⟨by rfl, ?_⟩) ?_ ?_
                        rotate_left
                        · intro w'
                          go_simp
                          with_reducible rfl
                        rotate_left
                        · simp only [Act.put, List.setIfInBounds_toArray, List.set_cons_zero, List.set_cons_succ, i64_w, i32_w]
                          rfl
                        refine take_ (i := 1) (N := some 82) (v := ?_) (a' := ?_) #[true, true, false, false, false, false, true, false, false, false, false, false, false] rfl rfl (by decide +kernel) (fun _ _ _ h => h) (Or.inl ⟨by rfl, ?_⟩) hHeld ?_ ?_
                        rotate_left
                        · rintro w' ⟨s0, s1, s2⟩
                          have c0 := (blk_cell s2 0).trans (rfl : _ = some (Value.slice A8 acc.length c8))
                          go_simp
                          with_reducible rfl
                        rotate_left
                        · simp only [Act.put, List.setIfInBounds_toArray, List.set_cons_zero, List.set_cons_succ, i64_w, i32_w]
                          rfl
                        refine take_ (i := 2) (N := some 83) (v := ?_) (a' := ?_) #[true, true, true, false, false, false, true, false, false, false, false, false, false] rfl rfl (by decide +kernel) (fun _ _ _ h => h) (Or.inl ⟨by rfl, ?_⟩) hHeld ?_ ?_
                        rotate_left
                        · rintro w' ⟨s0, s1, s2⟩
                          have c0 := (blk_cell s0 0).trans (rfl : _ = some (Value.float .f32 x.f0))
                          have c1 := (blk_cell s0 1).trans (rfl : _ = some (Value.float .f32 x.f1))
                          have c2 := (blk_cell s0 2).trans (rfl : _ = some (Value.float .f32 x.f2))
                          go_simp
                          with_reducible rfl
                        rotate_left
                        · simp only [Act.put, List.setIfInBounds_toArray, List.set_cons_zero, List.set_cons_succ, i64_w, i32_w]
                          rfl
                        refine take_ (i := 3) (N := some 84) (v := ?_) (a' := ?_) #[true, true, true, true, false, false, true, false, false, false, false, false, false] rfl rfl (by decide +kernel) (fun _ _ _ h => h) (Or.inl ⟨by rfl, ?_⟩) hHeld ?_ ?_
                        rotate_left
                        · rintro w' ⟨s0, s1, s2⟩
                          have c0 := (blk_cell s1 0).trans (rfl : _ = some (Value.float .f32 y.f0))
                          have c1 := (blk_cell s1 1).trans (rfl : _ = some (Value.float .f32 y.f1))
                          have c2 := (blk_cell s1 2).trans (rfl : _ = some (Value.float .f32 y.f2))
                          go_simp
                          with_reducible rfl
                        rotate_left
                        · simp only [Act.put, List.setIfInBounds_toArray, List.set_cons_zero, List.set_cons_succ, i64_w, i32_w]
                          rfl
                        refine take_ (i := 4) (N := some 85) (v := ?_) (a' := ?_) #[true, true, true, true, true, false, true, false, false, false, false, false, false] rfl rfl (by decide +kernel) (fun _ _ _ h => h) (Or.inl ⟨by rfl, ?_⟩) hHeld ?_ ?_
                        rotate_left
                        · rintro w' ⟨s0, s1, s2⟩
                          have c0 := (blk_cell s0 0).trans (rfl : _ = some (Value.float .f32 x.f0))
                          have c1 := (blk_cell s0 1).trans (rfl : _ = some (Value.float .f32 x.f1))
                          have c2 := (blk_cell s0 2).trans (rfl : _ = some (Value.float .f32 x.f2))
                          go_simp
                          with_reducible rfl
                        rotate_left
                        · simp only [Act.put, List.setIfInBounds_toArray, List.set_cons_zero, List.set_cons_succ, i64_w, i32_w]
                          rfl
                        refine one_ (i := 5) (N := some 86) #[true, true, true, true, true, true, true, false, false, false, false, false, false] rfl rfl (by decide +kernel) (by decide) (fun K hK => ?_)
                        refine goes_ Try.func54 (by kernel_rfl) rfl #[vv y, vv x] (by rfl) rfl rfl (by (try simp only [List.map_toArray, List.map_cons, List.map_nil]); first | done | rfl) ?_
                        refine (less54 y x y x (EV.refl _) (EV.refl _) _).mono ?_
                        rintro e w12 ⟨ds, rfl, hds, hb12⟩
                        refine ⟨_, rfl, ?_⟩
                        have L12 := Aside0.mk (below_step (below_drew1 (Below.refl w11.heap.size w11)) hb12)
                        clear hb12
                        refine hK.out _ _ ⟨blk_below EX11 L12.out, blk_below EY11 L12.out, blk_below BO11 L12.out⟩ (fun _ => ?_)
                        clear hK K
                        refine norm_ (a' := ?_) ?_ ?_
                        rotate_left
                        · show Act.put _ (some 86) _ = _
                          simp only [Act.put, List.setIfInBounds_toArray, List.set_cons_zero, List.set_cons_succ]
                          rfl
                        obtain rfl : ds = seg l0 i := (EV_is hds (by rw [HSEG.out]; exact HSI.out)).trans HSEG.out
                        refine one_ (i := 7) (N := some 88) #[true, true, true, true, true, true, true, true, false, false, false, false, false] rfl rfl (by decide +kernel) (by decide) (fun K hK => ?_)
                        refine goes_ Try.func83 (by kernel_rfl) rfl #[vv (seg l0 i), .float .f32 qu] (by rfl) rfl rfl (by (try simp only [List.map_toArray, List.map_cons, List.map_nil]); first | done | rfl) ?_
                        refine (scale83 _ (seg l0 i) _ qu (EV.refl _) hqu _).mono ?_
                        rintro e w13 ⟨sc, rfl, hsc, hb13⟩
                        refine ⟨_, rfl, ?_⟩
                        have L13 := Aside0.mk (below_step L12.out hb13)
                        clear hb13
                        refine hK.out _ _ ⟨blk_below EX11 L13.out, blk_below EY11 L13.out, blk_below BO11 L13.out⟩ (fun _ => ?_)
                        clear hK K
                        refine norm_ (a' := ?_) ?_ ?_
                        rotate_left
                        · show Act.put _ (some 88) _ = _
                          simp only [Act.put, List.setIfInBounds_toArray, List.set_cons_zero, List.set_cons_succ]
                          rfl
                        refine one_ (i := 8) (N := some 89) #[true, true, true, true, true, true, true, true, true, false, false, false, false] rfl rfl (by decide +kernel) (by decide) (fun K hK => ?_)
                        refine goes_ Try.func82 (by kernel_rfl) rfl #[vv x, vv sc] (by rfl) rfl rfl (by (try simp only [List.map_toArray, List.map_cons, List.map_nil]); first | done | rfl) ?_
                        refine (add82 _ _ x sc (EV.refl _) hsc _).mono ?_
                        rintro e w14 ⟨p, rfl, hp, hb14⟩
                        refine ⟨_, rfl, ?_⟩
                        have L14 := Aside0.mk (below_step L13.out hb14)
                        clear hb14
                        refine hK.out _ _ ⟨blk_below EX11 L14.out, blk_below EY11 L14.out, blk_below BO11 L14.out⟩ (fun _ => ?_)
                        clear hK K
                        refine norm_ (a' := ?_) ?_ ?_
                        rotate_left
                        · show Act.put _ (some 89) _ = _
                          simp only [Act.put, List.setIfInBounds_toArray, List.set_cons_zero, List.set_cons_succ]
                          rfl
                        refine one_ (i := 9) (N := some 90) #[true, true, true, true, true, true, true, true, true, true, false, false, false] rfl rfl (by decide +kernel) (by decide) (fun K hK => ?_)
                        refine value_ (w1 := ?_) (v := ?_) (by rfl) rfl ?_ ?_
                        rotate_left 2
                        · go_simp
                          constructor
                          · rfl
                          · rfl
                        refine hK.out _ _ ⟨blk_alloc (blk_below EX11 L14.out) _, blk_alloc (blk_below EY11 L14.out) _, blk_alloc (blk_below BO11 L14.out) _⟩ (fun _ => ?_)
                        clear hK K
                        refine norm_ (a' := ?_) ?_ ?_
                        rotate_left
                        · show Act.put _ (some 90) _ = _
                          simp only [Act.put, List.setIfInBounds_toArray, List.set_cons_zero, List.set_cons_succ]
                          rfl
                        refine one_ (i := 10) (N := some 91) #[true, true, true, true, true, true, true, true, true, true, true, false, false] rfl rfl (by decide +kernel) (by decide) (fun K hK => ?_)
                        have HO14 := Aside0.mk (Kd.R_below HO11 L14.out)
                        have HB14 := Aside0.mk (below_step (below_step HB6.out HZ11.out) L14.out)
                        refine Kd.R_append_step k46 (w0 := w) w.heap.size (by rfl) (.tmp 82) (.tmp 90) 29 46 (.agg #[(.float .f32 0), (.float .f32 0), (.float .f32 0)]) 12 rfl Try.underlying29 L0.info46 rfl (by decide) (by decide) (.slice A8 acc.length c8) acc p [.float .f32 p.f0, .float .f32 p.f1, .float .f32 p.f2] (fun _ => True) (fun _ => False) rfl rfl ?aP (fun _ h_ => h_.elim) (fun _ _ => trivial) HO14.out HB14.out HB14.out.size ?aL ?_
                        (case aP => exact k46_mkM _ _ _ p)
                        (case aL => have := HEL.out.1; omega)
                        intro v15 w15 ho15 hb15 hg15 _
                        obtain ⟨A15, c15, e15⟩ := Kd.R_slice ho15
                        subst e15
                        have EX15 := blk_grown (blk_below EX11 L14.out) hg15 hne1
                        have EY15 := blk_grown (blk_below EY11 L14.out) hg15 hne2
                        have BO15 := blk_grown (blk_below BO11 L14.out) hg15 (Kd.R_ne HO14.out (blk_below BO11 L14.out) (by decide))
                        have BT15 := blk_grown (blk_below BT11 L14.out) hg15 (Kd.R_ne HO14.out (blk_below BT11 L14.out) (by decide))
                        have BZ15 := blk_grown (blk_below BZ11 L14.out) hg15 (Kd.R_ne HO14.out (blk_below BZ11 L14.out) (by decide))
                        refine hK.out _ _ ⟨EX15, EY15, BO15⟩ (fun _ => ?_)
                        clear hK K
                        refine norm_ (a' := ?_) ?_ ?_
                        rotate_left
                        · show Act.put _ (some 91) _ = _
                          simp only [Act.put, List.setIfInBounds_toArray, List.set_cons_zero, List.set_cons_succ]
                          rfl
                        refine pure_ (i := 11) (N := some 92) (v := ?_) (a' := ?_) #[true, true, true, true, true, true, true, true, true, true, true, true, false] rfl rfl (by decide +kernel) (fun _ _ _ h => h) (Or.inl ⟨by rfl, ?_⟩) ?_ ?_
                        rotate_left
                        · intro w'
                          go_simp
                          with_reducible rfl
                        rotate_left
                        · simp only [Act.put, List.setIfInBounds_toArray, List.set_cons_zero, List.set_cons_succ, i64_w, i32_w]
                          rfl
                        have z0 := (blk_cell BO15 0).trans (rfl : _ = some (Value.slice A8 acc.length c8))
                        have y0 := blk_frozen BO15 0
                        refine last_ (i := 12) (N := none) #[true, true, true, true, true, true, true, true, true, true, true, true, true] rfl rfl (by decide +kernel) (by decide) (fun K hK => ?_)
                        refine skip_ (w1 := ?_) (by rfl) rfl ?_ ?_
                        rotate_left
                        · go_simp
                          rfl
                        refine hK.out _ _ ?_
                        clear hK K
                        refine done_ (by decide +kernel) ?_
                        go_wp2
                        go_roundg k1
                        case measure => omega
                        case rel =>
                          refine ⟨k + 1, acc ++ [p], A15, c15, rfl, ⟨by omega⟩, ⟨by simp [HEL.out.1], ?_⟩, ⟨Kd.R_mono (Kd.R_set ho15 BO15 (by decide) 0 _) (fun _ _ => trivial)⟩, ⟨below_set hb15 HG7.out.2.2⟩, ⟨blk_far BT15 HG7.out.1.symm _⟩, ⟨blk_far BZ15 HG7.out.2.1.symm _⟩, ⟨?_⟩⟩
                          · rw [respS_succ]
                            refine EL.snoc HEL.out.2 ?_
                            have hx9 := HX1.out
                            rw [if_pos HN.out, HQ.out, if_pos rfl] at hx9
                            show EV (alongS l0 (leftL l0 a1 k)) p
                            rw [← hx9, HXP.out]
                            exact hp
                          · have hlen : (acc ++ [p]).length = acc.length + 1 := by simp
                            rw [hlen]
                            exact blk_put (cs := #[.slice A8 acc.length c8, .float .f32 a0]) BO15 0 _ rfl
                · have HN := Aside0.mk hcc
                  have hge : ((FloatKind.f32.format.order (sizeP l0 i) left == some .gt) || (FloatKind.f32.format.order (sizeP l0 i) left == some .eq)) = false := by
                    cases hge : ((FloatKind.f32.format.order (sizeP l0 i) left == some .gt) || (FloatKind.f32.format.order (sizeP l0 i) left == some .eq)) with
                    | false => rfl
                    | true => exact absurd (.inl hge) hcc
                  have hnl : i + 1 < l0.length := by
                    have : ¬ i + 1 = l0.length := fun h => hcc (.inr h)
                    omega
                  rw [hge] at hgE
                  have q2 := last_ne HMX.out hnl
                  clear hcc hge
                  go_wp2_with (first | (go_at_call 80; (with_reducible refine (ends80 ⟨w.heap.size, 0, none⟩ A0 c0 l0 i ((i + 1) % l0.length) _ f0 hc0 (Kd.C_below HC.out (below_step HB6.out HZ.out)) hil rfl x y hx hy).mono ?_); rintro e w7 ⟨rfl, hb7⟩; have HZ7 := Aside0.mk (below_alloc (below_alloc (below_step HZ.out hb7) (.cells #[.float .f32 x.f0, .float .f32 x.f1, .float .f32 x.f2] 46 (0, 0))) (.cells #[.float .f32 y.f0, .float .f32 y.f1, .float .f32 y.f2] 46 (0, 0))); have EX := Aside0.mk (blk_alloc (heap_alloc_new w7 (.cells #[.float .f32 x.f0, .float .f32 x.f1, .float .f32 x.f2] 46 (0, 0))) (.cells #[.float .f32 y.f0, .float .f32 y.f1, .float .f32 y.f2] 46 (0, 0))); have EY := Aside0.mk (heap_two w7 (.cells #[.float .f32 x.f0, .float .f32 x.f1, .float .f32 x.f2] 46 (0, 0)) (.cells #[.float .f32 y.f0, .float .f32 y.f1, .float .f32 y.f2] 46 (0, 0))); clear hb7 f0; have p0 := (blk_cell EX.out 0).trans (rfl : _ = some (Value.float .f32 x.f0)); have p1 := (blk_cell EX.out 1).trans (rfl : _ = some (Value.float .f32 x.f1)); have p2 := (blk_cell EX.out 2).trans (rfl : _ = some (Value.float .f32 x.f2)); have q0 := (blk_cell EY.out 0).trans (rfl : _ = some (Value.float .f32 y.f0)); have q1 := (blk_cell EY.out 1).trans (rfl : _ = some (Value.float .f32 y.f1)); have q2 := (blk_cell EY.out 2).trans (rfl : _ = some (Value.float .f32 y.f2)); skip) | (go_at_call 54; refine (less54 y x y x (EV.refl _) (EV.refl _) _).mono ?_; rintro e w8 ⟨d, rfl, hd, hb8⟩; obtain rfl : d = seg l0 i := (EV_is hd (by rw [HSEG.out]; exact HSI.out)).trans HSEG.out; have HZ8 := Aside0.mk (below_step HZ7.out hb8); clear hd hb8 p0 p1 p2 q0 q1 q2) | (go_at_call 81; refine (spec_l01VLong.calls _ _ _ (sizeP l0 i) _ (size_ok HSI.out).2.1).mono ?_; rintro e w9 ⟨rfl, hb9⟩; have HZ9 := Aside0.mk (below_step HZ8.out hb9); clear hb9; have fb := (blk_cell (blk_below BT6.out HZ9.out) 0).trans (rfl : _ = some (Value.slice A0 l0.length c0))) | ((with_reducible refine gate_dst (N := 68) rfl ?_); refine wpList_ar rfl _ _ _ _ _ rfl arS _ _ rfl rfl HL.out (E.refl _) ?_; intro b2 n3 hb2))
                  go_roundg k2
                  case measure => omega
                  case rel =>
                    have hx9 := HX1.out
                    rw [if_neg HN.out] at hx9
                    exact ⟨i + 1, _, b2, rfl, by first | rfl | exact congrArg (Value.int .i64) hwi, ⟨by omega⟩, ⟨hb2⟩, ⟨hx9⟩, ⟨pw_below_drewN HZ9.out _⟩, ⟨hnl⟩⟩
end XP
end Go.Proofs.Ytffofpiejcolfaa
end
section
namespace Go.Proofs.Ytffofpiejcolfaa.L3
open Go.Proofs.Ytffofpiejcolfaa.L0
open Go.RowKit Go.Proofs.YtffofpiejcolfaaW.PrintWords Go.Proofs.YtffofpiejcolfaaW.PrintLast Go.Proofs.YtffofpiejcolfaaW.PrintMore
attribute [local go_sem] max2_int min2_int max_two min_two max_three min_three max_four min_four
set_option linter.unusedVariables false
set_option linter.unusedSimpArgs false
def laws_szVectorS.f (l0 : List (S44)) (a1 : Int) : Option (Int) := if (wrap64 (a1 - (l0.length : Int))) < 0 then (some (-1)) else (some (wrap64 (a1 - (l0.length : Int))))
set_option maxHeartbeats 8000000 in
set_option maxRecDepth 100000 in
theorem laws_szVectorS.calls (A0 : Option Addr) (c0 : Nat) (l0 : List (S44)) (a1 : Int) (r : Int) (w : World) (hr0 : Kd.C k44 w A0 l0.length l0) (hc0 : l0.length ≤ c0) (h : laws_szVectorS.f l0 a1 = some r) :
    Calls Try.prog 40 #[.slice A0 l0.length c0, .int .i64 a1] w fun e w' => e = .returned (.int .i64 r) ∧ Drawn0 w w' := by
  have HR0 := Aside0.mk hr0
  have HC0 := Aside0.mk hc0
  clear hr0 hc0
  have H : (if (wrap64 (a1 - (l0.length : Int))) < 0 then (some (-1)) else (some (wrap64 (a1 - (l0.length : Int))))) = some r := h
  clear h
  by_cases c3 : (wrap64 (a1 - (l0.length : Int))) < 0
  · rw [if_pos c3] at H
    have c3b0 : decide ((wrap64 (a1 - (l0.length : Int))) < 0) = true := decide_eq_true c3
    clear c3
    obtain rfl := Option.some.inj H
    go_enter Try.func40, Try.ntmps40
    go_wp2
    go_ret
    exact ⟨by first | rfl | (simp; done) | (simp [*]; done), by repeat (first | exact Drawn0.refl _ | apply Drawn0.step)⟩
  · rw [if_neg c3] at H
    have c3b0 : decide ((wrap64 (a1 - (l0.length : Int))) < 0) = false := decide_eq_false c3
    clear c3
    obtain rfl := Option.some.inj H
    go_enter Try.func40, Try.ntmps40
    go_wp2
    go_ret
    exact ⟨by first | rfl | (simp; done) | (simp [*]; done), by repeat (first | exact Drawn0.refl _ | apply Drawn0.step)⟩
def laws_szThread.f (l0_0 : List (S44)) (a0_1 : Nat) (a1 : Int) : Option (Int) := (laws_szVectorS.f l0_0 a1).bind fun t102 => (if t102 < 0 then (some (-1)) else (some t102))
set_option maxHeartbeats 8000000 in
set_option maxRecDepth 100000 in
theorem laws_szThread.calls (A0_0 : Option Addr) (c0_0 : Nat) (l0_0 : List (S44)) (a0_1 : Nat) (a1 : Int) (r : Int) (w : World) (hr0_0 : Kd.C k44 w A0_0 l0_0.length l0_0) (hc0_0 : l0_0.length ≤ c0_0) (h : laws_szThread.f l0_0 a0_1 a1 = some r) :
    Calls Try.prog 11 #[.agg #[.slice A0_0 l0_0.length c0_0, .float .f32 a0_1], .int .i64 a1] w fun e w' => e = .returned (.int .i64 r) ∧ Below w.heap.size w w' := by
  have hu25 := Try.underlying25
  have HR0_0 := Aside0.mk hr0_0
  have HC0_0 := Aside0.mk hc0_0
  clear hr0_0 hc0_0
  have HB := Aside0.mk (Below.refl w.heap.size w)
  have H : ((laws_szVectorS.f l0_0 a1).bind fun t102 => (if t102 < 0 then (some (-1)) else (some t102))) = some r := h
  clear h
  replace H := Option.bind_eq_some_iff.mp H
  obtain ⟨t102, A30, H⟩ := H
  replace H : (if t102 < 0 then (some (-1)) else (some t102)) = some r := H
  have A3 := Aside0.mk A30
  clear A30
  by_cases c4 : t102 < 0
  · rw [if_pos c4] at H
    have c4b0 : decide (t102 < 0) = true := decide_eq_true c4
    clear c4
    obtain rfl := Option.some.inj H
    go_enter Try.func11, Try.ntmps11
    go_wp2_with (first | ((with_reducible refine gate_dst (N := 2) rfl ?_); refine box_event ?hg (N := 2) ?hd (cs := #[.slice A0_0 l0_0.length c0_0, .float .f32 a0_1]) (t := 25) ?hr ?_; (case hd => rfl); (case hg => rfl); (case hr => first | (go_simp; done) | (go_simp; rfl)); intro gb101 hg w5 hbox hb; have n0_ := Aside0.mk (below_step (by repeat (first | (with_reducible first | exact HB.out | apply below_alloc | apply pw_below_drewN | apply below_drew1) | exact HB.out)) hb); have n1_ := Aside0.mk (hbox); have n2_ := Aside0.mk ((by rw [hg]; exact (below_size (by repeat (first | (with_reducible first | exact HB.out | apply below_alloc | apply pw_below_drewN | apply below_drew1) | exact HB.out))) : w.heap.size ≤ gb101)); have n3_ := Aside0.mk ((by rw [hg]; exact (below_size (by repeat (first | (with_reducible first | exact HB.out | apply below_alloc | apply pw_below_drewN | apply below_drew1) | exact HB.out))) : w.heap.size ≤ gb101)); clear HB; have HB := n0_; have BK101 := n1_; have GW101 := n2_; have GE101 := n3_; clear n0_ n1_ n2_ n3_; clear hb hbox hg; have hcz6_0 : w5.cell? ⟨gb101, 0, none⟩ = some (.slice A0_0 l0_0.length c0_0) := (blk_cell BK101.out 0).trans rfl; have hcz6_1 : w5.cell? ⟨gb101, 1, none⟩ = some (.float .f32 a0_1) := (blk_cell BK101.out 1).trans rfl; have hfz6_0 := blk_frozen BK101.out 0; have hfz6_1 := blk_frozen BK101.out 1) | ((with_reducible refine gate_callee (f := 40) rfl ?_); refine goesL_ (some 8) rfl rfl Try.func40 (by kernel_rfl) rfl #[.slice A0_0 l0_0.length c0_0, .int .i64 a1] rfl (by (try simp only [List.map_toArray, List.map_cons, List.map_nil]); first | done | rfl | (simp only [List.length_drop, List.length_take]; rfl)) ?_; (with_reducible refine (laws_szVectorS.calls _ _ l0_0 a1 t102 _ ?side1 ?side2 A3.out).mono ?_); (case side1 => repeat (first | exact (Kd.C_below HR0_0.out HB.out) | (with_reducible refine Kd.C_alloc ?_ _) | (with_reducible refine Kd.C_drewN ?_ _) | (with_reducible refine Kd.C_drew ?_))); (case side2 => exact HC0_0.out); rintro e w' ⟨rfl, ⟨nd, rfl⟩⟩; refine ⟨_, rfl, ?_⟩))
    go_ret
    exact ⟨by first | rfl | (simp [errW_none, errW_some] <;> rfl) | (simp [*, errW_none, errW_some] <;> rfl), by repeat (first | (with_reducible first | exact HB.out | apply below_alloc | apply pw_below_drewN | apply below_drew1 | refine below_set ?_ GE101.out) | exact HB.out)⟩
  · rw [if_neg c4] at H
    have c4b0 : decide (t102 < 0) = false := decide_eq_false c4
    clear c4
    obtain rfl := Option.some.inj H
    go_enter Try.func11, Try.ntmps11
    go_wp2_with (first | ((with_reducible refine gate_dst (N := 2) rfl ?_); refine box_event ?hg (N := 2) ?hd (cs := #[.slice A0_0 l0_0.length c0_0, .float .f32 a0_1]) (t := 25) ?hr ?_; (case hd => rfl); (case hg => rfl); (case hr => first | (go_simp; done) | (go_simp; rfl)); intro gb101 hg w7 hbox hb; have n0_ := Aside0.mk (below_step (by repeat (first | (with_reducible first | exact HB.out | apply below_alloc | apply pw_below_drewN | apply below_drew1) | exact HB.out)) hb); have n1_ := Aside0.mk (hbox); have n2_ := Aside0.mk ((by rw [hg]; exact (below_size (by repeat (first | (with_reducible first | exact HB.out | apply below_alloc | apply pw_below_drewN | apply below_drew1) | exact HB.out))) : w.heap.size ≤ gb101)); have n3_ := Aside0.mk ((by rw [hg]; exact (below_size (by repeat (first | (with_reducible first | exact HB.out | apply below_alloc | apply pw_below_drewN | apply below_drew1) | exact HB.out))) : w.heap.size ≤ gb101)); clear HB; have HB := n0_; have BK101 := n1_; have GW101 := n2_; have GE101 := n3_; clear n0_ n1_ n2_ n3_; clear hb hbox hg; have hcz8_0 : w7.cell? ⟨gb101, 0, none⟩ = some (.slice A0_0 l0_0.length c0_0) := (blk_cell BK101.out 0).trans rfl; have hcz8_1 : w7.cell? ⟨gb101, 1, none⟩ = some (.float .f32 a0_1) := (blk_cell BK101.out 1).trans rfl; have hfz8_0 := blk_frozen BK101.out 0; have hfz8_1 := blk_frozen BK101.out 1) | ((with_reducible refine gate_callee (f := 40) rfl ?_); refine goesL_ (some 8) rfl rfl Try.func40 (by kernel_rfl) rfl #[.slice A0_0 l0_0.length c0_0, .int .i64 a1] rfl (by (try simp only [List.map_toArray, List.map_cons, List.map_nil]); first | done | rfl | (simp only [List.length_drop, List.length_take]; rfl)) ?_; (with_reducible refine (laws_szVectorS.calls _ _ l0_0 a1 t102 _ ?side1 ?side2 A3.out).mono ?_); (case side1 => repeat (first | exact (Kd.C_below HR0_0.out HB.out) | (with_reducible refine Kd.C_alloc ?_ _) | (with_reducible refine Kd.C_drewN ?_ _) | (with_reducible refine Kd.C_drew ?_))); (case side2 => exact HC0_0.out); rintro e w' ⟨rfl, ⟨nd, rfl⟩⟩; refine ⟨_, rfl, ?_⟩))
    go_ret
    exact ⟨by first | rfl | (simp [errW_none, errW_some] <;> rfl) | (simp [*, errW_none, errW_some] <;> rfl), by repeat (first | (with_reducible first | exact HB.out | apply below_alloc | apply pw_below_drewN | apply below_drew1 | refine below_set ?_ GE101.out) | exact HB.out)⟩
def laws_toVector.f (a0_0 : Nat) (a0_1 : Nat) (a0_2 : Nat) : Option (Nat × Nat × Nat) := some (a0_0, a0_1, a0_2)
set_option maxHeartbeats 8000000 in
set_option maxRecDepth 100000 in
theorem laws_toVector.calls (a0_0 : Nat) (a0_1 : Nat) (a0_2 : Nat) (r1 : Nat) (r2 : Nat) (r3 : Nat) (w : World) (h : laws_toVector.f a0_0 a0_1 a0_2 = some (r1, r2, r3)) :
    Calls Try.prog 24 #[.agg #[.float .f32 a0_0, .float .f32 a0_1, .float .f32 a0_2]] w fun e w' => e = .returned (.agg #[.float .f32 r1, .float .f32 r2, .float .f32 r3]) ∧ Below w.heap.size w w' := by
  have hu44 := Try.underlying44
  have hu46 := Try.underlying46
  have HB := Aside0.mk (Below.refl w.heap.size w)
  have H : (some (a0_0, a0_1, a0_2)) = some (r1, r2, r3) := h
  clear h
  simp only [Option.some.injEq, Prod.mk.injEq] at H
  obtain ⟨rfl, rfl, rfl⟩ := H
  go_enter Try.func24, Try.ntmps24
  go_wp2_with (first | ((with_reducible refine gate_dst (N := 1) rfl ?_); refine box_event ?hg (N := 1) ?hd (cs := #[.float .f32 a0_0, .float .f32 a0_1, .float .f32 a0_2]) (t := 44) ?hr ?_; (case hd => rfl); (case hg => rfl); (case hr => first | (go_simp; done) | (go_simp; rfl)); intro gb105 hg w2 hbox hb; have n0_ := Aside0.mk (below_step (by repeat (first | (with_reducible first | exact HB.out | apply below_alloc | apply pw_below_drewN | apply below_drew1) | exact HB.out)) hb); have n1_ := Aside0.mk (hbox); have n2_ := Aside0.mk ((by rw [hg]; exact (below_size (by repeat (first | (with_reducible first | exact HB.out | apply below_alloc | apply pw_below_drewN | apply below_drew1) | exact HB.out))) : w.heap.size ≤ gb105)); have n3_ := Aside0.mk ((by rw [hg]; exact (below_size (by repeat (first | (with_reducible first | exact HB.out | apply below_alloc | apply pw_below_drewN | apply below_drew1) | exact HB.out))) : w.heap.size ≤ gb105)); clear HB; have HB := n0_; have BK105 := n1_; have GW105 := n2_; have GE105 := n3_; clear n0_ n1_ n2_ n3_; clear hb hbox hg) | ((with_reducible refine gate_dst (N := 2) rfl ?_); refine box_event ?hg (N := 2) ?hd (cs := #[.float .f32 0, .float .f32 0, .float .f32 0]) (t := 46) ?hr ?_; (case hd => rfl); (case hg => rfl); (case hr => first | (go_simp; done) | (go_simp; rfl)); intro gb106 hg w3 hbox hb; have n0_ := Aside0.mk (blk_below (g := gb105) (o := .cells #[.float .f32 a0_0, .float .f32 a0_1, .float .f32 a0_2] 44 (0, 0)) (by (with_reducible repeat (first | refine blk_drewN ?_ _ | refine blk_drew ?_ | refine blk_alloc ?_ _)); exact BK105.out) hb); have n1_ := Aside0.mk (below_step (by repeat (first | (with_reducible first | exact HB.out | apply below_alloc | apply pw_below_drewN | apply below_drew1 | refine below_set ?_ GE105.out) | exact HB.out)) hb); have n2_ := Aside0.mk (hbox); have n3_ := Aside0.mk ((by rw [hg]; exact (below_size (by repeat (first | (with_reducible first | exact HB.out | apply below_alloc | apply pw_below_drewN | apply below_drew1 | refine below_set ?_ GE105.out) | exact HB.out))) : w.heap.size ≤ gb106)); have n4_ := Aside0.mk ((by rw [hg]; exact (below_size (by repeat (first | (with_reducible first | exact HB.out | apply below_alloc | apply pw_below_drewN | apply below_drew1 | refine below_set ?_ GE105.out) | exact HB.out))) : w.heap.size ≤ gb106)); have n5_ := Aside0.mk ((by rw [hg]; exact Nat.ne_of_lt (blk_lt (g := gb105) (o := .cells #[.float .f32 a0_0, .float .f32 a0_1, .float .f32 a0_2] 44 (0, 0)) (by (with_reducible repeat (first | refine blk_drewN ?_ _ | refine blk_drew ?_ | refine blk_alloc ?_ _)); exact BK105.out)) : gb105 ≠ gb106)); have n6_ := Aside0.mk ((by rw [hg]; exact Nat.ne_of_gt (blk_lt (g := gb105) (o := .cells #[.float .f32 a0_0, .float .f32 a0_1, .float .f32 a0_2] 44 (0, 0)) (by (with_reducible repeat (first | refine blk_drewN ?_ _ | refine blk_drew ?_ | refine blk_alloc ?_ _)); exact BK105.out)) : gb106 ≠ gb105)); clear BK105; clear HB; have BK105 := n0_; have HB := n1_; have BK106 := n2_; have GW106 := n3_; have GE106 := n4_; have NB105_106 := n5_; have NB106_105 := n6_; clear n0_ n1_ n2_ n3_ n4_ n5_ n6_; clear hb hbox hg) | ((with_reducible refine gate_dst (N := 3) rfl ?_); refine box_event ?hg (N := 3) ?hd (cs := #[.float .f32 0, .float .f32 0, .float .f32 0]) (t := 46) ?hr ?_; (case hd => rfl); (case hg => rfl); (case hr => first | (go_simp; done) | (go_simp; rfl)); intro gb107 hg w4 hbox hb; have n0_ := Aside0.mk (blk_below (g := gb105) (o := .cells #[.float .f32 a0_0, .float .f32 a0_1, .float .f32 a0_2] 44 (0, 0)) (by (with_reducible repeat (first | refine blk_drewN ?_ _ | refine blk_drew ?_ | refine blk_alloc ?_ _)); exact BK105.out) hb); have n1_ := Aside0.mk (blk_below (g := gb106) (o := .cells #[.float .f32 0, .float .f32 0, .float .f32 0] 46 (0, 0)) (by (with_reducible repeat (first | refine blk_drewN ?_ _ | refine blk_drew ?_ | refine blk_alloc ?_ _)); exact BK106.out) hb); have n2_ := Aside0.mk (below_step (by repeat (first | (with_reducible first | exact HB.out | apply below_alloc | apply pw_below_drewN | apply below_drew1 | refine below_set ?_ GE105.out | refine below_set ?_ GE106.out) | exact HB.out)) hb); have n3_ := Aside0.mk (hbox); have n4_ := Aside0.mk ((by rw [hg]; exact (below_size (by repeat (first | (with_reducible first | exact HB.out | apply below_alloc | apply pw_below_drewN | apply below_drew1 | refine below_set ?_ GE105.out | refine below_set ?_ GE106.out) | exact HB.out))) : w.heap.size ≤ gb107)); have n5_ := Aside0.mk ((by rw [hg]; exact (below_size (by repeat (first | (with_reducible first | exact HB.out | apply below_alloc | apply pw_below_drewN | apply below_drew1 | refine below_set ?_ GE105.out | refine below_set ?_ GE106.out) | exact HB.out))) : w.heap.size ≤ gb107)); have n6_ := Aside0.mk ((by rw [hg]; exact Nat.ne_of_lt (blk_lt (g := gb105) (o := .cells #[.float .f32 a0_0, .float .f32 a0_1, .float .f32 a0_2] 44 (0, 0)) (by (with_reducible repeat (first | refine blk_drewN ?_ _ | refine blk_drew ?_ | refine blk_alloc ?_ _)); exact BK105.out)) : gb105 ≠ gb107)); have n7_ := Aside0.mk ((by rw [hg]; exact Nat.ne_of_gt (blk_lt (g := gb105) (o := .cells #[.float .f32 a0_0, .float .f32 a0_1, .float .f32 a0_2] 44 (0, 0)) (by (with_reducible repeat (first | refine blk_drewN ?_ _ | refine blk_drew ?_ | refine blk_alloc ?_ _)); exact BK105.out)) : gb107 ≠ gb105)); have n8_ := Aside0.mk ((by rw [hg]; exact Nat.ne_of_lt (blk_lt (g := gb106) (o := .cells #[.float .f32 0, .float .f32 0, .float .f32 0] 46 (0, 0)) (by (with_reducible repeat (first | refine blk_drewN ?_ _ | refine blk_drew ?_ | refine blk_alloc ?_ _)); exact BK106.out)) : gb106 ≠ gb107)); have n9_ := Aside0.mk ((by rw [hg]; exact Nat.ne_of_gt (blk_lt (g := gb106) (o := .cells #[.float .f32 0, .float .f32 0, .float .f32 0] 46 (0, 0)) (by (with_reducible repeat (first | refine blk_drewN ?_ _ | refine blk_drew ?_ | refine blk_alloc ?_ _)); exact BK106.out)) : gb107 ≠ gb106)); clear BK105; clear BK106; clear HB; have BK105 := n0_; have BK106 := n1_; have HB := n2_; have BK107 := n3_; have GW107 := n4_; have GE107 := n5_; have NB105_107 := n6_; have NB107_105 := n7_; have NB106_107 := n8_; have NB107_106 := n9_; clear n0_ n1_ n2_ n3_ n4_ n5_ n6_ n7_ n8_ n9_; clear hb hbox hg; have hnb5 := NB105_106.out; have hnc5 := NB106_105.out; have hnb6 := NB105_107.out; have hnc6 := NB107_105.out; have hcz7_0 : w4.cell? ⟨gb105, 0, none⟩ = some (.float .f32 a0_0) := (blk_cell BK105.out 0).trans rfl; have hcz7_1 : w4.cell? ⟨gb105, 1, none⟩ = some (.float .f32 a0_1) := (blk_cell BK105.out 1).trans rfl; have hcz7_2 : w4.cell? ⟨gb105, 2, none⟩ = some (.float .f32 a0_2) := (blk_cell BK105.out 2).trans rfl; have hfz7_0 := blk_frozen BK105.out 0; have hfz7_1 := blk_frozen BK105.out 1; have hfz7_2 := blk_frozen BK105.out 2; have hnb8 := NB107_106.out; have hnc8 := NB106_107.out; have hcz9_0 : w4.cell? ⟨gb107, 0, none⟩ = some (.float .f32 0) := (blk_cell BK107.out 0).trans rfl; have hcz9_1 : w4.cell? ⟨gb107, 1, none⟩ = some (.float .f32 0) := (blk_cell BK107.out 1).trans rfl; have hcz9_2 : w4.cell? ⟨gb107, 2, none⟩ = some (.float .f32 0) := (blk_cell BK107.out 2).trans rfl; have hfz9_0 := blk_frozen BK107.out 0; have hfz9_1 := blk_frozen BK107.out 1; have hfz9_2 := blk_frozen BK107.out 2; have hcz10_0 : w4.cell? ⟨gb106, 0, none⟩ = some (.float .f32 0) := (blk_cell BK106.out 0).trans rfl; have hcz10_1 : w4.cell? ⟨gb106, 1, none⟩ = some (.float .f32 0) := (blk_cell BK106.out 1).trans rfl; have hcz10_2 : w4.cell? ⟨gb106, 2, none⟩ = some (.float .f32 0) := (blk_cell BK106.out 2).trans rfl; have hfz10_0 := blk_frozen BK106.out 0; have hfz10_1 := blk_frozen BK106.out 1; have hfz10_2 := blk_frozen BK106.out 2))
  refine bodyPost_ret (results_cell_row rfl _ _ gb106 46 #[.float .f32 a0_0, .float .f32 a0_1, .float .f32 a0_2] (0, 0) _ rfl (by (with_reducible repeat (first | refine blk_drewN ?_ _ | refine blk_drew ?_ | refine blk_alloc ?_ _)); refine blk_put (cs := #[.float .f32 a0_0, .float .f32 a0_1, .float .f32 0]) ?_ 2 _ rfl; (with_reducible repeat (first | refine blk_drewN ?_ _ | refine blk_drew ?_ | refine blk_alloc ?_ _)); refine blk_put (cs := #[.float .f32 a0_0, .float .f32 0, .float .f32 0]) ?_ 1 _ rfl; (with_reducible repeat (first | refine blk_drewN ?_ _ | refine blk_drew ?_ | refine blk_alloc ?_ _)); refine blk_put (cs := #[.float .f32 0, .float .f32 0, .float .f32 0]) ?_ 0 _ rfl; (with_reducible repeat (first | refine blk_drewN ?_ _ | refine blk_drew ?_ | refine blk_alloc ?_ _)); refine blk_far ?_ NB106_107.out _; (with_reducible repeat (first | refine blk_drewN ?_ _ | refine blk_drew ?_ | refine blk_alloc ?_ _)); refine blk_far ?_ NB106_107.out _; (with_reducible repeat (first | refine blk_drewN ?_ _ | refine blk_drew ?_ | refine blk_alloc ?_ _)); refine blk_far ?_ NB106_107.out _; (with_reducible repeat (first | refine blk_drewN ?_ _ | refine blk_drew ?_ | refine blk_alloc ?_ _)); exact BK106.out) Try.underlying46 rfl (by kernel_rfl)) rfl ?_
  exact ⟨by first | rfl | (simp [errW_none, errW_some] <;> rfl) | (simp [*, errW_none, errW_some] <;> rfl), by repeat (first | (with_reducible first | exact HB.out | apply below_alloc | apply pw_below_drewN | apply below_drew1 | refine below_set ?_ GE105.out | refine below_set ?_ GE106.out | refine below_set ?_ GE107.out) | exact HB.out)⟩
def laws_toVectorS.l0 : Nat → List (S44) → List (S46) → Int → Option ((List (S46)))
  | 0, _, _, _ => none
  | k + 1, x0, x3, x4 => if x4 < (x0.length : Int) then (if 0 ≤ x4 then ((laws_toVector.f ((rd_T44 x0 x4).f0) ((rd_T44 x0 x4).f1) ((rd_T44 x0 x4).f2)).bind fun bt112 => (if x4 < (x3.length : Int) then (laws_toVectorS.l0 k x0 (x3.set (x4 : Int).toNat (⟨bt112.1, bt112.2.1, bt112.2.2⟩ : S46)) (wrap64 (x4 + 1))) else (none))) else (none)) else (some x3)
def laws_toVectorS.f (k : Nat) (l0 : List (S44)) : Option ((List (S46))) := if 0 ≤ (l0.length : Int) then (if ((l0.length : Int) : Int).toNat ≤ 23456248059221 then (laws_toVectorS.l0 k l0 (List.replicate ((l0.length : Int) : Int).toNat z46) 0) else (none)) else (none)
theorem laws_toVectorS.mono_l : ∀ k, (∀ y0 y1 y2, LeO (laws_toVectorS.l0 k y0 y1 y2) (laws_toVectorS.l0 (k + 1) y0 y1 y2))
  | 0 => fun _ _ _ r h => by simp [laws_toVectorS.l0] at h
  | k + 1 => by
    have ih0 := laws_toVectorS.mono_l k
    · intro y0 y1 y2
      unfold laws_toVectorS.l0
      repeat' first
      | (with_reducible exact ih0 _ _ _)
      | (with_reducible exact LeO.refl _)
      | (with_reducible exact LeO.none _)
      | (with_reducible refine LeO.ite ?_ ?_)
      | (with_reducible refine LeO.bind ?_ (fun _ => ?_))
      | exact ih0 _ _ _
      | exact LeO.none _
      | refine LeO.ite ?_ ?_
      | refine LeO.bind ?_ (fun _ => ?_)
theorem laws_toVectorS.mono : ∀ a0 k, LeO (laws_toVectorS.f k a0) (laws_toVectorS.f (k + 1) a0) := by
  intro a0 k
  have ih0 := laws_toVectorS.mono_l k
  unfold laws_toVectorS.f
  repeat' first
      | (with_reducible exact ih0 _ _ _)
      | (with_reducible exact LeO.refl _)
      | (with_reducible exact LeO.none _)
      | (with_reducible refine LeO.ite ?_ ?_)
      | (with_reducible refine LeO.bind ?_ (fun _ => ?_))
      | exact ih0 _ _ _
      | exact LeO.none _
      | refine LeO.ite ?_ ?_
      | refine LeO.bind ?_ (fun _ => ?_)
set_option maxHeartbeats 8000000 in
set_option maxRecDepth 100000 in
theorem laws_toVectorS.calls (k : Nat) (A0 : Option Addr) (c0 : Nat) (l0 : List (S44)) (r : List (S46)) (w : World) (hr0 : Kd.C k44 w A0 l0.length l0) (hc0 : l0.length ≤ c0) (h : laws_toVectorS.f k l0 = some r) :
    Calls Try.prog 44 #[.slice A0 l0.length c0] w fun e w' => ∃ v0_ : Value, e = .returned (v0_) ∧ Kd.R k46 46 w' w.heap.size (fun _ => True) v0_ r ∧ Below w.heap.size w w' := by
  have hu44 := Try.underlying44
  have hu46 := Try.underlying46
  have HR0 := Aside0.mk hr0
  have HC0 := Aside0.mk hc0
  clear hr0 hc0
  have HB := Aside0.mk (Below.refl w.heap.size w)
  have H : (if 0 ≤ (l0.length : Int) then (if ((l0.length : Int) : Int).toNat ≤ 23456248059221 then (laws_toVectorS.l0 k l0 (List.replicate ((l0.length : Int) : Int).toNat z46) 0) else (none)) else (none)) = some r := h
  clear h
  by_cases c2 : 0 ≤ (l0.length : Int)
  · rw [if_pos c2] at H
    have c2b0 := eq_true c2
    have c2b1 : decide (0 ≤ (l0.length : Int)) = true := decide_eq_true c2
    clear c2
    by_cases c3 : ((l0.length : Int) : Int).toNat ≤ 23456248059221
    · rw [if_pos c3] at H
      have c3b0 := eq_true c3
      have c3b1 : decide (((l0.length : Int) : Int).toNat ≤ 23456248059221) = true := decide_eq_true c3
      clear c3
      obtain ⟨y108, hy108⟩ : ∃ y_ : List (S46), y_ = (List.replicate ((l0.length : Int) : Int).toNat z46) := ⟨_, rfl⟩
      replace H : (laws_toVectorS.l0 k l0 y108 0) = some r := by first | (rw [hy108]; with_reducible exact H) | (have H2_ := (Option.bind_some _ _).symm.trans H; rw [hy108]; with_reducible exact H2_) | (have H2_ := (Option.bind_some _ _).symm.trans H; with_reducible exact H2_) | with_reducible exact H | (rw [hy108]; exact H) | exact H
      have Ny108 := Aside0.mk hy108
      clear hy108
      have H' := Aside0.mk H
      clear H
      go_enter Try.func44, Try.ntmps44
      go_wp2_with (first | ((with_reducible refine gate_dst (N := 7) rfl ?_); refine Kd.R_make k46 _ 46 rfl (N := 7) rfl 29 _ _ rfl (l0.length : Int) rfl rfl Try.underlying29 (.agg #[(.float .f32 0), (.float .f32 0), (.float .f32 0)]) 12 info46 rfl (by decide) (by omega) z46 (ok := fun _ => True) (okp := fun _ => True) (k46_mkM _ _ _ z46 ) (fun _ hk => hk) trivial (of_decide_eq_true (by first | (with_reducible assumption) | assumption)) (Nat.le_trans (Nat.mul_le_mul_right _ (of_decide_eq_true (by first | (with_reducible assumption) | assumption) : (l0.length : Int).toNat ≤ 23456248059221)) (by omega)) (Below.refl _ _) (Nat.le_refl _) ?_; intro v109 w4 ho5 hb hg_ hnew_; clear hg_ hnew_; (first | rw [← Ny108.out] at ho5 | (simp only [Int.reduceToNat] at ho5; rw [← Ny108.out] at ho5)); have n0_ := Aside0.mk (Kd.R_lower ho5 (below_size (by repeat (first | (with_reducible first | exact HB.out | apply below_alloc | apply pw_below_drewN | apply below_drew1) | exact HB.out)))); have n1_ := Aside0.mk (below_step (by repeat (first | (with_reducible first | exact HB.out | apply below_alloc | apply pw_below_drewN | apply below_drew1) | exact HB.out)) hb); clear HB; have HO110 := n0_; have HB := n1_; clear n0_ n1_; clear hb ho5))
      go_loopg [4] k (fun kq v4 w' => ∃ (x3_1 : List (S46)) (x4_1 : Int), v4 = .int .i64 x4_1 ∧ Aside0 (laws_toVectorS.l0 kq l0 x3_1 x4_1 = some r) ∧ Aside0 (kq ≤ k) ∧ Aside0 (Kd.R k46 46 w' w.heap.size (fun _ => True) v109 x3_1) ∧ Aside0 (Below w.heap.size w w'))
      case atStart => exact ⟨(y108), (0), (by first | rfl | (simp; done) | (simp [*]; done)), H', ⟨Nat.le_refl _⟩, ⟨by (with_reducible repeat (first | apply Kd.R_alloc | apply Kd.R_drewN | apply Kd.R_drew)); exact HO110.out⟩, ⟨by repeat (first | (with_reducible first | exact HB.out | apply below_alloc | apply pw_below_drewN | apply below_drew1) | exact HB.out)⟩⟩
      case round =>
        clear H'
        try clear c2
        try clear c2b0
        try clear c2b1
        try clear p2
        try clear c3
        try clear c3b0
        try clear c3b1
        try clear c4
        obtain ⟨x3_1, x4_1, rfl, HA, HK1, HO_3, HB⟩ := hrel
        cases gk with
        | zero => exact absurd HA.out (by simp [laws_toVectorS.l0])
        | succ k1 =>
          have H := HA.out
          clear HA
          simp only [laws_toVectorS.l0] at H
          by_cases c6 : x4_1 < (l0.length : Int)
          · rw [if_pos c6] at H
            have c6b0 : decide (x4_1 < (l0.length : Int)) = true := decide_eq_true c6
            clear c6
            by_cases c7 : 0 ≤ x4_1
            · rw [if_pos c7] at H
              have c7b0 : decide (0 ≤ x4_1) = true := decide_eq_true c7
              clear c7
              replace H := Option.bind_eq_some_iff.mp H
              obtain ⟨⟨t112, t113, t114⟩, A80, H⟩ := H
              replace H : (if x4_1 < (x3_1.length : Int) then (laws_toVectorS.l0 k1 l0 (x3_1.set (x4_1 : Int).toNat (⟨t112, t113, t114⟩ : S46)) (wrap64 (x4_1 + 1))) else (none)) = some r := H
              have A8 := Aside0.mk A80
              clear A80
              by_cases c9 : x4_1 < (x3_1.length : Int)
              · rw [if_pos c9] at H
                have c9b0 : decide (x4_1 < (x3_1.length : Int)) = true := decide_eq_true c9
                clear c9
                obtain ⟨y115, hy115⟩ : ∃ y_ : List (S46), y_ = (x3_1.set (x4_1 : Int).toNat (⟨t112, t113, t114⟩ : S46)) := ⟨_, rfl⟩
                replace H : (laws_toVectorS.l0 k1 l0 y115 (wrap64 (x4_1 + 1))) = some r := by first | (rw [hy115]; with_reducible exact H) | (have H2_ := (Option.bind_some _ _).symm.trans H; rw [hy115]; with_reducible exact H2_) | (have H2_ := (Option.bind_some _ _).symm.trans H; with_reducible exact H2_) | with_reducible exact H | (rw [hy115]; exact H) | exact H
                have Ny115 := Aside0.mk hy115
                clear hy115
                have H' := Aside0.mk H
                clear H
                have p111 : 0 ≤ (x4_1 : Int) := of_decide_eq_true (by first | (with_reducible assumption) | assumption)
                have q111 : x4_1 < (l0.length : Int) := of_decide_eq_true (by first | (with_reducible assumption) | assumption)
                obtain ⟨ad111, e111, hx111_0, hx111_1, hx111_2⟩ := at_T44 HR0.out x4_1 p111 q111
                cases e111
                replace hx111_0 := (HB.out.cell (World.block_lt_of_cell? w _ hx111_0)).trans hx111_0
                replace hx111_1 := (HB.out.cell (World.block_lt_of_cell? w _ hx111_1)).trans hx111_1
                replace hx111_2 := (HB.out.cell (World.block_lt_of_cell? w _ hx111_2)).trans hx111_2
                replace p111 := eq_true p111
                replace q111 := eq_true q111
                go_wp2_with (first | ((with_reducible refine gate_callee (f := 24) rfl ?_); refine goesL_ (some 20) rfl rfl Try.func24 (by kernel_rfl) rfl #[.agg #[.float .f32 ((rd_T44 l0 x4_1).f0), .float .f32 ((rd_T44 l0 x4_1).f1), .float .f32 ((rd_T44 l0 x4_1).f2)]] rfl (by (try simp only [List.map_toArray, List.map_cons, List.map_nil]); first | done | rfl | (simp only [List.length_drop, List.length_take]; rfl)) ?_; (with_reducible refine (laws_toVector.calls ((rd_T44 l0 x4_1).f0) ((rd_T44 l0 x4_1).f1) ((rd_T44 l0 x4_1).f2) t112 t113 t114 _ A8.out).mono ?_); rintro e w11 ⟨rfl, hb⟩; refine ⟨_, rfl, ?_⟩; have n0_ := Aside0.mk (Kd.R_below (by (with_reducible repeat (first | apply Kd.R_alloc | apply Kd.R_drewN | apply Kd.R_drew)); exact HO_3.out) hb); have n1_ := Aside0.mk (below_step (by repeat (first | (with_reducible first | exact HB.out | apply below_alloc | apply pw_below_drewN | apply below_drew1) | exact HB.out)) hb); clear HO_3; clear HB; have HO_3 := n0_; have HB := n1_; clear n0_ n1_; (try clear hb); (try clear hb2); (try clear hk); (try clear hi); have p10 : 0 ≤ (x4_1 : Int) := of_decide_eq_true (by first | (with_reducible assumption) | assumption); have q10 : (x4_1 : Int) < ((x3_1.length : Int) : Int) := of_decide_eq_true (by first | (with_reducible assumption) | assumption); obtain ⟨go10, co10, eo10, gb10, gl10, cl10, HG10⟩ := Kd.R_form HO_3.out (by omega); (first | cases eo10 | (injection eo10 with ea_ en_ ec_; (first | subst ea_ | (injection ea_ with ea_; subst ea_)); subst ec_; clear en_)); have GB10 := Aside0.mk gb10; have GG10 := Aside0.mk HG10; clear gb10 gl10 HG10; obtain ⟨ce10, hcl10, hM10, hcc10, hfr10⟩ := Kd.R_elem HO_3.out z46 (x4_1 : Int) p10 q10; obtain rfl := k46_openM hM10; have hx10_0 : w11.cell? ⟨go10, (x4_1 : Int).toNat * 3, none⟩ = some (.float .f32 ((rd_T46 x3_1 x4_1).f0)) := hcc10 0 _ rfl; have hx10_1 : w11.cell? ⟨go10, (x4_1 : Int).toNat * 3 + 1, none⟩ = some (.float .f32 ((rd_T46 x3_1 x4_1).f1)) := hcc10 1 _ rfl; have hx10_2 : w11.cell? ⟨go10, (x4_1 : Int).toNat * 3 + 2, none⟩ = some (.float .f32 ((rd_T46 x3_1 x4_1).f2)) := hcc10 2 _ rfl; have hf10_0 : w11.frozen? ⟨go10, (x4_1 : Int).toNat * 3, none⟩ = false := hfr10 0; have hf10_1 : w11.frozen? ⟨go10, (x4_1 : Int).toNat * 3 + 1, none⟩ = false := hfr10 1; have hf10_2 : w11.frozen? ⟨go10, (x4_1 : Int).toNat * 3 + 2, none⟩ = false := hfr10 2; clear hcl10 hcc10 hfr10 hM10; replace p10 := eq_true p10; replace q10 := eq_true q10; have HX12 := Aside0.mk (show Kd.R k46 46 w11 w.heap.size (fun _ => True) (.slice (some ⟨go10, 0, none⟩) x3_1.length co10) x3_1 from (by (with_reducible repeat (first | apply Kd.R_alloc | apply Kd.R_drewN | apply Kd.R_drew)); exact HO_3.out)); obtain ⟨ce12, hcl12, hM12, hcc12, hfr12⟩ := Kd.R_elem HX12.out z46 (x4_1 : Int) (of_decide_eq_true (by first | (with_reducible assumption) | assumption)) (by have h_ : (x4_1 : Int) < ((x3_1.length : Int) : Int) := of_decide_eq_true (by first | (with_reducible assumption) | assumption); first | exact h_ | (have e_ := (Kd.R_reads' HO_3.out).1; omega) | simpa using h_); obtain rfl := k46_openM hM12; have HP12 := Kd.R_seg HX12.out (x4_1 : Int) (of_decide_eq_true (by first | (with_reducible assumption) | assumption)) (by have h_ : (x4_1 : Int) < ((x3_1.length : Int) : Int) := of_decide_eq_true (by first | (with_reducible assumption) | assumption); first | exact h_ | (have e_ := (Kd.R_reads' HO_3.out).1; omega) | simpa using h_) (seg := [.float .f32 t112, .float .f32 t113, .float .f32 t114]) (j := 0) hcl12 hcc12 (show 3 ≤ 3 from by decide) (x' := (⟨t112, t113, t114⟩ : S46)) (k46_mkM _ _ _ (⟨t112, t113, t114⟩ : S46) ) (fun _ hk => hk); have hx12_0 := hcc12 0 _ rfl; (try simp only [show (k46).sz = 3 from rfl, Nat.mul_one, Nat.add_zero] at hx12_0); have hf12_0 := hfr12 0; (try simp only [show (k46).sz = 3 from rfl, Nat.mul_one, Nat.add_zero] at hf12_0); have hx12_1 := hcc12 1 _ rfl; (try simp only [show (k46).sz = 3 from rfl, Nat.mul_one, Nat.add_zero] at hx12_1); have hf12_1 := hfr12 1; (try simp only [show (k46).sz = 3 from rfl, Nat.mul_one, Nat.add_zero] at hf12_1); have hx12_2 := hcc12 2 _ rfl; (try simp only [show (k46).sz = 3 from rfl, Nat.mul_one, Nat.add_zero] at hx12_2); have hf12_2 := hfr12 2; (try simp only [show (k46).sz = 3 from rfl, Nat.mul_one, Nat.add_zero] at hf12_2); clear hcl12 hcc12 hfr12 hM12) | ((with_reducible refine gate_store (t := 46) (p := 21) rfl ?_); refine store_event (t := 46) (p := 21) (v := ?vo_w13) (w1 := (((w11.setCell ⟨go10, (x4_1 : Int).toNat * 3, none⟩ (.float .f32 t112)).setCell ⟨go10, (x4_1 : Int).toNat * 3 + 1, none⟩ (.float .f32 t113)).setCell ⟨go10, (x4_1 : Int).toNat * 3 + 2, none⟩ (.float .f32 t114))) ?hg ?ho ?hn ?hr ?_; (case ho => rfl); (case hg => rfl); (case hn => rfl); (case hr => first | (go_simp; done) | (go_simp; rfl)); intro w13 hw; have hg : w11.grownBy w13 (some go10) := (by rw [hw]; exact HP12.2); have hp_ : Kd.R k46 46 w13 w.heap.size (fun _ => True) (.slice (some ⟨go10, 0, none⟩) x3_1.length co10) y115 := (by rw [hw, Ny115.out]; exact HP12.1); clear HP12; have n0_ := Aside0.mk (hp_); have n1_ := Aside0.mk ((by rw [hw]; exact below_set (below_set (below_set (HB.out) GB10.out) GB10.out) GB10.out : Below w.heap.size w w13)); clear HO_3; clear HB; have HO_3 := n0_; have HB := n1_; clear n0_ n1_; clear hg hw hp_))
                go_roundg k1
                case measure => have := HK1.out; omega
                case rel => exact ⟨(y115), (wrap64 (x4_1 + 1)), (by first | rfl | (simp; done) | (simp [*]; done)), H', ⟨by have := HK1.out; omega⟩, ⟨by (with_reducible repeat (first | apply Kd.R_alloc | apply Kd.R_drewN | apply Kd.R_drew)); exact HO_3.out⟩, ⟨by repeat (first | (with_reducible first | exact HB.out | apply below_alloc | apply pw_below_drewN | apply below_drew1) | exact HB.out)⟩⟩
              · rw [if_neg c9] at H
                exact absurd H (by simp)
            · rw [if_neg c7] at H
              exact absurd H (by simp)
          · rw [if_neg c6] at H
            have c6b0 : decide (x4_1 < (l0.length : Int)) = false := decide_eq_false c6
            clear c6
            obtain rfl := Option.some.inj H
            go_wp2
            go_ret
            exact ⟨_, by first | rfl | (simp [errW_none, errW_some] <;> rfl) | (simp [*, errW_none, errW_some] <;> rfl), by (with_reducible repeat (first | apply Kd.R_alloc | apply Kd.R_drewN | apply Kd.R_drew)); exact HO_3.out, by repeat (first | (with_reducible first | exact HB.out | apply below_alloc | apply pw_below_drewN | apply below_drew1) | exact HB.out)⟩
    · rw [if_neg c3] at H
      exact absurd H (by simp)
  · rw [if_neg c2] at H
    exact absurd H (by simp)
def laws_toThread.f (k : Nat) (l0_0 : List (S44)) (a0_1 : Nat) : Option ((List (S46)) × Nat) := (laws_toVectorS.f k l0_0).bind fun t119 => (some (t119, a0_1))
theorem laws_toThread.mono : ∀ a0 a1 k, LeO (laws_toThread.f k a0 a1) (laws_toThread.f (k + 1) a0 a1) := by
  intro a0 a1 k
  unfold laws_toThread.f
  repeat' first
      | (with_reducible exact laws_toVectorS.mono _ _)
      | (with_reducible exact LeO.refl _)
      | (with_reducible exact LeO.none _)
      | (with_reducible refine LeO.ite ?_ ?_)
      | (with_reducible refine LeO.bind ?_ (fun _ => ?_))
      | exact laws_toVectorS.mono _ _
      | exact LeO.none _
      | refine LeO.ite ?_ ?_
      | refine LeO.bind ?_ (fun _ => ?_)
set_option maxHeartbeats 8000000 in
set_option maxRecDepth 100000 in
theorem laws_toThread.calls (k : Nat) (A0_0 : Option Addr) (c0_0 : Nat) (l0_0 : List (S44)) (a0_1 : Nat) (r1 : List (S46)) (r2 : Nat) (w : World) (hr0_0 : Kd.C k44 w A0_0 l0_0.length l0_0) (hc0_0 : l0_0.length ≤ c0_0) (h : laws_toThread.f k l0_0 a0_1 = some (r1, r2)) :
    Calls Try.prog 13 #[.agg #[.slice A0_0 l0_0.length c0_0, .float .f32 a0_1]] w fun e w' => ∃ v0_ : Value, e = .returned (.agg #[v0_, .float .f32 r2]) ∧ Kd.R k46 46 w' w.heap.size (fun _ => True) v0_ r1 ∧ Below w.heap.size w w' := by
  have hu25 := Try.underlying25
  have hu31 := Try.underlying31
  have HR0_0 := Aside0.mk hr0_0
  have HC0_0 := Aside0.mk hc0_0
  clear hr0_0 hc0_0
  have HB := Aside0.mk (Below.refl w.heap.size w)
  have H : ((laws_toVectorS.f k l0_0).bind fun t119 => (some (t119, a0_1))) = some (r1, r2) := h
  clear h
  replace H := Option.bind_eq_some_iff.mp H
  obtain ⟨t119, A20, H⟩ := H
  replace H : (some (t119, a0_1)) = some (r1, r2) := H
  have A2 := Aside0.mk A20
  clear A20
  simp only [Option.some.injEq, Prod.mk.injEq] at H
  obtain ⟨rfl, rfl⟩ := H
  go_enter Try.func13, Try.ntmps13
  go_wp2_with (first | ((with_reducible refine gate_dst (N := 1) rfl ?_); refine box_event ?hg (N := 1) ?hd (cs := #[.slice A0_0 l0_0.length c0_0, .float .f32 a0_1]) (t := 25) ?hr ?_; (case hd => rfl); (case hg => rfl); (case hr => first | (go_simp; done) | (go_simp; rfl)); intro gb116 hg w3 hbox hb; have n0_ := Aside0.mk (below_step (by repeat (first | (with_reducible first | exact HB.out | apply below_alloc | apply pw_below_drewN | apply below_drew1) | exact HB.out)) hb); have n1_ := Aside0.mk (hbox); have n2_ := Aside0.mk ((by rw [hg]; exact (below_size (by repeat (first | (with_reducible first | exact HB.out | apply below_alloc | apply pw_below_drewN | apply below_drew1) | exact HB.out))) : w.heap.size ≤ gb116)); have n3_ := Aside0.mk ((by rw [hg]; exact (below_size (by repeat (first | (with_reducible first | exact HB.out | apply below_alloc | apply pw_below_drewN | apply below_drew1) | exact HB.out))) : w.heap.size ≤ gb116)); clear HB; have HB := n0_; have BK116 := n1_; have GW116 := n2_; have GE116 := n3_; clear n0_ n1_ n2_ n3_; clear hb hbox hg) | ((with_reducible refine gate_dst (N := 2) rfl ?_); refine box_event ?hg (N := 2) ?hd (cs := #[.slice none 0 0, .float .f32 0]) (t := 31) ?hr ?_; (case hd => rfl); (case hg => rfl); (case hr => first | (go_simp; done) | (go_simp; rfl)); intro gb117 hg w4 hbox hb; have n0_ := Aside0.mk (blk_below (g := gb116) (o := .cells #[.slice A0_0 l0_0.length c0_0, .float .f32 a0_1] 25 (0, 0)) (by (with_reducible repeat (first | refine blk_drewN ?_ _ | refine blk_drew ?_ | refine blk_alloc ?_ _)); exact BK116.out) hb); have n1_ := Aside0.mk (below_step (by repeat (first | (with_reducible first | exact HB.out | apply below_alloc | apply pw_below_drewN | apply below_drew1 | refine below_set ?_ GE116.out) | exact HB.out)) hb); have n2_ := Aside0.mk (hbox); have n3_ := Aside0.mk ((by rw [hg]; exact (below_size (by repeat (first | (with_reducible first | exact HB.out | apply below_alloc | apply pw_below_drewN | apply below_drew1 | refine below_set ?_ GE116.out) | exact HB.out))) : w.heap.size ≤ gb117)); have n4_ := Aside0.mk ((by rw [hg]; exact (below_size (by repeat (first | (with_reducible first | exact HB.out | apply below_alloc | apply pw_below_drewN | apply below_drew1 | refine below_set ?_ GE116.out) | exact HB.out))) : w.heap.size ≤ gb117)); have n5_ := Aside0.mk ((by rw [hg]; exact Nat.ne_of_lt (blk_lt (g := gb116) (o := .cells #[.slice A0_0 l0_0.length c0_0, .float .f32 a0_1] 25 (0, 0)) (by (with_reducible repeat (first | refine blk_drewN ?_ _ | refine blk_drew ?_ | refine blk_alloc ?_ _)); exact BK116.out)) : gb116 ≠ gb117)); have n6_ := Aside0.mk ((by rw [hg]; exact Nat.ne_of_gt (blk_lt (g := gb116) (o := .cells #[.slice A0_0 l0_0.length c0_0, .float .f32 a0_1] 25 (0, 0)) (by (with_reducible repeat (first | refine blk_drewN ?_ _ | refine blk_drew ?_ | refine blk_alloc ?_ _)); exact BK116.out)) : gb117 ≠ gb116)); clear BK116; clear HB; have BK116 := n0_; have HB := n1_; have BK117 := n2_; have GW117 := n3_; have GE117 := n4_; have NB116_117 := n5_; have NB117_116 := n6_; clear n0_ n1_ n2_ n3_ n4_ n5_ n6_; clear hb hbox hg) | ((with_reducible refine gate_dst (N := 3) rfl ?_); refine box_event ?hg (N := 3) ?hd (cs := #[.slice none 0 0, .float .f32 0]) (t := 31) ?hr ?_; (case hd => rfl); (case hg => rfl); (case hr => first | (go_simp; done) | (go_simp; rfl)); intro gb118 hg w5 hbox hb; have n0_ := Aside0.mk (blk_below (g := gb116) (o := .cells #[.slice A0_0 l0_0.length c0_0, .float .f32 a0_1] 25 (0, 0)) (by (with_reducible repeat (first | refine blk_drewN ?_ _ | refine blk_drew ?_ | refine blk_alloc ?_ _)); exact BK116.out) hb); have n1_ := Aside0.mk (blk_below (g := gb117) (o := .cells #[.slice none 0 0, .float .f32 0] 31 (0, 0)) (by (with_reducible repeat (first | refine blk_drewN ?_ _ | refine blk_drew ?_ | refine blk_alloc ?_ _)); exact BK117.out) hb); have n2_ := Aside0.mk (below_step (by repeat (first | (with_reducible first | exact HB.out | apply below_alloc | apply pw_below_drewN | apply below_drew1 | refine below_set ?_ GE116.out | refine below_set ?_ GE117.out) | exact HB.out)) hb); have n3_ := Aside0.mk (hbox); have n4_ := Aside0.mk ((by rw [hg]; exact (below_size (by repeat (first | (with_reducible first | exact HB.out | apply below_alloc | apply pw_below_drewN | apply below_drew1 | refine below_set ?_ GE116.out | refine below_set ?_ GE117.out) | exact HB.out))) : w.heap.size ≤ gb118)); have n5_ := Aside0.mk ((by rw [hg]; exact (below_size (by repeat (first | (with_reducible first | exact HB.out | apply below_alloc | apply pw_below_drewN | apply below_drew1 | refine below_set ?_ GE116.out | refine below_set ?_ GE117.out) | exact HB.out))) : w.heap.size ≤ gb118)); have n6_ := Aside0.mk ((by rw [hg]; exact Nat.ne_of_lt (blk_lt (g := gb116) (o := .cells #[.slice A0_0 l0_0.length c0_0, .float .f32 a0_1] 25 (0, 0)) (by (with_reducible repeat (first | refine blk_drewN ?_ _ | refine blk_drew ?_ | refine blk_alloc ?_ _)); exact BK116.out)) : gb116 ≠ gb118)); have n7_ := Aside0.mk ((by rw [hg]; exact Nat.ne_of_gt (blk_lt (g := gb116) (o := .cells #[.slice A0_0 l0_0.length c0_0, .float .f32 a0_1] 25 (0, 0)) (by (with_reducible repeat (first | refine blk_drewN ?_ _ | refine blk_drew ?_ | refine blk_alloc ?_ _)); exact BK116.out)) : gb118 ≠ gb116)); have n8_ := Aside0.mk ((by rw [hg]; exact Nat.ne_of_lt (blk_lt (g := gb117) (o := .cells #[.slice none 0 0, .float .f32 0] 31 (0, 0)) (by (with_reducible repeat (first | refine blk_drewN ?_ _ | refine blk_drew ?_ | refine blk_alloc ?_ _)); exact BK117.out)) : gb117 ≠ gb118)); have n9_ := Aside0.mk ((by rw [hg]; exact Nat.ne_of_gt (blk_lt (g := gb117) (o := .cells #[.slice none 0 0, .float .f32 0] 31 (0, 0)) (by (with_reducible repeat (first | refine blk_drewN ?_ _ | refine blk_drew ?_ | refine blk_alloc ?_ _)); exact BK117.out)) : gb118 ≠ gb117)); clear BK116; clear BK117; clear HB; have BK116 := n0_; have BK117 := n1_; have HB := n2_; have BK118 := n3_; have GW118 := n4_; have GE118 := n5_; have NB116_118 := n6_; have NB118_116 := n7_; have NB117_118 := n8_; have NB118_117 := n9_; clear n0_ n1_ n2_ n3_ n4_ n5_ n6_ n7_ n8_ n9_; clear hb hbox hg; have hnb6 := NB116_117.out; have hnc6 := NB117_116.out; have hnb7 := NB116_118.out; have hnc7 := NB118_116.out; have hcz8_0 : w5.cell? ⟨gb116, 0, none⟩ = some (.slice A0_0 l0_0.length c0_0) := (blk_cell BK116.out 0).trans rfl; have hcz8_1 : w5.cell? ⟨gb116, 1, none⟩ = some (.float .f32 a0_1) := (blk_cell BK116.out 1).trans rfl; have hfz8_0 := blk_frozen BK116.out 0; have hfz8_1 := blk_frozen BK116.out 1) | ((with_reducible refine gate_callee (f := 44) rfl ?_); refine goesL_ (some 6) rfl rfl Try.func44 (by kernel_rfl) rfl #[.slice A0_0 l0_0.length c0_0] rfl (by (try simp only [List.map_toArray, List.map_cons, List.map_nil]); first | done | rfl | (simp only [List.length_drop, List.length_take]; rfl)) ?_; (with_reducible refine (laws_toVectorS.calls k _ _ l0_0 t119 _ ?side1 ?side2 A2.out).mono ?_); (case side1 => repeat (first | exact (Kd.C_below HR0_0.out HB.out) | (with_reducible refine Kd.C_alloc ?_ _) | (with_reducible refine Kd.C_drewN ?_ _) | (with_reducible refine Kd.C_drew ?_))); (case side2 => exact HC0_0.out); rintro e w9 ⟨v120, rfl, ho0, hb⟩; refine ⟨_, rfl, ?_⟩; have n0_ := Aside0.mk (Kd.R_lower ho0 (below_size (by repeat (first | (with_reducible first | exact HB.out | apply below_alloc | apply pw_below_drewN | apply below_drew1 | refine below_set ?_ GE116.out | refine below_set ?_ GE117.out | refine below_set ?_ GE118.out) | exact HB.out)))); have n1_ := Aside0.mk (blk_below (g := gb116) (o := .cells #[.slice A0_0 l0_0.length c0_0, .float .f32 a0_1] 25 (0, 0)) (by (with_reducible repeat (first | refine blk_drewN ?_ _ | refine blk_drew ?_ | refine blk_alloc ?_ _)); exact BK116.out) hb); have n2_ := Aside0.mk (blk_below (g := gb117) (o := .cells #[.slice none 0 0, .float .f32 0] 31 (0, 0)) (by (with_reducible repeat (first | refine blk_drewN ?_ _ | refine blk_drew ?_ | refine blk_alloc ?_ _)); exact BK117.out) hb); have n3_ := Aside0.mk (blk_below (g := gb118) (o := .cells #[.slice none 0 0, .float .f32 0] 31 (0, 0)) (by (with_reducible repeat (first | refine blk_drewN ?_ _ | refine blk_drew ?_ | refine blk_alloc ?_ _)); exact BK118.out) hb); have n4_ := Aside0.mk (below_step (by repeat (first | (with_reducible first | exact HB.out | apply below_alloc | apply pw_below_drewN | apply below_drew1 | refine below_set ?_ GE116.out | refine below_set ?_ GE117.out | refine below_set ?_ GE118.out) | exact HB.out)) hb); clear BK116; clear BK117; clear BK118; clear HB; have HO121 := n0_; have BK116 := n1_; have BK117 := n2_; have BK118 := n3_; have HB := n4_; clear n0_ n1_ n2_ n3_ n4_; (try clear hb); (try clear hb2); (try clear hk); (try clear hi); (try clear ho0); obtain ⟨Ao10, co10, eo10⟩ := Kd.R_slice HO121.out; subst eo10; have hnb11 := NB118_117.out; have hnc11 := NB117_118.out; have hcz12_0 : w9.cell? ⟨gb118, 0, none⟩ = some (.slice none 0 0) := (blk_cell BK118.out 0).trans rfl; have hcz12_1 : w9.cell? ⟨gb118, 1, none⟩ = some (.float .f32 0) := (blk_cell BK118.out 1).trans rfl; have hfz12_0 := blk_frozen BK118.out 0; have hfz12_1 := blk_frozen BK118.out 1; have hcz13_0 : w9.cell? ⟨gb116, 0, none⟩ = some (.slice A0_0 l0_0.length c0_0) := (blk_cell BK116.out 0).trans rfl; have hcz13_1 : w9.cell? ⟨gb116, 1, none⟩ = some (.float .f32 a0_1) := (blk_cell BK116.out 1).trans rfl; have hfz13_0 := blk_frozen BK116.out 0; have hfz13_1 := blk_frozen BK116.out 1; have hcz14_0 : w9.cell? ⟨gb117, 0, none⟩ = some (.slice none 0 0) := (blk_cell BK117.out 0).trans rfl; have hcz14_1 : w9.cell? ⟨gb117, 1, none⟩ = some (.float .f32 0) := (blk_cell BK117.out 1).trans rfl; have hfz14_0 := blk_frozen BK117.out 0; have hfz14_1 := blk_frozen BK117.out 1))
  refine bodyPost_ret (results_cell_row rfl _ _ gb117 31 #[.slice Ao10 t119.length co10, .float .f32 a0_1] (0, 0) _ rfl (by (with_reducible repeat (first | refine blk_drewN ?_ _ | refine blk_drew ?_ | refine blk_alloc ?_ _)); refine blk_put (cs := #[.slice Ao10 t119.length co10, .float .f32 0]) ?_ 1 _ rfl; (with_reducible repeat (first | refine blk_drewN ?_ _ | refine blk_drew ?_ | refine blk_alloc ?_ _)); refine blk_put (cs := #[.slice none 0 0, .float .f32 0]) ?_ 0 _ rfl; (with_reducible repeat (first | refine blk_drewN ?_ _ | refine blk_drew ?_ | refine blk_alloc ?_ _)); refine blk_far ?_ NB117_118.out _; (with_reducible repeat (first | refine blk_drewN ?_ _ | refine blk_drew ?_ | refine blk_alloc ?_ _)); refine blk_far ?_ NB117_118.out _; (with_reducible repeat (first | refine blk_drewN ?_ _ | refine blk_drew ?_ | refine blk_alloc ?_ _)); exact BK117.out) Try.underlying31 rfl (by kernel_rfl)) rfl ?_
  exact ⟨_, by first | rfl | (simp [errW_none, errW_some] <;> rfl) | (simp [*, errW_none, errW_some] <;> rfl), by (with_reducible repeat (first | apply Kd.R_alloc | apply Kd.R_drewN | apply Kd.R_drew)); exact Kd.R_mono (Kd.R_far (p := ⟨gb117, 1, none⟩) (Kd.R_far (p := ⟨gb117, 0, none⟩) (Kd.R_far (p := ⟨gb118, 1, none⟩) (Kd.R_far (p := ⟨gb118, 0, none⟩) (Kd.R_types (Kd.R_types HO121.out BK118.out (by decide)) BK117.out (by decide)) (fun _ hk => hk.1.2) (.slice Ao10 t119.length co10)) (fun _ hk => hk.1.2) (.float .f32 a0_1)) (fun _ hk => hk.2) (.slice Ao10 t119.length co10)) (fun _ hk => hk.2) (.float .f32 a0_1)) (fun _ hk => trivial), by repeat (first | (with_reducible first | exact HB.out | apply below_alloc | apply pw_below_drewN | apply below_drew1 | refine below_set ?_ GE116.out | refine below_set ?_ GE117.out | refine below_set ?_ GE118.out) | exact HB.out)⟩
end Go.Proofs.Ytffofpiejcolfaa.L3
end
section
namespace Go.Proofs.Ytffofpiejcolfaa.L3
open Go.Proofs.Ytffofpiejcolfaa.L0
open Go.RowKit Go.Proofs.YtffofpiejcolfaaW.PrintWords Go.Proofs.YtffofpiejcolfaaW.PrintLast Go.Proofs.YtffofpiejcolfaaW.PrintMore
attribute [local go_sem] max2_int min2_int max_two min_two max_three min_three max_four min_four
set_option linter.unusedVariables false
set_option linter.unusedSimpArgs false
end Go.Proofs.Ytffofpiejcolfaa.L3
end
section
namespace Go.Proofs.Ytffofpiejcolfaa.L5
open Go.Proofs.Ytffofpiejcolfaa.L0 Go.Proofs.Ytffofpiejcolfaa.L3
open Go.RowKit Go.Proofs.YtffofpiejcolfaaW.PrintWords Go.Proofs.YtffofpiejcolfaaW.PrintLast Go.Proofs.YtffofpiejcolfaaW.PrintMore
attribute [local go_sem] max2_int min2_int max_two min_two max_three min_three max_four min_four
set_option linter.unusedVariables false
set_option linter.unusedSimpArgs false
def errW : Option Int → Value
  | none => .nilIface
  | some c => .iface 0 (.int .i64 c)
theorem errW_none : errW none = .nilIface := rfl
theorem errW_some (c : Int) : errW (some c) = .iface 0 (.int .i64 c) := rfl
end Go.Proofs.Ytffofpiejcolfaa.L5
end
