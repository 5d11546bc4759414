/- The link of two threads: the program's loops and the reference's, up to a NaN's bits. -/
import Derived.Test.YtffofpiejcolfaaXE2
import Derived.Laws.BitsAllLaws
set_option linter.unusedVariables false
set_option linter.unusedSimpArgs false
namespace Go.Proofs.Ytffofpiejcolfaa
open Go.RowKit Go.Proofs.YtffofpiejcolfaaW.PrintWords Go.Proofs.YtffofpiejcolfaaW.PrintLast Go.Proofs.YtffofpiejcolfaaW.PrintMore
attribute [local go_sem] max2_int min2_int max_two min_two max_three min_three max_four min_four   -- for this text's walks alone
namespace XK
open XF XL XC XY XE XN L0
theorem order_E {x b y : Nat} (h : E x b) : FloatKind.f32.format.order b y = FloatKind.f32.format.order x y := by
  rcases h with rfl | h
  · rfl
  · rw [order_nan_l h.1, order_nan_l h.2]
theorem fin_nan {x : Nat} (h : isn .f32 x = true) : fin x = false := by
  unfold fin
  rw [fb_l h]
theorem fin_E {x b : Nat} (h : E x b) : fin b = fin x := by
  rcases h with rfl | h
  · rfl
  · rw [fin_nan h.1, fin_nan h.2]
theorem E_fin {x b : Nat} (h : E x b) (hf : fin x = true) : b = x := by
  rcases h with h | h
  · exact h
  · rw [fin_nan h.1] at hf
    cases hf
theorem E_gt {x b y : Nat} {o : Ordering} (h : E x b) (hf : (FloatKind.f32.format.order x y == some o) = true) : b = x := by
  rcases h with h | h
  · exact h
  · rw [order_nan_l h.1] at hf
    cases hf
theorem gt_is {x : Nat} (h : (FloatKind.f32.format.order x 0 == some .gt) = true) : Is false (FloatKind.f32.format.read x) := by
  have h0 : FloatKind.f32.format.read 0 = .number false 0 (-149) := by decide
  unfold Ieee.Format.order at h
  rw [h0] at h
  cases hx : FloatKind.f32.format.read x with
  | nan s f => rw [hx] at h; cases h
  | infinity s =>
    rw [hx] at h
    cases s
    · exact .inr rfl
    · cases h
  | number s m e =>
    rw [hx] at h
    cases s
    · exact .inl ⟨m, e, rfl⟩
    · exfalso
      have hz : ∀ k : Nat, Ieee.signed false 0 k = 0 := fun k => by simp [Ieee.signed]
      have hn : ∀ k : Nat, Ieee.signed true m k ≤ 0 := fun k => by
        show -((m <<< k : Nat) : Int) ≤ 0
        have := Int.natCast_nonneg (m <<< k)
        omega
      simp only [Ieee.Datum.order, beq_iff_eq, Option.some.injEq, hz] at h
      rw [Int.compare_eq_gt] at h
      have := hn (e - min e (-149)).toNat
      omega
set_option maxHeartbeats 4000000 in
set_option maxRecDepth 100000 in
theorem segE64 (ad : Addr) (A : Option Addr) (c : Nat) (l : List S46) (i j : Nat) (w : World) (f0 : w.cell? ad = some (.slice A l.length c)) (hle : l.length ≤ c) (hC : Kd.C k46 w A l.length l) (hi : i < l.length) (hj : (i + 1) % l.length = j) (x y : S46) (hx : rd_T46 l (i : Int) = x) (hy : rd_T46 l (j : Int) = y) :
    Calls Try.prog 64 #[.pointer (some ad), .int .i64 (i : Int)] w fun e w' => ∃ d, e = .returned (vv d) ∧ EV (opV .sub y x) d ∧ Below w.heap.size w w' := by
  have hmx : l.length ≤ 9223372036854775807 := Kd.C_max hC
  obtain ⟨ae, rfl, hx_0, hx_1, hx_2⟩ := at_T46 hC (i : Int) (by omega) (by omega)
  rw [Int.toNat_natCast, hx] at hx_0 hx_1 hx_2
  have hbk : ad.block < w.heap.size := World.block_lt_of_cell? w _ f0
  have hb_0 := World.block_lt_of_cell? w _ hx_0
  have hb_1 := World.block_lt_of_cell? w _ hx_1
  have hb_2 := World.block_lt_of_cell? w _ hx_2
  have hilI : (i : Int) < (l.length : Int) := by omega
  have hB := below_alloc (Below.refl w.heap.size w) (.cells #[.float .f32 0, .float .f32 0, .float .f32 0] 46 (0, 0))
  have g0 := f0
  have gx_0 := hx_0
  have gx_1 := hx_1
  have gx_2 := hx_2
  replace f0 := (hB.cell hbk).trans f0
  replace hx_0 := (hB.cell hb_0).trans hx_0
  replace hx_1 := (hB.cell hb_1).trans hx_1
  replace hx_2 := (hB.cell hb_2).trans hx_2
  go_enter Try.func64, Try.ntmps64
  go_wp2
  refine start_ (n := 12) (S := fun w' => w'.cell? ad = some (.slice (some ae) l.length c) ∧ w'.cell? (ae.add (i * 3)) = some (.float .f32 x.f0) ∧ w'.cell? ⟨(ae.add (i * 3)).block, (ae.add (i * 3)).off + 1, none⟩ = some (.float .f32 x.f1) ∧ w'.cell? ⟨(ae.add (i * 3)).block, (ae.add (i * 3)).off + 2, none⟩ = some (.float .f32 x.f2)) (ds := [11]) #[false, false, false, false, false, false, false, false, false, false, false, false] (by kernel_rfl) rfl rfl ⟨f0, hx_0, hx_1, hx_2⟩ (fun hHeld => ?_)
  refine pure_ (i := 0) (N := some 5) (v := ?_) (a' := ?_) #[true, false, false, false, false, false, false, false, false, false, false, false] rfl rfl (by kernel_rfl) (fun _ _ _ h => h) (Or.inl ⟨by rfl, ?_⟩) ?_ ?_
  rotate_left
  · intro w'
    go_simp
    with_reducible rfl
  rotate_left
  · simp only [Act.put, List.setIfInBounds_toArray, List.set_cons_zero, List.set_cons_succ, i64_w, i32_w]
    rfl
  refine pure_ (i := 1) (N := some 6) (v := ?_) (a' := ?_) #[true, true, false, false, false, false, false, false, false, false, false, false] rfl rfl (by kernel_rfl) (fun _ _ _ h => h) (Or.inl ⟨by rfl, ?_⟩) ?_ ?_
  rotate_left
  · intro w'
    go_simp
    with_reducible rfl
  rotate_left
  · simp only [Act.put, List.setIfInBounds_toArray, List.set_cons_zero, List.set_cons_succ, i64_w, i32_w]
    rfl
  refine pure_ (i := 3) (N := some 8) (v := ?_) (a' := ?_) #[true, true, false, true, false, false, false, false, false, false, false, false] rfl rfl (by kernel_rfl) (fun _ _ _ h => h) (Or.inl ⟨by rfl, ?_⟩) ?_ ?_
  rotate_left
  · intro w'
    go_simp
    with_reducible rfl
  rotate_left
  · simp only [Act.put, List.setIfInBounds_toArray, List.set_cons_zero, List.set_cons_succ, i64_w, i32_w]
    rfl
  refine pure_ (i := 4) (N := some 9) (v := ?_) (a' := ?_) #[true, true, false, true, true, false, false, false, false, false, false, false] rfl rfl (by kernel_rfl) (fun _ _ _ h => h) (Or.inl ⟨by rfl, ?_⟩) ?_ ?_
  rotate_left
  · intro w'
    go_simp
    with_reducible rfl
  rotate_left
  · simp only [Act.put, List.setIfInBounds_toArray, List.set_cons_zero, List.set_cons_succ, i64_w, i32_w]
    rfl
  refine pure_ (i := 5) (N := some 10) (v := ?_) (a' := ?_) #[true, true, false, true, true, true, false, false, false, false, false, false] rfl rfl (by kernel_rfl) (fun _ _ _ h => h) (Or.inl ⟨by rfl, ?_⟩) ?_ ?_
  rotate_left
  · intro w'
    go_simp
    with_reducible rfl
  rotate_left
  · simp only [Act.put, List.setIfInBounds_toArray, List.set_cons_zero, List.set_cons_succ, i64_w, i32_w]
    rfl
  refine pure_ (i := 7) (N := some 12) (v := ?_) (a' := ?_) #[true, true, false, true, true, true, false, true, false, false, false, false] rfl rfl (by kernel_rfl) (fun _ _ _ h => h) (Or.inl ⟨by rfl, ?_⟩) ?_ ?_
  rotate_left
  · intro w'
    go_simp
    with_reducible rfl
  rotate_left
  · simp only [Act.put, List.setIfInBounds_toArray, List.set_cons_zero, List.set_cons_succ, i64_w, i32_w]
    rfl
  refine take_ (i := 6) (N := some 11) (v := ?_) (a' := ?_) #[true, true, false, true, true, true, true, true, false, false, false, false] rfl rfl (by kernel_rfl) (fun _ _ _ h => h) (Or.inl ⟨by rfl, ?_⟩) hHeld ?_ ?_
  rotate_left
  · rintro w' ⟨s0, s1, s2, s3⟩
    go_simp
    with_reducible rfl
  rotate_left
  · simp only [Act.put, List.setIfInBounds_toArray, List.set_cons_zero, List.set_cons_succ, i64_w, i32_w]
    rfl
  refine pure_ (i := 8) (N := some 13) (v := ?_) (a' := ?_) #[true, true, false, true, true, true, true, true, true, false, false, false] rfl rfl (by kernel_rfl) (fun _ _ _ h => h) (Or.inl ⟨by rfl, ?_⟩) ?_ ?_
  rotate_left
  · intro w'
    go_simp
    with_reducible rfl
  rotate_left
  · simp only [Act.put, List.setIfInBounds_toArray, List.set_cons_zero, List.set_cons_succ, i64_w, i32_w]
    rfl
  refine take_ (i := 9) (N := some 14) (v := ?_) (a' := ?_) #[true, true, false, true, true, true, true, true, true, true, false, false] rfl rfl (by kernel_rfl) (fun _ _ _ h => h) (Or.inl ⟨by rfl, ?_⟩) hHeld ?_ ?_
  rotate_left
  · rintro w' ⟨s0, s1, s2, s3⟩
    go_simp
    with_reducible rfl
  rotate_left
  · simp only [Act.put, List.setIfInBounds_toArray, List.set_cons_zero, List.set_cons_succ, i64_w, i32_w]
    rfl
  refine one_ (i := 2) (N := some 7) #[true, true, true, true, true, true, true, true, true, true, false, false] rfl rfl (by kernel_rfl) (by decide) (fun K hK => ?_)
  refine goes_ Try.func109 (by kernel_rfl) rfl #[.pointer (some ad), .int .i64 (i : Int)] (by rfl) rfl rfl (by (try simp only [List.map_toArray, List.map_cons, List.map_nil]); first | done | rfl) ?_
  refine (next109 ad (some ae) c l i j (w.alloc (.cells #[.float .f32 0, .float .f32 0, .float .f32 0] 46 (0, 0))).drew f0 hle (Kd.C_below hC (below_drew1 hB)) hi hj y hy).mono ?_
  rintro e w1 ⟨rfl, hb1⟩
  refine ⟨_, rfl, ?_⟩
  have HB1 := Aside0.mk (below_step (below_drew1 hB) hb1)
  have BK1 := blk_below (g := w.heap.size) (o := .cells #[.float .f32 0, .float .f32 0, .float .f32 0] 46 (0, 0)) (blk_drew (heap_alloc_new w _)) hb1
  clear hb1
  refine hK.out _ _ ⟨cell_b HB1.out g0, cell_b HB1.out gx_0, cell_b HB1.out gx_1, cell_b HB1.out gx_2⟩ (fun hHeld1 => ?_)
  clear hK K
  refine norm_ (a' := ?_) ?_ ?_
  rotate_left
  · show Act.put _ (some 7) _ = _
    simp only [Act.put, List.setIfInBounds_toArray, List.set_cons_zero, List.set_cons_succ]
    rfl
  refine one_ (i := 10) (N := some 15) #[true, true, true, true, true, true, true, true, true, true, true, false] rfl rfl (by kernel_rfl) (by decide) (fun K hK => ?_)
  refine goes_ Try.func60 (by kernel_rfl) rfl #[.agg #[.float .f32 y.f0, .float .f32 y.f1, .float .f32 y.f2], .agg #[.float .f32 x.f0, .float .f32 x.f1, .float .f32 x.f2]] (by rfl) rfl rfl (by (try simp only [List.map_toArray, List.map_cons, List.map_nil]); first | done | rfl) ?_
  refine (less60 y x y x (EV.refl y) (EV.refl x) _).mono ?_
  rintro e w2 ⟨d, rfl, hd, hb2⟩
  refine ⟨_, rfl, ?_⟩
  have HB2 := Aside0.mk (below_step HB1.out hb2)
  have BK2 := blk_below (g := w.heap.size) (o := .cells #[.float .f32 0, .float .f32 0, .float .f32 0] 46 (0, 0)) BK1 hb2
  clear hb2
  refine hK.out _ _ ⟨cell_b HB2.out g0, cell_b HB2.out gx_0, cell_b HB2.out gx_1, cell_b HB2.out gx_2⟩ (fun hHeld2 => ?_)
  clear hK K
  refine norm_ (a' := ?_) ?_ ?_
  rotate_left
  · show Act.put _ (some 15) _ = _
    simp only [Act.put, List.setIfInBounds_toArray, List.set_cons_zero, List.set_cons_succ]
    rfl
  have hcz_0 : w2.cell? ⟨w.heap.size, 0, none⟩ = some (.float .f32 0) := (blk_cell BK2 0).trans rfl
  have hcz_1 : w2.cell? ⟨w.heap.size, 1, none⟩ = some (.float .f32 0) := (blk_cell BK2 1).trans rfl
  have hcz_2 : w2.cell? ⟨w.heap.size, 2, none⟩ = some (.float .f32 0) := (blk_cell BK2 2).trans rfl
  have hfz_0 := blk_frozen BK2 0
  have hfz_1 := blk_frozen BK2 1
  have hfz_2 := blk_frozen BK2 2
  refine last_ (i := 11) (N := none) #[true, true, true, true, true, true, true, true, true, true, true, true] rfl rfl (by kernel_rfl) (by decide) (fun K hK => ?_)
  refine skip_ (w1 := ?_) (by rfl) rfl ?_ ?_
  rotate_left
  · go_simp
    rfl
  refine hK.out _ _ ?_
  clear hK K
  refine done_ (by kernel_rfl) ?_
  go_wp2
  refine bodyPost_ret (results_cell_row rfl _ _ w.heap.size 46 #[.float .f32 d.f0, .float .f32 d.f1, .float .f32 d.f2] (0, 0) _ rfl (by
    refine blk_put (cs := #[.float .f32 d.f0, .float .f32 d.f1, .float .f32 0]) ?_ 2 _ rfl
    refine blk_put (cs := #[.float .f32 d.f0, .float .f32 0, .float .f32 0]) ?_ 1 _ rfl
    refine blk_put (cs := #[.float .f32 0, .float .f32 0, .float .f32 0]) ?_ 0 _ rfl
    exact BK2) Try.underlying46 rfl (by kernel_rfl)) rfl ?_
  exact ⟨d, rfl, hd, below_set (below_set (below_set HB2.out (Nat.le_refl _)) (Nat.le_refl _)) (Nat.le_refl _)⟩
/-- A float operation in a region that draws its order. -/
theorem ar_ {P : Program} {ops : Array Oper} {Q : Exit → Act → World → Prop} {oi : Oper} {N : Option Tmp} {a : Act} {w : World} {K : Act → World → Prop} (op : BinOp) (tx ty : TypeId) (u v : Operand) (ho : oi.op = .binOp op tx u v ty) (hop : arith op) (b c : Nat) (hu : a.eval u = .float .f32 b) (hv : a.eval v = .float .f32 c) {x y : Nat} (hx : E x b) (hy : E y c)
    (hw : Region.wanted oi (yielded ops a.tmps) = true) (hN : oi.dst = N) (h : ∀ d n, E (ar op x y) d → K (a.put N (.float .f32 d)) (w.drewN n)) : if Region.wanted oi (yielded ops a.tmps) = true then Oper.wp P oi a w K Q else K (a.put N undef) w := by
  obtain ⟨d, n, hr, hc⟩ := run_ar (P := P) w op hop tx hx hy
  have hg : ∀ p q : Value, (eqGuard op tx u v p q).run P w = .ok () w := by
    intro p q
    rcases hop with rfl | rfl | rfl | rfl <;> rfl
  refine value_ hw hN (v := .float .f32 d) (w1 := w.drewN n) ?_ (h d n hc)
  unfold execOp
  simp only [ho, Sem.run_bind, hu, hv, hg, hr, Result.andThen_ok, Sem.run_pure]
def iter (f : Nat → Nat → Nat) : Nat → Nat → Nat → Nat
  | 0, _, acc => acc
  | k + 1, i, acc => iter f k (i + 1) (f i acc)
/-- The root of a number above nought. -/
def rt (q : Nat) : Nat := (impl_RootNumber.f q).getD 0
def stepL (m d n e : S46) (acc : Nat) : Nat :=
  if (FloatKind.f32.format.order (inV (opV .sub m n) (opV .sub m n)) 0 == some .gt) = true then ar .add acc (ar .quo (inV (opV .sub m n) (crossV d e)) (ar .mul (inV (opV .sub m n) (opV .sub m n)) (rt (inV (opV .sub m n) (opV .sub m n))))) else acc
def pt (l : List S46) (i : Nat) : S46 := rd_T46 l (i : Int)
def nx (l : List S46) (i : Nat) : S46 := rd_T46 l (((i + 1) % l.length : Nat) : Int)
def mid (l : List S46) (i : Nat) : S46 := midV (pt l i) (nx l i)
def seg (l : List S46) (i : Nat) : S46 := opV .sub (nx l i) (pt l i)
def rowL (l1 l2 : List S46) (i acc : Nat) : Nat := iter (fun k acc => stepL (mid l1 i) (seg l1 i) (mid l2 k) (seg l2 k) acc) l2.length 0 acc
def sumL (l1 l2 : List S46) : Nat := iter (rowL l1 l2) l1.length 0 0
/-- To the nearest whole number, of 64 bits; as an integer. -/
def rnd (b : Nat) : Nat := FloatKind.f64.encode ((FloatKind.f64.decode b).integral .even)
def toI (x : Nat) : Option Int := (floatToFloatBits .f32 x .f64).bind fun b => floatToIntVal .f64 (rnd b) .i64
theorem wpList_toint {P : Program} {ops : Array Oper} {rest : List Oper} {o : Oper} {a : Act} {w : World} {Q : Exit → Act → World → Prop} (hgd : o.guard = none) (src dst : TypeId) (x : Operand) (ho : o.op = .convert src dst x)
    (hs : (P.underlying src).isSome = true) (hd : P.underlying dst = some (.int .i64)) (b : Nat) (hx : a.eval x = .float .f64 b) (n : Int) (hn : floatToIntVal .f64 b .i64 = some n)
    (h : wpList P ops Q rest (a.put o.dst (.int .i64 n)) w) : wpList P ops Q (o :: rest) a w := by
  refine wpList_plain hgd fun K hK => ?_
  have hr := run_convert_float_int (P := P) w src dst .f64 .i64 b n hs hd hn
  unfold Oper.wp execOp
  simp only [ho, Sem.run_bind, hx, hr, Result.andThen_ok, Sem.run_pure]
  exact hK _ _ h
theorem run_round (P : Program) (w : World) (b : Nat) (h : isn .f64 b = false) : (Extern.MathFloor.toIntegral "math.RoundToEven" .even #[.float .f64 b]).run P w = .ok (.float .f64 (rnd b)) w := by
  unfold isn at h
  have key : ∀ d : Ieee.Datum, d.isNaN = false → (match d with
      | .nan s t =>
        if FloatKind.f64.format.quiet t = t then pure (Value.float .f64 b) else do
        let kept ← choose (.extern "math.Floor,Ceil,Trunc,RoundToEven.signallingNaN kept" 2)
        pure (Value.float .f64 (if kept == 1 then b else FloatKind.f64.encode (.nan s (FloatKind.f64.format.quiet t))))
      | d => (pure (Value.float .f64 (FloatKind.f64.encode (d.integral .even))) : Sem Value)).run P w = .ok (.float .f64 (FloatKind.f64.encode (d.integral .even))) w := by
    intro d hd
    cases d with
    | nan s f => cases hd
    | infinity s => rfl
    | number s m e => rfl
  exact key _ h
/-- The absolute value, by the bits. -/
def absB (b : Nat) : Nat := b % 2147483648
theorem and31 (b : Nat) : b &&& (4294967295 - 2147483648) = b % 2147483648 := Nat.and_two_pow_sub_one_eq_mod b 31
theorem run_from (P : Program) (w : World) (n : Int) : (Extern.MathFloatBits.float32frombits #[.int .u32 n]).run P w = .ok (.float .f32 n.toNat) w := rfl
set_option maxHeartbeats 4000000 in
set_option maxRecDepth 100000 in
theorem abs67 (b : Nat) (hb : b < 4294967296) (w : World) : Calls Try.prog 67 #[.float .f32 b] w fun e w' => e = .returned (.float .f32 (absB b)) ∧ Drawn0 w w' := by
  go_enter Try.func67, Try.ntmps67
  go_wp2
  rw [run_callFunc_extern Try.func112 (by kernel_rfl) (by kernel_rfl) (by kernel_rfl) (e := Extern.MathFloatBits.float32bits) (by kernel_rfl)]
  rw [run_bits]
  simp only [Result.andThen]
  rw [Oper.upon_value]
  go_wp2
  rw [run_callFunc_extern Try.func111 (by kernel_rfl) (by kernel_rfl) (by kernel_rfl) (e := Extern.MathFloatBits.float32frombits) (by kernel_rfl)]
  rw [run_from]
  simp only [Result.andThen]
  rw [Oper.upon_value]
  go_wp2
  go_ret
  have hk : Go.bits .andNot .u32 (b : Int) 2147483648 = ((b % 2147483648 : Nat) : Int) := by
    have h := u32_andNot_nat b 2147483648 hb (by decide)
    rw [and31] at h
    exact h
  rw [hk]
  exact ⟨rfl, Drawn0.refl _⟩
end XK
end Go.Proofs.Ytffofpiejcolfaa
