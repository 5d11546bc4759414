/- The link of two threads, walked: the program's loops and the reference's, up to a NaN's bits. -/
import Derived.Test.YtffofpiejcolfaaXK
set_option linter.unusedVariables false
set_option linter.unusedSimpArgs false
namespace Go.Proofs.Ytffofpiejcolfaa
open Go.RowKit Go.Proofs.YtffofpiejcolfaaW.PrintWords Go.Proofs.YtffofpiejcolfaaW.PrintLast Go.Proofs.YtffofpiejcolfaaW.PrintMore
attribute [local go_sem] max2_int min2_int max_two min_two max_three min_three max_four min_four   -- for this text's walks alone
namespace XK
open XF XL XC XY XE XN L0
def tailI (x : Nat) : Option (Nat × Int × Bool) := if fin x = true then (if (FloatKind.f32.format.order (absB x) 1232348160 == some .gt) = true then some (0, 0, false) else (toI x).bind fun n => some (x, n, true)) else some (0, 0, false)
def tailS (x : Nat) : Option (Nat × Int × Bool) := if fin x = true then (if (FloatKind.f32.format.order x 1232348160 == some .gt) = true then some (0, 0, false) else (if (FloatKind.f32.format.order x 3379831808 == some .lt) = true then some (0, 0, false) else (toI x).bind fun n => some (x, n, true))) else some (0, 0, false)
def linkX (l1 l2 : List S46) : Nat := ar .quo (sumL l1 l2) 1095307227
def impl_Link.f (l0_0 : List S46) (a0_1 : Nat) (l1_0 : List S46) (a1_1 : Nat) : Option (Nat × Int × Bool) := if isThread l0_0 a0_1 = true then (if isThread l1_0 a1_1 = true then tailI (linkX l0_0 l1_0) else some (0, 0, false)) else some (0, 0, false)
def spec_Link.f (l0_0 : List S46) (a0_1 : Nat) (l1_0 : List S46) (a1_1 : Nat) : Option (Nat × Int × Bool) := if isThread l0_0 a0_1 = true then (if isThread l1_0 a1_1 = true then tailS (linkX l0_0 l1_0) else some (0, 0, false)) else some (0, 0, false)
theorem ar_lt (op : BinOp) (x y : Nat) : ar op x y < 4294967296 := by
  unfold ar
  cases h : floatBits op .f32 x y with
  | none => decide
  | some r =>
    have := floatBits_wf h
    simpa [Lit.wf] using this
theorem heap_two (w : World) (o1 o2 : Obj) : ((w.alloc o1).alloc o2).heap[w.heap.size + 1]? = some o2 := by
  have := heap_alloc_new (w.alloc o1) o2
  simpa using this
theorem cok_of {s k : FloatKind} {x r : Nat} (h : floatToFloatBits s x k = some r) : cok s x k = true ∧ cvt s x k = r := by
  unfold cok cvt
  rw [h]
  exact ⟨rfl, rfl⟩
theorem root_both {a : Nat} (h : Is false (FloatKind.f32.format.read a)) : ∃ r, impl_RootNumber.f a = some r ∧ spec_l01Sqrt.f a = some r ∧ Is false (FloatKind.f32.format.read r) := by
  obtain ⟨b, h1, h2⟩ := wide h
  obtain ⟨c, h3, h4⟩ := root_ok h2
  obtain ⟨r, h5, h6⟩ := narrow_ok h4
  refine ⟨r, ?_, ?_, h6⟩
  · unfold impl_RootNumber.f XR.Sqrt.f
    rw [if_pos (cok_of h1).1, (cok_of h1).2, h3]
    simp only [Option.bind_some]
    rw [if_pos (cok_of h5).1, (cok_of h5).2]
  · unfold spec_l01Sqrt.f XR.Sqrt.f spec_l01Narrow.f
    rw [if_pos (cok_of h1).1, (cok_of h1).2, h3]
    simp only [Option.bind_some]
    rw [if_pos (cok_of h5).1, (cok_of h5).2]
    rfl
set_option maxHeartbeats 4000000 in
set_option maxRecDepth 100000 in
theorem impl_Link.calls (A0_0 : Option Addr) (c0_0 : Nat) (l0_0 : List S46) (a0_1 : Nat) (A1_0 : Option Addr) (c1_0 : Nat) (l1_0 : List S46) (a1_1 : Nat) (r1 : Nat) (r2 : Int) (r3 : Bool) (w : World) (hr0_0 : Kd.C k46 w A0_0 l0_0.length l0_0) (hc0_0 : l0_0.length ≤ c0_0) (hr1_0 : Kd.C k46 w A1_0 l1_0.length l1_0) (hc1_0 : l1_0.length ≤ c1_0) (h : impl_Link.f l0_0 a0_1 l1_0 a1_1 = some (r1, r2, r3)) :
    Calls Try.prog 20 #[.agg #[.slice A0_0 l0_0.length c0_0, .float .f32 a0_1], .agg #[.slice A1_0 l1_0.length c1_0, .float .f32 a1_1]] w fun e w' => e = .returned (.tuple #[.float .f32 r1, .int .i64 r2, .bool r3]) ∧ Below w.heap.size w w' := by
  have g1 : ((w.alloc (.cells #[.slice A0_0 l0_0.length c0_0, .float .f32 a0_1] 31)).alloc (.cells #[.slice A1_0 l1_0.length c1_0, .float .f32 a1_1] 31)).cell? ⟨w.heap.size, 0, none⟩ = some (.slice A0_0 l0_0.length c0_0) := (blk_cell (blk_alloc (heap_alloc_new w (.cells #[.slice A0_0 l0_0.length c0_0, .float .f32 a0_1] 31)) (.cells #[.slice A1_0 l1_0.length c1_0, .float .f32 a1_1] 31)) 0).trans rfl
  have g2 : ((w.alloc (.cells #[.slice A0_0 l0_0.length c0_0, .float .f32 a0_1] 31)).alloc (.cells #[.slice A1_0 l1_0.length c1_0, .float .f32 a1_1] 31)).cell? ⟨w.heap.size, 1, none⟩ = some (.float .f32 a0_1) := (blk_cell (blk_alloc (heap_alloc_new w (.cells #[.slice A0_0 l0_0.length c0_0, .float .f32 a0_1] 31)) (.cells #[.slice A1_0 l1_0.length c1_0, .float .f32 a1_1] 31)) 1).trans rfl
  have g3 : ((w.alloc (.cells #[.slice A0_0 l0_0.length c0_0, .float .f32 a0_1] 31)).alloc (.cells #[.slice A1_0 l1_0.length c1_0, .float .f32 a1_1] 31)).cell? ⟨w.heap.size + 1, 0, none⟩ = some (.slice A1_0 l1_0.length c1_0) := (blk_cell (heap_two w (.cells #[.slice A0_0 l0_0.length c0_0, .float .f32 a0_1] 31) (.cells #[.slice A1_0 l1_0.length c1_0, .float .f32 a1_1] 31)) 0).trans rfl
  have g4 : ((w.alloc (.cells #[.slice A0_0 l0_0.length c0_0, .float .f32 a0_1] 31)).alloc (.cells #[.slice A1_0 l1_0.length c1_0, .float .f32 a1_1] 31)).cell? ⟨w.heap.size + 1, 1, none⟩ = some (.float .f32 a1_1) := (blk_cell (heap_two w (.cells #[.slice A0_0 l0_0.length c0_0, .float .f32 a0_1] 31) (.cells #[.slice A1_0 l1_0.length c1_0, .float .f32 a1_1] 31)) 1).trans rfl
  have hC1 := Kd.C_alloc (Kd.C_alloc hr0_0 (.cells #[.slice A0_0 l0_0.length c0_0, .float .f32 a0_1] 31)) (.cells #[.slice A1_0 l1_0.length c1_0, .float .f32 a1_1] 31)
  have hC2 := Kd.C_alloc (Kd.C_alloc hr1_0 (.cells #[.slice A0_0 l0_0.length c0_0, .float .f32 a0_1] 31)) (.cells #[.slice A1_0 l1_0.length c1_0, .float .f32 a1_1] 31)
  have HBW := Aside0.mk (below_alloc (below_alloc (Below.refl w.heap.size w) (.cells #[.slice A0_0 l0_0.length c0_0, .float .f32 a0_1] 31)) (.cells #[.slice A1_0 l1_0.length c1_0, .float .f32 a1_1] 31))
  have hmx1 : l0_0.length ≤ 9223372036854775807 := Kd.C_max hr0_0
  have hmx2 : l1_0.length ≤ 9223372036854775807 := Kd.C_max hr1_0
  clear hr0_0 hr1_0
  have C1 := Aside0.mk hC1
  have C2 := Aside0.mk hC2
  clear hC1 hC2
  have G1 := Aside0.mk g1
  have G2 := Aside0.mk g2
  have G3 := Aside0.mk g3
  have G4 := Aside0.mk g4
  clear g1 g2 g3 g4
  unfold impl_Link.f at h
  cases e1 : isThread l0_0 a0_1 with
  | false =>
    rw [e1, if_neg (by decide)] at h
    obtain ⟨rfl, rfl, rfl⟩ : 0 = r1 ∧ (0 : Int) = r2 ∧ false = r3 := by simpa using h
    have E1 : IsThread.f l0_0 a0_1 = some false := congrArg some e1
    go_enter Try.func20, Try.ntmps20
    go_wp2_with (first | (go_at_call 45; (with_reducible refine (IsThread.calls A0_0 c0_0 l0_0 a0_1 _ _ C1.out hc0_0 E1).mono ?_); rintro e w1 ⟨rfl, hb1⟩; have H1 := Aside0.mk hb1; clear hb1; have f3 := cell_b H1.out G3.out; have f4 := cell_b H1.out G4.out))
    go_ret3
    exact ⟨rfl, below_step HBW.out H1.out⟩
  | true =>
    rw [e1, if_pos rfl] at h
    have E1 : IsThread.f l0_0 a0_1 = some true := congrArg some e1
    cases e2 : isThread l1_0 a1_1 with
    | false =>
      rw [e2, if_neg (by decide)] at h
      obtain ⟨rfl, rfl, rfl⟩ : 0 = r1 ∧ (0 : Int) = r2 ∧ false = r3 := by simpa using h
      have E2 : IsThread.f l1_0 a1_1 = some false := congrArg some e2
      go_enter Try.func20, Try.ntmps20
      go_wp2_with (first | (go_at_call 45; (with_reducible refine (IsThread.calls A0_0 c0_0 l0_0 a0_1 _ _ C1.out hc0_0 E1).mono ?_); rintro e w1 ⟨rfl, hb1⟩; have H1 := Aside0.mk hb1; clear hb1; have f3 := cell_b H1.out G3.out; have f4 := cell_b H1.out G4.out) | (go_at_call 45; (with_reducible refine (IsThread.calls A1_0 c1_0 l1_0 a1_1 _ _ (Kd.C_below C2.out H1.out) hc1_0 E2).mono ?_); rintro e w2 ⟨rfl, hb2⟩; have H2 := Aside0.mk (below_step H1.out hb2); clear hb2 f3 f4; have f1 := cell_b H2.out G1.out; have f3 := cell_b H2.out G3.out))
      go_ret3
      exact ⟨rfl, below_step HBW.out H2.out⟩
    | true =>
      rw [e2, if_pos rfl] at h
      have E2 : IsThread.f l1_0 a1_1 = some true := congrArg some e2
      have HT := Aside0.mk h
      clear h
      have q0 : (Try.prog.underlying 23).isSome = true := by kernel_rfl
      have q1 := Try.underlying34
      have q2 : (Try.prog.underlying 34).isSome = true := by kernel_rfl
      have q3 := Try.underlying2
      go_enter Try.func20, Try.ntmps20
      go_wp2_with (first | (go_at_call 45; (with_reducible refine (IsThread.calls A0_0 c0_0 l0_0 a0_1 _ _ C1.out hc0_0 E1).mono ?_); rintro e w1 ⟨rfl, hb1⟩; have H1 := Aside0.mk hb1; clear hb1; have f3 := cell_b H1.out G3.out; have f4 := cell_b H1.out G4.out) | (go_at_call 45; (with_reducible refine (IsThread.calls A1_0 c1_0 l1_0 a1_1 _ _ (Kd.C_below C2.out H1.out) hc1_0 E2).mono ?_); rintro e w2 ⟨rfl, hb2⟩; have H2 := Aside0.mk (below_step H1.out hb2); clear hb2 f3 f4; have f1 := cell_b H2.out G1.out; have f3 := cell_b H2.out G3.out))
      go_loopg [7, 23] l0_0.length (fun kq v7 v23 w' => ∃ (i acc a : Nat), v7 = .float .f32 a ∧ v23 = .int .i64 (i : Int) ∧ Aside0 (i + kq = l0_0.length) ∧ Aside0 (E acc a) ∧ Aside0 (iter (rowL l0_0 l1_0) kq i acc = sumL l0_0 l1_0) ∧ Aside0 (Below ((w.alloc (.cells #[.slice A0_0 l0_0.length c0_0, .float .f32 a0_1] 31)).alloc (.cells #[.slice A1_0 l1_0.length c1_0, .float .f32 a1_1] 31)).heap.size ((w.alloc (.cells #[.slice A0_0 l0_0.length c0_0, .float .f32 a0_1] 31)).alloc (.cells #[.slice A1_0 l1_0.length c1_0, .float .f32 a1_1] 31)) w'))
      case atStart => exact ⟨0, 0, 0, rfl, rfl, ⟨by simp⟩, ⟨E.refl _⟩, ⟨rfl⟩, H2⟩
      case round =>
        clear H1 H2 f1 f3
        obtain ⟨i, acc, a, rfl, rfl, HI, HA, HX, HB⟩ := hrel
        have hi := HI.out
        have f1 := cell_b HB.out G1.out
        have f3 := cell_b HB.out G3.out
        cases gk with
        | zero =>
          have hc : decide ((i : Int) < (l0_0.length : Int)) = false := by simp; omega
          have hx0 := HX.out
          replace hx0 : acc = sumL l0_0 l1_0 := hx0
          subst hx0
          have ha := HA.out
          clear HX
          have hlt : ar .quo (sumL l0_0 l1_0) 1095307227 < 4294967296 := ar_lt _ _ _
          have ht := HT.out
          unfold tailI linkX at ht
          generalize hXX : ar .quo (sumL l0_0 l1_0) 1095307227 = X at ht hlt
          cases hf : fin X with
          | false =>
            rw [hf, if_neg (by decide)] at ht
            obtain ⟨rfl, rfl, rfl⟩ : 0 = r1 ∧ (0 : Int) = r2 ∧ false = r3 := by simpa using ht
            clear ht
            go_wp2_with (first | (refine wpList_ar rfl _ _ _ _ _ rfl arQ _ _ rfl rfl ha (E.refl _) ?_; intro cx nx hcx; rw [hXX] at hcx) | (go_at_call 66; refine (IsFinite.calls _ _ _ rfl).mono ?_; rw [fin_E hcx, hf]; rintro e w1 ⟨rfl, ⟨nd, rfl⟩⟩))
            go_ret3
            exact ⟨rfl, below_step HBW.out (pw_below_drewN HB.out _)⟩
          | true =>
            rw [hf, if_pos rfl] at ht
            cases hg2 : (FloatKind.f32.format.order (absB X) 1232348160 == some .gt) with
            | true =>
              rw [hg2, if_pos rfl] at ht
              obtain ⟨rfl, rfl, rfl⟩ : 0 = r1 ∧ (0 : Int) = r2 ∧ false = r3 := by simpa using ht
              clear ht
              go_wp2_with (first | (refine wpList_ar rfl _ _ _ _ _ rfl arQ _ _ rfl rfl ha (E.refl _) ?_; intro cx nx hcx; rw [hXX] at hcx) | (go_at_call 66; obtain rfl := E_fin hcx hf; refine (IsFinite.calls _ _ _ rfl).mono ?_; rw [hf]; rintro e w1 ⟨rfl, ⟨nd, rfl⟩⟩) | (go_at_call 67; refine (abs67 _ hlt _).mono ?_; rintro e w1 ⟨rfl, ⟨nd2, rfl⟩⟩))
              go_ret3
              exact ⟨rfl, below_step HBW.out (pw_below_drewN HB.out _)⟩
            | false =>
              rw [hg2, if_neg (by decide)] at ht
              obtain ⟨n, hn, ht⟩ := Option.bind_eq_some_iff.1 ht
              obtain ⟨rfl, rfl, rfl⟩ : X = r1 ∧ n = r2 ∧ true = r3 := by simpa using ht
              clear ht
              go_wp2_with (first | (refine wpList_ar rfl _ _ _ _ _ rfl arQ _ _ rfl rfl ha (E.refl _) ?_; intro cx nx hcx; rw [hXX] at hcx) | (go_at_call 66; obtain rfl := E_fin hcx hf; refine (IsFinite.calls _ _ _ rfl).mono ?_; rw [hf]; rintro e w1 ⟨rfl, ⟨nd, rfl⟩⟩) | (go_at_call 67; refine (abs67 _ hlt _).mono ?_; rintro e w1 ⟨rfl, ⟨nd2, rfl⟩⟩) | (refine wpList_conv rfl _ _ _ rfl q0 q1 _ rfl ?_; intro b' nb hcb))
              have hb2 : isn .f32 cx = false ∧ floatToFloatBits .f32 cx .f64 = some b' := by
                rcases hcb with ⟨h1, _⟩ | h1
                · rw [fin_nan h1] at hf
                  cases hf
                · exact h1
              have hni := conv_number hb2.1 hb2.2
              unfold toI at hn
              rw [hb2.2] at hn
              replace hn : floatToIntVal .f64 (rnd b') .i64 = some n := hn
              rw [run_callFunc_extern Try.func59 (by kernel_rfl) (by kernel_rfl) (by kernel_rfl) (e := Extern.MathFloor.toIntegral "math.RoundToEven" .even) (by kernel_rfl)]
              rw [run_round _ _ _ hni]
              simp only [Result.andThen]
              rw [Oper.upon_value]
              go_wp2_with (first | (refine wpList_toint rfl _ _ _ rfl q2 q3 _ rfl n hn ?_))
              go_ret3
              exact ⟨rfl, below_step HBW.out (pw_below_drewN HB.out _)⟩
        | succ k1 =>
          have hil : i < l0_0.length := by omega
          have hc : decide ((i : Int) < (l0_0.length : Int)) = true := by simp; omega
          have hwi : wrap64 ((i : Int) + 1) = ((i + 1 : Nat) : Int) := by unfold wrap64; omega
          have hx0 := HX.out
          replace hx0 : iter (rowL l0_0 l1_0) k1 (i + 1) (rowL l0_0 l1_0 i acc) = sumL l0_0 l1_0 := hx0
          have HX1 := Aside0.mk hx0
          clear hx0 HX
          go_wp2
          go_loopg [7, 29] l1_0.length (fun kq v7 v29 w' => ∃ (k acc2 a2 : Nat), v7 = .float .f32 a2 ∧ v29 = .int .i64 (k : Int) ∧ Aside0 (k + kq = l1_0.length) ∧ Aside0 (E acc2 a2) ∧ Aside0 (iter (fun k acc => stepL (mid l0_0 i) (seg l0_0 i) (mid l1_0 k) (seg l1_0 k) acc) kq k acc2 = rowL l0_0 l1_0 i acc) ∧ Aside0 (Below ((w.alloc (.cells #[.slice A0_0 l0_0.length c0_0, .float .f32 a0_1] 31)).alloc (.cells #[.slice A1_0 l1_0.length c1_0, .float .f32 a1_1] 31)).heap.size ((w.alloc (.cells #[.slice A0_0 l0_0.length c0_0, .float .f32 a0_1] 31)).alloc (.cells #[.slice A1_0 l1_0.length c1_0, .float .f32 a1_1] 31)) w'))
          case atStart => exact ⟨0, acc, a, rfl, rfl, ⟨by simp⟩, HA, ⟨rfl⟩, HB⟩
          case round =>
            clear HB HA f1 f3
            obtain ⟨k, acc2, a2, rfl, rfl, HK, HA2, HY, HB⟩ := hrel
            have hk := HK.out
            have f1 := cell_b HB.out G1.out
            have f3 := cell_b HB.out G3.out
            cases gk with
            | zero =>
              have hck : decide ((k : Int) < (l1_0.length : Int)) = false := by simp; omega
              have hy0 := HY.out
              replace hy0 : acc2 = rowL l0_0 l1_0 i acc := hy0
              subst hy0
              go_wp2
              go_roundg k1
              case measure => omega
              case rel => exact ⟨i + 1, _, a2, rfl, rfl, ⟨by omega⟩, HA2, HX1, HB⟩
            | succ k2 =>
              have hkl : k < l1_0.length := by omega
              have hck : decide ((k : Int) < (l1_0.length : Int)) = true := by simp; omega
              have hwk : wrap64 ((k : Int) + 1) = ((k + 1 : Nat) : Int) := by unfold wrap64; omega
              have hy0 := HY.out
              replace hy0 : iter (fun k acc => stepL (mid l0_0 i) (seg l0_0 i) (mid l1_0 k) (seg l1_0 k) acc) k2 (k + 1) (stepL (mid l0_0 i) (seg l0_0 i) (mid l1_0 k) (seg l1_0 k) acc2) = rowL l0_0 l1_0 i acc := hy0
              have HY1 := Aside0.mk hy0
              clear hy0 HY
              cases hgt : (FloatKind.f32.format.order (inV (opV .sub (mid l0_0 i) (mid l1_0 k)) (opV .sub (mid l0_0 i) (mid l1_0 k))) 0 == some .gt) with
              | false =>
                have HG := Aside0.mk hgt
                clear hgt
                go_wp2_with (first | (go_at_call 61; (with_reducible refine (middle61 ⟨w.heap.size, 0, none⟩ A0_0 c0_0 l0_0 i ((i + 1) % l0_0.length) _ f1 hc0_0 (Kd.C_below C1.out HB.out) hil rfl _ _ rfl rfl).mono ?_); rintro e w3 ⟨m1, rfl, hm1, hb3⟩; have H3 := Aside0.mk (below_step HB.out hb3); have M1 := Aside0.mk hm1; clear hb3 hm1 f1 f3; have f3 := cell_b H3.out G3.out) | (go_at_call 61; (with_reducible refine (middle61 ⟨w.heap.size + 1, 0, none⟩ A1_0 c1_0 l1_0 k ((k + 1) % l1_0.length) _ f3 hc1_0 (Kd.C_below C2.out H3.out) hkl rfl _ _ rfl rfl).mono ?_); rintro e w4 ⟨m2, rfl, hm2, hb4⟩; have H4 := Aside0.mk (below_step H3.out hb4); have M2 := Aside0.mk hm2; clear hb4 hm2 f3) | (go_at_call 60; refine (less60 _ _ m1 m2 M1.out M2.out _).mono ?_; rintro e w5 ⟨d, rfl, hd, hb5⟩; have H5 := Aside0.mk (below_step H4.out hb5); have D := Aside0.mk hd; clear hb5 hd) | (go_at_call 62; refine (inner62 _ _ d d D.out D.out _).mono ?_; rintro e w6 ⟨q, rfl, hq, hb6⟩; have hqg : (FloatKind.f32.format.order q 0 == some .gt) = false := by rw [order_E hq]; exact HG.out))
                go_roundg k2
                case measure => omega
                case rel =>
                  refine ⟨k + 1, _, a2, rfl, rfl, ⟨by omega⟩, HA2, ⟨?_⟩, ⟨below_step (below_alloc H5.out _) hb6⟩⟩
                  have := HY1.out
                  unfold stepL at this
                  rw [HG.out, if_neg (by decide)] at this
                  exact this
              | true =>
                have HG := Aside0.mk hgt
                clear hgt
                go_wp2_with (first | (go_at_call 61; (with_reducible refine (middle61 ⟨w.heap.size, 0, none⟩ A0_0 c0_0 l0_0 i ((i + 1) % l0_0.length) _ f1 hc0_0 (Kd.C_below C1.out HB.out) hil rfl _ _ rfl rfl).mono ?_); rintro e w3 ⟨m1, rfl, hm1, hb3⟩; have H3 := Aside0.mk (below_step HB.out hb3); have M1 := Aside0.mk hm1; clear hb3 hm1 f1 f3; have f3 := cell_b H3.out G3.out) | (go_at_call 61; (with_reducible refine (middle61 ⟨w.heap.size + 1, 0, none⟩ A1_0 c1_0 l1_0 k ((k + 1) % l1_0.length) _ f3 hc1_0 (Kd.C_below C2.out H3.out) hkl rfl _ _ rfl rfl).mono ?_); rintro e w4 ⟨m2, rfl, hm2, hb4⟩; have H4 := Aside0.mk (below_step H3.out hb4); have M2 := Aside0.mk hm2; clear hb4 hm2 f3) | (go_at_call 60; refine (less60 _ _ m1 m2 M1.out M2.out _).mono ?_; rintro e w5 ⟨d, rfl, hd, hb5⟩; have H5 := Aside0.mk (below_step H4.out hb5); have D := Aside0.mk hd; clear hb5 hd) | (go_at_call 62; refine (inner62 _ _ d d D.out D.out _).mono ?_; rintro e w6 ⟨q, rfl, hq, hb6⟩; have hqg : (FloatKind.f32.format.order q 0 == some .gt) = true := by rw [order_E hq]; exact HG.out))
                have p0 := cell_b hb6 ((cell_new w5 #[.float .f32 d.f0, .float .f32 d.f1, .float .f32 d.f2] 46 0).trans rfl)
                have p1 := cell_b hb6 ((cell_new w5 #[.float .f32 d.f0, .float .f32 d.f1, .float .f32 d.f2] 46 1).trans rfl)
                have p2 := cell_b hb6 ((cell_new w5 #[.float .f32 d.f0, .float .f32 d.f1, .float .f32 d.f2] 46 2).trans rfl)
                have H6 := Aside0.mk (below_step (below_alloc H5.out _) hb6)
                clear hb6
                obtain ⟨rr, hrr, _, _⟩ := root_both (gt_is hqg)
                have HRR := Aside0.mk hrr
                have HQ := Aside0.mk hq
                clear hq hrr
                refine start_ (n := 15) (S := fun w' => w'.cell? ⟨w5.heap.size, 0, none⟩ = some (.float .f32 d.f0) ∧ w'.cell? ⟨w5.heap.size, 1, none⟩ = some (.float .f32 d.f1) ∧ w'.cell? ⟨w5.heap.size, 2, none⟩ = some (.float .f32 d.f2)) (ds := []) #[false, false, false, false, false, false, false, false, false, false, false, false, false, false, false] (by kernel_rfl) rfl rfl ⟨p0, p1, p2⟩ (fun hHeld => ?_)
                refine pure_ (i := 0) (N := some 42) (v := ?_) (a' := ?_) #[true, false, false, false, false, false, false, false, false, false, false, false, false, false, false] rfl rfl (by kernel_rfl) (fun _ _ _ h => h) (Or.inl ⟨by rfl, ?_⟩) ?_ ?_
                rotate_left
                · intro w'
                  go_simp
                  with_reducible rfl
                rotate_left
                · simp only [Act.put, List.setIfInBounds_toArray, List.set_cons_zero, List.set_cons_succ, i64_w, i32_w]
                  rfl
                refine pure_ (i := 2) (N := some 44) (v := ?_) (a' := ?_) #[true, false, true, false, false, false, false, false, false, false, false, false, false, false, false] rfl rfl (by kernel_rfl) (fun _ _ _ h => h) (Or.inl ⟨by rfl, ?_⟩) ?_ ?_
                rotate_left
                · intro w'
                  go_simp
                  with_reducible rfl
                rotate_left
                · simp only [Act.put, List.setIfInBounds_toArray, List.set_cons_zero, List.set_cons_succ, i64_w, i32_w]
                  rfl
                refine pure_ (i := 4) (N := some 46) (v := ?_) (a' := ?_) #[true, false, true, false, true, false, false, false, false, false, false, false, false, false, false] rfl rfl (by kernel_rfl) (fun _ _ _ h => h) (Or.inl ⟨by rfl, ?_⟩) ?_ ?_
                rotate_left
                · intro w'
                  go_simp
                  with_reducible rfl
                rotate_left
                · simp only [Act.put, List.setIfInBounds_toArray, List.set_cons_zero, List.set_cons_succ, i64_w, i32_w]
                  rfl
                refine pure_ (i := 8) (N := some 50) (v := ?_) (a' := ?_) #[true, false, true, false, true, false, false, false, true, false, false, false, false, false, false] rfl rfl (by kernel_rfl) (fun _ _ _ h => h) (Or.inl ⟨by rfl, ?_⟩) ?_ ?_
                rotate_left
                · intro w'
                  go_simp
                  with_reducible rfl
                rotate_left
                · simp only [Act.put, List.setIfInBounds_toArray, List.set_cons_zero, List.set_cons_succ, i64_w, i32_w]
                  rfl
                refine pure_ (i := 9) (N := some 51) (v := ?_) (a' := ?_) #[true, false, true, false, true, false, false, false, true, true, false, false, false, false, false] rfl rfl (by kernel_rfl) (fun _ _ _ h => h) (Or.inl ⟨by rfl, ?_⟩) ?_ ?_
                rotate_left
                · intro w'
                  go_simp
                  with_reducible rfl
                rotate_left
                · simp only [Act.put, List.setIfInBounds_toArray, List.set_cons_zero, List.set_cons_succ, i64_w, i32_w]
                  rfl
                refine take_ (i := 1) (N := some 43) (v := ?_) (a' := ?_) #[true, true, true, false, true, false, false, false, true, true, false, false, false, false, false] rfl rfl (by kernel_rfl) (fun _ _ _ h => h) (Or.inl ⟨by rfl, ?_⟩) hHeld ?_ ?_
                rotate_left
                · rintro w' ⟨s0, s1, s2⟩
                  go_simp
                  with_reducible rfl
                rotate_left
                · simp only [Act.put, List.setIfInBounds_toArray, List.set_cons_zero, List.set_cons_succ, i64_w, i32_w]
                  rfl
                refine one_ (i := 3) (N := some 45) #[true, true, true, true, true, false, false, false, true, true, false, false, false, false, false] rfl rfl (by kernel_rfl) (by decide) (fun K hK => ?_)
                refine goes_ Try.func64 (by kernel_rfl) rfl #[.pointer (some ⟨w.heap.size, 0, none⟩), .int .i64 (i : Int)] (by rfl) rfl rfl (by (try simp only [List.map_toArray, List.map_cons, List.map_nil]); first | done | rfl) ?_
                refine (segE64 ⟨w.heap.size, 0, none⟩ A0_0 c0_0 l0_0 i ((i + 1) % l0_0.length) w6.drew (cell_b (below_drew1 H6.out) G1.out) hc0_0 (Kd.C_below C1.out (below_drew1 H6.out)) hil rfl _ _ rfl rfl).mono ?_
                rintro e w7 ⟨d1, rfl, hd1, hb7⟩
                refine ⟨_, rfl, ?_⟩
                have L7 := Aside0.mk (below_step (below_drew1 (Below.refl w6.heap.size w6)) hb7)
                have Q7 := Aside0.mk hd1
                clear hb7 hd1
                refine hK.out _ _ ⟨cell_b L7.out p0, cell_b L7.out p1, cell_b L7.out p2⟩ (fun hHeld7 => ?_)
                clear hK K hHeld
                refine norm_ (a' := ?_) ?_ ?_
                rotate_left
                · show Act.put _ (some 45) _ = _
                  simp only [Act.put, List.setIfInBounds_toArray, List.set_cons_zero, List.set_cons_succ]
                  rfl
                refine one_ (i := 5) (N := some 47) #[true, true, true, true, true, true, false, false, true, true, false, false, false, false, false] rfl rfl (by kernel_rfl) (by decide) (fun K hK => ?_)
                refine goes_ Try.func64 (by kernel_rfl) rfl #[.pointer (some ⟨w.heap.size + 1, 0, none⟩), .int .i64 (k : Int)] (by rfl) rfl rfl (by (try simp only [List.map_toArray, List.map_cons, List.map_nil]); first | done | rfl) ?_
                refine (segE64 ⟨w.heap.size + 1, 0, none⟩ A1_0 c1_0 l1_0 k ((k + 1) % l1_0.length) _ (cell_b (below_step H6.out L7.out) G3.out) hc1_0 (Kd.C_below C2.out (below_step H6.out L7.out)) hkl rfl _ _ rfl rfl).mono ?_
                rintro e w8 ⟨d2, rfl, hd2, hb8⟩
                refine ⟨_, rfl, ?_⟩
                have L8 := Aside0.mk (below_step L7.out hb8)
                have Q8 := Aside0.mk hd2
                clear hb8 hd2
                refine hK.out _ _ ⟨cell_b L8.out p0, cell_b L8.out p1, cell_b L8.out p2⟩ (fun hHeld8 => ?_)
                clear hK K hHeld7
                refine norm_ (a' := ?_) ?_ ?_
                rotate_left
                · show Act.put _ (some 47) _ = _
                  simp only [Act.put, List.setIfInBounds_toArray, List.set_cons_zero, List.set_cons_succ]
                  rfl
                refine one_ (i := 6) (N := some 48) #[true, true, true, true, true, true, true, false, true, true, false, false, false, false, false] rfl rfl (by kernel_rfl) (by decide) (fun K hK => ?_)
                refine goes_ Try.func63 (by kernel_rfl) rfl #[vv d1, vv d2] (by rfl) rfl rfl (by (try simp only [List.map_toArray, List.map_cons, List.map_nil]); first | done | rfl) ?_
                refine (cross63 _ _ d1 d2 Q7.out Q8.out _).mono ?_
                rintro e w9 ⟨cr, rfl, hcr, hb9⟩
                refine ⟨_, rfl, ?_⟩
                have L9 := Aside0.mk (below_step L8.out hb9)
                have Q9 := Aside0.mk hcr
                clear hb9 hcr
                refine hK.out _ _ ⟨cell_b L9.out p0, cell_b L9.out p1, cell_b L9.out p2⟩ (fun hHeld9 => ?_)
                clear hK K hHeld8
                refine norm_ (a' := ?_) ?_ ?_
                rotate_left
                · show Act.put _ (some 48) _ = _
                  simp only [Act.put, List.setIfInBounds_toArray, List.set_cons_zero, List.set_cons_succ]
                  rfl
                refine one_ (i := 7) (N := some 49) #[true, true, true, true, true, true, true, true, true, true, false, false, false, false, false] rfl rfl (by kernel_rfl) (by decide) (fun K hK => ?_)
                refine goes_ Try.func62 (by kernel_rfl) rfl #[vv d, vv cr] (by rfl) rfl rfl (by (try simp only [List.map_toArray, List.map_cons, List.map_nil]); first | done | rfl) ?_
                refine (inner62 _ _ d cr D.out Q9.out _).mono ?_
                rintro e w10 ⟨nm, rfl, hnm, hb10⟩
                refine ⟨_, rfl, ?_⟩
                have L10 := Aside0.mk (below_step L9.out hb10)
                have Q10 := Aside0.mk hnm
                clear hb10 hnm
                refine hK.out _ _ ⟨cell_b L10.out p0, cell_b L10.out p1, cell_b L10.out p2⟩ (fun hHeld10 => ?_)
                clear hK K hHeld9
                refine norm_ (a' := ?_) ?_ ?_
                rotate_left
                · show Act.put _ (some 49) _ = _
                  simp only [Act.put, List.setIfInBounds_toArray, List.set_cons_zero, List.set_cons_succ]
                  rfl
                refine one_ (i := 10) (N := some 52) #[true, true, true, true, true, true, true, true, true, true, true, false, false, false, false] rfl rfl (by kernel_rfl) (by decide) (fun K hK => ?_)
                refine goes_ Try.func65 (by kernel_rfl) rfl #[.float .f32 q] (by rfl) rfl rfl (by (try simp only [List.map_toArray, List.map_cons, List.map_nil]); first | done | rfl) ?_
                refine (impl_RootNumber.calls q rr _ HRR.out).mono ?_
                rintro e w11 ⟨rfl, ⟨nd, rfl⟩⟩
                refine ⟨_, rfl, ?_⟩
                have L11 := Aside0.mk (pw_below_drewN L10.out nd)
                refine hK.out _ _ ⟨cell_b L11.out p0, cell_b L11.out p1, cell_b L11.out p2⟩ (fun hHeld11 => ?_)
                clear hK K hHeld10
                refine norm_ (a' := ?_) ?_ ?_
                rotate_left
                · show Act.put _ (some 52) _ = _
                  simp only [Act.put, List.setIfInBounds_toArray, List.set_cons_zero, List.set_cons_succ]
                  rfl
                refine one_ (i := 11) (N := some 53) #[true, true, true, true, true, true, true, true, true, true, true, true, false, false, false] rfl rfl (by kernel_rfl) (by decide) (fun K hK => ?_)
                refine ar_ _ _ _ _ _ rfl arM _ _ rfl rfl HQ.out (E.refl rr) (by rfl) rfl ?_
                intro dn n12 Q12
                have L12 := Aside0.mk (pw_below_drewN L11.out n12)
                refine hK.out _ _ ⟨cell_b L12.out p0, cell_b L12.out p1, cell_b L12.out p2⟩ (fun hHeld12 => ?_)
                clear hK K hHeld11
                refine norm_ (a' := ?_) ?_ ?_
                rotate_left
                · show Act.put _ (some 53) _ = _
                  simp only [Act.put, List.setIfInBounds_toArray, List.set_cons_zero, List.set_cons_succ]
                  rfl
                refine one_ (i := 12) (N := some 54) #[true, true, true, true, true, true, true, true, true, true, true, true, true, false, false] rfl rfl (by kernel_rfl) (by decide) (fun K hK => ?_)
                refine ar_ _ _ _ _ _ rfl arQ _ _ rfl rfl Q10.out Q12 (by rfl) rfl ?_
                intro qu n13 Q13
                have L13 := Aside0.mk (pw_below_drewN L12.out n13)
                refine hK.out _ _ ⟨cell_b L13.out p0, cell_b L13.out p1, cell_b L13.out p2⟩ (fun hHeld13 => ?_)
                clear hK K hHeld12
                refine norm_ (a' := ?_) ?_ ?_
                rotate_left
                · show Act.put _ (some 54) _ = _
                  simp only [Act.put, List.setIfInBounds_toArray, List.set_cons_zero, List.set_cons_succ]
                  rfl
                refine one_ (i := 13) (N := some 55) #[true, true, true, true, true, true, true, true, true, true, true, true, true, true, false] rfl rfl (by kernel_rfl) (by decide) (fun K hK => ?_)
                refine ar_ _ _ _ _ _ rfl arA _ _ rfl rfl HA2.out Q13 (by rfl) rfl ?_
                intro sm n14 Q14
                have L14 := Aside0.mk (pw_below_drewN L13.out n14)
                refine hK.out _ _ ⟨cell_b L14.out p0, cell_b L14.out p1, cell_b L14.out p2⟩ (fun hHeld14 => ?_)
                clear hK K hHeld13
                refine norm_ (a' := ?_) ?_ ?_
                rotate_left
                · show Act.put _ (some 55) _ = _
                  simp only [Act.put, List.setIfInBounds_toArray, List.set_cons_zero, List.set_cons_succ]
                  rfl
                refine pure_ (i := 14) (N := some 7) (v := ?_) (a' := ?_) #[true, true, true, true, true, true, true, true, true, true, true, true, true, true, true] rfl rfl (by kernel_rfl) (fun _ _ _ h => h) (Or.inl ⟨by rfl, ?_⟩) ?_ ?_
                rotate_left
                · intro w'
                  go_simp
                  with_reducible rfl
                rotate_left
                · simp only [Act.put, List.setIfInBounds_toArray, List.set_cons_zero, List.set_cons_succ, i64_w, i32_w]
                  rfl
                refine done_ (by kernel_rfl) ?_
                go_wp2
                go_roundg k2
                case measure => omega
                case rel =>
                  refine ⟨k + 1, _, sm, rfl, rfl, ⟨by omega⟩, ⟨?_⟩, HY1, ⟨below_step H6.out (pw_below_drewN L10.out _)⟩⟩
                  have hq2 : q = inV (opV .sub (mid l0_0 i) (mid l1_0 k)) (opV .sub (mid l0_0 i) (mid l1_0 k)) := E_gt HQ.out HG.out
                  unfold stepL
                  rw [if_pos HG.out]
                  have hrt : rt (inV (opV .sub (mid l0_0 i) (mid l1_0 k)) (opV .sub (mid l0_0 i) (mid l1_0 k))) = rr := by
                    unfold rt
                    rw [← hq2, HRR.out]
                    rfl
                  rw [hrt]
                  exact Q14
end XK
end Go.Proofs.Ytffofpiejcolfaa
