/- The reference's link of two threads, walked: the program's loops and the reference's, up to a NaN's bits. -/
import Derived.Test.YtffofpiejcolfaaXK2
set_option linter.unusedVariables false
set_option linter.unusedSimpArgs false
namespace Go.Proofs.Ytffofpiejcolfaa
open Go.RowKit Go.Proofs.YtffofpiejcolfaaW.PrintWords Go.Proofs.YtffofpiejcolfaaW.PrintLast Go.Proofs.YtffofpiejcolfaaW.PrintMore
attribute [local go_sem] max2_int min2_int max_two min_two max_three min_three max_four min_four   -- for this text's walks alone
namespace XK
open XF XL XC XY XE XN L0
set_option maxHeartbeats 4000000 in
set_option maxRecDepth 100000 in
theorem spec_Link.calls (A0_0 : Option Addr) (c0_0 : Nat) (l0_0 : List S46) (a0_1 : Nat) (A1_0 : Option Addr) (c1_0 : Nat) (l1_0 : List S46) (a1_1 : Nat) (r1 : Nat) (r2 : Int) (r3 : Bool) (w : World) (hr0_0 : Kd.C k46 w A0_0 l0_0.length l0_0) (hc0_0 : l0_0.length ≤ c0_0) (hr1_0 : Kd.C k46 w A1_0 l1_0.length l1_0) (hc1_0 : l1_0.length ≤ c1_0) (h : spec_Link.f l0_0 a0_1 l1_0 a1_1 = some (r1, r2, r3)) :
    Calls Try.prog 19 #[.agg #[.slice A0_0 l0_0.length c0_0, .float .f32 a0_1], .agg #[.slice A1_0 l1_0.length c1_0, .float .f32 a1_1]] w fun e w' => e = .returned (.tuple #[.float .f32 r1, .int .i64 r2, .bool r3]) ∧ Below w.heap.size w w' := by
  have g1 : ((w.alloc (.cells #[.slice A0_0 l0_0.length c0_0, .float .f32 a0_1] 31)).alloc (.cells #[.slice A1_0 l1_0.length c1_0, .float .f32 a1_1] 31)).cell? ⟨w.heap.size, 0, none⟩ = some (.slice A0_0 l0_0.length c0_0) := (blk_cell (blk_alloc (heap_alloc_new w (.cells #[.slice A0_0 l0_0.length c0_0, .float .f32 a0_1] 31)) (.cells #[.slice A1_0 l1_0.length c1_0, .float .f32 a1_1] 31)) 0).trans rfl
  have g2 : ((w.alloc (.cells #[.slice A0_0 l0_0.length c0_0, .float .f32 a0_1] 31)).alloc (.cells #[.slice A1_0 l1_0.length c1_0, .float .f32 a1_1] 31)).cell? ⟨w.heap.size, 1, none⟩ = some (.float .f32 a0_1) := (blk_cell (blk_alloc (heap_alloc_new w (.cells #[.slice A0_0 l0_0.length c0_0, .float .f32 a0_1] 31)) (.cells #[.slice A1_0 l1_0.length c1_0, .float .f32 a1_1] 31)) 1).trans rfl
  have g3 : ((w.alloc (.cells #[.slice A0_0 l0_0.length c0_0, .float .f32 a0_1] 31)).alloc (.cells #[.slice A1_0 l1_0.length c1_0, .float .f32 a1_1] 31)).cell? ⟨w.heap.size + 1, 0, none⟩ = some (.slice A1_0 l1_0.length c1_0) := (blk_cell (heap_two w (.cells #[.slice A0_0 l0_0.length c0_0, .float .f32 a0_1] 31) (.cells #[.slice A1_0 l1_0.length c1_0, .float .f32 a1_1] 31)) 0).trans rfl
  have g4 : ((w.alloc (.cells #[.slice A0_0 l0_0.length c0_0, .float .f32 a0_1] 31)).alloc (.cells #[.slice A1_0 l1_0.length c1_0, .float .f32 a1_1] 31)).cell? ⟨w.heap.size + 1, 1, none⟩ = some (.float .f32 a1_1) := (blk_cell (heap_two w (.cells #[.slice A0_0 l0_0.length c0_0, .float .f32 a0_1] 31) (.cells #[.slice A1_0 l1_0.length c1_0, .float .f32 a1_1] 31)) 1).trans rfl
  have hC1 := Kd.C_alloc (Kd.C_alloc hr0_0 (.cells #[.slice A0_0 l0_0.length c0_0, .float .f32 a0_1] 31)) (.cells #[.slice A1_0 l1_0.length c1_0, .float .f32 a1_1] 31)
  have hC2 := Kd.C_alloc (Kd.C_alloc hr1_0 (.cells #[.slice A0_0 l0_0.length c0_0, .float .f32 a0_1] 31)) (.cells #[.slice A1_0 l1_0.length c1_0, .float .f32 a1_1] 31)
  have HBW := Aside0.mk (below_alloc (below_alloc (Below.refl w.heap.size w) (.cells #[.slice A0_0 l0_0.length c0_0, .float .f32 a0_1] 31)) (.cells #[.slice A1_0 l1_0.length c1_0, .float .f32 a1_1] 31))
  have hmx1 : l0_0.length ≤ 9223372036854775807 := Kd.C_max hr0_0
  have hmx2 : l1_0.length ≤ 9223372036854775807 := Kd.C_max hr1_0
  clear hr0_0 hr1_0
  have C1 := Aside0.mk hC1
  have C2 := Aside0.mk hC2
  clear hC1 hC2
  have G1 := Aside0.mk g1
  have G2 := Aside0.mk g2
  have G3 := Aside0.mk g3
  have G4 := Aside0.mk g4
  clear g1 g2 g3 g4
  unfold spec_Link.f at h
  cases e1 : isThread l0_0 a0_1 with
  | false =>
    rw [e1, if_neg (by decide)] at h
    obtain ⟨rfl, rfl, rfl⟩ : 0 = r1 ∧ (0 : Int) = r2 ∧ false = r3 := by simpa using h
    go_enter Try.func19, Try.ntmps19
    go_wp2_with (first | (go_at_call 41; (with_reducible refine (l06Is_at ⟨w.heap.size, 0, none⟩ A0_0 c0_0 l0_0 a0_1 _ G1.out G2.out hc0_0 C1.out _ e1).mono ?_); rintro e w1 ⟨rfl, hb1⟩; have H1 := Aside0.mk hb1; clear hb1; have f1 := cell_b H1.out G1.out; have f3 := cell_b H1.out G3.out))
    go_ret3
    exact ⟨rfl, below_step HBW.out H1.out⟩
  | true =>
    rw [e1, if_pos rfl] at h
    cases e2 : isThread l1_0 a1_1 with
    | false =>
      rw [e2, if_neg (by decide)] at h
      obtain ⟨rfl, rfl, rfl⟩ : 0 = r1 ∧ (0 : Int) = r2 ∧ false = r3 := by simpa using h
      go_enter Try.func19, Try.ntmps19
      go_wp2_with (first | (go_at_call 41; (with_reducible refine (l06Is_at ⟨w.heap.size, 0, none⟩ A0_0 c0_0 l0_0 a0_1 _ G1.out G2.out hc0_0 C1.out _ e1).mono ?_); rintro e w1 ⟨rfl, hb1⟩; have H1 := Aside0.mk hb1; clear hb1; have f1 := cell_b H1.out G1.out; have f3 := cell_b H1.out G3.out) | (go_at_call 41; (with_reducible refine (l06Is_at ⟨w.heap.size + 1, 0, none⟩ A1_0 c1_0 l1_0 a1_1 _ (cell_b H1.out G3.out) (cell_b H1.out G4.out) hc1_0 (Kd.C_below C2.out H1.out) _ e2).mono ?_); rintro e w2 ⟨rfl, hb2⟩; have H2 := Aside0.mk (below_step H1.out hb2); clear hb2 f3 f1; have f1 := cell_b H2.out G1.out; have f3 := cell_b H2.out G3.out))
      go_ret3
      exact ⟨rfl, below_step HBW.out H2.out⟩
    | true =>
      rw [e2, if_pos rfl] at h
      have HT := Aside0.mk h
      clear h
      have q0 : (Try.prog.underlying 23).isSome = true := by kernel_rfl
      have q1 := Try.underlying34
      have q2 : (Try.prog.underlying 34).isSome = true := by kernel_rfl
      have q3 := Try.underlying2
      go_enter Try.func19, Try.ntmps19
      go_wp2_with (first | (go_at_call 41; (with_reducible refine (l06Is_at ⟨w.heap.size, 0, none⟩ A0_0 c0_0 l0_0 a0_1 _ G1.out G2.out hc0_0 C1.out _ e1).mono ?_); rintro e w1 ⟨rfl, hb1⟩; have H1 := Aside0.mk hb1; clear hb1; have f1 := cell_b H1.out G1.out; have f3 := cell_b H1.out G3.out) | (go_at_call 41; (with_reducible refine (l06Is_at ⟨w.heap.size + 1, 0, none⟩ A1_0 c1_0 l1_0 a1_1 _ (cell_b H1.out G3.out) (cell_b H1.out G4.out) hc1_0 (Kd.C_below C2.out H1.out) _ e2).mono ?_); rintro e w2 ⟨rfl, hb2⟩; have H2 := Aside0.mk (below_step H1.out hb2); clear hb2 f3 f1; have f1 := cell_b H2.out G1.out; have f3 := cell_b H2.out G3.out))
      go_loopg [7, 8] l0_0.length (fun kq v7 v8 w' => ∃ (i acc a : Nat), v7 = .float .f32 a ∧ v8 = .int .i64 (i : Int) ∧ Aside0 (i + kq = l0_0.length) ∧ Aside0 (E acc a) ∧ Aside0 (iter (rowL l0_0 l1_0) kq i acc = sumL l0_0 l1_0) ∧ Aside0 (Below ((w.alloc (.cells #[.slice A0_0 l0_0.length c0_0, .float .f32 a0_1] 31)).alloc (.cells #[.slice A1_0 l1_0.length c1_0, .float .f32 a1_1] 31)).heap.size ((w.alloc (.cells #[.slice A0_0 l0_0.length c0_0, .float .f32 a0_1] 31)).alloc (.cells #[.slice A1_0 l1_0.length c1_0, .float .f32 a1_1] 31)) w'))
      case atStart => exact ⟨0, 0, 0, rfl, rfl, ⟨by simp⟩, ⟨E.refl _⟩, ⟨rfl⟩, H2⟩
      case round =>
        clear H1 H2 f1 f3
        obtain ⟨i, acc, a, rfl, rfl, HI, HA, HX, HB⟩ := hrel
        have hi := HI.out
        have f1 := cell_b HB.out G1.out
        have f3 := cell_b HB.out G3.out
        cases gk with
        | zero =>
          have hc : decide ((i : Int) < (l0_0.length : Int)) = false := by simp; omega
          have hx0 := HX.out
          replace hx0 : acc = sumL l0_0 l1_0 := hx0
          subst hx0
          have ha := HA.out
          clear HX
          have hlt : ar .quo (sumL l0_0 l1_0) 1095307227 < 4294967296 := ar_lt _ _ _
          have ht := HT.out
          unfold tailS linkX at ht
          generalize hXX : ar .quo (sumL l0_0 l1_0) 1095307227 = X at ht hlt
          cases hf : fin X with
          | false =>
            rw [hf, if_neg (by decide)] at ht
            obtain ⟨rfl, rfl, rfl⟩ : 0 = r1 ∧ (0 : Int) = r2 ∧ false = r3 := by simpa using ht
            clear ht
            go_wp2_with (first | (refine wpList_ar rfl _ _ _ _ _ rfl arQ _ _ rfl rfl ha (E.refl _) ?_; intro cx nx hcx; rw [hXX] at hcx) | (go_at_call 58; refine (l01Finite.calls _ _ _ rfl).mono ?_; rw [fin_E hcx, hf]; rintro e w1 ⟨rfl, ⟨nd, rfl⟩⟩))
            go_ret3
            exact ⟨rfl, below_step HBW.out (pw_below_drewN HB.out _)⟩
          | true =>
            rw [hf, if_pos rfl] at ht
            cases hg2 : (FloatKind.f32.format.order X 1232348160 == some .gt) with
            | true =>
              rw [hg2, if_pos rfl] at ht
              obtain ⟨rfl, rfl, rfl⟩ : 0 = r1 ∧ (0 : Int) = r2 ∧ false = r3 := by simpa using ht
              clear ht
              go_wp2_with (first | (refine wpList_ar rfl _ _ _ _ _ rfl arQ _ _ rfl rfl ha (E.refl _) ?_; intro cx nx hcx; rw [hXX] at hcx) | (go_at_call 58; obtain rfl := E_fin hcx hf; refine (l01Finite.calls _ _ _ rfl).mono ?_; rw [hf]; rintro e w1 ⟨rfl, ⟨nd, rfl⟩⟩))
              go_ret3
              exact ⟨rfl, below_step HBW.out (pw_below_drewN HB.out _)⟩
            | false =>
              rw [hg2, if_neg (by decide)] at ht
              cases hg3 : (FloatKind.f32.format.order X 3379831808 == some .lt) with
              | true =>
                rw [hg3, if_pos rfl] at ht
                obtain ⟨rfl, rfl, rfl⟩ : 0 = r1 ∧ (0 : Int) = r2 ∧ false = r3 := by simpa using ht
                clear ht
                go_wp2_with (first | (refine wpList_ar rfl _ _ _ _ _ rfl arQ _ _ rfl rfl ha (E.refl _) ?_; intro cx nx hcx; rw [hXX] at hcx) | (go_at_call 58; obtain rfl := E_fin hcx hf; refine (l01Finite.calls _ _ _ rfl).mono ?_; rw [hf]; rintro e w1 ⟨rfl, ⟨nd, rfl⟩⟩))
                go_ret3
                exact ⟨rfl, below_step HBW.out (pw_below_drewN HB.out _)⟩
              | false =>
                rw [hg3, if_neg (by decide)] at ht
                obtain ⟨n, hn, ht⟩ := Option.bind_eq_some_iff.1 ht
                obtain ⟨rfl, rfl, rfl⟩ : X = r1 ∧ n = r2 ∧ true = r3 := by simpa using ht
                clear ht
                go_wp2_with (first | (refine wpList_ar rfl _ _ _ _ _ rfl arQ _ _ rfl rfl ha (E.refl _) ?_; intro cx nx hcx; rw [hXX] at hcx) | (go_at_call 58; obtain rfl := E_fin hcx hf; refine (l01Finite.calls _ _ _ rfl).mono ?_; rw [hf]; rintro e w1 ⟨rfl, ⟨nd, rfl⟩⟩) | (refine wpList_conv rfl _ _ _ rfl q0 q1 _ rfl ?_; intro b' nb hcb))
                have hb2 : isn .f32 cx = false ∧ floatToFloatBits .f32 cx .f64 = some b' := by
                  rcases hcb with ⟨h1, _⟩ | h1
                  · rw [fin_nan h1] at hf
                    cases hf
                  · exact h1
                have hni := conv_number hb2.1 hb2.2
                unfold toI at hn
                rw [hb2.2] at hn
                replace hn : floatToIntVal .f64 (rnd b') .i64 = some n := hn
                rw [run_callFunc_extern Try.func59 (by kernel_rfl) (by kernel_rfl) (by kernel_rfl) (e := Extern.MathFloor.toIntegral "math.RoundToEven" .even) (by kernel_rfl)]
                rw [run_round _ _ _ hni]
                simp only [Result.andThen]
                rw [Oper.upon_value]
                go_wp2_with (first | (refine wpList_toint rfl _ _ _ rfl q2 q3 _ rfl n hn ?_))
                go_ret3
                exact ⟨rfl, below_step HBW.out (pw_below_drewN HB.out _)⟩
        | succ k1 =>
          have hil : i < l0_0.length := by omega
          have hc : decide ((i : Int) < (l0_0.length : Int)) = true := by simp; omega
          have hwi : wrap64 ((i : Int) + 1) = ((i + 1 : Nat) : Int) := by unfold wrap64; omega
          have hx0 := HX.out
          replace hx0 : iter (rowL l0_0 l1_0) k1 (i + 1) (rowL l0_0 l1_0 i acc) = sumL l0_0 l1_0 := hx0
          have HX1 := Aside0.mk hx0
          clear hx0 HX
          go_wp2_with (first | (go_at_call 53; (with_reducible refine (middle53 ⟨w.heap.size, 0, none⟩ A0_0 c0_0 l0_0 i ((i + 1) % l0_0.length) _ f1 hc0_0 (Kd.C_below C1.out HB.out) hil rfl _ _ rfl rfl).mono ?_); rintro e w3 ⟨m1, d1, rfl, hm1, hd1, hb3⟩; have H3 := Aside0.mk (below_step HB.out hb3); have M1 := Aside0.mk hm1; have D1 := Aside0.mk hd1; clear hb3 hm1 hd1 f1 f3))
          have HW3 := Aside0.mk (below_alloc (below_alloc H3.out (.cells #[.float .f32 m1.f0, .float .f32 m1.f1, .float .f32 m1.f2] 46)) (.cells #[.float .f32 d1.f0, .float .f32 d1.f1, .float .f32 d1.f2] 46))
          have V0 := Aside0.mk ((blk_cell (blk_alloc (heap_alloc_new w3 (.cells #[.float .f32 m1.f0, .float .f32 m1.f1, .float .f32 m1.f2] 46)) (.cells #[.float .f32 d1.f0, .float .f32 d1.f1, .float .f32 d1.f2] 46)) 0).trans rfl : ((w3.alloc (.cells #[.float .f32 m1.f0, .float .f32 m1.f1, .float .f32 m1.f2] 46)).alloc (.cells #[.float .f32 d1.f0, .float .f32 d1.f1, .float .f32 d1.f2] 46)).cell? ⟨w3.heap.size, 0, none⟩ = some (.float .f32 m1.f0))
          have V1 := Aside0.mk ((blk_cell (blk_alloc (heap_alloc_new w3 (.cells #[.float .f32 m1.f0, .float .f32 m1.f1, .float .f32 m1.f2] 46)) (.cells #[.float .f32 d1.f0, .float .f32 d1.f1, .float .f32 d1.f2] 46)) 1).trans rfl : ((w3.alloc (.cells #[.float .f32 m1.f0, .float .f32 m1.f1, .float .f32 m1.f2] 46)).alloc (.cells #[.float .f32 d1.f0, .float .f32 d1.f1, .float .f32 d1.f2] 46)).cell? ⟨w3.heap.size, 1, none⟩ = some (.float .f32 m1.f1))
          have V2 := Aside0.mk ((blk_cell (blk_alloc (heap_alloc_new w3 (.cells #[.float .f32 m1.f0, .float .f32 m1.f1, .float .f32 m1.f2] 46)) (.cells #[.float .f32 d1.f0, .float .f32 d1.f1, .float .f32 d1.f2] 46)) 2).trans rfl : ((w3.alloc (.cells #[.float .f32 m1.f0, .float .f32 m1.f1, .float .f32 m1.f2] 46)).alloc (.cells #[.float .f32 d1.f0, .float .f32 d1.f1, .float .f32 d1.f2] 46)).cell? ⟨w3.heap.size, 2, none⟩ = some (.float .f32 m1.f2))
          have T0 := Aside0.mk ((blk_cell (heap_two w3 (.cells #[.float .f32 m1.f0, .float .f32 m1.f1, .float .f32 m1.f2] 46) (.cells #[.float .f32 d1.f0, .float .f32 d1.f1, .float .f32 d1.f2] 46)) 0).trans rfl : ((w3.alloc (.cells #[.float .f32 m1.f0, .float .f32 m1.f1, .float .f32 m1.f2] 46)).alloc (.cells #[.float .f32 d1.f0, .float .f32 d1.f1, .float .f32 d1.f2] 46)).cell? ⟨w3.heap.size + 1, 0, none⟩ = some (.float .f32 d1.f0))
          have T1 := Aside0.mk ((blk_cell (heap_two w3 (.cells #[.float .f32 m1.f0, .float .f32 m1.f1, .float .f32 m1.f2] 46) (.cells #[.float .f32 d1.f0, .float .f32 d1.f1, .float .f32 d1.f2] 46)) 1).trans rfl : ((w3.alloc (.cells #[.float .f32 m1.f0, .float .f32 m1.f1, .float .f32 m1.f2] 46)).alloc (.cells #[.float .f32 d1.f0, .float .f32 d1.f1, .float .f32 d1.f2] 46)).cell? ⟨w3.heap.size + 1, 1, none⟩ = some (.float .f32 d1.f1))
          have T2 := Aside0.mk ((blk_cell (heap_two w3 (.cells #[.float .f32 m1.f0, .float .f32 m1.f1, .float .f32 m1.f2] 46) (.cells #[.float .f32 d1.f0, .float .f32 d1.f1, .float .f32 d1.f2] 46)) 2).trans rfl : ((w3.alloc (.cells #[.float .f32 m1.f0, .float .f32 m1.f1, .float .f32 m1.f2] 46)).alloc (.cells #[.float .f32 d1.f0, .float .f32 d1.f1, .float .f32 d1.f2] 46)).cell? ⟨w3.heap.size + 1, 2, none⟩ = some (.float .f32 d1.f2))
          go_loopg [7, 11] l1_0.length (fun kq v7 v11 w' => ∃ (k acc2 a2 : Nat), v7 = .float .f32 a2 ∧ v11 = .int .i64 (k : Int) ∧ Aside0 (k + kq = l1_0.length) ∧ Aside0 (E acc2 a2) ∧ Aside0 (iter (fun k acc => stepL (mid l0_0 i) (seg l0_0 i) (mid l1_0 k) (seg l1_0 k) acc) kq k acc2 = rowL l0_0 l1_0 i acc) ∧ Aside0 (Below ((w3.alloc (.cells #[.float .f32 m1.f0, .float .f32 m1.f1, .float .f32 m1.f2] 46)).alloc (.cells #[.float .f32 d1.f0, .float .f32 d1.f1, .float .f32 d1.f2] 46)).heap.size ((w3.alloc (.cells #[.float .f32 m1.f0, .float .f32 m1.f1, .float .f32 m1.f2] 46)).alloc (.cells #[.float .f32 d1.f0, .float .f32 d1.f1, .float .f32 d1.f2] 46)) w'))
          case atStart => exact ⟨0, acc, a, rfl, rfl, ⟨by simp⟩, HA, ⟨rfl⟩, ⟨Below.refl _ _⟩⟩
          case round =>
            clear HA
            obtain ⟨k, acc2, a2, rfl, rfl, HK, HA2, HY, HZ⟩ := hrel
            have hk := HK.out
            have f1 := cell_b (below_step HW3.out HZ.out) G1.out
            have f3 := cell_b (below_step HW3.out HZ.out) G3.out
            cases gk with
            | zero =>
              have hck : decide ((k : Int) < (l1_0.length : Int)) = false := by simp; omega
              have hy0 := HY.out
              replace hy0 : acc2 = rowL l0_0 l1_0 i acc := hy0
              subst hy0
              go_wp2
              go_roundg k1
              case measure => omega
              case rel => exact ⟨i + 1, _, a2, rfl, rfl, ⟨by omega⟩, HA2, HX1, ⟨below_step HW3.out HZ.out⟩⟩
            | succ k2 =>
              have hkl : k < l1_0.length := by omega
              have hck : decide ((k : Int) < (l1_0.length : Int)) = true := by simp; omega
              have hwk : wrap64 ((k : Int) + 1) = ((k + 1 : Nat) : Int) := by unfold wrap64; omega
              have hy0 := HY.out
              replace hy0 : iter (fun k acc => stepL (mid l0_0 i) (seg l0_0 i) (mid l1_0 k) (seg l1_0 k) acc) k2 (k + 1) (stepL (mid l0_0 i) (seg l0_0 i) (mid l1_0 k) (seg l1_0 k) acc2) = rowL l0_0 l1_0 i acc := hy0
              have HY1 := Aside0.mk hy0
              clear hy0 HY
              cases hgt : (FloatKind.f32.format.order (inV (opV .sub (mid l0_0 i) (mid l1_0 k)) (opV .sub (mid l0_0 i) (mid l1_0 k))) 0 == some .gt) with
              | false =>
                have HG := Aside0.mk hgt
                clear hgt
                go_wp2_with (first | (go_at_call 53; (with_reducible refine (middle53 ⟨w.heap.size + 1, 0, none⟩ A1_0 c1_0 l1_0 k ((k + 1) % l1_0.length) _ f3 hc1_0 (Kd.C_below C2.out (below_step HW3.out HZ.out)) hkl rfl _ _ rfl rfl).mono ?_); rintro e w4 ⟨m2, d2, rfl, hm2, hd2, hb4⟩; have HZ4 := Aside0.mk (below_step HZ.out hb4); have M2 := Aside0.mk hm2; have D2 := Aside0.mk hd2; clear hb4 hm2 hd2 f1 f3; have v0 := cell_b (below_alloc (below_alloc HZ4.out (.cells #[.float .f32 m2.f0, .float .f32 m2.f1, .float .f32 m2.f2] 46)) (.cells #[.float .f32 d2.f0, .float .f32 d2.f1, .float .f32 d2.f2] 46)) V0.out; have v1 := cell_b (below_alloc (below_alloc HZ4.out (.cells #[.float .f32 m2.f0, .float .f32 m2.f1, .float .f32 m2.f2] 46)) (.cells #[.float .f32 d2.f0, .float .f32 d2.f1, .float .f32 d2.f2] 46)) V1.out; have v2 := cell_b (below_alloc (below_alloc HZ4.out (.cells #[.float .f32 m2.f0, .float .f32 m2.f1, .float .f32 m2.f2] 46)) (.cells #[.float .f32 d2.f0, .float .f32 d2.f1, .float .f32 d2.f2] 46)) V2.out) | (go_at_call 54; refine (less54 _ _ m1 m2 M1.out M2.out _).mono ?_; rintro e w5 ⟨d, rfl, hd, hb5⟩; have D := Aside0.mk hd; clear hd v0 v1 v2) | (go_at_call 55; refine (inner55 _ _ d d D.out D.out _).mono ?_; rintro e w6 ⟨q, rfl, hq, hb6⟩; have hqg : (FloatKind.f32.format.order q 0 == some .gt) = false := by rw [order_E hq]; exact HG.out))
                go_roundg k2
                case measure => omega
                case rel =>
                  refine ⟨k + 1, _, a2, rfl, rfl, ⟨by omega⟩, HA2, ⟨?_⟩, ⟨below_step (below_alloc (below_step (below_alloc (below_alloc HZ4.out _) _) hb5) _) hb6⟩⟩
                  have := HY1.out
                  unfold stepL at this
                  rw [HG.out, if_neg (by decide)] at this
                  exact this
              | true =>
                have HG := Aside0.mk hgt
                clear hgt
                go_wp2_with (first | (go_at_call 53; (with_reducible refine (middle53 ⟨w.heap.size + 1, 0, none⟩ A1_0 c1_0 l1_0 k ((k + 1) % l1_0.length) _ f3 hc1_0 (Kd.C_below C2.out (below_step HW3.out HZ.out)) hkl rfl _ _ rfl rfl).mono ?_); rintro e w4 ⟨m2, d2, rfl, hm2, hd2, hb4⟩; have HZ4 := Aside0.mk (below_step HZ.out hb4); have M2 := Aside0.mk hm2; have D2 := Aside0.mk hd2; clear hb4 hm2 hd2 f1 f3; have v0 := cell_b (below_alloc (below_alloc HZ4.out (.cells #[.float .f32 m2.f0, .float .f32 m2.f1, .float .f32 m2.f2] 46)) (.cells #[.float .f32 d2.f0, .float .f32 d2.f1, .float .f32 d2.f2] 46)) V0.out; have v1 := cell_b (below_alloc (below_alloc HZ4.out (.cells #[.float .f32 m2.f0, .float .f32 m2.f1, .float .f32 m2.f2] 46)) (.cells #[.float .f32 d2.f0, .float .f32 d2.f1, .float .f32 d2.f2] 46)) V1.out; have v2 := cell_b (below_alloc (below_alloc HZ4.out (.cells #[.float .f32 m2.f0, .float .f32 m2.f1, .float .f32 m2.f2] 46)) (.cells #[.float .f32 d2.f0, .float .f32 d2.f1, .float .f32 d2.f2] 46)) V2.out) | (go_at_call 54; refine (less54 _ _ m1 m2 M1.out M2.out _).mono ?_; rintro e w5 ⟨d, rfl, hd, hb5⟩; have D := Aside0.mk hd; clear hd v0 v1 v2) | (go_at_call 55; refine (inner55 _ _ d d D.out D.out _).mono ?_; rintro e w6 ⟨q, rfl, hq, hb6⟩; have hqg : (FloatKind.f32.format.order q 0 == some .gt) = true := by rw [order_E hq]; exact HG.out))
                have p0 := cell_b hb6 ((cell_new w5 #[.float .f32 d.f0, .float .f32 d.f1, .float .f32 d.f2] 46 0).trans rfl)
                have p1 := cell_b hb6 ((cell_new w5 #[.float .f32 d.f0, .float .f32 d.f1, .float .f32 d.f2] 46 1).trans rfl)
                have p2 := cell_b hb6 ((cell_new w5 #[.float .f32 d.f0, .float .f32 d.f1, .float .f32 d.f2] 46 2).trans rfl)
                have HZ6 := Aside0.mk (below_step (below_alloc (below_step (below_alloc (below_alloc HZ4.out (.cells #[.float .f32 m2.f0, .float .f32 m2.f1, .float .f32 m2.f2] 46)) (.cells #[.float .f32 d2.f0, .float .f32 d2.f1, .float .f32 d2.f2] 46)) hb5) (.cells #[.float .f32 d.f0, .float .f32 d.f1, .float .f32 d.f2] 46)) hb6)
                have HV6 := Aside0.mk (below_step (below_alloc hb5 (.cells #[.float .f32 d.f0, .float .f32 d.f1, .float .f32 d.f2] 46)) hb6)
                have t0 := cell_b HZ6.out T0.out
                have t1 := cell_b HZ6.out T1.out
                have t2 := cell_b HZ6.out T2.out
                have u0 := cell_b HV6.out ((blk_cell (heap_two w4 (.cells #[.float .f32 m2.f0, .float .f32 m2.f1, .float .f32 m2.f2] 46) (.cells #[.float .f32 d2.f0, .float .f32 d2.f1, .float .f32 d2.f2] 46)) 0).trans rfl : _ = some (.float .f32 d2.f0))
                have u1 := cell_b HV6.out ((blk_cell (heap_two w4 (.cells #[.float .f32 m2.f0, .float .f32 m2.f1, .float .f32 m2.f2] 46) (.cells #[.float .f32 d2.f0, .float .f32 d2.f1, .float .f32 d2.f2] 46)) 1).trans rfl : _ = some (.float .f32 d2.f1))
                have u2 := cell_b HV6.out ((blk_cell (heap_two w4 (.cells #[.float .f32 m2.f0, .float .f32 m2.f1, .float .f32 m2.f2] 46) (.cells #[.float .f32 d2.f0, .float .f32 d2.f1, .float .f32 d2.f2] 46)) 2).trans rfl : _ = some (.float .f32 d2.f2))
                clear hb5 hb6
                obtain ⟨rr, _, hrr, _⟩ := root_both (gt_is hqg)
                have HRR := Aside0.mk hrr
                have HQ := Aside0.mk hq
                clear hq hrr
                refine start_ (n := 13) (S := fun w' => w'.cell? ⟨w5.heap.size, 0, none⟩ = some (.float .f32 d.f0) ∧ w'.cell? ⟨w5.heap.size, 1, none⟩ = some (.float .f32 d.f1) ∧ w'.cell? ⟨w5.heap.size, 2, none⟩ = some (.float .f32 d.f2) ∧ w'.cell? ⟨w3.heap.size + 1, 0, none⟩ = some (.float .f32 d1.f0) ∧ w'.cell? ⟨w3.heap.size + 1, 1, none⟩ = some (.float .f32 d1.f1) ∧ w'.cell? ⟨w3.heap.size + 1, 2, none⟩ = some (.float .f32 d1.f2) ∧ w'.cell? ⟨w4.heap.size + 1, 0, none⟩ = some (.float .f32 d2.f0) ∧ w'.cell? ⟨w4.heap.size + 1, 1, none⟩ = some (.float .f32 d2.f1) ∧ w'.cell? ⟨w4.heap.size + 1, 2, none⟩ = some (.float .f32 d2.f2)) (ds := []) #[false, false, false, false, false, false, false, false, false, false, false, false, false] (by kernel_rfl) rfl rfl ⟨p0, p1, p2, t0, t1, t2, u0, u1, u2⟩ (fun hHeld => ?_)
                refine pure_ (i := 0) (N := some 55) (v := ?_) (a' := ?_) #[true, false, false, false, false, false, false, false, false, false, false, false, false] rfl rfl (by kernel_rfl) (fun _ _ _ h => h) (Or.inl ⟨by rfl, ?_⟩) ?_ ?_
                rotate_left
                · intro w'
                  go_simp
                  with_reducible rfl
                rotate_left
                · simp only [Act.put, List.setIfInBounds_toArray, List.set_cons_zero, List.set_cons_succ, i64_w, i32_w]
                  rfl
                refine pure_ (i := 6) (N := some 61) (v := ?_) (a' := ?_) #[true, false, false, false, false, false, true, false, false, false, false, false, false] rfl rfl (by kernel_rfl) (fun _ _ _ h => h) (Or.inl ⟨by rfl, ?_⟩) ?_ ?_
                rotate_left
                · intro w'
                  go_simp
                  with_reducible rfl
                rotate_left
                · simp only [Act.put, List.setIfInBounds_toArray, List.set_cons_zero, List.set_cons_succ, i64_w, i32_w]
                  rfl
                refine pure_ (i := 7) (N := some 62) (v := ?_) (a' := ?_) #[true, false, false, false, false, false, true, true, false, false, false, false, false] rfl rfl (by kernel_rfl) (fun _ _ _ h => h) (Or.inl ⟨by rfl, ?_⟩) ?_ ?_
                rotate_left
                · intro w'
                  go_simp
                  with_reducible rfl
                rotate_left
                · simp only [Act.put, List.setIfInBounds_toArray, List.set_cons_zero, List.set_cons_succ, i64_w, i32_w]
                  rfl
                refine take_ (i := 1) (N := some 56) (v := ?_) (a' := ?_) #[true, true, false, false, false, false, true, true, false, false, false, false, false] rfl rfl (by kernel_rfl) (fun _ _ _ h => h) (Or.inl ⟨by rfl, ?_⟩) hHeld ?_ ?_
                rotate_left
                · rintro w' ⟨s0, s1, s2, s3, s4, s5, s6, s7, s8⟩
                  go_simp
                  with_reducible rfl
                rotate_left
                · simp only [Act.put, List.setIfInBounds_toArray, List.set_cons_zero, List.set_cons_succ, i64_w, i32_w]
                  rfl
                refine take_ (i := 2) (N := some 57) (v := ?_) (a' := ?_) #[true, true, true, false, false, false, true, true, false, false, false, false, false] rfl rfl (by kernel_rfl) (fun _ _ _ h => h) (Or.inl ⟨by rfl, ?_⟩) hHeld ?_ ?_
                rotate_left
                · rintro w' ⟨s0, s1, s2, s3, s4, s5, s6, s7, s8⟩
                  go_simp
                  with_reducible rfl
                rotate_left
                · simp only [Act.put, List.setIfInBounds_toArray, List.set_cons_zero, List.set_cons_succ, i64_w, i32_w]
                  rfl
                refine take_ (i := 3) (N := some 58) (v := ?_) (a' := ?_) #[true, true, true, true, false, false, true, true, false, false, false, false, false] rfl rfl (by kernel_rfl) (fun _ _ _ h => h) (Or.inl ⟨by rfl, ?_⟩) hHeld ?_ ?_
                rotate_left
                · rintro w' ⟨s0, s1, s2, s3, s4, s5, s6, s7, s8⟩
                  go_simp
                  with_reducible rfl
                rotate_left
                · simp only [Act.put, List.setIfInBounds_toArray, List.set_cons_zero, List.set_cons_succ, i64_w, i32_w]
                  rfl
                refine one_ (i := 4) (N := some 59) #[true, true, true, true, true, false, true, true, false, false, false, false, false] rfl rfl (by kernel_rfl) (by decide) (fun K hK => ?_)
                refine goes_ Try.func56 (by kernel_rfl) rfl #[vv d1, vv d2] (by rfl) rfl rfl (by (try simp only [List.map_toArray, List.map_cons, List.map_nil]); first | done | rfl) ?_
                refine (cross56 _ _ d1 d2 D1.out D2.out _).mono ?_
                rintro e w9 ⟨cr, rfl, hcr, hb9⟩
                refine ⟨_, rfl, ?_⟩
                have L9 := Aside0.mk (below_step (below_drew1 (Below.refl w6.heap.size w6)) hb9)
                have Q9 := Aside0.mk hcr
                clear hb9 hcr
                refine hK.out _ _ ⟨cell_b L9.out p0, cell_b L9.out p1, cell_b L9.out p2, cell_b L9.out t0, cell_b L9.out t1, cell_b L9.out t2, cell_b L9.out u0, cell_b L9.out u1, cell_b L9.out u2⟩ (fun hHeld9 => ?_)
                clear hK K hHeld
                refine norm_ (a' := ?_) ?_ ?_
                rotate_left
                · show Act.put _ (some 59) _ = _
                  simp only [Act.put, List.setIfInBounds_toArray, List.set_cons_zero, List.set_cons_succ]
                  rfl
                refine one_ (i := 5) (N := some 60) #[true, true, true, true, true, true, true, true, false, false, false, false, false] rfl rfl (by kernel_rfl) (by decide) (fun K hK => ?_)
                refine goes_ Try.func55 (by kernel_rfl) rfl #[vv d, vv cr] (by rfl) rfl rfl (by (try simp only [List.map_toArray, List.map_cons, List.map_nil]); first | done | rfl) ?_
                refine (inner55 _ _ d cr D.out Q9.out _).mono ?_
                rintro e w10 ⟨nm, rfl, hnm, hb10⟩
                refine ⟨_, rfl, ?_⟩
                have L10 := Aside0.mk (below_step L9.out hb10)
                have Q10 := Aside0.mk hnm
                clear hb10 hnm
                refine hK.out _ _ ⟨cell_b L10.out p0, cell_b L10.out p1, cell_b L10.out p2, cell_b L10.out t0, cell_b L10.out t1, cell_b L10.out t2, cell_b L10.out u0, cell_b L10.out u1, cell_b L10.out u2⟩ (fun hHeld10 => ?_)
                clear hK K hHeld9
                refine norm_ (a' := ?_) ?_ ?_
                rotate_left
                · show Act.put _ (some 60) _ = _
                  simp only [Act.put, List.setIfInBounds_toArray, List.set_cons_zero, List.set_cons_succ]
                  rfl
                refine one_ (i := 8) (N := some 63) #[true, true, true, true, true, true, true, true, true, false, false, false, false] rfl rfl (by kernel_rfl) (by decide) (fun K hK => ?_)
                refine goes_ Try.func57 (by kernel_rfl) rfl #[.float .f32 q] (by rfl) rfl rfl (by (try simp only [List.map_toArray, List.map_cons, List.map_nil]); first | done | rfl) ?_
                refine (spec_l01Sqrt.calls q rr _ HRR.out).mono ?_
                rintro e w11 ⟨rfl, ⟨nd, rfl⟩⟩
                refine ⟨_, rfl, ?_⟩
                have L11 := Aside0.mk (pw_below_drewN L10.out nd)
                refine hK.out _ _ ⟨cell_b L11.out p0, cell_b L11.out p1, cell_b L11.out p2, cell_b L11.out t0, cell_b L11.out t1, cell_b L11.out t2, cell_b L11.out u0, cell_b L11.out u1, cell_b L11.out u2⟩ (fun hHeld11 => ?_)
                clear hK K hHeld10
                refine norm_ (a' := ?_) ?_ ?_
                rotate_left
                · show Act.put _ (some 63) _ = _
                  simp only [Act.put, List.setIfInBounds_toArray, List.set_cons_zero, List.set_cons_succ]
                  rfl
                refine one_ (i := 9) (N := some 64) #[true, true, true, true, true, true, true, true, true, true, false, false, false] rfl rfl (by kernel_rfl) (by decide) (fun K hK => ?_)
                refine ar_ _ _ _ _ _ rfl arM _ _ rfl rfl HQ.out (E.refl rr) (by rfl) rfl ?_
                intro dn n12 Q12
                have L12 := Aside0.mk (pw_below_drewN L11.out n12)
                refine hK.out _ _ ⟨cell_b L12.out p0, cell_b L12.out p1, cell_b L12.out p2, cell_b L12.out t0, cell_b L12.out t1, cell_b L12.out t2, cell_b L12.out u0, cell_b L12.out u1, cell_b L12.out u2⟩ (fun hHeld12 => ?_)
                clear hK K hHeld11
                refine norm_ (a' := ?_) ?_ ?_
                rotate_left
                · show Act.put _ (some 64) _ = _
                  simp only [Act.put, List.setIfInBounds_toArray, List.set_cons_zero, List.set_cons_succ]
                  rfl
                refine one_ (i := 10) (N := some 65) #[true, true, true, true, true, true, true, true, true, true, true, false, false] rfl rfl (by kernel_rfl) (by decide) (fun K hK => ?_)
                refine ar_ _ _ _ _ _ rfl arQ _ _ rfl rfl Q10.out Q12 (by rfl) rfl ?_
                intro qu n13 Q13
                have L13 := Aside0.mk (pw_below_drewN L12.out n13)
                refine hK.out _ _ ⟨cell_b L13.out p0, cell_b L13.out p1, cell_b L13.out p2, cell_b L13.out t0, cell_b L13.out t1, cell_b L13.out t2, cell_b L13.out u0, cell_b L13.out u1, cell_b L13.out u2⟩ (fun hHeld13 => ?_)
                clear hK K hHeld12
                refine norm_ (a' := ?_) ?_ ?_
                rotate_left
                · show Act.put _ (some 65) _ = _
                  simp only [Act.put, List.setIfInBounds_toArray, List.set_cons_zero, List.set_cons_succ]
                  rfl
                refine one_ (i := 11) (N := some 66) #[true, true, true, true, true, true, true, true, true, true, true, true, false] rfl rfl (by kernel_rfl) (by decide) (fun K hK => ?_)
                refine ar_ _ _ _ _ _ rfl arA _ _ rfl rfl HA2.out Q13 (by rfl) rfl ?_
                intro sm n14 Q14
                have L14 := Aside0.mk (pw_below_drewN L13.out n14)
                refine hK.out _ _ ⟨cell_b L14.out p0, cell_b L14.out p1, cell_b L14.out p2, cell_b L14.out t0, cell_b L14.out t1, cell_b L14.out t2, cell_b L14.out u0, cell_b L14.out u1, cell_b L14.out u2⟩ (fun hHeld14 => ?_)
                clear hK K hHeld13
                refine norm_ (a' := ?_) ?_ ?_
                rotate_left
                · show Act.put _ (some 66) _ = _
                  simp only [Act.put, List.setIfInBounds_toArray, List.set_cons_zero, List.set_cons_succ]
                  rfl
                refine pure_ (i := 12) (N := some 7) (v := ?_) (a' := ?_) #[true, true, true, true, true, true, true, true, true, true, true, true, true] rfl rfl (by kernel_rfl) (fun _ _ _ h => h) (Or.inl ⟨by rfl, ?_⟩) ?_ ?_
                rotate_left
                · intro w'
                  go_simp
                  with_reducible rfl
                rotate_left
                · simp only [Act.put, List.setIfInBounds_toArray, List.set_cons_zero, List.set_cons_succ, i64_w, i32_w]
                  rfl
                refine done_ (by kernel_rfl) ?_
                go_wp2
                go_roundg k2
                case measure => omega
                case rel =>
                  refine ⟨k + 1, _, sm, rfl, rfl, ⟨by omega⟩, ⟨?_⟩, HY1, ⟨below_step HZ6.out (pw_below_drewN L10.out _)⟩⟩
                  have hq2 : q = inV (opV .sub (mid l0_0 i) (mid l1_0 k)) (opV .sub (mid l0_0 i) (mid l1_0 k)) := E_gt HQ.out HG.out
                  unfold stepL
                  rw [if_pos HG.out]
                  have hrt : rt (inV (opV .sub (mid l0_0 i) (mid l1_0 k)) (opV .sub (mid l0_0 i) (mid l1_0 k))) = rr := by
                    unfold rt
                    obtain ⟨r5, h5, h6, _⟩ := root_both (gt_is hqg)
                    rw [← hq2, h5]
                    exact Option.some.inj (h6.symm.trans HRR.out)
                  rw [hrt]
                  exact Q14
end XK
end Go.Proofs.Ytffofpiejcolfaa
