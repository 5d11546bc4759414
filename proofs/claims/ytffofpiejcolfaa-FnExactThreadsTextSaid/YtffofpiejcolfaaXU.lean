/- Lists of threads: AreThreads by its closure; the reference's l06Is, l08Thread at an element of a list; l06Are, l08List. -/
import Derived.Test.YtffofpiejcolfaaXT
import Derived.Test.YtffofpiejcolfaaPT
import Derived.Test.YtffofpiejcolfaaF30
import Derived.Test.YtffofpiejcolfaaPureFnExactThreadText
set_option linter.unusedVariables false
set_option linter.unusedSimpArgs false
namespace Go.Proofs.Ytffofpiejcolfaa
open Go.RowKit Go.Proofs.YtffofpiejcolfaaW.PrintWords Go.Proofs.YtffofpiejcolfaaW.PrintLast Go.Proofs.YtffofpiejcolfaaW.PrintMore
attribute [local go_sem] max2_int min2_int max_two min_two max_three min_three max_four min_four   -- for this text's walks alone
namespace XU
open T XF XL XC XT F0 F3
def tis (t : S31) : Bool := isThread t.f0 t.f1
set_option maxHeartbeats 4000000 in
set_option maxRecDepth 100000 in
theorem lit114 (A : Option Addr) (c : Nat) (l : List S46) (a : Nat) (w : World) (hr : Kd.C k46 w A l.length l) (hc : l.length ≤ c) : Calls Try.prog 114 #[.agg #[.slice A l.length c, .float .f32 a]] w fun e w' => e = .returned (.bool (!isThread l a)) ∧ Below w.heap.size w w' := by
  go_enter Try.func114, Try.ntmps114
  go_wp2_with (first | (go_at_call 45; refine (IsThread.calls _ _ _ _ _ _ (Kd.C_alloc hr _) hc rfl).mono ?_; rintro e w1 ⟨rfl, hb⟩))
  go_ret
  exact ⟨by first | rfl | (simp; done), below_step (by repeat (first | exact Below.refl _ _ | apply below_alloc | apply pw_below_drewN | apply below_drew1)) hb⟩
set_option maxHeartbeats 4000000 in
set_option maxRecDepth 100000 in
theorem index131 (A : Option Addr) (c : Nat) (xs : List S31) (r : Int) (hr : ix (fun x => !tis x) xs 0 = r) (w : World) (hr0 : Kd.C k31 w A xs.length xs) (hc0 : xs.length ≤ c) :
    Calls Try.prog 131 #[.slice A xs.length c, .func (.func 114) #[] #[]] w fun e w' => e = .returned (.int .i64 r) ∧ Below w.heap.size w w' := by
  have HR0 := Aside0.mk hr0
  clear hr0
  have hmx : xs.length ≤ 9223372036854775807 := Kd.C_max HR0.out
  go_enter Try.func131, Try.ntmps131
  go_wp2
  go_loopg [8] xs.length (fun kq v8 w' => ∃ (i : Nat), v8 = .int .i64 (i : Int) ∧ Aside0 (i + kq = xs.length) ∧ Aside0 (ix (fun x => !tis x) (xs.drop i) (i : Int) = r) ∧ Aside0 (Below w.heap.size w w'))
  case atStart => exact ⟨0, rfl, ⟨by simp⟩, ⟨hr⟩, ⟨Below.refl _ _⟩⟩
  case round =>
    obtain ⟨i, rfl, HI, HX, HB⟩ := hrel
    have hi := HI.out
    have hx0 := HX.out
    cases gk with
    | zero =>
      have hc : decide ((i : Int) < (xs.length : Int)) = false := by simp; omega
      rw [List.drop_eq_nil_of_le (by omega), ix] at hx0
      subst hx0
      go_wp2
      go_ret
      exact ⟨rfl, HB.out⟩
    | succ k1 =>
      have hil : i < xs.length := by omega
      have hc : decide ((i : Int) < (xs.length : Int)) = true := by simp; omega
      have p0 : (0 : Int) ≤ (i : Int) := by omega
      have q0 : (i : Int) < (xs.length : Int) := by omega
      obtain ⟨ad, Ae, ce, ead, hx_0, hx_1, hle, hCe⟩ := at_T31 HR0.out (i : Int) p0 q0
      cases ead
      replace hx_0 := (HB.out.cell (World.block_lt_of_cell? w _ hx_0)).trans hx_0
      replace hx_1 := (HB.out.cell (World.block_lt_of_cell? w _ hx_1)).trans hx_1
      have hCw := Kd.C_below hCe HB.out
      rw [Int.toNat_natCast] at hx_0 hx_1
      rw [show rd_T31 xs (i : Int) = xs[i] by simp [rd_T31, hil]] at hx_0 hx_1 hle hCw
      rw [List.drop_eq_getElem_cons hil, ix] at hx0
      clear hCe
      generalize xs[i] = x at hx_0 hx_1 hx0 hle hCw
      have p0b := eq_true p0
      have q0b := eq_true q0
      cases e : tis x with
      | false =>
        rw [e, if_pos (by rfl)] at hx0
        subst hx0
        have e2 : isThread x.f0 x.f1 = false := e
        go_wp2_with (first | (go_at_call 114; refine (lit114 _ _ _ _ _ hCw hle).mono ?_; rw [e2]; rintro e w1 ⟨rfl, hb⟩))
        go_ret
        exact ⟨rfl, below_step HB.out hb⟩
      | true =>
        rw [e, if_neg (by decide)] at hx0
        have e2 : isThread x.f0 x.f1 = true := e
        go_wp2_with (first | (go_at_call 114; refine (lit114 _ _ _ _ _ hCw hle).mono ?_; rw [e2]; rintro e w1 ⟨rfl, hb⟩))
        go_roundg k1
        case measure => omega
        case rel => exact ⟨i + 1, rfl, ⟨by omega⟩, ⟨hx0⟩, ⟨below_step HB.out hb⟩⟩
set_option maxHeartbeats 4000000 in
set_option maxRecDepth 100000 in
theorem contains113 (A : Option Addr) (c : Nat) (xs : List S31) (w : World) (hr0 : Kd.C k31 w A xs.length xs) (hc0 : xs.length ≤ c) :
    Calls Try.prog 113 #[.slice A xs.length c, .func (.func 114) #[] #[]] w fun e w' => e = .returned (.bool (xs.any fun x => !tis x)) ∧ Below w.heap.size w w' := by
  have hg := ix_ge (fun x => !tis x) xs 0 (Int.le_refl _)
  go_enter Try.func113, Try.ntmps113
  go_wp2_with (first | (go_at_call 131; refine (index131 _ _ _ _ rfl _ hr0 hc0).mono ?_; rintro e w1 ⟨rfl, hb⟩))
  go_ret
  exact ⟨by first | rfl | (rw [← hg]; rfl), hb⟩
/-- impl.AreThreads, spec.l06Are. -/
def are (l : List S31) : Bool := decide (l.length ≤ 4) && !(l.any fun x => !tis x)
def AreThreads.f (l0 : List S31) : Option Bool := some (are l0)
set_option maxHeartbeats 4000000 in
set_option maxRecDepth 100000 in
theorem AreThreads.calls (A0 : Option Addr) (c0 : Nat) (l0 : List S31) (r : Bool) (w : World) (hr0 : Kd.C k31 w A0 l0.length l0) (hc0 : l0.length ≤ c0) (h : AreThreads.f l0 = some r) :
    Calls Try.prog 73 #[.slice A0 l0.length c0] w fun e w' => e = .returned (.bool r) ∧ Below w.heap.size w w' := by
  obtain rfl := Option.some.inj h
  unfold are
  by_cases c1 : l0.length ≤ 4
  · have c1a : decide ((l0.length : Int) ≤ (4 : Int)) = true := by simp; omega
    rw [decide_eq_true c1, Bool.true_and]
    go_enter Try.func73, Try.ntmps73
    go_wp2_with (first | (go_at_call 113; refine (contains113 _ _ _ _ hr0 hc0).mono ?_; rintro e w1 ⟨rfl, hb⟩))
    go_ret
    exact ⟨by first | rfl | (simp; done), hb⟩
  · have c1a : decide ((l0.length : Int) ≤ (4 : Int)) = false := by simp; omega
    rw [decide_eq_false c1, Bool.false_and]
    go_enter Try.func73, Try.ntmps73
    go_wp2
    go_ret
    exact ⟨by first | rfl | (simp; done), Below.refl _ _⟩
set_option maxHeartbeats 4000000 in
set_option maxRecDepth 100000 in
theorem l06Is_at (ad : Addr) (A : Option Addr) (c : Nat) (l : List S46) (a : Nat) (w : World) (f0 : w.cell? ad = some (.slice A l.length c)) (f1 : w.cell? ⟨ad.block, ad.off + 1, none⟩ = some (.float .f32 a)) (hle : l.length ≤ c) (hC : Kd.C k46 w A l.length l) (r : Bool) (hr : isThread l a = r) :
    Calls Try.prog 41 #[.pointer (some ad)] w fun e w' => e = .returned (.bool r) ∧ Below w.heap.size w w' := by
  have hbk : ad.block < w.heap.size := World.block_lt_of_cell? w _ f0
  have HC := Aside0.mk hC
  clear hC
  unfold isThread at hr
  by_cases c1 : 3 ≤ l.length
  · have c1a : decide ((l.length : Int) < (3 : Int)) = false := by simp; omega
    rw [decide_eq_true c1, Bool.true_and] at hr
    by_cases c2 : l.length ≤ 32
    · have c2a : decide ((32 : Int) < (l.length : Int)) = false := by simp; omega
      rw [decide_eq_true c2, Bool.true_and] at hr
      cases ef : fin a with
      | false =>
        rw [ef, Bool.and_false] at hr
        subst hr
        go_enter Try.func41, Try.ntmps41
        go_wp2_with (first | (go_at_call 58; refine (l01Finite.calls _ _ _ rfl).mono ?_; rw [ef]; rintro e w1 ⟨rfl, ⟨nd, rfl⟩⟩))
        go_ret
        exact ⟨rfl, pw_below_drewN (Below.refl _ _) _⟩
      | true =>
        rw [ef, Bool.and_true] at hr
        have HR := Aside0.mk hr
        clear hr
        go_enter Try.func41, Try.ntmps41
        go_wp2_with (first | (go_at_call 58; refine (l01Finite.calls _ _ _ rfl).mono ?_; rw [ef]; rintro e w1 ⟨rfl, ⟨nd, rfl⟩⟩))
        go_loopg [3] l.length (fun kq v3 w' => ∃ (i : Nat), v3 = .int .i64 (i : Int) ∧ Aside0 (i + kq = l.length) ∧ Aside0 ((!((l.drop i).any fun x => !vfin x)) = r) ∧ Aside0 (Below w.heap.size w w'))
        case atStart => exact ⟨0, rfl, ⟨by simp⟩, HR, ⟨pw_below_drewN (Below.refl _ _) _⟩⟩
        case round =>
          clear HR
          obtain ⟨i, rfl, HI, HX, HB⟩ := hrel
          have hi := HI.out
          have hx0 := HX.out
          replace f0 := (HB.out.cell hbk).trans f0
          cases gk with
          | zero =>
            have hc : decide ((i : Int) < (l.length : Int)) = false := by simp; omega
            rw [List.drop_eq_nil_of_le (by omega)] at hx0
            replace hx0 : true = r := hx0
            subst hx0
            go_wp2
            go_ret
            exact ⟨rfl, HB.out⟩
          | succ k1 =>
            have hil : i < l.length := by omega
            have hc : decide ((i : Int) < (l.length : Int)) = true := by simp; omega
            have p0 : (0 : Int) ≤ (i : Int) := by omega
            have q0 : (i : Int) < (l.length : Int) := by omega
            obtain ⟨ae, ead, hx_0, hx_1, hx_2⟩ := at_T46 HC.out (i : Int) p0 q0
            cases ead
            replace hx_0 := (HB.out.cell (World.block_lt_of_cell? w _ hx_0)).trans hx_0
            replace hx_1 := (HB.out.cell (World.block_lt_of_cell? w _ hx_1)).trans hx_1
            replace hx_2 := (HB.out.cell (World.block_lt_of_cell? w _ hx_2)).trans hx_2
            rw [Int.toNat_natCast, show rd_T46 l (i : Int) = l[i] by simp [rd_T46, hil]] at hx_0 hx_1 hx_2
            rw [List.drop_eq_getElem_cons hil, List.any_cons] at hx0
            generalize l[i] = x at hx_0 hx_1 hx_2 hx0
            have p0b := eq_true p0
            have q0b := eq_true q0
            have hv := PureThreadText.vf x
            cases e : vfin x with
            | false =>
              rw [e] at hv
              rw [e] at hx0
              replace hx0 : false = r := by simpa using hx0
              subst hx0
              go_wp2_with (first | (go_at_call 69; refine (F0.spec_l01VFinite.calls _ _ _ _ _ hv).mono ?_; rintro e w1 ⟨rfl, hb⟩))
              go_ret
              exact ⟨rfl, below_step HB.out hb⟩
            | true =>
              rw [e] at hv
              rw [e] at hx0
              replace hx0 : (!((l.drop (i + 1)).any fun x => !vfin x)) = r := by simpa using hx0
              go_wp2_with (first | (go_at_call 69; refine (F0.spec_l01VFinite.calls _ _ _ _ _ hv).mono ?_; rintro e w1 ⟨rfl, hb⟩))
              go_roundg k1
              case measure => omega
              case rel => exact ⟨i + 1, rfl, ⟨by omega⟩, ⟨hx0⟩, ⟨below_step HB.out hb⟩⟩
    · have c2a : decide ((32 : Int) < (l.length : Int)) = true := by simp; omega
      rw [decide_eq_false c2, Bool.false_and] at hr
      subst hr
      go_enter Try.func41, Try.ntmps41
      go_wp2
      go_ret
      exact ⟨rfl, Below.refl _ _⟩
  · have c1a : decide ((l.length : Int) < (3 : Int)) = true := by simp; omega
    rw [decide_eq_false c1, Bool.false_and] at hr
    subst hr
    go_enter Try.func41, Try.ntmps41
    go_wp2
    go_ret
    exact ⟨rfl, Below.refl _ _⟩
def l06Are.f (l0 : List S31) : Option Bool := some (are l0)
set_option maxHeartbeats 4000000 in
set_option maxRecDepth 100000 in
theorem l06Are.calls (A0 : Option Addr) (c0 : Nat) (l0 : List S31) (r : Bool) (w : World) (hr0 : Kd.C k31 w A0 l0.length l0) (hc0 : l0.length ≤ c0) (h : l06Are.f l0 = some r) :
    Calls Try.prog 68 #[.slice A0 l0.length c0] w fun e w' => e = .returned (.bool r) ∧ Below w.heap.size w w' := by
  replace h := Option.some.inj h
  have HR0 := Aside0.mk hr0
  clear hr0
  have hmx : l0.length ≤ 9223372036854775807 := Kd.C_max HR0.out
  unfold are at h
  by_cases c1 : l0.length ≤ 4
  · have c1a : decide ((l0.length : Int) ≤ (4 : Int)) = true := by simp; omega
    rw [decide_eq_true c1, Bool.true_and] at h
    have HR := Aside0.mk h
    clear h
    go_enter Try.func68, Try.ntmps68
    go_wp2
    go_loopg [3] l0.length (fun kq v3 w' => ∃ (i : Nat), v3 = .int .i64 (i : Int) ∧ Aside0 (i + kq = l0.length) ∧ Aside0 ((!((l0.drop i).any fun x => !tis x)) = r) ∧ Aside0 (Below w.heap.size w w'))
    case atStart => exact ⟨0, rfl, ⟨by simp⟩, HR, ⟨Below.refl _ _⟩⟩
    case round =>
      clear HR
      obtain ⟨i, rfl, HI, HX, HB⟩ := hrel
      have hi := HI.out
      have hx0 := HX.out
      cases gk with
      | zero =>
        have hc : decide ((i : Int) < (l0.length : Int)) = false := by simp; omega
        rw [List.drop_eq_nil_of_le (by omega)] at hx0
        replace hx0 : true = r := hx0
        subst hx0
        go_wp2
        go_ret
        exact ⟨rfl, HB.out⟩
      | succ k1 =>
        have hil : i < l0.length := by omega
        have hc : decide ((i : Int) < (l0.length : Int)) = true := by simp; omega
        have p0 : (0 : Int) ≤ (i : Int) := by omega
        have q0 : (i : Int) < (l0.length : Int) := by omega
        obtain ⟨ad, Ae, ce, ead, hx_0, hx_1, hle, hCe⟩ := at_T31 HR0.out (i : Int) p0 q0
        cases ead
        replace hx_0 := (HB.out.cell (World.block_lt_of_cell? w _ hx_0)).trans hx_0
        replace hx_1 := (HB.out.cell (World.block_lt_of_cell? w _ hx_1)).trans hx_1
        have hCw := Kd.C_below hCe HB.out
        rw [Int.toNat_natCast] at hx_0 hx_1
        rw [show rd_T31 l0 (i : Int) = l0[i] by simp [rd_T31, hil]] at hx_0 hx_1 hle hCw
        rw [List.drop_eq_getElem_cons hil, List.any_cons] at hx0
        clear hCe
        generalize l0[i] = x at hx_0 hx_1 hx0 hle hCw
        have p0b := eq_true p0
        have q0b := eq_true q0
        cases e : tis x with
        | false =>
          rw [e] at hx0
          replace hx0 : false = r := by simpa using hx0
          subst hx0
          go_wp2_with (first | (go_at_call 41; refine (l06Is_at _ _ _ _ _ _ hx_0 hx_1 hle hCw _ e).mono ?_; rintro e w1 ⟨rfl, hb⟩))
          go_ret
          exact ⟨rfl, below_step HB.out hb⟩
        | true =>
          rw [e] at hx0
          replace hx0 : (!((l0.drop (i + 1)).any fun x => !tis x)) = r := by simpa using hx0
          go_wp2_with (first | (go_at_call 41; refine (l06Is_at _ _ _ _ _ _ hx_0 hx_1 hle hCw _ e).mono ?_; rintro e w1 ⟨rfl, hb⟩))
          go_roundg k1
          case measure => omega
          case rel => exact ⟨i + 1, rfl, ⟨by omega⟩, ⟨hx0⟩, ⟨below_step HB.out hb⟩⟩
  · have c1a : decide ((l0.length : Int) ≤ (4 : Int)) = false := by simp; omega
    rw [decide_eq_false c1, Bool.false_and] at h
    subst h
    have c3 : decide ((0 : Int) < (l0.length : Int)) = true := by simp; omega
    go_enter Try.func68, Try.ntmps68
    go_wp2
    go_loopg [3] 0 (fun kq v3 w' => v3 = .int .i64 0 ∧ Aside0 (Below w.heap.size w w'))
    case atStart => exact ⟨rfl, ⟨Below.refl _ _⟩⟩
    case round =>
      obtain ⟨rfl, HB⟩ := hrel
      go_wp2
      go_ret
      exact ⟨rfl, HB.out⟩
/-- A thread's text so far. -/
def tx (l : List S46) : Nat → List UInt8
  | 0 => []
  | i + 1 => tx l i ++ ((if i = 0 then [] else [47]) ++ PT.VTs (l.getD i z46))
theorem tx_len (l : List S46) : ∀ i, (tx l i).length ≤ 27 * i
  | 0 => by simp [tx]
  | i + 1 => by
    have := tx_len l i
    simp only [tx, List.length_append, PT.VTs, PT.VT_len]
    split <;> simp <;> omega
theorem tx_join (l : List S46) : ∀ i, i ≤ l.length → tx l i = Lib.join ((l.take i).map PT.VTs) [47]
  | 0, _ => by simp [tx, Lib.join_nil]
  | i + 1, h => by
    rw [tx, tx_join l i (by omega)]
    have hi : i < l.length := by omega
    have e : l.take (i + 1) = l.take i ++ [l[i]] := by rw [List.take_succ_eq_append_getElem hi]
    have g : l.getD i z46 = l[i] := by simp [List.getD, hi]
    rw [e, g]
    cases hl : l.take i with
    | nil =>
      have : i = 0 := by
        have hh := congrArg List.length hl
        rw [List.length_take, List.length_nil] at hh
        omega
      subst this
      simp [Lib.join_nil, Lib.join_one]
    | cons v p =>
      have : i ≠ 0 := by
        rintro rfl
        simp at hl
      rw [if_neg this, List.map_append, List.map_cons, List.map_cons, List.map_nil, Lib.join_cons]
      show _ = Lib.join (PT.VTs v :: (p.map PT.VTs ++ [PT.VTs l[i]])) [47]
      rw [Lib.join_cons]
      simp [Lib.joinTail]
theorem one_C {k : FloatKind} {b : Nat} {x : Nat} {t : TypeId} {w : World} (h : w.heap[b]? = some (.cells #[.float k x] t (0, 0))) : Kd.C (Kd.float k) w (some ⟨b, 0, none⟩) [x].length [x] := by
  refine Kd.C_of_reads (d := (0 : Nat)) ⟨rfl, by simp, fun _ => ⟨_, rfl, fun j hj => ?_⟩⟩
  have hj1 : j = 0 := by have : j < 1 := hj; omega
  subst hj1
  rw [add_plain]
  unfold World.cell?
  rw [h]
  rfl
set_option maxHeartbeats 4000000 in
set_option maxRecDepth 100000 in
theorem l08Thread_at (ad : Addr) (A : Option Addr) (c : Nat) (l : List S46) (a : Nat) (w : World) (f0 : w.cell? ad = some (.slice A l.length c)) (f1 : w.cell? ⟨ad.block, ad.off + 1, none⟩ = some (.float .f32 a)) (hle : l.length ≤ c) (hC : Kd.C k46 w A l.length l) (hl : l.length ≤ 32) :
    Calls Try.prog 49 #[.pointer (some ad)] w fun e w' => e = .returned (.string (B (PT.TT l a))) ∧ Below w.heap.size w w' := by
  have hbk : ad.block < w.heap.size := World.block_lt_of_cell? w _ f0
  have HC := Aside0.mk hC
  clear hC
  have hT : PT.TT l a = tx l l.length ++ ([59] ++ PT.H a) := by rw [tx_join l l.length (Nat.le_refl _), List.take_length]; rfl
  rw [hT]
  clear hT
  go_enter Try.func49, Try.ntmps49
  go_wp2
  go_loopg [3, 4] l.length (fun kq v3 v4 w' => ∃ (i : Nat), v3 = .string (B (tx l i)) ∧ v4 = .int .i64 (i : Int) ∧ Aside0 (i + kq = l.length) ∧ Aside0 (Below w.heap.size w w'))
  case atStart => exact ⟨0, rfl, rfl, ⟨by simp⟩, ⟨Below.refl _ _⟩⟩
  case round =>
    obtain ⟨i, rfl, rfl, HI, HB⟩ := hrel
    have hi := HI.out
    replace f0 := (HB.out.cell hbk).trans f0
    replace f1 := (HB.out.cell (p := ⟨ad.block, ad.off + 1, none⟩) hbk).trans f1
    have htl := tx_len l i
    have hsz : (B (tx l i)).size ≤ 1000 := by rw [B_size]; omega
    cases gk with
    | zero =>
      have e : i = l.length := by omega
      subst e
      have hc : decide ((l.length : Int) < (l.length : Int)) = false := by simp
      have hN := PT.spec_N1 a 13 (by omega)
      have s1 : (9223372036854775807 < (B (tx l l.length)).size + 1) = False := eq_false (by omega)
      have hz : (B (PT.H a)).size = 8 := by rw [B_size, PT.H_len]
      have s2 : (9223372036854775807 < (B (tx l l.length)).size + 1 + (B (PT.H a)).size) = False := eq_false (by omega)
      have e9 : (B (tx l l.length) ++ (⟨#[59]⟩ : ByteArray)) ++ B (PT.H a) = B (tx l l.length ++ ([59] ++ PT.H a)) := by rw [PT.c59, B_append, B_append, List.append_assoc]
      go_wp2_with (first | (go_at_call 99; refine (F0.spec_l01NText.calls 13 _ 1 [a] _ _ (one_C (t := 23) (heap_alloc_new _ _)) (by simp) hN).mono ?_; rintro e w1 ⟨rfl, hb⟩))
      go_ret
      exact ⟨rfl, below_step (below_alloc HB.out _) hb⟩
    | succ k1 =>
      have hil : i < l.length := by omega
      have hc : decide ((i : Int) < (l.length : Int)) = true := by simp; omega
      have p0 : (0 : Int) ≤ (i : Int) := by omega
      have q0 : (i : Int) < (l.length : Int) := by omega
      obtain ⟨ae, ead, hx_0, hx_1, hx_2⟩ := at_T46 HC.out (i : Int) p0 q0
      cases ead
      replace hx_0 := (HB.out.cell (World.block_lt_of_cell? w _ hx_0)).trans hx_0
      replace hx_1 := (HB.out.cell (World.block_lt_of_cell? w _ hx_1)).trans hx_1
      replace hx_2 := (HB.out.cell (World.block_lt_of_cell? w _ hx_2)).trans hx_2
      rw [Int.toNat_natCast, show rd_T46 l (i : Int) = l.getD i z46 by simp [rd_T46]] at hx_0 hx_1 hx_2
      have hstep : tx l (i + 1) = tx l i ++ ((if i = 0 then [] else [47]) ++ PT.VTs (l.getD i z46)) := rfl
      generalize l.getD i z46 = x at hx_0 hx_1 hx_2 hstep
      have p0b := eq_true p0
      have q0b := eq_true q0
      have hV := PT.spec_V x.f0 x.f1 x.f2 13 (by omega)
      have hz : (B (PT.VT x.f0 x.f1 x.f2)).size = 26 := by rw [B_size, PT.VT_len]
      by_cases h0 : i = 0
      · have c0 : decide ((0 : Int) < (i : Int)) = false := by simp; omega
        rw [if_pos h0, List.nil_append] at hstep
        have s2 : (9223372036854775807 < (B (tx l i)).size + (B (PT.VT x.f0 x.f1 x.f2)).size) = False := eq_false (by omega)
        have e9 : B (tx l i) ++ B (PT.VT x.f0 x.f1 x.f2) = B (tx l (i + 1)) := by rw [B_append, hstep]; rfl
        have c0n : (0 < i) = False := eq_false (by omega)
        have c0m : decide (0 < i) = false := by simp [c0n]
        clear h0
        clear hstep
        go_wp2_with (first | (go_at_call 98; refine (F0.spec_l01VText.calls 13 _ _ _ _ _ hV).mono ?_; rintro e w1 ⟨rfl, hb⟩))
        go_roundg k1
        case measure => omega
        case rel => exact ⟨i + 1, by first | rfl | (rw [e9]; done) | (simp [*]; done), rfl, ⟨by omega⟩, ⟨below_step HB.out hb⟩⟩
      · have c0 : decide ((0 : Int) < (i : Int)) = true := by simp; omega
        rw [if_neg h0] at hstep
        have s1 : (9223372036854775807 < (B (tx l i)).size + 1) = False := eq_false (by omega)
        have s2 : (9223372036854775807 < (B (tx l i)).size + 1 + (B (PT.VT x.f0 x.f1 x.f2)).size) = False := eq_false (by omega)
        have e9 : (B (tx l i) ++ (⟨#[47]⟩ : ByteArray)) ++ B (PT.VT x.f0 x.f1 x.f2) = B (tx l (i + 1)) := by rw [PT.c47, B_append, B_append, hstep, List.append_assoc]; rfl
        clear hstep
        go_wp2_with (first | (go_at_call 98; refine (F0.spec_l01VText.calls 13 _ _ _ _ _ hV).mono ?_; rintro e w1 ⟨rfl, hb⟩))
        go_roundg k1
        case measure => omega
        case rel => exact ⟨i + 1, by first | rfl | (rw [e9]; done) | (simp [*]; done), rfl, ⟨by omega⟩, ⟨below_step HB.out hb⟩⟩
/-- A list's text. -/
def TTs (t : S31) : List UInt8 := PT.TT t.f0 t.f1
def tz (l : List S31) (i : Nat) : List UInt8 := Lib.join ((l.take i).map TTs) [124]
def lt (l : List S31) : List UInt8 := if l.length = 0 then [110, 111, 110, 101] else Lib.join (l.map TTs) [124]
theorem TT_len (l : List S46) (a : Nat) : (PT.TT l a).length ≤ 27 * l.length + 9 := by
  have h := tx_len l l.length
  rw [tx_join l l.length (Nat.le_refl _), List.take_length] at h
  unfold PT.TT
  simp only [List.length_append, PT.H_len, List.length_cons, List.length_nil]
  omega
theorem tz_step (l : List S31) (i : Nat) (h : i < l.length) (h0 : 1 ≤ i) : tz l (i + 1) = tz l i ++ ([124] ++ TTs l[i]) := by
  unfold tz
  have e : l.take (i + 1) = l.take i ++ [l[i]] := by rw [List.take_succ_eq_append_getElem h]
  rw [e]
  cases hl : l.take i with
  | nil =>
    have hh := congrArg List.length hl
    rw [List.length_take, List.length_nil] at hh
    omega
  | cons v p =>
    rw [List.map_append, List.map_cons, List.map_cons, List.map_nil, Lib.join_cons]
    show Lib.join (TTs v :: (p.map TTs ++ [TTs l[i]])) [124] = _
    rw [Lib.join_cons]
    simp [Lib.joinTail]
def lok (l : List S31) : Prop := l.length ≤ 4 ∧ ∀ t ∈ l, t.f0.length ≤ 32
theorem tz_len (l : List S31) (h : ∀ t ∈ l, t.f0.length ≤ 32) : ∀ i, 1 ≤ i → i ≤ l.length → (tz l i).length ≤ 1000 * i
  | 0, h0, _ => by omega
  | 1, _, h1 => by
    cases l with
    | nil => simp at h1
    | cons t r =>
      have := TT_len t.f0 t.f1
      have h2 := h t (by simp)
      simp only [tz, List.take_succ_cons, List.take_zero, List.map_cons, List.map_nil, Lib.join_one, TTs]
      omega
  | i + 2, _, h1 => by
    have ih := tz_len l h (i + 1) (by omega) (by omega)
    have hi : i + 1 < l.length := by omega
    rw [tz_step l (i + 1) hi (by omega)]
    have := TT_len l[i + 1].f0 l[i + 1].f1
    have h2 := h l[i + 1] (List.getElem_mem hi)
    simp only [List.length_append, TTs, List.length_cons, List.length_nil]
    omega
instance (l : List S31) : Decidable (lok l) := by unfold lok; exact inferInstance
def l08List.f (l0 : List S31) : Option ByteArray := if lok l0 then some (B (lt l0)) else none
set_option maxHeartbeats 4000000 in
set_option maxRecDepth 100000 in
theorem l08List.calls (A0 : Option Addr) (c0 : Nat) (l0 : List S31) (r : ByteArray) (w : World) (hr0 : Kd.C k31 w A0 l0.length l0) (hc0 : l0.length ≤ c0) (h : l08List.f l0 = some r) :
    Calls Try.prog 78 #[.slice A0 l0.length c0] w fun e w' => e = .returned (.string r) ∧ Below w.heap.size w w' := by
  unfold l08List.f at h
  split at h
  case isFalse => cases h
  rename_i hok
  replace h := Option.some.inj h
  obtain ⟨h4, h32⟩ := hok
  have HR0 := Aside0.mk hr0
  clear hr0
  have H32 := Aside0.mk h32
  unfold lt at h
  by_cases h0 : l0.length = 0
  · rw [if_pos h0] at h
    subst h
    have c1 : ((l0.length : Int) == 0) = true := by simp [h0]
    clear h0
    go_enter Try.func78, Try.ntmps78
    go_wp2
    go_ret
    exact ⟨rfl, Below.refl _ _⟩
  · rw [if_neg h0] at h
    have c1 : ((l0.length : Int) == 0) = false := by simp [h0]
    have h1 : 0 < l0.length := by omega
    obtain ⟨ad, Ae, ce, ead, hx_0, hx_1, hle, hCe⟩ := at_T31 HR0.out 0 (Int.le_refl 0) (by omega)
    cases ead
    rw [show rd_T31 l0 0 = l0[0] by simp [rd_T31, h1]] at hx_0 hx_1 hle hCe
    have hz1 : B (PT.TT l0[0].f0 l0[0].f1) = B (tz l0 1) := by
      congr 1
      cases l0 with
      | nil => simp at h1
      | cons t r => simp [tz, Lib.join_one, TTs]
    have hl0 := h32 l0[0] (List.getElem_mem h1)
    have HH : Aside0 (B (tz l0 l0.length) = r) := ⟨by rw [← h, tz, List.take_length]⟩
    clear h h32 h0
    generalize l0[0] = x at hx_0 hx_1 hle hCe hz1 hl0
    have q0b : (((0 : Int) < (l0.length : Int))) = True := eq_true (by omega)
    have q0c : decide ((0 : Int) < (l0.length : Int)) = true := by simp [h1]
    go_enter Try.func78, Try.ntmps78
    go_wp2_with (first | (go_at_call 49; refine (l08Thread_at _ _ _ _ _ _ hx_0 hx_1 hle hCe hl0).mono ?_; rw [hz1]; rintro e w1 ⟨rfl, hb⟩))
    clear hz1 hx_0 hx_1 hle hCe hl0 q0b q0c
    go_loopg [3, 4] (l0.length - 1) (fun kq v3 v4 w' => ∃ (i : Nat), v3 = .string (B (tz l0 i)) ∧ v4 = .int .i64 (i : Int) ∧ Aside0 (1 ≤ i) ∧ Aside0 (i + kq = l0.length) ∧ Aside0 (Below w.heap.size w w'))
    case atStart => exact ⟨1, rfl, rfl, ⟨Nat.le_refl _⟩, ⟨by omega⟩, ⟨hb⟩⟩
    case round =>
      clear hb
      obtain ⟨i, rfl, rfl, H1, HI, HB⟩ := hrel
      have hi := HI.out
      have hi1 := H1.out
      have htl := tz_len l0 H32.out i hi1 (by omega)
      have hsz : (B (tz l0 i)).size ≤ 4000 := by rw [B_size]; omega
      cases gk with
      | zero =>
        have e : i = l0.length := by omega
        subst e
        have hc : decide ((l0.length : Int) < (l0.length : Int)) = false := by simp
        go_wp2
        go_ret
        exact ⟨by rw [← HH.out]; rfl, HB.out⟩
      | succ k1 =>
        have hil : i < l0.length := by omega
        have hc : decide ((i : Int) < (l0.length : Int)) = true := by simp; omega
        have p0 : (0 : Int) ≤ (i : Int) := by omega
        have q0 : (i : Int) < (l0.length : Int) := by omega
        obtain ⟨ae, Ae, ce, ead, hx_0, hx_1, hle, hCe⟩ := at_T31 HR0.out (i : Int) p0 q0
        cases ead
        replace hx_0 := (HB.out.cell (World.block_lt_of_cell? w _ hx_0)).trans hx_0
        replace hx_1 := (HB.out.cell (World.block_lt_of_cell? w _ hx_1)).trans hx_1
        have hCw := Kd.C_below hCe HB.out
        rw [Int.toNat_natCast] at hx_0 hx_1
        rw [show rd_T31 l0 (i : Int) = l0[i] by simp [rd_T31, hil]] at hx_0 hx_1 hle hCw
        clear hCe
        have hstep := tz_step l0 i hil hi1
        have hl0 := H32.out l0[i] (List.getElem_mem hil)
        have hTl := TT_len l0[i].f0 l0[i].f1
        unfold TTs at hstep
        generalize l0[i] = x at hx_0 hx_1 hle hCw hstep hl0 hTl
        have p0b := eq_true p0
        have q0b := eq_true q0
        have hz : (B (PT.TT x.f0 x.f1)).size ≤ 1000 := by rw [B_size]; omega
        have s1 : (9223372036854775807 < 1 + (B (PT.TT x.f0 x.f1)).size) = False := eq_false (by omega)
        have s2 : (9223372036854775807 < (B (tz l0 i)).size + (1 + (B (PT.TT x.f0 x.f1)).size)) = False := eq_false (by omega)
        have e9 : B (tz l0 i) ++ ((⟨#[124]⟩ : ByteArray) ++ B (PT.TT x.f0 x.f1)) = B (tz l0 (i + 1)) := by rw [show (⟨#[124]⟩ : ByteArray) = B [124] from rfl, B_append, B_append, hstep]
        clear hstep
        go_wp2_with (first | (go_at_call 49; refine (l08Thread_at _ _ _ _ _ _ hx_0 hx_1 hle hCw hl0).mono ?_; rintro e w2 ⟨rfl, hb2⟩))
        go_roundg k1
        case measure => omega
        case rel => exact ⟨i + 1, by first | rfl | (rw [e9]; done) | (simp [*]; done), rfl, ⟨by omega⟩, ⟨by omega⟩, ⟨below_step HB.out hb2⟩⟩
end XU
end Go.Proofs.Ytffofpiejcolfaa
