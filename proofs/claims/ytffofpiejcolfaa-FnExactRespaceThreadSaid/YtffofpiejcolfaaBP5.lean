/- Words, walks and plain laws that a claim of this seat needs, one text after the other (part 5). -/
import Derived.Test.YtffofpiejcolfaaBP4
set_option linter.unusedVariables false
set_option linter.unusedSimpArgs false
section
set_option linter.unusedVariables false
set_option linter.unusedSimpArgs false
namespace Go.Proofs.Ytffofpiejcolfaa.PResp
open Go.RowKit Go.Proofs.Ytffofpiejcolfaa Go.Proofs.YtffofpiejcolfaaW.PrintWords
open XF XL XC XY XN XE XK XG XV XW XM XP XH L0 L3
theorem fin_inf {x : Nat} {s : Bool} (h : FloatKind.f32.format.read x = .infinity s) : fin x = false := by
  unfold fin floatBits Ieee.Format.sub
  rw [h]
  cases s <;> rfl
theorem inf_w : FloatKind.f32.format.read (FloatKind.f32.format.write (.infinity false)) = .infinity false := by decide
theorem add_parts {a b : Nat} (ha : Is false (FloatKind.f32.format.read a)) (hb : Is false (FloatKind.f32.format.read b)) (h : fin (fop .add .f32 a b) = true) : fin a = true ∧ fin b = true := by
  rcases ha with ⟨m, e, ha⟩ | ha
  · rcases hb with ⟨n, i, hb⟩ | hb
    · exact ⟨fin_of_num ⟨_, _, _, ha⟩, fin_of_num ⟨_, _, _, hb⟩⟩
    · exfalso
      have : floatBits .add .f32 a b = some (FloatKind.f32.format.write (.infinity false)) := by
        unfold floatBits Ieee.Format.add
        rw [ha, hb]
        rfl
      rw [(fok_of this).2, fin_inf inf_w] at h
      cases h
  · exfalso
    have : floatBits .add .f32 a b = some (FloatKind.f32.format.write (.infinity false)) := by
      unfold floatBits Ieee.Format.add
      rcases hb with ⟨n, i, hb⟩ | hb <;> rw [ha, hb] <;> rfl
    rw [(fok_of this).2, fin_inf inf_w] at h
    cases h
theorem ar_fop {op : BinOp} {x y : Nat} (h : fok op .f32 x y = true) : fop op .f32 x y = ar op x y := by
  unfold fok at h
  cases e : floatBits op .f32 x y with
  | none => rw [e] at h; cases h
  | some r =>
    rw [(fok_of e).2]
    unfold ar
    rw [e]
    rfl
theorem sizeI_eq {l : List S46} {i : Nat} (hfin : ∀ i, i < l.length → vfin (pt l i) = true) (hi : i < l.length) : sizeI l i = some (sizeP l i) := by
  have hs := size_ok (seg_is hfin hi)
  obtain ⟨r1, r2, r3, s1, s2, s3, h, i1, i2, i3⟩ := less_ok (hfin i hi) (hfin ((i + 1) % l.length) (Nat.mod_lt _ (by omega)))
  have e : impl_LessVectors.f (nx l i).f0 (nx l i).f1 (nx l i).f2 (pt l i).f0 (pt l i).f1 (pt l i).f2 = some ((seg l i).f0, (seg l i).f1, (seg l i).f2) := by
    have h' := h
    change impl_LessVectors.f (nx l i).f0 (nx l i).f1 (nx l i).f2 (pt l i).f0 (pt l i).f1 (pt l i).f2 = _ at h'
    unfold impl_LessVectors.f at h' ⊢
    by_cases c0 : fok .sub .f32 (nx l i).f0 (pt l i).f0 = true
    · by_cases c1 : fok .sub .f32 (nx l i).f1 (pt l i).f1 = true
      · by_cases c2 : fok .sub .f32 (nx l i).f2 (pt l i).f2 = true
        · rw [if_pos c0, if_pos c1, if_pos c2, ar_fop c0, ar_fop c1, ar_fop c2]
          rfl
        · rw [if_pos c0, if_pos c1, if_neg c2] at h'; cases h'
      · rw [if_pos c0, if_neg c1] at h'; cases h'
    · rw [if_neg c0] at h'; cases h'
  unfold sizeI
  change (impl_LessVectors.f (nx l i).f0 (nx l i).f1 (nx l i).f2 (pt l i).f0 (pt l i).f1 (pt l i).f2).bind _ = _
  rw [e]
  exact hs.1
theorem size_is {l : List S46} {i : Nat} (hfin : ∀ i, i < l.length → vfin (pt l i) = true) (hi : i < l.length) : Is false (FloatKind.f32.format.read (sizeP l i)) := (size_ok (seg_is hfin hi)).2.2
theorem sums_fin {l : List S46} (hfin : ∀ i, i < l.length → vfin (pt l i) = true) : ∀ (k i acc s : Nat), i + k ≤ l.length → sumF (sizeI l) k i acc = some s → Is false (FloatKind.f32.format.read acc) → fin s = true → fin acc = true ∧ ∀ j, i ≤ j → j < i + k → fin (sizeP l j) = true
  | 0, i, acc, s, hl, h, ha, hs => by
    unfold sumF at h
    rw [Option.some.inj h]
    exact ⟨hs, fun j h1 h2 => by omega⟩
  | k + 1, i, acc, s, hl, h, ha, hs => by
    obtain ⟨t, h1, h2, h3⟩ := sumF_succ h
    rw [sizeI_eq hfin (by omega)] at h1
    obtain rfl := Option.some.inj h1
    have hi := size_is hfin (i := i) (by omega)
    obtain ⟨r, hr, hr2⟩ := add_nn ha hi
    have := sums_fin hfin k (i + 1) _ s (by omega) h3 (by rw [(fok_of hr).2]; exact hr2) hs
    obtain ⟨p1, p2⟩ := add_parts ha hi this.1
    refine ⟨p1, fun j g1 g2 => ?_⟩
    rcases Nat.eq_or_lt_of_le g1 with g | g
    · rw [← g]; exact p2
    · exact this.2 j g (by omega)
theorem order_some {x y : Nat} (hx : isn .f32 x = false) (hy : isn .f32 y = false) : ∃ o, FloatKind.f32.format.order x y = some o := by
  unfold isn at hx hy
  unfold Ieee.Format.order
  cases h1 : FloatKind.f32.format.read x with
  | nan s f => rw [h1] at hx; cases hx
  | infinity s =>
    cases h2 : FloatKind.f32.format.read y with
    | nan s f => rw [h2] at hy; cases hy
    | infinity t => exact ⟨_, rfl⟩
    | number t n i => exact ⟨_, rfl⟩
  | number s m e =>
    cases h2 : FloatKind.f32.format.read y with
    | nan s f => rw [h2] at hy; cases hy
    | infinity t => exact ⟨_, rfl⟩
    | number t n i => exact ⟨_, rfl⟩
theorem sub_nn' {a b : Nat} (ha : isn .f32 a = false) (hb : Num b) : isn .f32 (ar .sub a b) = false := by
  obtain ⟨t, n, i, hb⟩ := hb
  unfold isn at ha
  unfold ar floatBits Ieee.Format.sub
  rw [hb]
  cases hr : FloatKind.f32.format.read a with
  | number s m e =>
    simp only [Ieee.Datum.opposite, Ieee.Datum.sum, Option.map_some, Option.getD_some]
    exact Is_n (write32 (.inl ⟨_, _, rfl⟩))
  | infinity s =>
    simp only [Ieee.Datum.opposite, Ieee.Datum.sum, Option.map_some, Option.getD_some]
    exact Is_n (write32 (.inr rfl))
  | nan s f => rw [hr] at ha; cases ha
theorem nn_zero {x : Nat} (h : Is false (FloatKind.f32.format.read x)) : (FloatKind.f32.format.order x 0 != some .eq) = (FloatKind.f32.format.order x 0 == some .gt) := by
  have h0 : FloatKind.f32.format.read 0 = .number false 0 (-149) := by decide
  unfold Ieee.Format.order
  rw [h0]
  rcases h with ⟨m, e, h⟩ | h
  · rw [h]
    simp only [Ieee.Datum.order]
    have p1 : 0 ≤ Ieee.signed false m (e - min e (-149)).toNat := Int.natCast_nonneg _
    have p2 : Ieee.signed false 0 (-149 - min e (-149)).toNat = 0 := by simp [Ieee.signed]
    rw [p2]
    generalize Ieee.signed false m (e - min e (-149)).toNat = z at p1
    by_cases c : z = 0
    · subst c; rfl
    · have : compare z 0 = .gt := by rw [Int.compare_eq_gt]; omega
      rw [this]
      rfl
  · rw [h]
    rfl
theorem along_eq {l : List S46} (hfin : ∀ i, i < l.length → vfin (pt l i) = true) (hsz : ∀ j, j < l.length → fin (sizeP l j) = true) : ∀ (k i left : Nat), i + k = l.length → isn .f32 left = false → alongF l k i left = alongG l k i left
  | 0, i, left, _, _ => rfl
  | k + 1, i, left, hi, hl => by
    have hil : i < l.length := by omega
    have hn : Num (sizeP l i) := num_of_fin (hsz i hil)
    obtain ⟨o, ho⟩ := order_some (Num_n hn) hl
    unfold alongF alongG
    rw [nn_zero (size_is hfin hil), ho, along_eq hfin hsz k (i + 1) _ (by omega) (sub_nn' hl hn)]
    by_cases hlast : i + 1 = l.length
    · rw [if_neg (fun h => by omega), if_pos (show ((some o == some Ordering.gt || some o == some Ordering.eq) = true ∨ i + 1 = l.length) from .inr hlast)]
    · cases o with
      | lt => rw [if_pos ⟨rfl, by omega⟩, if_neg (fun h => h.elim (by decide) hlast)]
      | eq => rw [if_neg (fun h => by have := h.1; revert this; decide), if_pos (show ((some Ordering.eq == some Ordering.gt || some Ordering.eq == some Ordering.eq) = true ∨ i + 1 = l.length) from .inl (by decide))]
      | gt => rw [if_neg (fun h => by have := h.1; revert this; decide), if_pos (show ((some Ordering.gt == some Ordering.gt || some Ordering.gt == some Ordering.eq) = true ∨ i + 1 = l.length) from .inl (by decide))]
def cntB (n : Int) : Bool := match FloatKind.f32.format.read (floatOfInt .f32 n) with
  | .number false m j => m.log2 == 23 && (decide (-22 ≤ j) && m != 0)
  | _ => false
theorem cnt_all : ∀ x : Fin 30, cntB ((x.val : Int) + 3) = true := by decide +kernel
theorem cnt {n : Int} (h0 : 3 ≤ n) (h1 : n ≤ 32) : ∃ m j, FloatKind.f32.format.read (floatOfInt .f32 n) = .number false m j ∧ m.log2 = 23 ∧ -22 ≤ j ∧ m ≠ 0 := by
  have := cnt_all ⟨(n - 3).toNat, by omega⟩
  have e : (((n - 3).toNat : Nat) : Int) + 3 = n := by omega
  simp only [e] at this
  unfold cntB at this
  split at this
  · rename_i m j hr
    simp only [Bool.and_eq_true, beq_iff_eq, decide_eq_true_eq, bne_iff_ne] at this
    exact ⟨m, j, hr, this.1, this.2.1, this.2.2⟩
  · cases this
theorem quo_num {t : Nat} {n : Int} (h : Num t) (h0 : 3 ≤ n) (h1 : n ≤ 32) : Num (ar .quo t (floatOfInt .f32 n)) := by
  obtain ⟨s, m, e, ht⟩ := h
  obtain ⟨q, j, hq, hl, hj, hq0⟩ := cnt h0 h1
  have hb := read32_b ht
  have f23 : FloatKind.f32.format.fractionBits + 2 = 25 := by decide
  unfold ar floatBits Ieee.Format.div
  rw [ht, hq]
  simp only [Ieee.Datum.quotient, f23, if_neg hq0, Option.map_some, Option.getD_some, Ieee.Format.write, hl]
  obtain ⟨m', e', h3⟩ := near32h (s ^^ false) (2 * (m <<< (25 + 23 - m.log2) / q) + (m <<< (25 + 23 - m.log2) % q != 0).toNat) (e - j - ((25 + 23 - m.log2 : Nat) : Int) - 1) (fun hne => by
    by_cases hm0 : m = 0
    · subst hm0
      simp at hne
    have hml : m.log2 < 24 := (Nat.log2_lt hm0).2 (show m < 2 ^ 24 by simpa using hb.1)
    have hq23 : 2 ^ 23 ≤ q := by rw [← hl]; exact Nat.log2_self_le hq0
    have hd : m <<< (25 + 23 - m.log2) < 2 ^ 49 := by
      rw [Nat.shiftLeft_eq]
      calc m * 2 ^ (25 + 23 - m.log2) < 2 ^ (m.log2 + 1) * 2 ^ (25 + 23 - m.log2) := Nat.mul_lt_mul_of_pos_right Nat.lt_log2_self (Nat.two_pow_pos _)
        _ = 2 ^ 49 := by rw [← Nat.pow_add]; congr 1; omega
    have hdiv : m <<< (25 + 23 - m.log2) / q < 2 ^ 26 := by
      refine Nat.div_lt_of_lt_mul (Nat.lt_of_lt_of_le hd ?_)
      calc 2 ^ 49 = 2 ^ 23 * 2 ^ 26 := by decide
        _ ≤ q * 2 ^ 26 := Nat.mul_le_mul_right _ hq23
    have hbit : (m <<< (25 + 23 - m.log2) % q != 0).toNat ≤ 1 := by cases (m <<< (25 + 23 - m.log2) % q != 0) <;> decide
    have hlt : 2 * (m <<< (25 + 23 - m.log2) / q) + (m <<< (25 + 23 - m.log2) % q != 0).toNat < 2 ^ 27 := by omega
    have := (Nat.log2_lt hne).2 hlt
    omega)
  exact ⟨_, m', e', h3⟩
theorem int_num (k : Nat) (h : k ≤ 100) : Num (floatOfInt .f32 (k : Int)) := by
  obtain ⟨m, e, h3⟩ := near32h (decide ((k : Int) < 0)) (k : Int).natAbs 0 (fun h0 => by
    have := (Nat.log2_lt h0).2 (show (k : Int).natAbs < 2 ^ 7 by simp; omega)
    omega)
  exact ⟨_, m, e, h3⟩
theorem resp_eq (l : List S46) (a : Nat) (n : Int) : respQ l a n = respR l a n := by
  unfold respQ respR
  cases e1 : isThread l a with
  | false => rfl
  | true =>
    rw [if_pos rfl, if_pos rfl]
    cases e3 : inB n with
    | false => cases fin (totL l) <;> rfl
    | true =>
      rw [if_pos rfl]
      cases e2 : fin (totL l) with
      | false => rfl
      | true =>
        rw [if_pos rfl, if_pos rfl]
        have hin : 3 ≤ n ∧ n ≤ 32 := by simpa [inB] using e3
        obtain ⟨_, hfin⟩ := thread_fin e1
        have hsum := sums_fin hfin l.length 0 0 _ (by omega) (tot_ok e1).1 zero_is e2
        have hsz : ∀ j, j < l.length → fin (sizeP l j) = true := fun j hj => hsum.2 j (Nat.zero_le _) (by omega)
        have : respS l n n.toNat = respL l n n.toNat := by
          unfold respS respL
          refine List.map_congr_left (fun k hk => ?_)
          have hk2 : k < n.toNat := List.mem_range.1 hk
          have hleft : isn .f32 (leftL l n k) = false := mul_nn (int_num k (by omega)) (quo_num (num_of_fin e2) hin.1 hin.2)
          exact (along_eq hfin hsz l.length 0 _ (by omega) hleft).symm
        rw [this]
        rfl
end Go.Proofs.Ytffofpiejcolfaa.PResp
end
section
namespace Go.Proofs.Ytffofpiejcolfaa.L4
open Go.Proofs.Ytffofpiejcolfaa.L0 Go.Proofs.Ytffofpiejcolfaa.L3
open Go.RowKit Go.Proofs.YtffofpiejcolfaaW.PrintWords Go.Proofs.YtffofpiejcolfaaW.PrintLast Go.Proofs.YtffofpiejcolfaaW.PrintMore
attribute [local go_sem] max2_int min2_int max_two min_two max_three min_three max_four min_four
set_option linter.unusedVariables false
set_option linter.unusedSimpArgs false
def errW : Option Int → Value
  | none => .nilIface
  | some c => .iface 0 (.int .i64 c)
theorem errW_none : errW none = .nilIface := rfl
theorem errW_some (c : Int) : errW (some c) = .iface 0 (.int .i64 c) := rfl
theorem info46 : (Try.prog.info? 46).map (fun i => (i.zero, i.size, i.bytes)) = some (some (.agg #[(.float .f32 0), (.float .f32 0), (.float .f32 0)]), 3, 12) := by kernel_rfl
end Go.Proofs.Ytffofpiejcolfaa.L4
end
section
namespace Go.Proofs.Ytffofpiejcolfaa.L4
open Go.Proofs.Ytffofpiejcolfaa.L0 Go.Proofs.Ytffofpiejcolfaa.L3
open Go.RowKit Go.Proofs.YtffofpiejcolfaaW.PrintWords Go.Proofs.YtffofpiejcolfaaW.PrintLast Go.Proofs.YtffofpiejcolfaaW.PrintMore
attribute [local go_sem] max2_int min2_int max_two min_two max_three min_three max_four min_four
set_option linter.unusedVariables false
set_option linter.unusedSimpArgs false
def laws_heldVectorS.l0 : Nat → List (S46) → Int → Int → Option (Int)
  | 0, _, _, _ => none
  | k + 1, x0, x1, x5 => if x5 < (x0.length : Int) then (if 0 ≤ x5 then (if (FloatKind.f32.format.order ((rd_T46 x0 x5).f0) (floatOfInt .f32 x1) != some .eq) = true then (some (-1)) else (if (FloatKind.f32.format.order ((rd_T46 x0 x5).f1) (floatOfInt .f32 (wrap64 (x1 + 1))) != some .eq) = true then (some (-1)) else (if (FloatKind.f32.format.order ((rd_T46 x0 x5).f2) (floatOfInt .f32 (wrap64 ((wrap64 (x1 + 1)) + 1))) != some .eq) = true then (some (-1)) else (laws_heldVectorS.l0 k x0 (wrap64 ((wrap64 ((wrap64 (x1 + 1)) + 1)) + 1)) (wrap64 (x5 + 1)))))) else (none)) else (some x1)
def laws_heldVectorS.f (k : Nat) (l0 : List (S46)) (a1 : Int) : Option (Int) := laws_heldVectorS.l0 k l0 a1 0
theorem laws_heldVectorS.mono_l : ∀ k, (∀ y0 y1 y2, LeO (laws_heldVectorS.l0 k y0 y1 y2) (laws_heldVectorS.l0 (k + 1) y0 y1 y2))
  | 0 => fun _ _ _ r h => by simp [laws_heldVectorS.l0] at h
  | k + 1 => by
    have ih0 := laws_heldVectorS.mono_l k
    · intro y0 y1 y2
      unfold laws_heldVectorS.l0
      repeat' first
      | (with_reducible exact ih0 _ _ _)
      | (with_reducible exact LeO.refl _)
      | (with_reducible exact LeO.none _)
      | (with_reducible refine LeO.ite ?_ ?_)
      | (with_reducible refine LeO.bind ?_ (fun _ => ?_))
      | exact ih0 _ _ _
      | exact LeO.none _
      | refine LeO.ite ?_ ?_
      | refine LeO.bind ?_ (fun _ => ?_)
theorem laws_heldVectorS.mono : ∀ a0 a1 k, LeO (laws_heldVectorS.f k a0 a1) (laws_heldVectorS.f (k + 1) a0 a1) := by
  intro a0 a1 k
  have ih0 := laws_heldVectorS.mono_l k
  unfold laws_heldVectorS.f
  repeat' first
      | (with_reducible exact ih0 _ _ _)
      | (with_reducible exact LeO.refl _)
      | (with_reducible exact LeO.none _)
      | (with_reducible refine LeO.ite ?_ ?_)
      | (with_reducible refine LeO.bind ?_ (fun _ => ?_))
      | exact ih0 _ _ _
      | exact LeO.none _
      | refine LeO.ite ?_ ?_
      | refine LeO.bind ?_ (fun _ => ?_)
set_option maxHeartbeats 8000000 in
set_option maxRecDepth 100000 in
theorem laws_heldVectorS.calls (k : Nat) (A0 : Option Addr) (c0 : Nat) (l0 : List (S46)) (a1 : Int) (r : Int) (w : World) (hr0 : Kd.C k46 w A0 l0.length l0) (hc0 : l0.length ≤ c0) (h : laws_heldVectorS.f k l0 a1 = some r) :
    Calls Try.prog 89 #[.slice A0 l0.length c0, .int .i64 a1] w fun e w' => e = .returned (.int .i64 r) ∧ Drawn0 w w' := by
  have HR0 := Aside0.mk hr0
  have HC0 := Aside0.mk hc0
  clear hr0 hc0
  have H : (laws_heldVectorS.l0 k l0 a1 0) = some r := h
  clear h
  have H' := Aside0.mk H
  clear H
  go_enter Try.func89, Try.ntmps89
  go_wp2
  go_loopg [1, 5] k (fun kq v1 v5 w' => ∃ (x1_1 : Int) (x5_1 : Int), v1 = .int .i64 x1_1 ∧ v5 = .int .i64 x5_1 ∧ Aside0 (laws_heldVectorS.l0 kq l0 x1_1 x5_1 = some r) ∧ Aside0 (kq ≤ k) ∧ Drawn0 w w')
  case atStart => exact ⟨(a1), (0), (by first | rfl | (simp; done) | (simp [*]; done)), (by first | rfl | (simp; done) | (simp [*]; done)), H', ⟨Nat.le_refl _⟩, by repeat (first | exact Drawn0.refl _ | apply Drawn0.step)⟩
  case round =>
    clear H'
    try clear p2
    obtain ⟨x1_1, x5_1, rfl, rfl, HA, HK1, ⟨m1, rfl⟩⟩ := hrel
    cases gk with
    | zero => exact absurd HA.out (by simp [laws_heldVectorS.l0])
    | succ k1 =>
      have H := HA.out
      clear HA
      simp only [laws_heldVectorS.l0] at H
      by_cases c3 : x5_1 < (l0.length : Int)
      · rw [if_pos c3] at H
        have c3b0 : decide (x5_1 < (l0.length : Int)) = true := decide_eq_true c3
        clear c3
        by_cases c4 : 0 ≤ x5_1
        · rw [if_pos c4] at H
          have c4b0 : decide (0 ≤ x5_1) = true := decide_eq_true c4
          clear c4
          by_cases c5 : (FloatKind.f32.format.order ((rd_T46 l0 x5_1).f0) (floatOfInt .f32 x1_1) != some .eq) = true
          · rw [if_pos c5] at H
            have c5b0 : (FloatKind.f32.format.order ((rd_T46 l0 x5_1).f0) (floatOfInt .f32 x1_1) != some .eq) = true := c5
            (try (have c5b1 : decide (FloatKind.f32.format.order ((rd_T46 l0 x5_1).f0) (floatOfInt .f32 x1_1) = some .eq) = false := by simpa using c5))
            (try (have c5b2 : (FloatKind.f32.format.order ((rd_T46 l0 x5_1).f0) (floatOfInt .f32 x1_1) == some .eq) = false := by simpa using c5))
            (try (have c5b3 : ¬ (FloatKind.f32.format.order ((rd_T46 l0 x5_1).f0) (floatOfInt .f32 x1_1) = some .eq) := by simpa using c5))
            clear c5
            obtain rfl := Option.some.inj H
            have p101 : 0 ≤ (x5_1 : Int) := of_decide_eq_true (by first | (with_reducible assumption) | assumption)
            have q101 : x5_1 < (l0.length : Int) := of_decide_eq_true (by first | (with_reducible assumption) | assumption)
            obtain ⟨ad101, e101, hx101_0, hx101_1, hx101_2⟩ := at_T46 HR0.out x5_1 p101 q101
            cases e101
            replace p101 := eq_true p101
            replace q101 := eq_true q101
            go_wp2
            go_ret
            exact ⟨by first | rfl | (simp; done) | (simp [*]; done), by repeat (first | exact Drawn0.refl _ | apply Drawn0.step)⟩
          · rw [if_neg c5] at H
            have c5b0 : (FloatKind.f32.format.order ((rd_T46 l0 x5_1).f0) (floatOfInt .f32 x1_1) != some .eq) = false := by simpa using c5
            (try (have c5b1 : decide (FloatKind.f32.format.order ((rd_T46 l0 x5_1).f0) (floatOfInt .f32 x1_1) = some .eq) = true := by simpa using c5))
            (try (have c5b2 : (FloatKind.f32.format.order ((rd_T46 l0 x5_1).f0) (floatOfInt .f32 x1_1) == some .eq) = true := by simpa using c5))
            clear c5
            by_cases c6 : (FloatKind.f32.format.order ((rd_T46 l0 x5_1).f1) (floatOfInt .f32 (wrap64 (x1_1 + 1))) != some .eq) = true
            · rw [if_pos c6] at H
              have c6b0 : (FloatKind.f32.format.order ((rd_T46 l0 x5_1).f1) (floatOfInt .f32 (wrap64 (x1_1 + 1))) != some .eq) = true := c6
              (try (have c6b1 : decide (FloatKind.f32.format.order ((rd_T46 l0 x5_1).f1) (floatOfInt .f32 (wrap64 (x1_1 + 1))) = some .eq) = false := by simpa using c6))
              (try (have c6b2 : (FloatKind.f32.format.order ((rd_T46 l0 x5_1).f1) (floatOfInt .f32 (wrap64 (x1_1 + 1))) == some .eq) = false := by simpa using c6))
              (try (have c6b3 : ¬ (FloatKind.f32.format.order ((rd_T46 l0 x5_1).f1) (floatOfInt .f32 (wrap64 (x1_1 + 1))) = some .eq) := by simpa using c6))
              clear c6
              obtain rfl := Option.some.inj H
              have p101 : 0 ≤ (x5_1 : Int) := of_decide_eq_true (by first | (with_reducible assumption) | assumption)
              have q101 : x5_1 < (l0.length : Int) := of_decide_eq_true (by first | (with_reducible assumption) | assumption)
              obtain ⟨ad101, e101, hx101_0, hx101_1, hx101_2⟩ := at_T46 HR0.out x5_1 p101 q101
              cases e101
              replace p101 := eq_true p101
              replace q101 := eq_true q101
              have p102 : 0 ≤ (x5_1 : Int) := of_decide_eq_true (by first | (with_reducible assumption) | assumption)
              have q102 : x5_1 < (l0.length : Int) := of_decide_eq_true (by first | (with_reducible assumption) | assumption)
              obtain ⟨ad102, e102, hx102_0, hx102_1, hx102_2⟩ := at_T46 HR0.out x5_1 p102 q102
              obtain rfl : ad101 = ad102 := (by injection e102)
              replace p102 := eq_true p102
              replace q102 := eq_true q102
              go_wp2
              go_ret
              exact ⟨by first | rfl | (simp; done) | (simp [*]; done), by repeat (first | exact Drawn0.refl _ | apply Drawn0.step)⟩
            · rw [if_neg c6] at H
              have c6b0 : (FloatKind.f32.format.order ((rd_T46 l0 x5_1).f1) (floatOfInt .f32 (wrap64 (x1_1 + 1))) != some .eq) = false := by simpa using c6
              (try (have c6b1 : decide (FloatKind.f32.format.order ((rd_T46 l0 x5_1).f1) (floatOfInt .f32 (wrap64 (x1_1 + 1))) = some .eq) = true := by simpa using c6))
              (try (have c6b2 : (FloatKind.f32.format.order ((rd_T46 l0 x5_1).f1) (floatOfInt .f32 (wrap64 (x1_1 + 1))) == some .eq) = true := by simpa using c6))
              clear c6
              by_cases c7 : (FloatKind.f32.format.order ((rd_T46 l0 x5_1).f2) (floatOfInt .f32 (wrap64 ((wrap64 (x1_1 + 1)) + 1))) != some .eq) = true
              · rw [if_pos c7] at H
                have c7b0 : (FloatKind.f32.format.order ((rd_T46 l0 x5_1).f2) (floatOfInt .f32 (wrap64 ((wrap64 (x1_1 + 1)) + 1))) != some .eq) = true := c7
                (try (have c7b1 : decide (FloatKind.f32.format.order ((rd_T46 l0 x5_1).f2) (floatOfInt .f32 (wrap64 ((wrap64 (x1_1 + 1)) + 1))) = some .eq) = false := by simpa using c7))
                (try (have c7b2 : (FloatKind.f32.format.order ((rd_T46 l0 x5_1).f2) (floatOfInt .f32 (wrap64 ((wrap64 (x1_1 + 1)) + 1))) == some .eq) = false := by simpa using c7))
                (try (have c7b3 : ¬ (FloatKind.f32.format.order ((rd_T46 l0 x5_1).f2) (floatOfInt .f32 (wrap64 ((wrap64 (x1_1 + 1)) + 1))) = some .eq) := by simpa using c7))
                clear c7
                obtain rfl := Option.some.inj H
                have p101 : 0 ≤ (x5_1 : Int) := of_decide_eq_true (by first | (with_reducible assumption) | assumption)
                have q101 : x5_1 < (l0.length : Int) := of_decide_eq_true (by first | (with_reducible assumption) | assumption)
                obtain ⟨ad101, e101, hx101_0, hx101_1, hx101_2⟩ := at_T46 HR0.out x5_1 p101 q101
                cases e101
                replace p101 := eq_true p101
                replace q101 := eq_true q101
                have p102 : 0 ≤ (x5_1 : Int) := of_decide_eq_true (by first | (with_reducible assumption) | assumption)
                have q102 : x5_1 < (l0.length : Int) := of_decide_eq_true (by first | (with_reducible assumption) | assumption)
                obtain ⟨ad102, e102, hx102_0, hx102_1, hx102_2⟩ := at_T46 HR0.out x5_1 p102 q102
                obtain rfl : ad101 = ad102 := (by injection e102)
                replace p102 := eq_true p102
                replace q102 := eq_true q102
                have p103 : 0 ≤ (x5_1 : Int) := of_decide_eq_true (by first | (with_reducible assumption) | assumption)
                have q103 : x5_1 < (l0.length : Int) := of_decide_eq_true (by first | (with_reducible assumption) | assumption)
                obtain ⟨ad103, e103, hx103_0, hx103_1, hx103_2⟩ := at_T46 HR0.out x5_1 p103 q103
                obtain rfl : ad101 = ad103 := (by injection e103)
                replace p103 := eq_true p103
                replace q103 := eq_true q103
                go_wp2
                go_ret
                exact ⟨by first | rfl | (simp; done) | (simp [*]; done), by repeat (first | exact Drawn0.refl _ | apply Drawn0.step)⟩
              · rw [if_neg c7] at H
                have c7b0 : (FloatKind.f32.format.order ((rd_T46 l0 x5_1).f2) (floatOfInt .f32 (wrap64 ((wrap64 (x1_1 + 1)) + 1))) != some .eq) = false := by simpa using c7
                (try (have c7b1 : decide (FloatKind.f32.format.order ((rd_T46 l0 x5_1).f2) (floatOfInt .f32 (wrap64 ((wrap64 (x1_1 + 1)) + 1))) = some .eq) = true := by simpa using c7))
                (try (have c7b2 : (FloatKind.f32.format.order ((rd_T46 l0 x5_1).f2) (floatOfInt .f32 (wrap64 ((wrap64 (x1_1 + 1)) + 1))) == some .eq) = true := by simpa using c7))
                clear c7
                have H' := Aside0.mk H
                clear H
                have p101 : 0 ≤ (x5_1 : Int) := of_decide_eq_true (by first | (with_reducible assumption) | assumption)
                have q101 : x5_1 < (l0.length : Int) := of_decide_eq_true (by first | (with_reducible assumption) | assumption)
                obtain ⟨ad101, e101, hx101_0, hx101_1, hx101_2⟩ := at_T46 HR0.out x5_1 p101 q101
                cases e101
                replace p101 := eq_true p101
                replace q101 := eq_true q101
                have p102 : 0 ≤ (x5_1 : Int) := of_decide_eq_true (by first | (with_reducible assumption) | assumption)
                have q102 : x5_1 < (l0.length : Int) := of_decide_eq_true (by first | (with_reducible assumption) | assumption)
                obtain ⟨ad102, e102, hx102_0, hx102_1, hx102_2⟩ := at_T46 HR0.out x5_1 p102 q102
                obtain rfl : ad101 = ad102 := (by injection e102)
                replace p102 := eq_true p102
                replace q102 := eq_true q102
                have p103 : 0 ≤ (x5_1 : Int) := of_decide_eq_true (by first | (with_reducible assumption) | assumption)
                have q103 : x5_1 < (l0.length : Int) := of_decide_eq_true (by first | (with_reducible assumption) | assumption)
                obtain ⟨ad103, e103, hx103_0, hx103_1, hx103_2⟩ := at_T46 HR0.out x5_1 p103 q103
                obtain rfl : ad101 = ad103 := (by injection e103)
                replace p103 := eq_true p103
                replace q103 := eq_true q103
                go_wp2
                go_roundg k1
                case measure => have := HK1.out; omega
                case rel => exact ⟨(wrap64 ((wrap64 ((wrap64 (x1_1 + 1)) + 1)) + 1)), (wrap64 (x5_1 + 1)), (by first | rfl | (simp; done) | (simp [*]; done)), (by first | rfl | (simp; done) | (simp [*]; done)), H', ⟨by have := HK1.out; omega⟩, by repeat (first | exact Drawn0.refl _ | apply Drawn0.step)⟩
        · rw [if_neg c4] at H
          exact absurd H (by simp)
      · rw [if_neg c3] at H
        have c3b0 : decide (x5_1 < (l0.length : Int)) = false := decide_eq_false c3
        clear c3
        obtain rfl := Option.some.inj H
        go_wp2
        go_ret
        exact ⟨by first | rfl | (simp; done) | (simp [*]; done), by repeat (first | exact Drawn0.refl _ | apply Drawn0.step)⟩
end Go.Proofs.Ytffofpiejcolfaa.L4
end
section
namespace Go.Proofs.Ytffofpiejcolfaa.L4
open Go.Proofs.Ytffofpiejcolfaa.L0 Go.Proofs.Ytffofpiejcolfaa.L3
open Go.RowKit Go.Proofs.YtffofpiejcolfaaW.PrintWords Go.Proofs.YtffofpiejcolfaaW.PrintLast Go.Proofs.YtffofpiejcolfaaW.PrintMore
attribute [local go_sem] max2_int min2_int max_two min_two max_three min_three max_four min_four
set_option linter.unusedVariables false
set_option linter.unusedSimpArgs false
end Go.Proofs.Ytffofpiejcolfaa.L4
end
section
namespace Go.Proofs.Ytffofpiejcolfaa.L4
open Go.Proofs.Ytffofpiejcolfaa.L0 Go.Proofs.Ytffofpiejcolfaa.L3
open Go.RowKit Go.Proofs.YtffofpiejcolfaaW.PrintWords Go.Proofs.YtffofpiejcolfaaW.PrintLast Go.Proofs.YtffofpiejcolfaaW.PrintMore
attribute [local go_sem] max2_int min2_int max_two min_two max_three min_three max_four min_four
set_option linter.unusedVariables false
set_option linter.unusedSimpArgs false
end Go.Proofs.Ytffofpiejcolfaa.L4
end
section
namespace Go.Proofs.Ytffofpiejcolfaa.L4
open Go.Proofs.Ytffofpiejcolfaa.L0 Go.Proofs.Ytffofpiejcolfaa.L3
open Go.RowKit Go.Proofs.YtffofpiejcolfaaW.PrintWords Go.Proofs.YtffofpiejcolfaaW.PrintLast Go.Proofs.YtffofpiejcolfaaW.PrintMore
attribute [local go_sem] max2_int min2_int max_two min_two max_three min_three max_four min_four
set_option linter.unusedVariables false
set_option linter.unusedSimpArgs false
end Go.Proofs.Ytffofpiejcolfaa.L4
end
section
namespace Go.Proofs.Ytffofpiejcolfaa.L4
open Go.Proofs.Ytffofpiejcolfaa.L0 Go.Proofs.Ytffofpiejcolfaa.L3
open Go.RowKit Go.Proofs.YtffofpiejcolfaaW.PrintWords Go.Proofs.YtffofpiejcolfaaW.PrintLast Go.Proofs.YtffofpiejcolfaaW.PrintMore
attribute [local go_sem] max2_int min2_int max_two min_two max_three min_three max_four min_four
set_option linter.unusedVariables false
set_option linter.unusedSimpArgs false
end Go.Proofs.Ytffofpiejcolfaa.L4
end
section
set_option linter.unusedVariables false
set_option linter.unusedSimpArgs false
namespace Go.Proofs.Ytffofpiejcolfaa.PL3
open Go.RowKit Go.Proofs.Ytffofpiejcolfaa Go.Proofs.YtffofpiejcolfaaW.PrintWords Go.Proofs.YtffofpiejcolfaaW.PrintLast Go.Proofs.YtffofpiejcolfaaW.PrintMore
open XF XL XC XT XN XE XK L0 L3
theorem wrap_id {i : Int} (h0 : -9223372036854775808 ≤ i) (h1 : i ≤ 9223372036854775807) : wrap64 i = i := by unfold wrap64; omega
theorem w1 (n : Nat) (h : n < 9223372036854775807) : wrap64 ((n : Int) + 1) = ((n + 1 : Nat) : Int) := by unfold wrap64; omega
def to46 (v : S44) : S46 := ⟨v.f0, v.f1, v.f2⟩
theorem toV_l0 : ∀ (rest pre : List S44) (k : Nat), rest.length < k → pre.length + rest.length ≤ 1073741824 →
    L3.laws_toVectorS.l0 k (pre ++ rest) (pre.map to46 ++ List.replicate rest.length z46) (pre.length : Int) = some ((pre ++ rest).map to46) := by
  intro rest
  induction rest with
  | nil =>
    intro pre k hk hp
    obtain ⟨k, rfl⟩ : ∃ m, k = m + 1 := ⟨k - 1, by omega⟩
    simp only [L3.laws_toVectorS.l0]
    rw [if_neg (by simp)]
    simp
  | cons L rest ih =>
    intro pre k hk hp
    simp only [List.length_cons] at hk hp
    obtain ⟨k, rfl⟩ : ∃ m, k = m + 1 := ⟨k - 1, by omega⟩
    have hrd : rd_T44 (pre ++ L :: rest) (pre.length : Int) = L := by simp [rd_T44]
    simp only [L3.laws_toVectorS.l0, L3.laws_toVector.f, Option.bind_some]
    rw [if_pos (by simp; omega), if_pos (by omega), if_pos (by simp; omega), hrd, w1 pre.length (by omega)]
    have e : pre ++ L :: rest = (pre ++ [L]) ++ rest := by simp
    have e2 : pre.length + 1 = (pre ++ [L]).length := by simp
    have e3 : (pre.map to46 ++ List.replicate (L :: rest).length z46).set (pre.length : Int).toNat (⟨L.f0, L.f1, L.f2⟩ : S46) = (pre ++ [L]).map to46 ++ List.replicate rest.length z46 := by
      simp only [Int.toNat_natCast, List.length_cons, List.replicate_succ]
      rw [List.set_append_right _ _ (by simp)]
      simp [to46]
    rw [e3, e, e2]
    exact ih (pre ++ [L]) k (by omega) (by simp; omega)
theorem toT_f (l : List S44) (a k : Nat) (hk : l.length < k) (hlen : l.length ≤ 1073741824) : L3.laws_toThread.f k l a = some (l.map to46, a) := by
  unfold L3.laws_toThread.f L3.laws_toVectorS.f
  rw [if_pos (by omega), if_pos (by simp; omega), Int.toNat_natCast]
  have := toV_l0 l [] k hk (by simp; omega)
  simp only [List.map_nil, List.nil_append, List.length_nil] at this
  rw [show ((0 : Nat) : Int) = 0 from rfl] at this
  rw [this]
  rfl
theorem eqV_l0 : ∀ (rest pre : List S46) (k : Nat), rest.length < k → pre.length + rest.length ≤ 1073741824 → L0.laws_eqVectorS.l0 k (pre ++ rest) (pre ++ rest) (pre.length : Int) = some true := by
  intro rest
  induction rest with
  | nil =>
    intro pre k hk hp
    obtain ⟨k, rfl⟩ : ∃ m, k = m + 1 := ⟨k - 1, by omega⟩
    simp only [L0.laws_eqVectorS.l0]
    rw [if_neg (by simp)]
  | cons L rest ih =>
    intro pre k hk hp
    simp only [List.length_cons] at hk hp
    obtain ⟨k, rfl⟩ : ∃ m, k = m + 1 := ⟨k - 1, by omega⟩
    have hrd : rd_T46 (pre ++ L :: rest) (pre.length : Int) = L := by simp [rd_T46]
    simp only [L0.laws_eqVectorS.l0, XL.eqVector.f, hrd, sfc_self]
    have e : pre ++ L :: rest = (pre ++ [L]) ++ rest := by simp
    have e2 : pre.length + 1 = (pre ++ [L]).length := by simp
    have hlt : (pre.length : Int) < (((pre ++ L :: rest).length : Nat) : Int) := by simp; omega
    rw [if_pos hlt, if_pos (by omega), if_pos hlt]
    simp only [Option.bind_some]
    rw [if_pos (by rfl), w1 pre.length (by omega), e, e2]
    exact ih (pre ++ [L]) k (by omega) (by simp; omega)
theorem eqT_f (l : List S46) (a : Nat) (h : l.length ≤ 1000000000) : XT.eqThread.f l a l a = some true := by
  unfold XT.eqThread.f L0.laws_eqVectorS.f
  rw [if_pos rfl]
  have := eqV_l0 l [] (l.length + 1) (by omega) (by simp; omega)
  simp only [List.nil_append, List.length_nil] at this
  rw [show ((0 : Nat) : Int) = 0 from rfl] at this
  rw [this]
  simp only [Option.bind_some, sfc_self]
  rfl
theorem szT (l : List S44) (a : Nat) (left : Nat) (hl : l.length ≤ 9223372036854775807) (hle : left ≤ 1048576) : ∃ t, L3.laws_szThread.f l a left = some t ∧ (t < 0 ∨ (l.length ≤ left ∧ t = ((left - l.length : Nat) : Int))) := by
  unfold L3.laws_szThread.f L3.laws_szVectorS.f
  rw [wrap_id (i := (left : Int) - (l.length : Int)) (by omega) (by omega)]
  by_cases h : (left : Int) - (l.length : Int) < 0
  · rw [if_pos h]
    simp only [Option.bind_some]
    rw [if_pos (by decide)]
    exact ⟨_, rfl, .inl (by decide)⟩
  · rw [if_neg h]
    simp only [Option.bind_some]
    rw [if_neg h]
    exact ⟨_, rfl, .inr ⟨by omega, by omega⟩⟩
end Go.Proofs.Ytffofpiejcolfaa.PL3
end
section
set_option linter.unusedVariables false
set_option linter.unusedSimpArgs false
namespace Go.Proofs.Ytffofpiejcolfaa.PRun
open Go.RowKit Go.Proofs.Ytffofpiejcolfaa Go.Proofs.YtffofpiejcolfaaW.PrintWords
open XF XL XC XY XN XE XK XG XV XW XM XH L0 L3 PL3
section impl
variable {by_ L : List S31} {core tick : Nat}
end impl
section spec
variable {by_ : List S31} {core tick : Nat}
end spec
end Go.Proofs.Ytffofpiejcolfaa.PRun
end
section
set_option linter.unusedVariables false
set_option linter.unusedSimpArgs false
namespace Go.Proofs.Ytffofpiejcolfaa
open Go.RowKit Go.Proofs.YtffofpiejcolfaaW.PrintWords Go.Proofs.YtffofpiejcolfaaW.PrintLast Go.Proofs.YtffofpiejcolfaaW.PrintMore
attribute [local go_sem] max2_int min2_int max_two min_two max_three min_three max_four min_four
namespace XM4
open XF XL XC L0 L3
end XM4
end Go.Proofs.Ytffofpiejcolfaa
end
section
set_option linter.unusedVariables false
set_option linter.unusedSimpArgs false
namespace Go.Proofs.Ytffofpiejcolfaa.PRun
open Go.RowKit Go.Proofs.Ytffofpiejcolfaa Go.Proofs.YtffofpiejcolfaaW.PrintWords
open XF XL XC XY XN XE XK XG XV XW XM XH L0 L3 PL3
end Go.Proofs.Ytffofpiejcolfaa.PRun
end
section
set_option linter.unusedVariables false
set_option linter.unusedSimpArgs false
namespace Go.Proofs.Ytffofpiejcolfaa.PMark
open Go.RowKit Go.Proofs.Ytffofpiejcolfaa Go.Proofs.YtffofpiejcolfaaW.PrintWords
open XF XL XC XY XN XE XK XG XV XM4 XH L0 L3 PL3
def fl (x : Nat) : Nat := floatOfInt .f32 (x : Int)
def mkd : Nat → Nat → List S46
  | 0, _ => []
  | n + 1, x => ⟨fl x, fl (x + 1), fl (x + 2)⟩ :: mkd n (x + 3)
theorem fl_ord (x : Nat) : FloatKind.f32.format.order (fl x) (fl x) = some .eq := order_self (Is_n (near32 _ _ _))
theorem mark_l0 : ∀ (rest pre : List S46) (x k : Nat), rest.length < k → pre.length + rest.length ≤ 1000000000 → x + 3 * rest.length ≤ 100000000000 →
    L5.laws_markVectorS.l0 k (pre ++ rest) (x : Int) (pre.length : Int) = some (((x + 3 * rest.length : Nat) : Int), pre ++ mkd rest.length x) := by
  intro rest
  induction rest with
  | nil =>
    intro pre x k hk hp hx
    obtain ⟨k, rfl⟩ : ∃ m, k = m + 1 := ⟨k - 1, by omega⟩
    simp only [L5.laws_markVectorS.l0]
    rw [if_neg (by simp)]
    simp [mkd]
  | cons L rest ih =>
    intro pre x k hk hp hx
    simp only [List.length_cons] at hk hp hx
    obtain ⟨k, rfl⟩ : ∃ m, k = m + 1 := ⟨k - 1, by omega⟩
    have hlt : (pre.length : Int) < (((pre ++ L :: rest).length : Nat) : Int) := by simp; omega
    have hset (u v : S46) : (pre ++ u :: rest).set (pre.length : Int).toNat v = pre ++ v :: rest := by
      rw [Int.toNat_natCast, List.set_append_right _ _ (Nat.le_refl _), Nat.sub_self]
      rfl
    have hrd (u : S46) : rd_T46 (pre ++ u :: rest) (pre.length : Int) = u := by simp [rd_T46]
    simp only [L5.laws_markVectorS.l0, Option.bind_some, hset, hrd]
    rw [if_pos hlt, if_pos (by omega), w1 x (by omega), w1 (x + 1) (by omega), w1 (x + 1 + 1) (by omega), w1 pre.length (by omega)]
    have e (u : S46) : pre ++ u :: rest = (pre ++ [u]) ++ rest := by simp
    have e2 (u : S46) : pre.length + 1 = (pre ++ [u]).length := by simp
    rw [e, e2 (⟨floatOfInt .f32 (x : Int), floatOfInt .f32 ((x + 1 : Nat) : Int), floatOfInt .f32 ((x + 1 + 1 : Nat) : Int)⟩ : S46)]
    rw [ih _ (x + 3) k (by omega) (by simp; omega) (by omega)]
    simp only [List.length_cons, mkd, fl]
    congr 1
    rw [List.append_assoc, show x + 3 + 3 * rest.length = x + 3 * (rest.length + 1) by omega]
    rfl
theorem markV_f (l : List S46) (x k : Nat) (hk : l.length < k) (hl : l.length ≤ 1000000000) (hx : x + 3 * l.length ≤ 100000000000) : L5.laws_markVectorS.f k l (x : Int) = some (((x + 3 * l.length : Nat) : Int), mkd l.length x) := by
  unfold L5.laws_markVectorS.f
  have := mark_l0 l [] x k hk (by simp; omega) hx
  simp only [List.nil_append, List.length_nil] at this
  exact this
theorem held_l0 : ∀ (n x : Nat) (pre : List S46) (k : Nat), n < k → pre.length + n ≤ 1000000000 → x + 3 * n ≤ 100000000000 →
    L4.laws_heldVectorS.l0 k (pre ++ mkd n x) (x : Int) (pre.length : Int) = some ((x + 3 * n : Nat) : Int) := by
  intro n
  induction n with
  | zero =>
    intro x pre k hk hp hx
    obtain ⟨k, rfl⟩ : ∃ m, k = m + 1 := ⟨k - 1, by omega⟩
    simp only [L4.laws_heldVectorS.l0]
    rw [if_neg (by simp [mkd])]
    rfl
  | succ n ih =>
    intro x pre k hk hp hx
    obtain ⟨k, rfl⟩ : ∃ m, k = m + 1 := ⟨k - 1, by omega⟩
    have hlt : (pre.length : Int) < (((pre ++ mkd (n + 1) x).length : Nat) : Int) := by simp [mkd]; omega
    have hrd : rd_T46 (pre ++ mkd (n + 1) x) (pre.length : Int) = ⟨fl x, fl (x + 1), fl (x + 2)⟩ := by simp [rd_T46, mkd]
    have h0 := fl_ord x
    have h1 := fl_ord (x + 1)
    have h2 := fl_ord (x + 2)
    simp only [L4.laws_heldVectorS.l0, hrd]
    rw [if_pos hlt, if_pos (by omega), w1 x (by omega), w1 (x + 1) (by omega), w1 (x + 1 + 1) (by omega), w1 pre.length (by omega)]
    rw [show floatOfInt .f32 (x : Int) = fl x from rfl, show floatOfInt .f32 ((x + 1 : Nat) : Int) = fl (x + 1) from rfl, show floatOfInt .f32 ((x + 1 + 1 : Nat) : Int) = fl (x + 2) from rfl, h0, h1, h2]
    rw [if_neg (by decide), if_neg (by decide), if_neg (by decide)]
    have e : pre ++ mkd (n + 1) x = (pre ++ [⟨fl x, fl (x + 1), fl (x + 2)⟩]) ++ mkd n (x + 3) := by simp [mkd]
    have e2 : pre.length + 1 = (pre ++ [(⟨fl x, fl (x + 1), fl (x + 2)⟩ : S46)]).length := by simp
    rw [e, e2]
    have := ih (x + 3) (pre ++ [⟨fl x, fl (x + 1), fl (x + 2)⟩]) k (by omega) (by simp; omega) (by omega)
    refine Eq.trans this ?_
    rw [show x + 3 + 3 * n = x + 3 * (n + 1) by omega]
theorem heldV_f (n x k : Nat) (hk : n < k) (hl : n ≤ 1000000000) (hx : x + 3 * n ≤ 100000000000) : L4.laws_heldVectorS.f k (mkd n x) (x : Int) = some ((x + 3 * n : Nat) : Int) := by
  unfold L4.laws_heldVectorS.f
  have := held_l0 n x [] k hk (by simp; omega) hx
  simp only [List.nil_append, List.length_nil] at this
  exact this
end Go.Proofs.Ytffofpiejcolfaa.PMark
end
section
set_option linter.unusedVariables false
set_option linter.unusedSimpArgs false
namespace Go.Proofs.Ytffofpiejcolfaa.PureResp
open Go.RowKit Go.Proofs.Ytffofpiejcolfaa Go.Proofs.YtffofpiejcolfaaW.PrintWords
open XF XL XC XY XN XE XK XG XV XP XH L0 L3 PL3 PMark PResp
theorem held_l0 : ∀ (n x : Nat) (pre : List S46) (k : Nat), n < k → pre.length + n ≤ 1000000000 → x + 3 * n ≤ 100000000000 →
    L5.laws_heldVectorS.l0 k (pre ++ mkd n x) (x : Int) (pre.length : Int) = some ((x + 3 * n : Nat) : Int) := by
  intro n
  induction n with
  | zero =>
    intro x pre k hk hp hx
    obtain ⟨k, rfl⟩ : ∃ m, k = m + 1 := ⟨k - 1, by omega⟩
    simp only [L5.laws_heldVectorS.l0]
    rw [if_neg (by simp [mkd])]
    rfl
  | succ n ih =>
    intro x pre k hk hp hx
    obtain ⟨k, rfl⟩ : ∃ m, k = m + 1 := ⟨k - 1, by omega⟩
    have hlt : (pre.length : Int) < (((pre ++ mkd (n + 1) x).length : Nat) : Int) := by simp [mkd]; omega
    have hrd : rd_T46 (pre ++ mkd (n + 1) x) (pre.length : Int) = ⟨fl x, fl (x + 1), fl (x + 2)⟩ := by simp [rd_T46, mkd]
    have h0 := fl_ord x
    have h1 := fl_ord (x + 1)
    have h2 := fl_ord (x + 2)
    simp only [L5.laws_heldVectorS.l0, hrd]
    rw [if_pos hlt, if_pos (by omega), w1 x (by omega), w1 (x + 1) (by omega), w1 (x + 1 + 1) (by omega), w1 pre.length (by omega)]
    rw [show floatOfInt .f32 (x : Int) = fl x from rfl, show floatOfInt .f32 ((x + 1 : Nat) : Int) = fl (x + 1) from rfl, show floatOfInt .f32 ((x + 1 + 1 : Nat) : Int) = fl (x + 2) from rfl, h0, h1, h2]
    rw [if_neg (by decide), if_neg (by decide), if_neg (by decide)]
    have e : pre ++ mkd (n + 1) x = (pre ++ [⟨fl x, fl (x + 1), fl (x + 2)⟩]) ++ mkd n (x + 3) := by simp [mkd]
    have e2 : pre.length + 1 = (pre ++ [(⟨fl x, fl (x + 1), fl (x + 2)⟩ : S46)]).length := by simp
    rw [e, e2]
    have := ih (x + 3) (pre ++ [⟨fl x, fl (x + 1), fl (x + 2)⟩]) k (by omega) (by simp; omega) (by omega)
    refine Eq.trans this ?_
    rw [show x + 3 + 3 * n = x + 3 * (n + 1) by omega]
theorem heldV_f (n x k : Nat) (hk : n < k) (hl : n ≤ 1000000000) (hx : x + 3 * n ≤ 100000000000) : L5.laws_heldVectorS.f k (mkd n x) (x : Int) = some ((x + 3 * n : Nat) : Int) := by
  unfold L5.laws_heldVectorS.f
  have := held_l0 n x [] k hk (by simp; omega) hx
  simp only [List.nil_append, List.length_nil] at this
  exact this
theorem markT (l : List S46) (a k : Nat) (hk : 40 ≤ k) (hl : l.length ≤ 32) : L5.laws_markThread.f k l a 1 = some (((1 + 3 * l.length : Nat) : Int), mkd l.length 1) := by
  unfold L5.laws_markThread.f
  rw [show (1 : Int) = ((1 : Nat) : Int) from rfl, markV_f l 1 k (by omega) (by omega) (by omega)]
  rfl
theorem markL (l : List S46) (a k : Nat) (hk : l.length < k) (hl : l.length ≤ 1048576) : L5.laws_markThread.f k l a 1 = some (((1 + 3 * l.length : Nat) : Int), mkd l.length 1) := by
  unfold L5.laws_markThread.f
  rw [show (1 : Int) = ((1 : Nat) : Int) from rfl, markV_f l 1 k (by omega) (by omega) (by omega)]
  rfl
theorem heldT (n a k : Nat) (hk : 40 ≤ k) (hn : n ≤ 32) : L5.laws_heldThread.f k (mkd n 1) a 1 = some ((1 + 3 * n : Nat) : Int) := by
  unfold L5.laws_heldThread.f
  rw [show (1 : Int) = ((1 : Nat) : Int) from rfl, heldV_f n 1 k (by omega) (by omega) (by omega)]
  simp only [Option.bind_some]
  rw [if_neg (by omega)]
theorem resp_len (l : List S46) (a : Nat) (n : Int) : (respR l a n).1.length ≤ 32 := by
  unfold respR
  cases isThread l a with
  | false => simp
  | true =>
    rw [if_pos rfl]
    cases fin (totL l) with
    | false => simp
    | true =>
      rw [if_pos rfl]
      cases e3 : inB n with
      | false => simp
      | true =>
        rw [if_pos rfl]
        unfold toldT
        have hin : 3 ≤ n ∧ n ≤ 32 := by simpa [inB] using e3
        cases isThread (respL l n n.toNat) a with
        | false => simp
        | true =>
          rw [if_pos rfl]
          show (respL l n n.toNat).length ≤ 32
          unfold respL
          simp
          omega
theorem law (l : List S44) (a : Nat) (n : Int) (hl : l.length ≤ 9223372036854775807) : ∃ k, L5.laws_FnExactRespaceThread.f k l a n = some true := by
  obtain ⟨K, hK⟩ : ∃ K : Nat, 20000000 < K := ⟨20000001, by omega⟩
  refine ⟨K + 3, ?_⟩
  obtain ⟨t, ht, h2⟩ := szT l a 1048576 hl (by omega)
  unfold L5.laws_FnExactRespaceThread.f
  rw [show (1048576 : Int) = ((1048576 : Nat) : Int) from rfl, ht]
  simp only [Option.bind_some]
  by_cases h0 : t < 0
  · rw [if_pos h0]
  · rw [if_neg h0]
    obtain ⟨hlen, _⟩ := h2.resolve_left h0
    have hm : (l.map to46).length = l.length := by simp
    rw [toT_f l a (K + 3) (by omega) (by omega)]
    simp only [Option.bind_some]
    generalize hL : l.map to46 = L at hm
    have hs : spec_Respace.f L a n = some (respR L a n) := congrArg some (resp_eq L a n)
    have hi : impl_Respace.f L a n = some (respR L a n) := rfl
    have hR := resp_len L a n
    rw [hs]
    simp only [Option.bind_some]
    rw [hi]
    simp only [Option.bind_some]
    generalize respR L a n = R at hR hs hi
    rw [eqT_f R.1 R.2.1 (by omega)]
    simp only [Option.bind_some]
    rw [if_pos trivial, show (R.2.2 != R.2.2) = false by simp]
    simp only [L5.laws_FnExactRespaceThread.j0]
    rw [if_neg (by simp), toT_f l a (K + 2) (by omega) (by omega)]
    simp only [Option.bind_some]
    rw [hL, eqT_f L a (by omega)]
    simp only [Option.bind_some]
    rw [if_pos trivial, markL L a (K + 2) (by omega) (by omega)]
    simp only [Option.bind_some]
    rw [if_neg (by omega), eqT_f R.1 R.2.1 (by omega)]
    simp only [Option.bind_some]
    rw [if_pos trivial, show (R.2.2 != R.2.2) = false by simp]
    simp only [L5.laws_FnExactRespaceThread.j1]
    rw [if_neg (by simp), markT R.1 R.2.1 (K + 1) (by omega) hR]
    simp only [Option.bind_some]
    rw [heldT R.1.length R.2.1 (K + 1) (by omega) hR]
    simp only [Option.bind_some]
    rw [if_neg (by omega), if_pos trivial, toT_f l a (K + 1) (by omega) (by omega)]
    simp only [Option.bind_some]
    rw [hL, hi]
    simp only [Option.bind_some]
    rw [eqT_f R.1 R.2.1 (by omega)]
    simp only [Option.bind_some]
    rw [if_pos trivial, show (R.2.2 != R.2.2) = false by simp]
    simp only [L5.laws_FnExactRespaceThread.j2]
    rw [if_neg (by simp), heldT R.1.length R.2.1 K (by omega) hR]
    simp only [Option.bind_some]
    rw [if_neg (by omega), if_pos trivial]
end Go.Proofs.Ytffofpiejcolfaa.PureResp
end
