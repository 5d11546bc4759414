/- The plain law of FnExactReadThread: what its functions compute answers true at every text. No memory in sight. -/
import Derived.Test.YtffofpiejcolfaaDoorF15
import Derived.Test.YtffofpiejcolfaaDoorPN
set_option linter.unusedVariables false
namespace Go.Proofs.YtffofpiejcolfaaDoor.PureReadThread
open Go.RowKit Go.Proofs.YtffofpiejcolfaaDoor Go.Proofs.YtffofpiejcolfaaDoorW.PrintWords Go.Proofs.YtffofpiejcolfaaDoorW.PrintLast Go.Proofs.YtffofpiejcolfaaDoorW.PrintMore
open T XF XL XC XT F0 F1 PN

theorem eqV_l0 : ∀ (rest pre : List S45) (k : Nat), rest.length < k → pre.length + rest.length ≤ 1073741824 → F0.laws_eqVectorS.l0 k (pre ++ rest) (pre ++ rest) (pre.length : Int) = some true := by
  intro rest
  induction rest with
  | nil =>
    intro pre k hk hp
    obtain ⟨k, rfl⟩ : ∃ m, k = m + 1 := ⟨k - 1, by omega⟩
    simp only [F0.laws_eqVectorS.l0]
    rw [if_neg (by simp)]
  | cons L rest ih =>
    intro pre k hk hp
    simp only [List.length_cons] at hk hp
    obtain ⟨k, rfl⟩ : ∃ m, k = m + 1 := ⟨k - 1, by omega⟩
    have hrd : rd_T45 (pre ++ L :: rest) (pre.length : Int) = L := by simp [rd_T45]
    simp only [F0.laws_eqVectorS.l0, XL.eqVector.f, hrd, sfc_self]
    have e : pre ++ L :: rest = (pre ++ [L]) ++ rest := by simp
    have e2 : pre.length + 1 = (pre ++ [L]).length := by simp
    have hlt : (pre.length : Int) < (((pre ++ L :: rest).length : Nat) : Int) := by simp; omega
    rw [if_pos hlt, if_pos (by omega), if_pos hlt]
    simp only [Option.bind_some]
    rw [if_pos (by rfl), w1 pre.length (by omega), e, e2]
    exact ih (pre ++ [L]) k (by omega) (by simp; omega)
theorem eqT_f (l : List S45) (a : Nat) (h : l.length ≤ 1000000000) : XT.eqThread.f l a l a = some true := by
  unfold XT.eqThread.f F0.laws_eqVectorS.f
  rw [if_pos rfl]
  have := eqV_l0 l [] (l.length + 1) (by omega) (by simp; omega)
  simp only [List.nil_append, List.length_nil, Int.ofNat_zero] at this
  refine Eq.trans (congrArg (fun o => Option.bind o _) this) ?_
  simp only [Option.bind_some, sfc_self]
  rfl
/-- Points of rising whole numbers. -/
def fl (x : Nat) : Nat := floatOfInt .f32 (x : Int)
def mkd : Nat → Nat → List S45
  | 0, _ => []
  | n + 1, x => ⟨fl x, fl (x + 1), fl (x + 2)⟩ :: mkd n (x + 3)
theorem mkd_len : ∀ n x, (mkd n x).length = n
  | 0, _ => rfl
  | n + 1, x => by simp [mkd, mkd_len n]
theorem fl_ord_fin : ∀ x : Fin 200, FloatKind.f32.format.order (floatOfInt .f32 (x.val : Int)) (floatOfInt .f32 (x.val : Int)) = some .eq := by decide +kernel
theorem fl_ord (x : Nat) (h : x < 200) : FloatKind.f32.format.order (fl x) (fl x) = some .eq := fl_ord_fin ⟨x, h⟩
theorem mark_l0 : ∀ (rest pre : List S45) (x k : Nat), rest.length < k → pre.length + rest.length ≤ 1000 → x + 3 * rest.length ≤ 10000 →
    F1.laws_markVectorS.l0 k (pre ++ rest) (x : Int) (pre.length : Int) = some (((x + 3 * rest.length : Nat) : Int), pre ++ mkd rest.length x) := by
  intro rest
  induction rest with
  | nil =>
    intro pre x k hk hp hx
    obtain ⟨k, rfl⟩ : ∃ m, k = m + 1 := ⟨k - 1, by omega⟩
    simp only [F1.laws_markVectorS.l0]
    rw [if_neg (by simp)]
    simp [mkd]
  | cons L rest ih =>
    intro pre x k hk hp hx
    simp only [List.length_cons] at hk hp hx
    obtain ⟨k, rfl⟩ : ∃ m, k = m + 1 := ⟨k - 1, by omega⟩
    have hlt : (pre.length : Int) < (((pre ++ L :: rest).length : Nat) : Int) := by simp; omega
    have hset (u v : S45) : (pre ++ u :: rest).set (pre.length : Int).toNat v = pre ++ v :: rest := by
      rw [Int.toNat_natCast, List.set_append_right _ _ (Nat.le_refl _), Nat.sub_self]
      rfl
    have hrd (u : S45) : rd_T45 (pre ++ u :: rest) (pre.length : Int) = u := by simp [rd_T45]
    simp only [F1.laws_markVectorS.l0, Option.bind_some, hset, hrd]
    rw [if_pos hlt, if_pos (by omega), w1 x (by omega), w1 (x + 1) (by omega), w1 (x + 1 + 1) (by omega), w1 pre.length (by omega)]
    have e (u : S45) : pre ++ u :: rest = (pre ++ [u]) ++ rest := by simp
    have e2 (u : S45) : pre.length + 1 = (pre ++ [u]).length := by simp
    rw [e, e2 (⟨floatOfInt .f32 (x : Int), floatOfInt .f32 ((x + 1 : Nat) : Int), floatOfInt .f32 ((x + 1 + 1 : Nat) : Int)⟩ : S45)]
    rw [ih _ (x + 3) k (by omega) (by simp; omega) (by omega)]
    simp only [List.length_cons, mkd, fl]
    congr 1
    rw [List.append_assoc, show x + 3 + 3 * rest.length = x + 3 * (rest.length + 1) by omega]
    rfl
theorem held_l0 : ∀ (n x : Nat) (pre : List S45) (k : Nat), n < k → pre.length + n ≤ 1000 → x + 3 * n ≤ 199 →
    F1.laws_heldVectorS.l0 k (pre ++ mkd n x) (x : Int) (pre.length : Int) = some ((x + 3 * n : Nat) : Int) := by
  intro n
  induction n with
  | zero =>
    intro x pre k hk hp hx
    obtain ⟨k, rfl⟩ : ∃ m, k = m + 1 := ⟨k - 1, by omega⟩
    simp only [F1.laws_heldVectorS.l0]
    rw [if_neg (by simp [mkd])]
    rfl
  | succ n ih =>
    intro x pre k hk hp hx
    obtain ⟨k, rfl⟩ : ∃ m, k = m + 1 := ⟨k - 1, by omega⟩
    have hlt : (pre.length : Int) < (((pre ++ mkd (n + 1) x).length : Nat) : Int) := by simp [mkd]; omega
    have hrd : rd_T45 (pre ++ mkd (n + 1) x) (pre.length : Int) = ⟨fl x, fl (x + 1), fl (x + 2)⟩ := by simp [rd_T45, mkd]
    have h0 := fl_ord x (by omega)
    have h1 := fl_ord (x + 1) (by omega)
    have h2 := fl_ord (x + 2) (by omega)
    simp only [F1.laws_heldVectorS.l0, hrd]
    rw [if_pos hlt, if_pos (by omega), w1 x (by omega), w1 (x + 1) (by omega), w1 (x + 1 + 1) (by omega), w1 pre.length (by omega)]
    rw [show floatOfInt .f32 (x : Int) = fl x from rfl, show floatOfInt .f32 ((x + 1 : Nat) : Int) = fl (x + 1) from rfl, show floatOfInt .f32 ((x + 1 + 1 : Nat) : Int) = fl (x + 2) from rfl, h0, h1, h2]
    rw [if_neg (by decide), if_neg (by decide), if_neg (by decide)]
    have e : pre ++ mkd (n + 1) x = (pre ++ [⟨fl x, fl (x + 1), fl (x + 2)⟩]) ++ mkd n (x + 3) := by simp [mkd]
    have e2 : pre.length + 1 = (pre ++ [(⟨fl x, fl (x + 1), fl (x + 2)⟩ : S45)]).length := by simp
    rw [e, e2]
    have := ih (x + 3) (pre ++ [⟨fl x, fl (x + 1), fl (x + 2)⟩]) k (by omega) (by simp; omega) (by omega)
    refine Eq.trans this ?_
    rw [show x + 3 + 3 * n = x + 3 * (n + 1) by omega]
theorem mark_f (l : List S45) (a k : Nat) (hl : l.length ≤ 32) (hk : 40 ≤ k) : F1.laws_markThread.f k l a 1 = some (((1 + 3 * l.length : Nat) : Int), mkd l.length 1) := by
  unfold F1.laws_markThread.f F1.laws_markVectorS.f
  have := mark_l0 l [] 1 k (by omega) (by simp; omega) (by omega)
  simp only [List.nil_append, List.length_nil, Int.ofNat_zero] at this
  refine Eq.trans (congrArg (fun o => Option.bind o _) this) ?_
  rfl
theorem held_f (n a k : Nat) (hl : n ≤ 32) (hk : 40 ≤ k) : F1.laws_heldThread.f k (mkd n 1) a 1 = some ((1 + 3 * n : Nat) : Int) := by
  unfold F1.laws_heldThread.f F1.laws_heldVectorS.f
  have := held_l0 n 1 [] k (by omega) (by simp; omega) (by omega)
  simp only [List.nil_append, List.length_nil, Int.ofNat_zero] at this
  refine Eq.trans (congrArg (fun o => Option.bind o _) this) ?_
  simp only [Option.bind_some]
  rw [if_neg (by omega)]
theorem th_len (s : List UInt8) : (thOf (RT s)).1.length ≤ 32 := by
  unfold RT
  match sp 59 s with
  | [] => simp [thOf]
  | [_] => simp [thOf]
  | _ :: _ :: _ :: _ => simp [thOf]
  | [a, b] =>
    simp only
    cases R1 b with
    | none => simp [thOf]
    | some x =>
      simp only
      cases rvs (sp 47 a) with
      | none => simp [thOf]
      | some l =>
        simp only [give]
        by_cases h : isThread l x = true
        · rw [if_pos h]
          unfold isThread at h
          simp only [Bool.and_eq_true, decide_eq_true_eq] at h
          exact h.2.1
        · rw [if_neg h]
          simp [thOf]
theorem FnExactReadThread : F1.laws_FnExactReadThread.Pure := by
  intro a0 _
  obtain ⟨K, hK⟩ : ∃ K : Nat, 10000000 < K := ⟨10000001, by omega⟩
  refine ⟨K + 2, ?_⟩
  unfold F1.laws_FnExactReadThread.f
  by_cases h0 : (a0.size : Int) > 1048576
  · rw [if_pos h0]
  rw [if_neg h0]
  obtain ⟨s, rfl⟩ : ∃ s, a0 = B s := ⟨a0.data.toList, (B_data a0).symm⟩
  rw [B_size] at h0
  have hl := th_len s
  have hs := spec_RT s (K + 2) (by omega) (by omega)
  have hi (k : Nat) (hk : K ≤ k) := impl_RT s k (by omega) (by omega)
  generalize thOf (RT s) = r at hl hs hi
  obtain ⟨l, x, b⟩ := r
  simp only at hl
  unfold F1.spec_ReadThread.f
  rw [hs, hi (K + 2) (by omega)]
  simp only [Option.bind_some]
  rw [eqT_f l x (by omega)]
  simp only [Option.bind_some, if_true]
  rw [show (b != b) = false by simp]
  simp only [F1.laws_FnExactReadThread.j0]
  rw [if_neg (by decide), mark_f l x (K + 1) hl (by omega)]
  simp only [Option.bind_some]
  rw [held_f l.length x (K + 1) hl (by omega)]
  simp only [Option.bind_some]
  rw [if_neg (by omega), if_pos trivial, hi (K + 1) (by omega)]
  simp only [Option.bind_some]
  rw [eqT_f l x (by omega)]
  simp only [Option.bind_some, if_true]
  rw [show (b != b) = false by simp]
  simp only [F1.laws_FnExactReadThread.j1]
  rw [if_neg (by decide), held_f l.length x K hl (by omega)]
  simp only [Option.bind_some]
  rw [if_neg (by omega), if_pos trivial]
end Go.Proofs.YtffofpiejcolfaaDoor.PureReadThread
