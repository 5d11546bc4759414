/- The plain law of FnExactReadBasin: what its functions compute answers true at every text. No memory in sight. -/
import Derived.Test.YtifegijnfnjboaaDoorF35
import Derived.Test.YtifegijnfnjboaaDoorPNB
set_option linter.unusedVariables false
namespace Go.Proofs.YtifegijnfnjboaaDoor.PureReadBasin
open Go.RowKit Go.Proofs.YtifegijnfnjboaaDoor Go.Proofs.YtifegijnfnjboaaDoorW.PrintWords Go.Proofs.YtifegijnfnjboaaDoorW.PrintLast Go.Proofs.YtifegijnfnjboaaDoorW.PrintMore
open T XF XL XW XV XB FA F3 PNB

abbrev Bs : Type := Int × Int × List Nat
def bOf (o : Option Bs) : Int × Int × List Nat × Bool := match o with
  | some (a, b, m) => (a, b, m, true)
  | none => (0, 0, [], false)
def bgive (a b : Int) (m : List Nat) : Option Bs := if validB a b m = true then some (a, b, m) else none
theorem give_f (a b : Int) (m : List Nat) : XB.l04Give.f a b m = some (bOf (bgive a b m)) := by
  unfold XB.l04Give.f bgive
  split <;> rfl
theorem told_f (a b : Int) (m : List Nat) : F3.impl_toldBasin.f a b m = some (bOf (bgive a b m)) := by
  unfold F3.impl_toldBasin.f XB.ValidBasin.f bgive
  simp only [Option.bind_some]
  split <;> rfl
/-- The basin with a text. -/
def RB (s : List UInt8) : Option Bs := match sp 59 s with
  | [a, b] => match RI a with
    | none => none
    | some z => match RN b with
      | none => none
      | some m => match z with
        | [x, y] => bgive x y m
        | _ => none
  | _ => none
theorem spec_RB (s : List UInt8) (k : Nat) (hs : s.length ≤ 1073741824) (hk : 2 * s.length + 10010 ≤ k) : F3.spec_l08ReadBasin.f k (B s) = some (bOf (RB s)) := by
  unfold F3.spec_l08ReadBasin.f RB
  have hc := cut_f s 59 k hs (by omega)
  rw [show ((59 : UInt8).toNat : Int) = 59 from rfl] at hc
  rw [hc]
  simp only [Option.bind_some]
  have hle := sp_le 59 s
  match hsp : sp 59 s with
  | [] => exact absurd hsp (sp_ne 59 s)
  | [_] => rfl
  | _ :: _ :: _ :: l =>
    rw [if_neg (by simp only [List.map_cons, List.length_cons]; omega)]
    rfl
  | [a, b] =>
    rw [hsp] at hle
    have ha := hle a (by simp)
    have hb := hle b (by simp)
    have eI (o) (h : RI a = o) : F3.spec_l01Numbers.f k (B a) = some (intsOf o) := by rw [spec_I a k (by omega) (by omega), h]
    have eN (o) (h : RN b = o) : F3.spec_l01NRead.f k (B b) = some (numsOf o) := by rw [spec_N b k (by omega) (by omega), h]
    simp only [List.map_cons, List.map_nil]
    rw [if_pos (by rfl), if_pos (by simp), show rdOf ByteArray.empty [B a, B b] 1 = B b from rfl, show rdOf ByteArray.empty [B a, B b] 0 = B a from rfl]
    cases hI : RI a with
    | none =>
      rw [show F3.spec_l01Numbers.f k (B a) = some (([] : List Int), false) from eI _ hI]
      simp only [Option.bind_some]
      rw [if_pos (by simp), spec_N b k (by omega) (by omega)]
      simp only [Option.bind_some]
      rw [if_neg (by decide)]
      rfl
    | some z =>
      rw [show F3.spec_l01Numbers.f k (B a) = some (z, true) from eI _ hI]
      simp only [Option.bind_some]
      rw [if_pos (by simp)]
      cases hN : RN b with
      | none =>
        rw [show F3.spec_l01NRead.f k (B b) = some (([] : List Nat), false) from eN _ hN]
        simp only [Option.bind_some, if_true]
        rw [if_neg (by decide)]
        rfl
      | some m =>
        rw [show F3.spec_l01NRead.f k (B b) = some (m, true) from eN _ hN]
        simp only [Option.bind_some, if_true]
        match z with
        | [] => rw [if_neg (by simp)]; rfl
        | [_] => rw [if_neg (by simp)]; rfl
        | _ :: _ :: _ :: z => rw [if_neg (by simp only [List.length_cons]; omega)]; rfl
        | [x, y] =>
          rw [if_pos (by rfl), if_pos (by simp), if_pos (by simp), show rd [x, y] 0 = x from rfl, show rd [x, y] 1 = y from rfl, give_f]
          rfl
theorem impl_RB (s : List UInt8) (k : Nat) (hs : s.length ≤ 1073741824) (hk : 2 * s.length + 10010 ≤ k) : F3.impl_ReadBasin.f k (B s) = some (bOf (RB s)) := by
  unfold F3.impl_ReadBasin.f RB XP.strings_Cut.f XS.strings_Cut.f
  rw [if_pos (by rw [B_size]; exact hs)]
  simp only [Option.bind_some, B_toList]
  rcases sp_spec 59 s with ⟨h1, h2⟩ | ⟨i, h1, h2, h3⟩
  · have hcut : Lib.cut s (⟨#[59]⟩ : ByteArray).data.toList = (s, [], false) := by
      unfold Lib.cut
      rw [if_neg (by rw [show (⟨#[59]⟩ : ByteArray).data.toList = [59] from rfl, h1]; decide)]
    rw [hcut, h2]
    simp only
    rw [show (⟨([] : List UInt8).toArray⟩ : ByteArray) = B [] from rfl, show (⟨s.toArray⟩ : ByteArray) = B s from rfl, impl_I s k (by omega) (by omega)]
    simp only [Option.bind_some]
    rw [impl_N [] k (by simp) (by simp only [List.length_nil]; omega)]
    simp only [Option.bind_some]
    rw [if_neg (by decide)]
    rfl
  · have hcut : Lib.cut s (⟨#[59]⟩ : ByteArray).data.toList = (s.take i, s.drop (i + 1), true) := by
      unfold Lib.cut
      rw [show (⟨#[59]⟩ : ByteArray).data.toList = [59] from rfl, if_pos (by rw [h1]; omega), h1]
      rfl
    rw [hcut, h3]
    simp only [if_true]
    have hbl : (s.drop (i + 1)).length ≤ s.length := by rw [List.length_drop]; omega
    have hal : (s.take i).length ≤ s.length := by rw [List.length_take]; omega
    rw [show (⟨(s.drop (i + 1)).toArray⟩ : ByteArray) = B (s.drop (i + 1)) from rfl, show (⟨(s.take i).toArray⟩ : ByteArray) = B (s.take i) from rfl]
    generalize s.drop (i + 1) = b at hbl
    generalize s.take i = a at hal
    have eI (o) (h : RI a = o) : F3.impl_ReadList.f k (B a) = some (intsOf o) := by rw [impl_I a k (by omega) (by omega), h]
    have eN (o) (h : RN b = o) : F3.impl_ReadNumbers.f k (B b) = some (numsOf o) := by rw [impl_N b k (by omega) (by omega), h]
    have hone : ∀ q, sp 59 b = [q] → q = b := by
      intro q hsp
      by_cases h59 : (59 : UInt8) ∈ b
      · have := sp_len 59 b
        rw [hsp] at this
        have h0 : 0 < b.count 59 := List.count_pos_iff.2 h59
        simp at this
        omega
      · rw [sp_no 59 b h59] at hsp
        cases hsp
        rfl
    cases hI : RI a with
    | none =>
      have : (match a :: sp 59 b with
        | [a, b] => match RI a with
          | none => none
          | some z => match RN b with
            | none => none
            | some m => match z with
              | [x, y] => bgive x y m
              | _ => none
        | _ => (none : Option Bs)) = none := by
        cases hsp : sp 59 b with
        | nil => rfl
        | cons q qs => cases qs with
          | nil => simp only [hI]
          | cons _ _ => rfl
      rw [this, show F3.impl_ReadList.f k (B a) = some (([] : List Int), false) from eI _ hI]
      simp only [Option.bind_some]
      rw [impl_N b k (by omega) (by omega)]
      simp only [Option.bind_some]
      rw [if_neg (by decide)]
      rfl
    | some z =>
      rw [show F3.impl_ReadList.f k (B a) = some (z, true) from eI _ hI]
      simp only [Option.bind_some]
      cases hN : RN b with
      | none =>
        have : (match a :: sp 59 b with
          | [a, b] => match RI a with
            | none => none
            | some z => match RN b with
              | none => none
              | some m => match z with
                | [x, y] => bgive x y m
                | _ => none
          | _ => (none : Option Bs)) = none := by
          cases hsp : sp 59 b with
          | nil => rfl
          | cons q qs => cases qs with
            | nil =>
              have := hone q hsp
              subst this
              simp only [hI, hN]
            | cons _ _ => rfl
        rw [this, show F3.impl_ReadNumbers.f k (B b) = some (([] : List Nat), false) from eN _ hN]
        simp only [Option.bind_some, if_true]
        rw [if_neg (by decide)]
        rfl
      | some m =>
        rw [sp_no 59 b (RN_59 b m hN), show F3.impl_ReadNumbers.f k (B b) = some (m, true) from eN _ hN]
        simp only [Option.bind_some, if_true, hI, hN]
        match z with
        | [] => rw [if_neg (by simp)]; rfl
        | [_] => rw [if_neg (by simp)]; rfl
        | _ :: _ :: _ :: z => rw [if_neg (by simp only [List.length_cons]; omega)]; rfl
        | [x, y] =>
          rw [if_pos (by rfl), if_pos (by simp), if_pos (by simp), show rd [x, y] 0 = x from rfl, show rd [x, y] 1 = y from rfl, told_f]
          rfl
theorem eqfs_self : ∀ l : List Nat, eqfs l l = true
  | [] => rfl
  | x :: l => by simp [eqfs, sfc_self, eqfs_self l]
theorem eqB_f (a b : Int) (m : List Nat) : F3.laws_eqBasin.f a b m a b m = some true := by
  unfold F3.laws_eqBasin.f XV.eqFloat32S.f
  simp [eqfs_self]
def fl (x : Nat) : Nat := floatOfInt .f32 (x : Int)
def mkf : Nat → Nat → List Nat
  | 0, _ => []
  | n + 1, x => fl x :: mkf n (x + 1)
theorem small_fin : ∀ x : Fin 300, FloatKind.f32.format.order (fl x.val) (fl x.val) = some .eq := by decide +kernel
theorem small (x : Nat) (h : x < 300) : FloatKind.f32.format.order (fl x) (fl x) = some .eq := small_fin ⟨x, h⟩
theorem mkf_len : ∀ n x, (mkf n x).length = n
  | 0, _ => rfl
  | n + 1, x => by simp [mkf, mkf_len n]
theorem markf_l0 : ∀ (rest pre : List Nat) (x k : Nat), rest.length < k → pre.length + rest.length ≤ 1000 → x + rest.length ≤ 290 →
    F3.laws_markFloat32S.l0 k (pre ++ rest) (x : Int) (pre.length : Int) = some (((x + rest.length : Nat) : Int), pre ++ mkf rest.length x) := by
  intro rest
  induction rest with
  | nil =>
    intro pre x k hk hp hx
    obtain ⟨k, rfl⟩ : ∃ m, k = m + 1 := ⟨k - 1, by omega⟩
    simp only [F3.laws_markFloat32S.l0]
    rw [if_neg (by simp)]
    simp [mkf]
  | cons L rest ih =>
    intro pre x k hk hp hx
    simp only [List.length_cons] at hk hp hx
    obtain ⟨k, rfl⟩ : ∃ m, k = m + 1 := ⟨k - 1, by omega⟩
    have hlt : (pre.length : Int) < (((pre ++ L :: rest).length : Nat) : Int) := by simp; omega
    have hset (v : Nat) : (pre ++ L :: rest).set (pre.length : Int).toNat v = (pre ++ [v]) ++ rest := by
      rw [Int.toNat_natCast, List.set_append_right _ _ (Nat.le_refl _), Nat.sub_self]
      simp
    simp only [F3.laws_markFloat32S.l0, hset]
    have e2 (v : Nat) : pre.length + 1 = (pre ++ [v]).length := by simp
    rw [if_pos hlt, if_pos (by omega), w1 x (by omega), w1 pre.length (by omega), e2 (fl x)]
    refine Eq.trans (ih (pre ++ [fl x]) (x + 1) k (by omega) (by simp; omega) (by omega)) ?_
    rw [show x + 1 + rest.length = x + (rest.length + 1) by omega]
    simp [mkf]
theorem heldf_l0 : ∀ (n x : Nat) (pre : List Nat) (k : Nat), n < k → pre.length + n ≤ 1000 → x + n ≤ 290 →
    F3.laws_heldFloat32S.l0 k (pre ++ mkf n x) (x : Int) (pre.length : Int) = some ((x + n : Nat) : Int) := by
  intro n
  induction n with
  | zero =>
    intro x pre k hk hp hx
    obtain ⟨k, rfl⟩ : ∃ m, k = m + 1 := ⟨k - 1, by omega⟩
    simp only [F3.laws_heldFloat32S.l0]
    rw [if_neg (by simp [mkf])]
    rfl
  | succ n ih =>
    intro x pre k hk hp hx
    obtain ⟨k, rfl⟩ : ∃ m, k = m + 1 := ⟨k - 1, by omega⟩
    have hlt : (pre.length : Int) < (((pre ++ mkf (n + 1) x).length : Nat) : Int) := by simp [mkf]; omega
    have hrd : rdOf (0 : Nat) (pre ++ mkf (n + 1) x) (pre.length : Int) = fl x := by simp [rdOf, mkf]
    have h3 := small x (by omega)
    simp only [F3.laws_heldFloat32S.l0, hrd]
    rw [if_pos hlt, if_pos (by omega), w1 x (by omega), w1 pre.length (by omega)]
    rw [show floatOfInt .f32 (x : Int) = fl x from rfl, h3]
    rw [if_neg (by decide)]
    have e : pre ++ mkf (n + 1) x = (pre ++ [fl x]) ++ mkf n (x + 1) := by simp [mkf]
    have e2 : pre.length + 1 = (pre ++ [fl x]).length := by simp
    rw [e, e2]
    refine Eq.trans (ih (x + 1) (pre ++ [fl x]) k (by omega) (by simp; omega) (by omega)) ?_
    rw [show x + 1 + n = x + (n + 1) by omega]
theorem mark_f (a b : Int) (m : List Nat) (k : Nat) (hm : m.length ≤ 256) (hk : 300 ≤ k) : F3.laws_markBasin.f k a b m 1 = some (((1 + m.length : Nat) : Int), mkf m.length 1) := by
  unfold F3.laws_markBasin.f F3.laws_markFloat32S.f
  have h2 := markf_l0 m [] 1 k (by omega) (by simp; omega) (by omega)
  simp only [List.nil_append, List.length_nil, Int.ofNat_zero] at h2
  refine Eq.trans (congrArg (fun o => Option.bind o _) h2) ?_
  rfl
theorem held_f (a b : Int) (n k : Nat) (hm : n ≤ 256) (hk : 300 ≤ k) : F3.laws_heldBasin.f k a b (mkf n 1) 1 = some ((1 + n : Nat) : Int) := by
  unfold F3.laws_heldBasin.f F3.laws_heldFloat32S.f
  have h2 := heldf_l0 n 1 [] k (by omega) (by simp; omega) (by omega)
  simp only [List.nil_append, List.length_nil, Int.ofNat_zero] at h2
  refine Eq.trans (congrArg (fun o => Option.bind o _) h2) ?_
  simp only [Option.bind_some]
  rw [if_neg (by omega)]
theorem b_len (s : List UInt8) : (bOf (RB s)).2.2.1.length ≤ 256 := by
  have hg (a b m) : (bOf (bgive a b m)).2.2.1.length ≤ 256 := by
    unfold bgive
    by_cases h : validB a b m = true
    · rw [if_pos h]
      unfold validB at h
      simp only [Bool.and_eq_true, decide_eq_true_eq] at h
      have := mul_b h.1.1 h.1.2
      have := h.2.1
      show m.length ≤ 256
      omega
    · rw [if_neg h]
      simp [bOf]
  unfold RB
  match sp 59 s with
  | [] => simp [bOf]
  | [_] => simp [bOf]
  | _ :: _ :: _ :: _ => simp [bOf]
  | [a, b] =>
    simp only
    cases RI a with
    | none => simp [bOf]
    | some z =>
      simp only
      cases RN b with
      | none => simp [bOf]
      | some m =>
        match z with
        | [] => simp [bOf]
        | [_] => simp [bOf]
        | _ :: _ :: _ :: z => simp [bOf]
        | [x, y] => exact hg _ _ _
theorem FnExactReadBasin : F3.laws_FnExactReadBasin.Pure := by
  intro a0 _
  obtain ⟨K, hK⟩ : ∃ K : Nat, 10000000 < K := ⟨10000001, by omega⟩
  refine ⟨K + 2, ?_⟩
  unfold F3.laws_FnExactReadBasin.f
  by_cases h0 : (a0.size : Int) > 1048576
  · rw [if_pos h0]
  rw [if_neg h0]
  obtain ⟨s, rfl⟩ : ∃ s, a0 = B s := ⟨a0.data.toList, (B_data a0).symm⟩
  rw [B_size] at h0
  have hl := b_len s
  have hs := spec_RB s (K + 2) (by omega) (by omega)
  have hi (k : Nat) (hk : K ≤ k) := impl_RB s k (by omega) (by omega)
  generalize bOf (RB s) = r at hl hs hi
  obtain ⟨x, y, m, b⟩ := r
  simp only at hl
  unfold F3.spec_ReadBasin.f
  rw [hs, hi (K + 2) (by omega)]
  simp only [Option.bind_some]
  rw [eqB_f]
  simp only [Option.bind_some, if_true]
  rw [show (b != b) = false by simp]
  simp only [F3.laws_FnExactReadBasin.j0]
  rw [if_neg (by decide), mark_f x y m (K + 1) hl (by omega)]
  simp only [Option.bind_some]
  rw [held_f x y m.length (K + 1) hl (by omega)]
  simp only [Option.bind_some]
  rw [if_neg (by omega), if_pos trivial, hi (K + 1) (by omega)]
  simp only [Option.bind_some]
  rw [eqB_f]
  simp only [Option.bind_some, if_true]
  rw [show (b != b) = false by simp]
  simp only [F3.laws_FnExactReadBasin.j1]
  rw [if_neg (by decide), held_f x y m.length K hl (by omega)]
  simp only [Option.bind_some]
  rw [if_neg (by omega), if_pos trivial]
end Go.Proofs.YtifegijnfnjboaaDoor.PureReadBasin
