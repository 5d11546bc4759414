/- The plain law of FnExactReadWhirls: what its functions compute answers true at every text. No memory in sight. -/
import Derived.Test.YtifegijnfnjboaaDoorF16
import Derived.Test.YtifegijnfnjboaaDoorPN
set_option linter.unusedVariables false
namespace Go.Proofs.YtifegijnfnjboaaDoor.PureReadWhirls
open Go.RowKit Go.Proofs.YtifegijnfnjboaaDoor Go.Proofs.YtifegijnfnjboaaDoorW.PrintWords Go.Proofs.YtifegijnfnjboaaDoorW.PrintLast Go.Proofs.YtifegijnfnjboaaDoorW.PrintMore
open T XF XL XW FA F1 PN

def zw : List (Nat × Nat) → List Nat → List S70
  | p :: l, x :: m => ⟨p, x⟩ :: zw l m
  | _, _ => []
theorem zw_len : ∀ (l : List (Nat × Nat)) (m : List Nat), l.length = m.length → (zw l m).length = l.length
  | [], [], _ => rfl
  | p :: l, x :: m, h => by simp only [List.length_cons] at h; simp [zw, zw_len l m (by omega)]
  | [], _ :: _, h => by simp at h
  | _ :: _, [], h => by simp at h
def are (l : List S70) : Bool := decide (l.length ≤ 32) && !(l.any fun x => !wfin x)
def wgive (l : List S70) : Option (List S70) := if are l = true then some l else none
def wOf (o : Option (List S70)) : List S70 × Bool := match o with
  | some l => (l, true)
  | none => ([], false)
theorem cf (p : Nat × Nat) : F1.spec_l01CFinite.f p = some (cfin p) := by
  unfold F1.spec_l01CFinite.f XL.l01Finite.f cfin
  cases h0 : fin p.1 <;> cases h1 : fin p.2 <;> simp
theorem are_l0 (all : List S70) (h32 : all.length ≤ 32) : ∀ (rest pre : List S70) (k : Nat), all = pre ++ rest → 2 * rest.length + 2 < k →
    F1.spec_l02Are.l0 k all (pre.length : Int) = some (!(rest.any fun x => !wfin x)) := by
  intro rest
  induction rest with
  | nil =>
    intro pre k hp hk
    obtain ⟨k, rfl⟩ : ∃ m, k = m + 2 := ⟨k - 2, by simp at hk; omega⟩
    rw [List.append_nil] at hp
    subst hp
    simp only [F1.spec_l02Are.l0]
    rw [if_neg (by omega)]
    simp only [F1.spec_l02Are.j1]
    rw [if_neg (by decide), decide_eq_true (by omega)]
    rfl
  | cons v rest ih =>
    intro pre k hp hk
    simp only [List.length_cons] at hk
    obtain ⟨k, rfl⟩ : ∃ m, k = m + 2 := ⟨k - 2, by omega⟩
    have hpl : pre.length < all.length := by rw [hp]; simp
    have hrd : rd_T70 all (pre.length : Int) = v := by rw [hp]; simp [rd_T70]
    simp only [F1.spec_l02Are.l0]
    rw [if_pos (by omega), decide_eq_true (by omega)]
    simp only [F1.spec_l02Are.j1]
    rw [if_pos trivial, if_pos (by omega), if_pos (by omega), hrd, cf]
    simp only [Option.bind_some, XL.l01Finite.f, List.any_cons, wfin]
    cases h1 : cfin v.f0 with
    | false =>
      rw [if_neg (by decide)]
      simp
    | true =>
      rw [if_pos rfl]
      cases h2 : fin v.f1 with
      | false =>
        rw [if_neg (by decide)]
        simp
      | true =>
        have e2 : pre.length + 1 = (pre ++ [v]).length := by simp
        rw [if_pos rfl, w1 pre.length (by omega), e2, ih (pre ++ [v]) k (by rw [hp]; simp) (by omega)]
        simp only [Bool.and_self, Bool.not_true, Bool.false_or]
        rfl
theorem are_f (l : List S70) (k : Nat) (hk : 100 < k) : F1.spec_l02Are.f k l = some (are l) := by
  unfold F1.spec_l02Are.f are
  by_cases h : l.length ≤ 32
  · have := are_l0 l h l [] k rfl (by omega)
    simp only [List.length_nil, Int.ofNat_zero] at this
    refine Eq.trans this ?_
    rw [decide_eq_true h, Bool.true_and]
  · obtain ⟨k, rfl⟩ : ∃ m, k = m + 2 := ⟨k - 2, by omega⟩
    simp only [F1.spec_l02Are.l0]
    rw [if_pos (by omega), decide_eq_false (by omega)]
    simp only [F1.spec_l02Are.j1]
    rw [if_neg (by decide), decide_eq_false (p := l.length ≤ 32) h, decide_eq_false (p := (l.length : Int) ≤ 32) (by omega)]
    rfl
theorem give_f (l : List S70) (k : Nat) (hk : 100 < k) : F1.spec_l02Give.f k l = some (wOf (wgive l)) := by
  unfold F1.spec_l02Give.f wgive
  rw [are_f l k hk]
  simp only [Option.bind_some]
  split <;> rfl
theorem told_f (l : List S70) : F1.impl_toldWhirls.f l = some (wOf (wgive l)) := by
  unfold F1.impl_toldWhirls.f F1.impl_AreWhirls.f XW.finiteWhirls.f wgive are
  by_cases h : l.length ≤ 32
  · rw [if_pos (by omega), decide_eq_true h, Bool.true_and]
    simp only [Option.bind_some]
    split <;> rfl
  · rw [if_neg (by omega), decide_eq_false h, Bool.false_and]
    rfl
theorem spec_w (at_ : List (Nat × Nat)) (sp_ : List Nat) (h : at_.length = sp_.length) (h256 : at_.length ≤ 256) : ∀ (r1 p1 : List (Nat × Nat)) (r2 p2 : List Nat) (k : Nat), at_ = p1 ++ r1 → sp_ = p2 ++ r2 → p1.length = p2.length → r1.length + 110 < k →
    F1.spec_l08ReadWhirls.l0 k at_ sp_ (zw p1 p2) (p1.length : Int) = some (wOf (wgive (zw p1 p2 ++ zw r1 r2))) := by
  intro r1
  induction r1 with
  | nil =>
    intro p1 r2 p2 k h1 h2 hp hk
    obtain ⟨k, rfl⟩ : ∃ m, k = m + 1 := ⟨k - 1, by simp at hk; omega⟩
    rw [List.append_nil] at h1
    subst h1
    have : r2 = [] := by
      have := congrArg List.length h2
      rw [List.length_append] at this
      exact List.eq_nil_of_length_eq_zero (by omega)
    subst this
    simp only [F1.spec_l08ReadWhirls.l0]
    rw [if_neg (by omega), give_f _ k (by simp at hk; omega)]
    simp [zw]
  | cons p r1 ih =>
    intro p1 r2 p2 k h1 h2 hp hk
    simp only [List.length_cons] at hk
    obtain ⟨k, rfl⟩ : ∃ m, k = m + 1 := ⟨k - 1, by omega⟩
    have hl1 : at_.length = p1.length + (r1.length + 1) := by rw [h1]; simp
    have hl2 : sp_.length = p2.length + r2.length := by rw [h2]; simp
    cases r2 with
    | nil => simp at hl2; omega
    | cons x r2 =>
      simp only [List.length_cons] at hl2
      have hr1 : rdOf ((0, 0) : Nat × Nat) at_ (p1.length : Int) = p := by rw [h1]; simp [rdOf]
      have hr2 : rdOf (0 : Nat) sp_ (p1.length : Int) = x := by rw [hp, h2]; simp [rdOf]
      have hz : ∀ (a : List (Nat × Nat)) (b : List Nat), a.length = b.length → zw (a ++ [p]) (b ++ [x]) = zw a b ++ [⟨p, x⟩] := by
        intro a
        induction a with
        | nil => intro b hb; cases b with
          | nil => rfl
          | cons _ _ => simp at hb
        | cons u a iha => intro b hb; cases b with
          | nil => simp at hb
          | cons v b => simp only [List.length_cons] at hb; simp [zw, iha b (by omega)]
      simp only [F1.spec_l08ReadWhirls.l0]
      rw [if_pos (by omega), if_pos (by omega), if_pos (by omega), hr1, hr2, if_pos (by rw [zw_len _ _ hp]; omega), w1 p1.length (by omega)]
      have e2 : p1.length + 1 = (p1 ++ [p]).length := by simp
      rw [← hz p1 p2 hp, e2, ih (p1 ++ [p]) r2 (p2 ++ [x]) k (by rw [h1]; simp) (by rw [h2]; simp) (by simp [hp]) (by omega), hz p1 p2 hp]
      simp [zw]
theorem impl_w (at_ : List (Nat × Nat)) (sp_ : List Nat) (h : at_.length = sp_.length) (h256 : at_.length ≤ 256) : ∀ (r1 p1 : List (Nat × Nat)) (r2 p2 : List Nat) (k : Nat), at_ = p1 ++ r1 → sp_ = p2 ++ r2 → p1.length = p2.length → r1.length + 110 < k →
    F1.impl_ReadWhirls.l0 k sp_ (zw p1 p2) at_ (at_.length : Int) (p1.length : Int) = some (wOf (wgive (zw p1 p2 ++ zw r1 r2))) := by
  intro r1
  induction r1 with
  | nil =>
    intro p1 r2 p2 k h1 h2 hp hk
    obtain ⟨k, rfl⟩ : ∃ m, k = m + 1 := ⟨k - 1, by simp at hk; omega⟩
    rw [List.append_nil] at h1
    subst h1
    have : r2 = [] := by
      have := congrArg List.length h2
      rw [List.length_append] at this
      exact List.eq_nil_of_length_eq_zero (by omega)
    subst this
    simp only [F1.impl_ReadWhirls.l0]
    rw [if_neg (by omega), told_f]
    simp [zw]
  | cons p r1 ih =>
    intro p1 r2 p2 k h1 h2 hp hk
    simp only [List.length_cons] at hk
    obtain ⟨k, rfl⟩ : ∃ m, k = m + 1 := ⟨k - 1, by omega⟩
    have hl1 : at_.length = p1.length + (r1.length + 1) := by rw [h1]; simp
    have hl2 : sp_.length = p2.length + r2.length := by rw [h2]; simp
    cases r2 with
    | nil => simp at hl2; omega
    | cons x r2 =>
      simp only [List.length_cons] at hl2
      have hr1 : rdOf ((0, 0) : Nat × Nat) at_ (p1.length : Int) = p := by rw [h1]; simp [rdOf]
      have hr2 : rdOf (0 : Nat) sp_ (p1.length : Int) = x := by rw [hp, h2]; simp [rdOf]
      have hz : ∀ (a : List (Nat × Nat)) (b : List Nat), a.length = b.length → zw (a ++ [p]) (b ++ [x]) = zw a b ++ [⟨p, x⟩] := by
        intro a
        induction a with
        | nil => intro b hb; cases b with
          | nil => rfl
          | cons _ _ => simp at hb
        | cons u a iha => intro b hb; cases b with
          | nil => simp at hb
          | cons v b => simp only [List.length_cons] at hb; simp [zw, iha b (by omega)]
      simp only [F1.impl_ReadWhirls.l0]
      rw [if_pos (by omega), if_pos (by omega), if_pos (by omega), if_pos (by omega), hr1, hr2, if_pos (by rw [zw_len _ _ hp]; omega), w1 p1.length (by omega)]
      have e2 : p1.length + 1 = (p1 ++ [p]).length := by simp
      rw [← hz p1 p2 hp, e2, ih (p1 ++ [p]) r2 (p2 ++ [x]) k (by rw [h1]; simp) (by rw [h2]; simp) (by simp [hp]) (by omega), hz p1 p2 hp]
      simp [zw]
/-- The whirls with a text. -/
def RW (s : List UInt8) : Option (List S70) := match sp 59 s with
  | [a, b] => match RC a with
    | none => none
    | some l => match RN b with
      | none => none
      | some m => if l.length = m.length then wgive (zw l m) else none
  | _ => none
theorem spec_RW (s : List UInt8) (k : Nat) (hs : s.length ≤ 1073741824) (hk : 2 * s.length + 10010 ≤ k) : F1.spec_l08ReadWhirls.f k (B s) = some (wOf (RW s)) := by
  obtain ⟨k, rfl⟩ : ∃ m, k = m + 1 := ⟨k - 1, by omega⟩
  unfold F1.spec_l08ReadWhirls.f RW
  have hc := cut_f s 59 (k + 1) hs (by omega)
  rw [show ((59 : UInt8).toNat : Int) = 59 from rfl] at hc
  rw [hc]
  simp only [Option.bind_some]
  have hle := sp_le 59 s
  match hsp : sp 59 s with
  | [] => exact absurd hsp (sp_ne 59 s)
  | [_] => rfl
  | _ :: _ :: _ :: l =>
    rw [if_neg (by simp only [List.map_cons, List.length_cons]; omega)]
    rfl
  | [a, b] =>
    rw [hsp] at hle
    have ha := hle a (by simp)
    have hb := hle b (by simp)
    simp only [List.map_cons, List.map_nil]
    have eC (o) (h : RC a = o) : F1.spec_l01CRead.f (k + 1) (B a) = some (cplxOf o) := by rw [spec_C a (k + 1) (by omega) (by omega), h]
    have eN (o) (h : RN b = o) : F1.spec_l01NRead.f (k + 1) (B b) = some (numsOf o) := by rw [spec_N b (k + 1) (by omega) (by omega), h]
    rw [if_pos (by rfl), if_pos (by simp), show rdOf ByteArray.empty [B a, B b] 1 = B b from rfl, show rdOf ByteArray.empty [B a, B b] 0 = B a from rfl]
    cases hC : RC a with
    | none =>
      rw [show F1.spec_l01CRead.f (k + 1) (B a) = some (([] : List (Nat × Nat)), false) from eC _ hC]
      simp only [Option.bind_some]
      rw [if_pos (by simp), spec_N b (k + 1) (by omega) (by omega)]
      simp only [Option.bind_some]
      rw [if_neg (by decide)]
      rfl
    | some l =>
      rw [show F1.spec_l01CRead.f (k + 1) (B a) = some (l, true) from eC _ hC]
      simp only [Option.bind_some]
      rw [if_pos (by simp)]
      cases hN : RN b with
      | none =>
        rw [show F1.spec_l01NRead.f (k + 1) (B b) = some (([] : List Nat), false) from eN _ hN]
        simp only [Option.bind_some, if_true]
        rw [if_neg (by decide)]
        rfl
      | some m =>
        rw [show F1.spec_l01NRead.f (k + 1) (B b) = some (m, true) from eN _ hN]
        simp only [Option.bind_some, if_true, F1.spec_l08ReadWhirls.j0]
        have h256 := RC_len a l hC
        by_cases h : l.length = m.length
        · have hb : ((l.length : Int) != (m.length : Int)) = false := by rw [h]; simp
          rw [if_neg (by rw [hb]; decide), if_pos h]
          have := spec_w l m h h256 l [] m [] k rfl rfl rfl (by omega)
          simp only [List.length_nil, Int.ofNat_zero] at this
          exact this
        · rw [if_pos (by rw [bne_iff_ne]; omega), if_neg h]
          rfl
theorem impl_RW (s : List UInt8) (k : Nat) (hs : s.length ≤ 1073741824) (hk : 2 * s.length + 10010 ≤ k) : F1.impl_ReadWhirls.f k (B s) = some (wOf (RW s)) := by
  obtain ⟨k, rfl⟩ : ∃ m, k = m + 1 := ⟨k - 1, by omega⟩
  unfold F1.impl_ReadWhirls.f RW XS.strings_Cut.f
  rw [if_pos (by rw [B_size]; exact hs)]
  simp only [Option.bind_some, B_toList]
  rcases sp_spec 59 s with ⟨h1, h2⟩ | ⟨i, h1, h2, h3⟩
  · have hcut : Lib.cut s (⟨#[59]⟩ : ByteArray).data.toList = (s, [], false) := by
      unfold Lib.cut
      rw [if_neg (by rw [show (⟨#[59]⟩ : ByteArray).data.toList = [59] from rfl, h1]; decide)]
    rw [hcut, h2]
    simp only
    unfold F1.impl_readPoints.f
    rw [show (⟨([] : List UInt8).toArray⟩ : ByteArray) = B [] from rfl, show (⟨s.toArray⟩ : ByteArray) = B s from rfl, impl_C s (k + 1) (by omega) (by omega)]
    simp only [Option.bind_some]
    rw [impl_N [] (k + 1) (by simp) (by simp only [List.length_nil]; omega)]
    simp only [Option.bind_some]
    cases RC s with
    | none =>
      simp only [cplxOf, F1.impl_ReadWhirls.j0]
      rfl
    | some l =>
      cases RN [] with
      | none => simp only [cplxOf, numsOf, F1.impl_ReadWhirls.j0]; rfl
      | some m => simp only [cplxOf, numsOf, F1.impl_ReadWhirls.j0]; rfl
  · have hcut : Lib.cut s (⟨#[59]⟩ : ByteArray).data.toList = (s.take i, s.drop (i + 1), true) := by
      unfold Lib.cut
      rw [show (⟨#[59]⟩ : ByteArray).data.toList = [59] from rfl, if_pos (by rw [h1]; omega), h1]
      rfl
    rw [hcut, h3]
    simp only [if_true]
    have hbl : (s.drop (i + 1)).length ≤ s.length := by rw [List.length_drop]; omega
    have hal : (s.take i).length ≤ s.length := by rw [List.length_take]; omega
    rw [show (⟨(s.drop (i + 1)).toArray⟩ : ByteArray) = B (s.drop (i + 1)) from rfl, show (⟨(s.take i).toArray⟩ : ByteArray) = B (s.take i) from rfl]
    generalize s.drop (i + 1) = b at hbl
    generalize s.take i = a at hal
    unfold F1.impl_readPoints.f
    have eC (o) (h : RC a = o) : F1.impl_ReadComplex.f (k + 1) (B a) = some (cplxOf o) := by rw [impl_C a (k + 1) (by omega) (by omega), h]
    have eN (o) (h : RN b = o) : F1.impl_ReadNumbers.f (k + 1) (B b) = some (numsOf o) := by rw [impl_N b (k + 1) (by omega) (by omega), h]
    have hone : RN b = none → ∀ q, sp 59 b = [q] → q = b := by
      intro hN q hsp
      by_cases h59 : (59 : UInt8) ∈ b
      · have := sp_len 59 b
        rw [hsp] at this
        have h0 : 0 < b.count 59 := List.count_pos_iff.2 h59
        simp at this
        omega
      · rw [sp_no 59 b h59] at hsp
        cases hsp
        rfl
    cases hC : RC a with
    | none =>
      have : (match a :: sp 59 b with
        | [a, b] => match RC a with
          | none => none
          | some l => match RN b with
            | none => none
            | some m => if l.length = m.length then wgive (zw l m) else none
        | _ => (none : Option (List S70))) = none := by
        cases hsp : sp 59 b with
        | nil => rfl
        | cons q qs => cases qs with
          | nil => simp only [hC]
          | cons _ _ => rfl
      rw [this, show F1.impl_ReadComplex.f (k + 1) (B a) = some (([] : List (Nat × Nat)), false) from eC _ hC]
      simp only [Option.bind_some]
      rw [impl_N b (k + 1) (by omega) (by omega)]
      simp only [Option.bind_some]
      rw [if_neg (by decide)]
      simp only [Option.bind_some, F1.impl_ReadWhirls.j0]
      rfl
    | some l =>
      rw [show F1.impl_ReadComplex.f (k + 1) (B a) = some (l, true) from eC _ hC]
      simp only [Option.bind_some]
      cases hN : RN b with
      | none =>
        have : (match a :: sp 59 b with
          | [a, b] => match RC a with
            | none => none
            | some l => match RN b with
              | none => none
              | some m => if l.length = m.length then wgive (zw l m) else none
          | _ => (none : Option (List S70))) = none := by
          cases hsp : sp 59 b with
          | nil => rfl
          | cons q qs => cases qs with
            | nil =>
              have := hone hN q hsp
              subst this
              simp only [hC, hN]
            | cons _ _ => rfl
        rw [this, show F1.impl_ReadNumbers.f (k + 1) (B b) = some (([] : List Nat), false) from eN _ hN]
        simp only [Option.bind_some, if_true]
        rw [if_neg (by decide)]
        simp only [Option.bind_some, F1.impl_ReadWhirls.j0]
        rfl
      | some m =>
        rw [sp_no 59 b (RN_59 b m hN), show F1.impl_ReadNumbers.f (k + 1) (B b) = some (m, true) from eN _ hN]
        simp only [Option.bind_some, if_true, hC, hN]
        have h256 := RC_len a l hC
        by_cases h : l.length = m.length
        · have hb : (!((l.length : Int) == (m.length : Int))) = false := by simp [h]
          rw [hb, if_pos h]
          simp only [F1.impl_ReadWhirls.j0]
          rw [if_neg (by decide)]
          have := impl_w l m h h256 l [] m [] k rfl rfl rfl (by omega)
          simp only [List.length_nil, Int.ofNat_zero] at this
          exact this
        · have hb : (!((l.length : Int) == (m.length : Int))) = true := by
            rw [Bool.not_eq_true', beq_eq_false_iff_ne]
            omega
          rw [hb, if_neg h]
          rfl
theorem eqW_l0 : ∀ (rest pre : List S70) (k : Nat), rest.length < k → pre.length + rest.length ≤ 1073741824 → F1.laws_eqWhirlS.l0 k (pre ++ rest) (pre ++ rest) (pre.length : Int) = some true := by
  intro rest
  induction rest with
  | nil =>
    intro pre k hk hp
    obtain ⟨k, rfl⟩ : ∃ m, k = m + 1 := ⟨k - 1, by omega⟩
    simp only [F1.laws_eqWhirlS.l0]
    rw [if_neg (by simp)]
  | cons L rest ih =>
    intro pre k hk hp
    simp only [List.length_cons] at hk hp
    obtain ⟨k, rfl⟩ : ∃ m, k = m + 1 := ⟨k - 1, by omega⟩
    have hrd : rd_T70 (pre ++ L :: rest) (pre.length : Int) = L := by simp [rd_T70]
    simp only [F1.laws_eqWhirlS.l0, XW.eqWhirl.f, hrd, sfc_self]
    have e : pre ++ L :: rest = (pre ++ [L]) ++ rest := by simp
    have e2 : pre.length + 1 = (pre ++ [L]).length := by simp
    have hlt : (pre.length : Int) < (((pre ++ L :: rest).length : Nat) : Int) := by simp; omega
    rw [if_pos hlt, if_pos (by omega), if_pos hlt]
    simp only [Option.bind_some]
    rw [if_pos (by rfl), w1 pre.length (by omega), e, e2]
    exact ih (pre ++ [L]) k (by omega) (by simp; omega)
theorem eqW_f (l : List S70) (k : Nat) (h : l.length ≤ 32) (hk : 40 < k) : F1.laws_eqWhirlS.f k l l = some true := by
  unfold F1.laws_eqWhirlS.f
  rw [if_pos rfl]
  have := eqW_l0 l [] k (by omega) (by simp; omega)
  simp only [List.nil_append, List.length_nil, Int.ofNat_zero] at this
  exact this
/-- Whirls of rising whole numbers. -/
def one64 : Nat := 4607182418800017408
def cl (x : Nat) : Nat × Nat := cnar (floatOfInt .f64 (x : Int), one64)
def fl (x : Nat) : Nat := floatOfInt .f32 (x : Int)
def mkw : Nat → Nat → List S70
  | 0, _ => []
  | n + 1, x => ⟨cl x, fl (x + 1)⟩ :: mkw n (x + 2)
theorem mkw_len : ∀ n x, (mkw n x).length = n
  | 0, _ => rfl
  | n + 1, x => by simp [mkw, mkw_len n]
theorem small_fin : ∀ x : Fin 200, (nsm (floatOfInt .f64 (x.val : Int), 4607182418800017408) && (FloatKind.f32.format.order (cl x.val).1 (cl x.val).1 == some .eq && (FloatKind.f32.format.order (cl x.val).2 (cl x.val).2 == some .eq && FloatKind.f32.format.order (fl x.val) (fl x.val) == some .eq))) = true := by decide +kernel
theorem small (x : Nat) (h : x < 200) : nsm (floatOfInt .f64 (x : Int), 4607182418800017408) = true ∧ (FloatKind.f32.format.order (cl x).1 (cl x).1 == some .eq) = true ∧ (FloatKind.f32.format.order (cl x).2 (cl x).2 == some .eq) = true ∧ FloatKind.f32.format.order (fl x) (fl x) = some .eq := by
  have := small_fin ⟨x, h⟩
  simp only [Bool.and_eq_true] at this
  exact ⟨this.1, this.2.1, this.2.2.1, by simpa using this.2.2.2⟩
theorem mark_l0 : ∀ (rest pre : List S70) (x k : Nat), rest.length < k → pre.length + rest.length ≤ 1000 → x + 2 * rest.length ≤ 190 →
    F1.laws_markWhirlS.l0 k (pre ++ rest) (x : Int) (pre.length : Int) = some (((x + 2 * rest.length : Nat) : Int), pre ++ mkw rest.length x) := by
  intro rest
  induction rest with
  | nil =>
    intro pre x k hk hp hx
    obtain ⟨k, rfl⟩ : ∃ m, k = m + 1 := ⟨k - 1, by omega⟩
    simp only [F1.laws_markWhirlS.l0]
    rw [if_neg (by simp)]
    simp [mkw]
  | cons L rest ih =>
    intro pre x k hk hp hx
    simp only [List.length_cons] at hk hp hx
    obtain ⟨k, rfl⟩ : ∃ m, k = m + 1 := ⟨k - 1, by omega⟩
    have hlt : (pre.length : Int) < (((pre ++ L :: rest).length : Nat) : Int) := by simp; omega
    have hset (u v : S70) : (pre ++ u :: rest).set (pre.length : Int).toNat v = pre ++ v :: rest := by
      rw [Int.toNat_natCast, List.set_append_right _ _ (Nat.le_refl _), Nat.sub_self]
      rfl
    have hrd (u : S70) : rd_T70 (pre ++ u :: rest) (pre.length : Int) = u := by simp [rd_T70]
    simp only [F1.laws_markWhirlS.l0, Option.bind_some, hset, hrd]
    rw [if_pos hlt, if_pos (small x (by omega)).1, if_pos (by omega), w1 x (by omega), w1 (x + 1) (by omega), w1 pre.length (by omega)]
    have e (u : S70) : pre ++ u :: rest = (pre ++ [u]) ++ rest := by simp
    have e2 (u : S70) : pre.length + 1 = (pre ++ [u]).length := by simp
    rw [e, e2 (⟨cnar (floatOfInt .f64 (x : Int), 4607182418800017408), floatOfInt .f32 ((x + 1 : Nat) : Int)⟩ : S70)]
    rw [ih _ (x + 2) k (by omega) (by simp; omega) (by omega)]
    simp only [List.length_cons, mkw, fl, cl]
    congr 1
    rw [List.append_assoc, show x + 2 + 2 * rest.length = x + 2 * (rest.length + 1) by omega]
    rfl
theorem held_l0 : ∀ (n x : Nat) (pre : List S70) (k : Nat), n < k → pre.length + n ≤ 1000 → x + 2 * n ≤ 190 →
    F1.laws_heldWhirlS.l0 k (pre ++ mkw n x) (x : Int) (pre.length : Int) = some ((x + 2 * n : Nat) : Int) := by
  intro n
  induction n with
  | zero =>
    intro x pre k hk hp hx
    obtain ⟨k, rfl⟩ : ∃ m, k = m + 1 := ⟨k - 1, by omega⟩
    simp only [F1.laws_heldWhirlS.l0]
    rw [if_neg (by simp [mkw])]
    rfl
  | succ n ih =>
    intro x pre k hk hp hx
    obtain ⟨k, rfl⟩ : ∃ m, k = m + 1 := ⟨k - 1, by omega⟩
    have hlt : (pre.length : Int) < (((pre ++ mkw (n + 1) x).length : Nat) : Int) := by simp [mkw]; omega
    have hrd : rd_T70 (pre ++ mkw (n + 1) x) (pre.length : Int) = ⟨cl x, fl (x + 1)⟩ := by simp [rd_T70, mkw]
    obtain ⟨h0, h1, h2, _⟩ := small x (by omega)
    obtain ⟨_, _, _, h3⟩ := small (x + 1) (by omega)
    simp only [F1.laws_heldWhirlS.l0, hrd]
    rw [if_pos hlt, if_pos (by omega), if_pos h0, w1 x (by omega), w1 (x + 1) (by omega), w1 pre.length (by omega)]
    rw [show cnar (floatOfInt .f64 (x : Int), 4607182418800017408) = cl x from rfl, show floatOfInt .f32 ((x + 1 : Nat) : Int) = fl (x + 1) from rfl, h1, h2, h3]
    rw [if_neg (by decide), if_neg (by decide)]
    have e : pre ++ mkw (n + 1) x = (pre ++ [⟨cl x, fl (x + 1)⟩]) ++ mkw n (x + 2) := by simp [mkw]
    have e2 : pre.length + 1 = (pre ++ [(⟨cl x, fl (x + 1)⟩ : S70)]).length := by simp
    rw [e, e2]
    have := ih (x + 2) (pre ++ [⟨cl x, fl (x + 1)⟩]) k (by omega) (by simp; omega) (by omega)
    refine Eq.trans this ?_
    rw [show x + 2 + 2 * n = x + 2 * (n + 1) by omega]
theorem mark_f (l : List S70) (k : Nat) (hl : l.length ≤ 32) (hk : 40 ≤ k) : F1.laws_markWhirlS.f k l 1 = some (((1 + 2 * l.length : Nat) : Int), mkw l.length 1) := by
  unfold F1.laws_markWhirlS.f
  have := mark_l0 l [] 1 k (by omega) (by simp; omega) (by omega)
  simp only [List.nil_append, List.length_nil, Int.ofNat_zero] at this
  exact this
theorem held_f (n k : Nat) (hl : n ≤ 32) (hk : 40 ≤ k) : F1.laws_heldWhirlS.f k (mkw n 1) 1 = some ((1 + 2 * n : Nat) : Int) := by
  unfold F1.laws_heldWhirlS.f
  have := held_l0 n 1 [] k (by omega) (by simp; omega) (by omega)
  simp only [List.nil_append, List.length_nil, Int.ofNat_zero] at this
  exact this
theorem w_len (s : List UInt8) : (wOf (RW s)).1.length ≤ 32 := by
  have hg (l : List S70) : (wOf (wgive l)).1.length ≤ 32 := by
    unfold wgive
    by_cases h : are l = true
    · rw [if_pos h]
      unfold are at h
      simp only [Bool.and_eq_true, decide_eq_true_eq] at h
      exact h.1
    · rw [if_neg h]
      simp [wOf]
  unfold RW
  match sp 59 s with
  | [] => simp [wOf]
  | [_] => simp [wOf]
  | _ :: _ :: _ :: _ => simp [wOf]
  | [a, b] =>
    simp only
    cases RC a with
    | none => simp [wOf]
    | some l =>
      simp only
      cases RN b with
      | none => simp [wOf]
      | some m =>
        simp only
        split
        · exact hg _
        · simp [wOf]
theorem FnExactReadWhirls : F1.laws_FnExactReadWhirls.Pure := by
  intro a0 _
  obtain ⟨K, hK⟩ : ∃ K : Nat, 10000000 < K := ⟨10000001, by omega⟩
  refine ⟨K + 2, ?_⟩
  unfold F1.laws_FnExactReadWhirls.f
  by_cases h0 : (a0.size : Int) > 1048576
  · rw [if_pos h0]
  rw [if_neg h0]
  obtain ⟨s, rfl⟩ : ∃ s, a0 = B s := ⟨a0.data.toList, (B_data a0).symm⟩
  rw [B_size] at h0
  have hl := w_len s
  have hs := spec_RW s (K + 2) (by omega) (by omega)
  have hi (k : Nat) (hk : K ≤ k) := impl_RW s k (by omega) (by omega)
  generalize wOf (RW s) = r at hl hs hi
  obtain ⟨l, b⟩ := r
  simp only at hl
  unfold F1.spec_ReadWhirls.f
  rw [hs, hi (K + 2) (by omega)]
  simp only [Option.bind_some]
  rw [eqW_f l (K + 2) hl (by omega)]
  simp only [Option.bind_some, if_true]
  rw [show (b != b) = false by simp]
  simp only [F1.laws_FnExactReadWhirls.j0]
  rw [if_neg (by decide), mark_f l (K + 1) hl (by omega)]
  simp only [Option.bind_some]
  rw [held_f l.length (K + 1) hl (by omega)]
  simp only [Option.bind_some]
  rw [if_neg (by omega), if_pos trivial, hi (K + 1) (by omega)]
  simp only [Option.bind_some]
  rw [eqW_f l (K + 1) hl (by omega)]
  simp only [Option.bind_some, if_true]
  rw [show (b != b) = false by simp]
  simp only [F1.laws_FnExactReadWhirls.j1]
  rw [if_neg (by decide), held_f l.length K hl (by omega)]
  simp only [Option.bind_some]
  rw [if_neg (by omega), if_pos trivial]
end Go.Proofs.YtifegijnfnjboaaDoor.PureReadWhirls
