/- The plain law of FnExactReadSheet: what its functions compute answers true at every text. No memory in sight. -/
import Derived.Test.YtifegijnfnjboaaDoorF27
import Derived.Test.YtifegijnfnjboaaDoorPNS
set_option linter.unusedVariables false
namespace Go.Proofs.YtifegijnfnjboaaDoor.PureReadSheet
open Go.RowKit Go.Proofs.YtifegijnfnjboaaDoor Go.Proofs.YtifegijnfnjboaaDoorW.PrintWords Go.Proofs.YtifegijnfnjboaaDoorW.PrintLast Go.Proofs.YtifegijnfnjboaaDoorW.PrintMore
open T XF XL XW XV FA F2 PNS

abbrev Sh : Type := List (Nat × Nat) × List Nat × Bool
def sOf (o : Option Sh) : List (Nat × Nat) × List Nat × Bool × Bool := match o with
  | some (l, m, b) => (l, m, b, true)
  | none => ([], [], false, false)
def sgive (l : List (Nat × Nat)) (m : List Nat) (b : Bool) : Option Sh := if validS l m = true then some (l, m, b) else none
theorem give_f (l : List (Nat × Nat)) (m : List Nat) (b : Bool) : XV.l03Give.f l m b = some (sOf (sgive l m b)) := by
  unfold XV.l03Give.f sgive
  split <;> rfl
theorem told_f (l : List (Nat × Nat)) (m : List Nat) (b : Bool) : F2.impl_toldSheet.f l m b = some (sOf (sgive l m b)) := by
  unfold F2.impl_toldSheet.f XV.ValidSheet.f sgive
  simp only [Option.bind_some]
  split <;> rfl
abbrev opn : List UInt8 := [111, 112, 101, 110]
abbrev cls : List UInt8 := [99, 108, 111, 115, 101, 100]
/-- The sheet with a text. -/
def RS (s : List UInt8) : Option Sh := match sp 59 s with
  | [a, b, c] => if c = opn ∨ c = cls then match RC a with
    | none => none
    | some l => match RN b with
      | none => none
      | some m => sgive l m (c == cls)
    else none
  | _ => none
theorem spec_RS (s : List UInt8) (k : Nat) (hs : s.length ≤ 1073741824) (hk : 2 * s.length + 10010 ≤ k) : F2.spec_l08ReadSheet.f k (B s) = some (sOf (RS s)) := by
  obtain ⟨k, rfl⟩ : ∃ m, k = m + 1 := ⟨k - 1, by omega⟩
  unfold F2.spec_l08ReadSheet.f RS
  have hc := cut_f s 59 (k + 1) hs (by omega)
  rw [show ((59 : UInt8).toNat : Int) = 59 from rfl] at hc
  rw [hc]
  simp only [Option.bind_some]
  have hle := sp_le 59 s
  match hsp : sp 59 s with
  | [] => exact absurd hsp (sp_ne 59 s)
  | [_] => rfl
  | [_, _] => rfl
  | _ :: _ :: _ :: _ :: l =>
    rw [if_neg (by simp only [List.map_cons, List.length_cons]; omega)]
    rfl
  | [a, b, c] =>
    rw [hsp] at hle
    have ha := hle a (by simp)
    have hb := hle b (by simp)
    have eC (o) (h : RC a = o) : F2.spec_l01CRead.f k (B a) = some (cplxOf o) := by rw [spec_C a k (by omega) (by omega), h]
    have eN (o) (h : RN b = o) : F2.spec_l01NRead.f k (B b) = some (numsOf o) := by rw [spec_N b k (by omega) (by omega), h]
    simp only [List.map_cons, List.map_nil]
    have key : (c = opn ∨ c = cls) → F2.spec_l08ReadSheet.j0 (k + 1) [B a, B b, B c] false = some (sOf (match RC a with
        | none => none
        | some l => match RN b with
          | none => none
          | some m => sgive l m (c == cls))) := by
      intro hcl
      simp only [F2.spec_l08ReadSheet.j0]
      rw [if_neg (by decide), if_pos (by simp), show rdOf ByteArray.empty [B a, B b, B c] 0 = B a from rfl, show rdOf ByteArray.empty [B a, B b, B c] 1 = B b from rfl, show rdOf ByteArray.empty [B a, B b, B c] 2 = B c from rfl]
      cases hC : RC a with
      | none =>
        rw [show F2.spec_l01CRead.f k (B a) = some (([] : List (Nat × Nat)), false) from eC _ hC]
        simp only [Option.bind_some]
        rw [if_pos (by simp), spec_N b k (by omega) (by omega)]
        simp only [Option.bind_some]
        rw [if_neg (by decide)]
        rfl
      | some l =>
        rw [show F2.spec_l01CRead.f k (B a) = some (l, true) from eC _ hC]
        simp only [Option.bind_some]
        rw [if_pos (by simp)]
        cases hN : RN b with
        | none =>
          rw [show F2.spec_l01NRead.f k (B b) = some (([] : List Nat), false) from eN _ hN]
          simp only [Option.bind_some, if_true]
          rw [if_neg (by decide)]
          rfl
        | some m =>
          rw [show F2.spec_l01NRead.f k (B b) = some (m, true) from eN _ hN]
          simp only [Option.bind_some, if_true]
          rw [if_pos (by simp), give_f, B_toList']
          rfl
    rw [if_pos (by rfl), if_pos (by simp), show rdOf ByteArray.empty [B a, B b, B c] 2 = B c from rfl, B_toList']
    by_cases h1 : c = opn
    · rw [if_pos h1, key (.inl h1), if_pos (.inl h1)]
    · rw [if_neg h1]
      by_cases h2 : c = cls
      · rw [show (c != cls) = false by rw [h2]; decide, key (.inr h2), if_pos (.inr h2)]
      · rw [show (c != cls) = true by simpa using h2, if_neg (by simp [h1, h2])]
        rfl
theorem impl_RS (s : List UInt8) (k : Nat) (hs : s.length ≤ 1073741824) (hk : 2 * s.length + 10010 ≤ k) : F2.impl_ReadSheet.f k (B s) = some (sOf (RS s)) := by
  obtain ⟨k, rfl⟩ : ∃ m, k = m + 1 := ⟨k - 1, by omega⟩
  unfold F2.impl_ReadSheet.f RS
  rw [split_f s 59 hs]
  simp only [Option.bind_some]
  have hle := sp_le 59 s
  match hsp : sp 59 s with
  | [] => exact absurd hsp (sp_ne 59 s)
  | [_] => rfl
  | [_, _] => rfl
  | _ :: _ :: _ :: _ :: l =>
    rw [if_neg (by simp only [List.map_cons, List.length_cons]; omega)]
    rfl
  | [a, b, c] =>
    rw [hsp] at hle
    have ha := hle a (by simp)
    have hb := hle b (by simp)
    have eC (o) (h : RC a = o) : F2.impl_ReadComplex.f k (B a) = some (cplxOf o) := by rw [impl_C a k (by omega) (by omega), h]
    have eN (o) (h : RN b = o) : F2.impl_ReadNumbers.f k (B b) = some (numsOf o) := by rw [impl_N b k (by omega) (by omega), h]
    simp only [List.map_cons, List.map_nil]
    have key : (c = opn ∨ c = cls) → F2.impl_ReadSheet.j0 (k + 1) [B a, B b, B c] false = some (sOf (match RC a with
        | none => none
        | some l => match RN b with
          | none => none
          | some m => sgive l m (c == cls))) := by
      intro hcl
      simp only [F2.impl_ReadSheet.j0]
      rw [if_neg (by decide), if_pos (by simp), if_pos (by simp), show rdOf ByteArray.empty [B a, B b, B c] 0 = B a from rfl, show rdOf ByteArray.empty [B a, B b, B c] 1 = B b from rfl, show rdOf ByteArray.empty [B a, B b, B c] 2 = B c from rfl]
      unfold F2.impl_readPoints.f
      cases hC : RC a with
      | none =>
        rw [show F2.impl_ReadComplex.f k (B a) = some (([] : List (Nat × Nat)), false) from eC _ hC]
        simp only [Option.bind_some]
        rw [impl_N b k (by omega) (by omega)]
        simp only [Option.bind_some]
        rw [if_neg (by decide)]
        simp only [Option.bind_some]
        rw [if_neg (by decide)]
        rfl
      | some l =>
        rw [show F2.impl_ReadComplex.f k (B a) = some (l, true) from eC _ hC]
        simp only [Option.bind_some]
        cases hN : RN b with
        | none =>
          rw [show F2.impl_ReadNumbers.f k (B b) = some (([] : List Nat), false) from eN _ hN]
          simp only [Option.bind_some, if_true]
          rw [if_neg (by decide)]
          simp only [Option.bind_some]
          rw [if_neg (by decide)]
          rfl
        | some m =>
          rw [show F2.impl_ReadNumbers.f k (B b) = some (m, true) from eN _ hN]
          simp only [Option.bind_some, if_true]
          by_cases h : l.length = m.length
          · have hb : ((l.length : Int) == (m.length : Int)) = true := by rw [h]; simp
            rw [hb, if_pos rfl, if_pos (by simp), told_f, B_toList']
            rfl
          · have hb : ((l.length : Int) == (m.length : Int)) = false := by
              rw [beq_eq_false_iff_ne]
              omega
            rw [hb, if_neg (by decide)]
            have : sgive l m (c == cls) = none := by
              unfold sgive validS
              rw [decide_eq_false (p := m.length = l.length) (fun e => h e.symm)]
              simp
            rw [this]
            rfl
    rw [if_pos (by rfl), if_pos (by simp), show rdOf ByteArray.empty [B a, B b, B c] 2 = B c from rfl, B_toList']
    by_cases h1 : c = opn
    · rw [if_pos h1, key (.inl h1), if_pos (.inl h1)]
    · rw [if_neg h1]
      by_cases h2 : c = cls
      · rw [show (c != cls) = false by rw [h2]; decide, key (.inr h2), if_pos (.inr h2)]
      · rw [show (c != cls) = true by simpa using h2, if_neg (by simp [h1, h2])]
        rfl
theorem eqfs_self : ∀ l : List Nat, eqfs l l = true
  | [] => rfl
  | x :: l => by simp [eqfs, sfc_self, eqfs_self l]
theorem eqcs_self : ∀ l : List (Nat × Nat), eqcs l l = true
  | [] => rfl
  | x :: l => by simp [eqcs, sfc_self, eqcs_self l]
theorem eqS_f (l : List (Nat × Nat)) (m : List Nat) (b : Bool) : F2.laws_eqSheet.f l m b l m b = some true := by
  unfold F2.laws_eqSheet.f XV.eqComplex64S.f XV.eqFloat32S.f
  simp [eqfs_self, eqcs_self]
/-- Numbers that rise. -/
def one64 : Nat := 4607182418800017408
def cl (x : Nat) : Nat × Nat := cnar (floatOfInt .f64 (x : Int), one64)
def fl (x : Nat) : Nat := floatOfInt .f32 (x : Int)
def mkc : Nat → Nat → List (Nat × Nat)
  | 0, _ => []
  | n + 1, x => cl x :: mkc n (x + 1)
def mkf : Nat → Nat → List Nat
  | 0, _ => []
  | n + 1, x => fl x :: mkf n (x + 1)
theorem small_fin : ∀ x : Fin 200, (nsm (floatOfInt .f64 (x.val : Int), 4607182418800017408) && (FloatKind.f32.format.order (cl x.val).1 (cl x.val).1 == some .eq && (FloatKind.f32.format.order (cl x.val).2 (cl x.val).2 == some .eq && FloatKind.f32.format.order (fl x.val) (fl x.val) == some .eq))) = true := by decide +kernel
theorem small (x : Nat) (h : x < 200) : nsm (floatOfInt .f64 (x : Int), 4607182418800017408) = true ∧ (FloatKind.f32.format.order (cl x).1 (cl x).1 == some .eq) = true ∧ (FloatKind.f32.format.order (cl x).2 (cl x).2 == some .eq) = true ∧ FloatKind.f32.format.order (fl x) (fl x) = some .eq := by
  have := small_fin ⟨x, h⟩
  simp only [Bool.and_eq_true] at this
  exact ⟨this.1, this.2.1, this.2.2.1, by simpa using this.2.2.2⟩
theorem markc_l0 : ∀ (rest pre : List (Nat × Nat)) (x k : Nat), rest.length < k → pre.length + rest.length ≤ 1000 → x + rest.length ≤ 190 →
    F2.laws_markComplex64S.l0 k (pre ++ rest) (x : Int) (pre.length : Int) = some (((x + rest.length : Nat) : Int), pre ++ mkc rest.length x) := by
  intro rest
  induction rest with
  | nil =>
    intro pre x k hk hp hx
    obtain ⟨k, rfl⟩ : ∃ m, k = m + 1 := ⟨k - 1, by omega⟩
    simp only [F2.laws_markComplex64S.l0]
    rw [if_neg (by simp)]
    simp [mkc]
  | cons L rest ih =>
    intro pre x k hk hp hx
    simp only [List.length_cons] at hk hp hx
    obtain ⟨k, rfl⟩ : ∃ m, k = m + 1 := ⟨k - 1, by omega⟩
    have hlt : (pre.length : Int) < (((pre ++ L :: rest).length : Nat) : Int) := by simp; omega
    have hset (v : Nat × Nat) : (pre ++ L :: rest).set (pre.length : Int).toNat v = (pre ++ [v]) ++ rest := by
      rw [Int.toNat_natCast, List.set_append_right _ _ (Nat.le_refl _), Nat.sub_self]
      simp
    simp only [F2.laws_markComplex64S.l0, hset]
    have e2 (v : Nat × Nat) : pre.length + 1 = (pre ++ [v]).length := by simp
    rw [if_pos hlt, if_pos (small x (by omega)).1, if_pos (by omega), w1 x (by omega), w1 pre.length (by omega), e2 (cl x)]
    refine Eq.trans (ih (pre ++ [cl x]) (x + 1) k (by omega) (by simp; omega) (by omega)) ?_
    rw [show x + 1 + rest.length = x + (rest.length + 1) by omega]
    simp [mkc]
theorem markf_l0 : ∀ (rest pre : List Nat) (x k : Nat), rest.length < k → pre.length + rest.length ≤ 1000 → x + rest.length ≤ 190 →
    F2.laws_markFloat32S.l0 k (pre ++ rest) (x : Int) (pre.length : Int) = some (((x + rest.length : Nat) : Int), pre ++ mkf rest.length x) := by
  intro rest
  induction rest with
  | nil =>
    intro pre x k hk hp hx
    obtain ⟨k, rfl⟩ : ∃ m, k = m + 1 := ⟨k - 1, by omega⟩
    simp only [F2.laws_markFloat32S.l0]
    rw [if_neg (by simp)]
    simp [mkf]
  | cons L rest ih =>
    intro pre x k hk hp hx
    simp only [List.length_cons] at hk hp hx
    obtain ⟨k, rfl⟩ : ∃ m, k = m + 1 := ⟨k - 1, by omega⟩
    have hlt : (pre.length : Int) < (((pre ++ L :: rest).length : Nat) : Int) := by simp; omega
    have hset (v : Nat) : (pre ++ L :: rest).set (pre.length : Int).toNat v = (pre ++ [v]) ++ rest := by
      rw [Int.toNat_natCast, List.set_append_right _ _ (Nat.le_refl _), Nat.sub_self]
      simp
    simp only [F2.laws_markFloat32S.l0, hset]
    have e2 (v : Nat) : pre.length + 1 = (pre ++ [v]).length := by simp
    rw [if_pos hlt, if_pos (by omega), w1 x (by omega), w1 pre.length (by omega), e2 (fl x)]
    refine Eq.trans (ih (pre ++ [fl x]) (x + 1) k (by omega) (by simp; omega) (by omega)) ?_
    rw [show x + 1 + rest.length = x + (rest.length + 1) by omega]
    simp [mkf]
theorem mkc_len : ∀ n x, (mkc n x).length = n
  | 0, _ => rfl
  | n + 1, x => by simp [mkc, mkc_len n]
theorem mkf_len : ∀ n x, (mkf n x).length = n
  | 0, _ => rfl
  | n + 1, x => by simp [mkf, mkf_len n]
theorem heldc_l0 : ∀ (n x : Nat) (pre : List (Nat × Nat)) (k : Nat), n < k → pre.length + n ≤ 1000 → x + n ≤ 190 →
    F2.laws_heldComplex64S.l0 k (pre ++ mkc n x) (x : Int) (pre.length : Int) = some ((x + n : Nat) : Int) := by
  intro n
  induction n with
  | zero =>
    intro x pre k hk hp hx
    obtain ⟨k, rfl⟩ : ∃ m, k = m + 1 := ⟨k - 1, by omega⟩
    simp only [F2.laws_heldComplex64S.l0]
    rw [if_neg (by simp [mkc])]
    rfl
  | succ n ih =>
    intro x pre k hk hp hx
    obtain ⟨k, rfl⟩ : ∃ m, k = m + 1 := ⟨k - 1, by omega⟩
    have hlt : (pre.length : Int) < (((pre ++ mkc (n + 1) x).length : Nat) : Int) := by simp [mkc]; omega
    have hrd : rdOf ((0, 0) : Nat × Nat) (pre ++ mkc (n + 1) x) (pre.length : Int) = cl x := by simp [rdOf, mkc]
    obtain ⟨h0, h1, h2, _⟩ := small x (by omega)
    simp only [F2.laws_heldComplex64S.l0, hrd]
    rw [if_pos hlt, if_pos (by omega), if_pos h0, w1 x (by omega), w1 pre.length (by omega)]
    rw [show cnar (floatOfInt .f64 (x : Int), 4607182418800017408) = cl x from rfl, h1, h2]
    rw [if_neg (by decide)]
    have e : pre ++ mkc (n + 1) x = (pre ++ [cl x]) ++ mkc n (x + 1) := by simp [mkc]
    have e2 : pre.length + 1 = (pre ++ [cl x]).length := by simp
    rw [e, e2]
    refine Eq.trans (ih (x + 1) (pre ++ [cl x]) k (by omega) (by simp; omega) (by omega)) ?_
    rw [show x + 1 + n = x + (n + 1) by omega]
theorem heldf_l0 : ∀ (n x : Nat) (pre : List Nat) (k : Nat), n < k → pre.length + n ≤ 1000 → x + n ≤ 190 →
    F2.laws_heldFloat32S.l0 k (pre ++ mkf n x) (x : Int) (pre.length : Int) = some ((x + n : Nat) : Int) := by
  intro n
  induction n with
  | zero =>
    intro x pre k hk hp hx
    obtain ⟨k, rfl⟩ : ∃ m, k = m + 1 := ⟨k - 1, by omega⟩
    simp only [F2.laws_heldFloat32S.l0]
    rw [if_neg (by simp [mkf])]
    rfl
  | succ n ih =>
    intro x pre k hk hp hx
    obtain ⟨k, rfl⟩ : ∃ m, k = m + 1 := ⟨k - 1, by omega⟩
    have hlt : (pre.length : Int) < (((pre ++ mkf (n + 1) x).length : Nat) : Int) := by simp [mkf]; omega
    have hrd : rdOf (0 : Nat) (pre ++ mkf (n + 1) x) (pre.length : Int) = fl x := by simp [rdOf, mkf]
    obtain ⟨_, _, _, h3⟩ := small x (by omega)
    simp only [F2.laws_heldFloat32S.l0, hrd]
    rw [if_pos hlt, if_pos (by omega), w1 x (by omega), w1 pre.length (by omega)]
    rw [show floatOfInt .f32 (x : Int) = fl x from rfl, h3]
    rw [if_neg (by decide)]
    have e : pre ++ mkf (n + 1) x = (pre ++ [fl x]) ++ mkf n (x + 1) := by simp [mkf]
    have e2 : pre.length + 1 = (pre ++ [fl x]).length := by simp
    rw [e, e2]
    refine Eq.trans (ih (x + 1) (pre ++ [fl x]) k (by omega) (by simp; omega) (by omega)) ?_
    rw [show x + 1 + n = x + (n + 1) by omega]
theorem mark_f (l : List (Nat × Nat)) (m : List Nat) (b : Bool) (k : Nat) (hl : l.length ≤ 48) (hm : m.length ≤ 48) (hk : 60 ≤ k) : F2.laws_markSheet.f k l m b 1 = some (((1 + l.length + m.length : Nat) : Int), mkc l.length 1, mkf m.length (1 + l.length)) := by
  unfold F2.laws_markSheet.f F2.laws_markComplex64S.f F2.laws_markFloat32S.f
  have h1 := markc_l0 l [] 1 k (by omega) (by simp; omega) (by omega)
  simp only [List.nil_append, List.length_nil, Int.ofNat_zero] at h1
  refine Eq.trans (congrArg (fun o => Option.bind o _) h1) ?_
  simp only [Option.bind_some]
  have h2 := markf_l0 m [] (1 + l.length) k (by omega) (by simp; omega) (by omega)
  simp only [List.nil_append, List.length_nil, Int.ofNat_zero] at h2
  refine Eq.trans (congrArg (fun o => Option.bind o _) h2) ?_
  rfl
theorem held_f (n p : Nat) (b : Bool) (k : Nat) (hl : n ≤ 48) (hm : p ≤ 48) (hk : 60 ≤ k) : F2.laws_heldSheet.f k (mkc n 1) (mkf p (1 + n)) b 1 = some ((1 + n + p : Nat) : Int) := by
  unfold F2.laws_heldSheet.f F2.laws_heldComplex64S.f F2.laws_heldFloat32S.f
  have h1 := heldc_l0 n 1 [] k (by omega) (by simp; omega) (by omega)
  simp only [List.nil_append, List.length_nil, Int.ofNat_zero] at h1
  refine Eq.trans (congrArg (fun o => Option.bind o _) h1) ?_
  simp only [Option.bind_some]
  rw [if_neg (by omega)]
  have h2 := heldf_l0 p (1 + n) [] k (by omega) (by simp; omega) (by omega)
  simp only [List.nil_append, List.length_nil, Int.ofNat_zero] at h2
  refine Eq.trans (congrArg (fun o => Option.bind o _) h2) ?_
  simp only [Option.bind_some]
  rw [if_neg (by omega)]
theorem s_len (s : List UInt8) : (sOf (RS s)).1.length ≤ 48 ∧ (sOf (RS s)).2.1.length ≤ 48 := by
  have hg (l m b) : (sOf (sgive l m b)).1.length ≤ 48 ∧ (sOf (sgive l m b)).2.1.length ≤ 48 := by
    unfold sgive
    by_cases h : validS l m = true
    · rw [if_pos h]
      unfold validS at h
      simp only [Bool.and_eq_true, decide_eq_true_eq] at h
      exact ⟨h.1.2, by show m.length ≤ 48; have := h.1.2; have := h.2.1; omega⟩
    · rw [if_neg h]
      simp [sOf]
  unfold RS
  match sp 59 s with
  | [] => simp [sOf]
  | [_] => simp [sOf]
  | [_, _] => simp [sOf]
  | _ :: _ :: _ :: _ :: _ => simp [sOf]
  | [a, b, c] =>
    simp only
    split
    · cases RC a with
      | none => simp [sOf]
      | some l =>
        simp only
        cases RN b with
        | none => simp [sOf]
        | some m => exact hg _ _ _
    · simp [sOf]
theorem FnExactReadSheet : F2.laws_FnExactReadSheet.Pure := by
  intro a0 _
  obtain ⟨K, hK⟩ : ∃ K : Nat, 10000000 < K := ⟨10000001, by omega⟩
  refine ⟨K + 2, ?_⟩
  unfold F2.laws_FnExactReadSheet.f
  by_cases h0 : (a0.size : Int) > 1048576
  · rw [if_pos h0]
  rw [if_neg h0]
  obtain ⟨s, rfl⟩ : ∃ s, a0 = B s := ⟨a0.data.toList, (B_data a0).symm⟩
  rw [B_size] at h0
  have hl := s_len s
  have hs := spec_RS s (K + 2) (by omega) (by omega)
  have hi (k : Nat) (hk : K ≤ k) := impl_RS s k (by omega) (by omega)
  generalize sOf (RS s) = r at hl hs hi
  obtain ⟨l, m, c, b⟩ := r
  simp only at hl
  obtain ⟨hl, hm⟩ := hl
  unfold F2.spec_ReadSheet.f
  rw [hs, hi (K + 2) (by omega)]
  simp only [Option.bind_some]
  rw [eqS_f]
  simp only [Option.bind_some, if_true]
  rw [show (b != b) = false by simp]
  simp only [F2.laws_FnExactReadSheet.j0]
  rw [if_neg (by decide), mark_f l m c (K + 1) hl hm (by omega)]
  simp only [Option.bind_some]
  rw [held_f l.length m.length c (K + 1) hl hm (by omega)]
  simp only [Option.bind_some]
  rw [if_neg (by omega), if_pos trivial, hi (K + 1) (by omega)]
  simp only [Option.bind_some]
  rw [eqS_f]
  simp only [Option.bind_some, if_true]
  rw [show (b != b) = false by simp]
  simp only [F2.laws_FnExactReadSheet.j1]
  rw [if_neg (by decide), held_f l.length m.length c K hl hm (by omega)]
  simp only [Option.bind_some]
  rw [if_neg (by omega), if_pos trivial]
end Go.Proofs.YtifegijnfnjboaaDoor.PureReadSheet
