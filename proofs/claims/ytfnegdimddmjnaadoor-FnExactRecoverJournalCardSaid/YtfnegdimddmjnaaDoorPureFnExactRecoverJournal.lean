/- Whatever the text, the program's RecoverJournal and the reference's tell the same lines, the same end and the same word, and what the caller writes into the result stays its own: the plain law, over strings and numbers alone. -/
import Derived.Test.YtfnegdimddmjnaaDoorGJ4
import Derived.Test.YtfnegdimddmjnaaDoorPJ
namespace Go.Proofs.YtfnegdimddmjnaaDoor.Pure
open Go.RowKit Go.Proofs.YtfnegdimddmjnaaDoor.GJ Go.Proofs.YtfnegdimddmjnaaDoorW.PrintWords Go.Proofs.YtfnegdimddmjnaaDoorW.PrintLast
open T PJ

/-- The place of the first space; the length where there is none. -/
def fs (L : List UInt8) : Nat := L.findIdx (· == 32)
theorem fs_le (L : List UInt8) : fs L ≤ L.length := List.findIdx_le_length
theorem fs_index : ∀ L : List UInt8, (fs L < L.length ∧ Lib.index L [32] = fs L) ∨ (fs L = L.length ∧ Lib.index L [32] = -1)
  | [] => .inr ⟨rfl, rfl⟩
  | b :: l => by
    by_cases hb : b = 32
    · subst hb
      refine .inl ⟨by simp [fs, List.findIdx_cons], ?_⟩
      unfold Lib.index
      simp [fs, List.findIdx_cons]
    · have e : Lib.index (b :: l) [32] = if Lib.index l [32] == -1 then -1 else Lib.index l [32] + 1 := by
        conv => lhs; unfold Lib.index
        rw [if_neg]
        simp only [List.isPrefixOf, Bool.and_true, beq_iff_eq]
        exact fun h => hb h.symm
      have ef : fs (b :: l) = fs l + 1 := by
        unfold fs
        rw [List.findIdx_cons, show (b == 32) = false from beq_eq_false_iff_ne.2 hb]
        rfl
      rcases fs_index l with ⟨h1, h2⟩ | ⟨h1, h2⟩
      · refine .inl ⟨by rw [ef]; simp; omega, ?_⟩
        rw [e, h2, if_neg (by simp), ef]
        rfl
      · exact .inr ⟨by rw [ef, h1]; rfl, by rw [e, h2]; rfl⟩
theorem indexByte_eq : ∀ (l : List UInt8) (c : UInt8), Lib.indexByte l c = Lib.index l [c]
  | [], c => rfl
  | b :: l, c => by
    unfold Lib.indexByte Lib.index
    rw [indexByte_eq l c]
    have : ([c].isPrefixOf (b :: l)) = (b == c) := by
      simp only [List.isPrefixOf, Bool.and_true]
      exact Bool.beq_comm
    rw [this]
theorem fs_split (L : List UInt8) (h : fs L < L.length) : L = L.take (fs L) ++ 32 :: L.drop (fs L + 1) := by
  have h1 : L[fs L] = 32 := by
    have := List.findIdx_getElem (p := (· == 32)) (xs := L) (w := h)
    exact eq_of_beq this
  conv => lhs; rw [← List.take_append_drop (fs L) L]
  rw [List.drop_eq_getElem_cons h, h1]

/-- The lines that a journal's lines bear, and where they end. -/
def rcv : Int → List (List UInt8) → Nat → List (List UInt8) × Nat
  | _, [], a => ([], a)
  | n, L :: Ls, a =>
    if fs L < L.length then
      if L.take (fs L) = Lib.itoa (chk n (L.drop (fs L + 1))) then
        (L.drop (fs L + 1) :: (rcv (chk n (L.drop (fs L + 1))) Ls (a + L.length + 1)).1, (rcv (chk n (L.drop (fs L + 1))) Ls (a + L.length + 1)).2)
      else ([], a)
    else ([], a)
theorem rcv_len : ∀ (Ls : List (List UInt8)) (n : Int) (a : Nat), (rcv n Ls a).1.length ≤ Ls.length
  | [], _, _ => Nat.le_refl _
  | L :: Ls, n, a => by
    unfold rcv
    split
    · split
      · simp only [List.length_cons]; have := rcv_len Ls (chk n (L.drop (fs L + 1))) (a + L.length + 1); omega
      · simp
    · simp
/-- How long lines are with their ends. -/
def tot : List (List UInt8) → Nat
  | [] => 0
  | L :: Ls => L.length + 1 + tot Ls
theorem len_tot : ∀ Ls, Ls.length ≤ tot Ls
  | [] => Nat.le_refl _
  | L :: Ls => by have := len_tot Ls; simp only [tot, List.length_cons]; omega

theorem rd_mid (pre rest : List (List UInt8)) (L : List UInt8) : rdOf ByteArray.empty ((pre ++ L :: rest).map B) (pre.length : Int) = B L := by simp [rdOf]
theorem l1_runs (x4 : List ByteArray) (x6 : List ByteArray) (x7 x8 : Int) (L : List UInt8) (hL : L.length ≤ 1073741824) (j : Nat) (hj : j < x4.length) (hr : rdOf ByteArray.empty x4 (j : Int) = B L) (k : Nat) :
    ∀ (d i : Nat), i + d = fs L → spec_l08Recover.l1 (k + d + 1) x4 x6 x7 x8 (j : Int) (i : Int) = spec_l08Recover.j2 (k) x4 x6 x7 x8 (j : Int) ((fs L : Nat) : Int) := by
  intro d
  induction d with
  | zero =>
    intro i hi
    have hi' : i = fs L := by omega
    subst hi'
    have hle := fs_le L
    simp only [spec_l08Recover.l1]
    rw [if_pos (by omega), if_pos (by omega), hr, B_size]
    by_cases h : ((fs L : Nat) : Int) < (L.length : Int)
    · rw [if_pos h, if_pos (by omega)]
      have hlt : fs L < L.length := by omega
      have h1 : L[fs L] = 32 := eq_of_beq (List.findIdx_getElem (p := (· == 32)) (xs := L) (w := hlt))
      have hb : bt (B L) ((fs L : Nat) : Int) = 32 := by
        rw [bt_nat (B L) (fs L) (by rw [B_size]; exact hlt)]
        simp only [B_toList, h1]
        rfl
      rw [if_pos hb]
    · rw [if_neg h]
  | succ d ih =>
    intro i hi
    have hle := fs_le L
    have hlt : i < L.length := by omega
    obtain ⟨K, hK⟩ : ∃ K, K = k + d + 1 := ⟨_, rfl⟩
    rw [show k + (d + 1) + 1 = K + 1 by omega]
    conv => lhs; simp only [spec_l08Recover.l1]
    rw [if_pos (by omega), if_pos (by omega), hr, B_size, if_pos (by omega), if_pos (by omega)]
    have h1 : L[i] ≠ 32 := by
      have := List.not_of_lt_findIdx (p := (· == 32)) (xs := L) (i := i) (show i < fs L by omega)
      simpa using this
    have hb : ¬ bt (B L) (i : Int) = 32 := by
      rw [bt_nat (B L) i (by rw [B_size]; exact hlt)]
      simp only [B_toList]
      intro h
      exact h1 (UInt8.toNat_inj.1 (by have : (32 : UInt8).toNat = 32 := rfl; omega))
    rw [if_neg hb, w1 i (by omega), hK, ih (i + 1) (by omega)]
theorem ext_tail (L : List UInt8) (a : Nat) : (B L).extract a (B L).size = B (L.drop a) := by rw [extract_B, B_toList, B_size]; congr 1; rw [List.take_of_length_le (by simp)]
theorem ext_head (L : List UInt8) (a : Nat) : (B L).extract 0 a = B (L.take a) := by rw [extract_B, B_toList]; simp
theorem toList_B (L : List UInt8) : (B L).toList = L := by rw [Lib.toList_data, B_toList]
theorem rec_l0 : ∀ (rest pre : List (List UInt8)) (acc : List ByteArray) (k a : Nat) (n : Int), 0 ≤ n → n ≤ 65002 → 3 * tot rest + 100 < k → a + tot rest ≤ 1000000 → pre.length + tot rest ≤ 1000000 → acc.length + tot rest ≤ 1000000 →
    spec_l08Recover.l0 k ((pre ++ rest).map B) acc n (a : Int) (pre.length : Int) = some (acc ++ (rcv n rest a).1.map B, (((rcv n rest a).2 : Nat) : Int)) := by
  intro rest
  induction rest with
  | nil =>
    intro pre acc k a n _ _ hk _ _ _
    obtain ⟨k, rfl⟩ : ∃ j, k = j + 1 := ⟨k - 1, by omega⟩
    simp only [spec_l08Recover.l0]
    rw [if_neg (by simp)]
    simp [rcv]
  | cons L Ls ih =>
    intro pre acc k a n h0 h1 hk hb1 hb2 hb3
    simp only [tot] at hk hb1 hb2 hb3
    have hle := fs_le L
    obtain ⟨k, rfl⟩ : ∃ j, k = j + 1 + fs L + 1 + 1 := ⟨k - 3 - fs L, by omega⟩
    conv => lhs; simp only [spec_l08Recover.l0]
    have hj : pre.length < ((pre ++ L :: Ls).map B).length := by simp
    rw [if_pos (by omega)]
    have := l1_runs ((pre ++ L :: Ls).map B) acc n (a : Int) L (by omega) pre.length hj (rd_mid pre Ls L) (k + 1) (fs L) 0 (by omega)
    rw [show ((0 : Nat) : Int) = 0 from rfl] at this
    rw [this]
    simp only [spec_l08Recover.j2]
    rw [if_pos (by omega), if_pos (by omega), rd_mid pre Ls L, B_size]
    by_cases hf : fs L < L.length
    · have q1 : 3 * tot Ls + 100 < k := by omega
      have q2 : a + L.length + 1 + tot Ls ≤ 1000000 := by omega
      have q3 : pre.length + 1 + tot Ls ≤ 1000000 := by omega
      have q4 : pre.length ≤ 9223372036854775806 := by omega
      have q5 : acc.length + 1 + tot Ls ≤ 1000000 := by omega
      rw [if_neg (by omega), w1 (fs L) (by omega), if_pos (by omega), if_pos (by omega)]
      simp only [Int.toNat_natCast]
      have e0 : (B L).extract (fs L + 1) L.length = B (L.drop (fs L + 1)) := by have := ext_tail L (fs L + 1); rw [B_size] at this; exact this
      rw [e0, check_f _ (by rw [B_size]; simp; omega) k (by rw [B_size]; simp; omega) n h0 h1]
      simp only [Option.bind_some, B_toList]
      obtain ⟨c, hc⟩ : ∃ c, chk n (L.drop (fs L + 1)) = c := ⟨_, rfl⟩
      have hr := chk_range (L.drop (fs L + 1)) n h0 h1
      rw [hc] at hr
      rw [if_pos (by omega), if_pos (by omega), hc, dec_f c k (by omega) (by omega) (by omega)]
      simp only [Option.bind_some]
      rw [ext_head, toList_B, toList_B]
      unfold rcv
      rw [if_pos hf, hc]
      by_cases hq : L.take (fs L) = Lib.itoa c
      · rw [if_pos hq, if_pos hq, if_pos (by omega)]
        have ea : wrap64 ((a : Int) + wrap64 ((L.length : Int) + 1)) = ((a + L.length + 1 : Nat) : Int) := by
          rw [w1 L.length (by omega), wrap_id (by omega) (by omega)]; omega
        have ep : (pre ++ L :: Ls) = (pre ++ [L]) ++ Ls := by simp
        have el : pre.length + 1 = (pre ++ [L]).length := by simp
        rw [ea, w1 pre.length q4, ep, el, ih (pre ++ [L]) _ k (a + L.length + 1) c hr.1 hr.2 q1 q2 (by rw [List.length_append]; exact q3) (by rw [List.length_append]; exact q5)]
        simp
      · rw [if_neg hq, if_neg hq]
        simp
    · rw [if_pos (by omega)]
      unfold rcv
      rw [if_neg hf]
      simp
theorem tot_sp : ∀ (n : Nat) (R : List UInt8), R.length ≤ n → tot (sp 10 R).dropLast ≤ R.length := by
  intro n
  induction n with
  | zero =>
    intro R hR
    have : R = [] := List.length_eq_zero_iff.1 (by omega)
    subst this
    exact Nat.le_refl _
  | succ n ih =>
    intro R hR
    rcases sp_spec 10 R with ⟨_, h2⟩ | ⟨i, _, h2, h3⟩
    · rw [h2]; simp [tot]
    · rw [h3, List.dropLast_cons_of_ne_nil (sp_ne _ _)]
      have := ih (R.drop (i + 1)) (by simp; omega)
      simp only [tot, List.length_take, List.length_drop] at this ⊢
      omega
theorem impl_l0 (t : ByteArray) (ht : t.size ≤ 16000) : ∀ (d a : Nat) (acc : List ByteArray) (k : Nat) (n : Int), 0 ≤ n → n ≤ 65002 → t.size - a ≤ d → a ≤ t.size → 3 * d + 100 + t.size < k → acc.length + (t.size - a) ≤ 1000000 →
    impl_RecoverJournal.l0 k t acc (a : Int) n = some (acc ++ (rcv n (sp 10 (t.data.toList.drop a)).dropLast a).1.map B, (((rcv n (sp 10 (t.data.toList.drop a)).dropLast a).2 : Nat) : Int), true) := by
  intro d
  induction d with
  | zero =>
    intro a acc k n h0 h1 hd ha hk hb
    obtain ⟨k, rfl⟩ : ∃ j, k = j + 1 := ⟨k - 1, by omega⟩
    have hR : t.data.toList.drop a = [] := drop_end t a (by omega)
    simp only [impl_RecoverJournal.l0]
    rw [if_pos (by omega), if_pos (by omega)]
    simp only [XJ.strings_IndexByte.f, Option.bind_some, Int.toNat_natCast]
    rw [Lib.extract_data]
    have e : ((t.data.toList.drop a).take (t.size - a)) = [] := by rw [hR, List.take_nil]
    rw [e, if_pos (by decide), hR]
    simp [sp, rcv]
  | succ d ih =>
    intro a acc k n h0 h1 hd ha hk hb
    obtain ⟨k, rfl⟩ : ∃ j, k = j + 1 := ⟨k - 1, by omega⟩
    obtain ⟨R, hR⟩ : ∃ R, t.data.toList.drop a = R := ⟨_, rfl⟩
    have hRl : R.length = t.size - a := by rw [← hR, List.length_drop, ← size_list]
    simp only [impl_RecoverJournal.l0]
    rw [if_pos (by omega), if_pos (by omega)]
    simp only [XJ.strings_IndexByte.f, Option.bind_some, Int.toNat_natCast]
    rw [Lib.extract_data, hR, List.take_of_length_le (by omega)]
    have e10 : (10 : Int).toNat.toUInt8 = 10 := rfl
    rw [e10, indexByte_eq]
    rcases sp_spec 10 R with ⟨hi, hs⟩ | ⟨e, hi, he, hs⟩
    · rw [hi, if_pos (by decide), hs]
      simp [rcv]
    · rw [hi, if_neg (by omega), hs, List.dropLast_cons_of_ne_nil (sp_ne _ _)]
      have ew : wrap64 ((a : Int) + (e : Int)) = ((a + e : Nat) : Int) := by rw [wrap_id (by omega) (by omega)]; rfl
      rw [ew]
      clear ew
      rw [if_pos (by omega), if_pos (by omega)]
      simp only [Int.toNat_natCast]
      obtain ⟨L, hL⟩ : ∃ L, R.take e = L := ⟨_, rfl⟩
      have hLl : L.length = e := by rw [← hL, List.length_take]; omega
      have ex : t.extract a (a + e) = B L := by rw [extract_B, hR, show a + e - a = e by omega, hL]
      simp only [ex]
      unfold XJ.strings_Cut.f
      rw [if_pos (by rw [B_size]; omega)]
      simp only [Option.bind_some, B_toList]
      unfold Lib.cut rcv
      rw [hL]
      have hle := fs_le L
      rcases fs_index L with ⟨hf, hx⟩ | ⟨hf, hx⟩
      · rw [hx, if_pos (by omega), if_pos hf]
        simp only [Int.toNat_natCast, List.length_cons, List.length_nil, Nat.zero_add]
        have eB : (⟨(L.drop (fs L + 1)).toArray⟩ : ByteArray) = B (L.drop (fs L + 1)) := rfl
        simp only [eB]
        rw [checkOf_f _ (by rw [B_size]; simp; omega) k (by rw [B_size]; simp; omega) n h0 h1]
        simp only [Option.bind_some, if_true, B_toList]
        obtain ⟨c, hc⟩ : ∃ c, chk n (L.drop (fs L + 1)) = c := ⟨_, rfl⟩
        have hr := chk_range (L.drop (fs L + 1)) n h0 h1
        rw [hc] at hr
        rw [hc, decimal_f c (by omega) (by omega)]
        simp only [Option.bind_some]
        have hsp := fs_split L hf
        have hil := itoa_len c (by omega) (by omega)
        have e1 : (B (Lib.itoa c) ++ (⟨#[32]⟩ : ByteArray)) = B (Lib.itoa c ++ [32]) := B_append _ [32]
        rw [B_size, if_pos (by omega), e1, B_size, B_size, if_pos (by simp; omega), B_append, toList_B, toList_B]
        by_cases hq : L.take (fs L) = Lib.itoa c
        · have hq' : Lib.itoa c ++ [32] ++ L.drop (fs L + 1) = L := by
            rw [← hq, List.append_assoc]
            exact hsp.symm
          have q1 : t.size - (a + e + 1) ≤ d := by omega
          have q2 : a + e + 1 ≤ t.size := by omega
          have q3 : 3 * d + 100 + t.size < k := by omega
          have q4 : acc.length + 1 + (t.size - (a + e + 1)) ≤ 1000000 := by omega
          have q5 : a + e ≤ 9223372036854775806 := by omega
          rw [if_pos hq', if_pos hq, if_pos (by omega), w1 (a + e) q5, ih (a + e + 1) _ k c hr.1 hr.2 q1 q2 q3 (by rw [List.length_append]; exact q4)]
          have hd2 : t.data.toList.drop (a + e + 1) = R.drop (e + 1) := by rw [← hR, List.drop_drop]; rfl
          rw [hd2, hLl]
          simp
        · have hq' : ¬ Lib.itoa c ++ [32] ++ L.drop (fs L + 1) = L := by
            intro h
            apply hq
            have h2 : Lib.itoa c ++ (32 :: L.drop (fs L + 1)) = L.take (fs L) ++ (32 :: L.drop (fs L + 1)) :=
              (show Lib.itoa c ++ ([32] ++ L.drop (fs L + 1)) = L from (List.append_assoc _ _ _).symm.trans h).trans hsp
            exact (List.append_cancel_right h2).symm
          rw [if_neg hq', if_neg hq]
          simp
      · rw [hx, if_neg (by decide), if_neg (by omega)]
        simp only []
        rw [checkOf_f _ (by show 0 ≤ _; omega) k (by show 0 < _; omega) n h0 h1]
        simp
theorem spec_f (t : ByteArray) (ht : t.size ≤ 16000) (k : Nat) (hk : 100000 ≤ k) : spec_RecoverJournal.f k t = some ((rcv 0 (sp 10 t.data.toList).dropLast 0).1.map B, (((rcv 0 (sp 10 t.data.toList).dropLast 0).2 : Nat) : Int), true) := by
  unfold spec_RecoverJournal.f spec_l08Recover.f XJ2.lines.f
  rw [if_neg (by omega), if_pos (by omega)]
  simp only [Option.bind_some]
  have hb := tot_sp _ t.data.toList (Nat.le_refl _)
  rw [← size_list] at hb
  have := rec_l0 (sp 10 t.data.toList).dropLast [] [] k 0 0 (by omega) (by omega) (by omega) (by omega) (by simp; omega) (by simp; omega)
  rw [List.nil_append, List.map_dropLast] at this
  simp only [List.nil_append, List.length_nil] at this
  rw [show ((0 : Nat) : Int) = 0 from rfl] at this
  rw [this]
  rfl
theorem impl_f (t : ByteArray) (ht : t.size ≤ 16000) (k : Nat) (hk : 100000 ≤ k) : impl_RecoverJournal.f k t = some ((rcv 0 (sp 10 t.data.toList).dropLast 0).1.map B, (((rcv 0 (sp 10 t.data.toList).dropLast 0).2 : Nat) : Int), true) := by
  unfold impl_RecoverJournal.f
  rw [if_neg (by omega)]
  have := impl_l0 t ht t.size 0 [] k 0 (by omega) (by omega) (by omega) (by omega) (by omega) (by simp; omega)
  rw [List.nil_append, List.drop_zero] at this
  exact this
theorem FnExactRecoverJournal : laws_FnExactRecoverJournal.Pure := by
  intro t _
  obtain ⟨K, hK⟩ : ∃ K : Nat, 200000 < K := ⟨200001, by omega⟩
  refine ⟨K, ?_⟩
  unfold laws_FnExactRecoverJournal.f
  by_cases h0 : (t.size : Int) > 1048576
  · rw [if_pos h0]
  rw [if_neg h0]
  obtain ⟨xs, e, o, hs, hi, hl⟩ : ∃ (xs : List ByteArray) (e : Int) (o : Bool), (∀ k, 100000 ≤ k → spec_RecoverJournal.f k t = some (xs, e, o)) ∧ (∀ k, 100000 ≤ k → impl_RecoverJournal.f k t = some (xs, e, o)) ∧ xs.length ≤ 20000 := by
    by_cases h1 : (t.size : Int) > 16000
    · refine ⟨[], 0, false, fun k _ => ?_, fun k _ => ?_, by simp⟩
      · unfold spec_RecoverJournal.f; rw [if_pos h1]
      · unfold impl_RecoverJournal.f; rw [if_pos h1]
    · refine ⟨_, _, true, fun k hk => spec_f t (by omega) k hk, fun k hk => impl_f t (by omega) k hk, ?_⟩
      rw [List.length_map]
      have h2 := rcv_len (sp 10 t.data.toList).dropLast 0 0
      have h3 := len_tot (sp 10 t.data.toList).dropLast
      have h4 := tot_sp _ t.data.toList (Nat.le_refl _)
      rw [← size_list] at h4
      omega
  rw [hs K (by omega), hi K (by omega)]
  simp only [Option.bind_some]
  rw [eqS_f xs K (by omega) (by omega)]
  simp only [Option.bind_some, if_true, bne_self_eq_false]
  obtain ⟨k, rfl⟩ : ∃ k, K = k + 1 := ⟨K - 1, by omega⟩
  simp only [laws_FnExactRecoverJournal.j0, Bool.false_eq_true, if_false]
  rw [markS_f xs k (by omega) (by omega)]
  simp only [Option.bind_some]
  rw [heldS_f xs.length k (by omega) (by omega)]
  simp only [Option.bind_some]
  rw [if_neg (by omega), if_pos trivial, hi k (by omega)]
  simp only [Option.bind_some]
  rw [eqS_f xs k (by omega) (by omega)]
  simp only [Option.bind_some, if_true, bne_self_eq_false]
  obtain ⟨k, rfl⟩ : ∃ j, k = j + 1 := ⟨k - 1, by omega⟩
  simp only [laws_FnExactRecoverJournal.j1, Bool.false_eq_true, if_false]
  rw [heldS_f xs.length k (by omega) (by omega)]
  simp only [Option.bind_some]
  rw [if_neg (by omega), if_pos trivial]

end Go.Proofs.YtfnegdimddmjnaaDoor.Pure
