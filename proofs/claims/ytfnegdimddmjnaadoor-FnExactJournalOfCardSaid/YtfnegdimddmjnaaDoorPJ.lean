/- Plain laws on numbers and texts: check numbers, decimals, marks: what the loops of l01Check, CheckOf, l01Dec, markText, markStringS, heldStringS, eqStringS come to. No memory in sight. -/
import Derived.Test.YtfnegdimddmjnaaDoorGJ4
import Derived.Test.YtfnegdimddmjnaaDoorT
namespace Go.Proofs.YtfnegdimddmjnaaDoor.PJ
open Go.RowKit Go.Proofs.YtfnegdimddmjnaaDoor.GJ Go.Proofs.YtfnegdimddmjnaaDoorW.PrintWords Go.Proofs.YtfnegdimddmjnaaDoorW.PrintLast
open T

theorem w1 (i : Nat) (h : i ≤ 9223372036854775806) : wrap64 ((i : Int) + 1) = ((i + 1 : Nat) : Int) := by rw [wrap_id (by omega) (by omega)]; rfl
theorem bt_nat (s : ByteArray) (i : Nat) (h : i < s.size) : bt s (i : Int) = ((s.data.toList[i]'(by rw [← size_list]; exact h)).toNat : Int) := by
  unfold bt
  rw [dif_pos (by simpa using h)]
  simp only [Int.toNat_natCast]
  rfl
theorem drop_bt (s : ByteArray) (i : Nat) (h : i < s.size) : ∃ b : UInt8, bt s (i : Int) = (b.toNat : Int) ∧ s.data.toList.drop i = b :: s.data.toList.drop (i + 1) :=
  ⟨s.data.toList[i]'(by rw [← size_list]; exact h), bt_nat s i h, List.drop_eq_getElem_cons (by rw [← size_list]; exact h)⟩
theorem drop_end (s : ByteArray) (i : Nat) (h : s.size ≤ i) : s.data.toList.drop i = [] := by rw [List.drop_eq_nil_iff, ← size_list]; exact h

/-- The check number. -/
def chk (n : Int) (l : List UInt8) : Int := l.foldl (fun n b => (787 * n + b.toNat + 97) % 65003) n
theorem chk_range : ∀ (l : List UInt8) (n : Int), 0 ≤ n → n ≤ 65002 → 0 ≤ chk n l ∧ chk n l ≤ 65002
  | [], n, h0, h1 => ⟨h0, h1⟩
  | b :: l, n, h0, h1 => by
    unfold chk
    rw [List.foldl_cons]
    exact chk_range l _ (by omega) (by omega)
theorem chk_step (n : Int) (b : UInt8) (h0 : 0 ≤ n) (h1 : n ≤ 65002) : Int.tmod (wrap64 ((wrap64 ((wrap64 (787 * n)) + (wrap64 (b.toNat : Int)))) + 97)) 65003 = (787 * n + b.toNat + 97) % 65003 := by
  have hb := b.toNat_lt
  rw [wrap_id (i := 787 * n) (by omega) (by omega), wrap_id (i := (b.toNat : Int)) (by omega) (by omega), wrap_id (i := 787 * n + (b.toNat : Int)) (by omega) (by omega), wrap_id (by omega) (by omega)]
  rw [Int.tmod_eq_emod_of_nonneg (by omega)]
theorem check_l0 (s : ByteArray) (hs : s.size ≤ 1073741824) : ∀ (d k i : Nat) (n : Int), i + d = s.size → d < k → 0 ≤ n → n ≤ 65002 → spec_l01Check.l0 k n s (i : Int) = some (chk n (s.data.toList.drop i)) := by
  intro d
  induction d with
  | zero =>
    intro k i n hi hk _ _
    obtain ⟨k, rfl⟩ : ∃ m, k = m + 1 := ⟨k - 1, by omega⟩
    simp only [spec_l01Check.l0]
    rw [if_neg (by omega), drop_end s i (by omega)]
    rfl
  | succ d ih =>
    intro k i n hi hk h0 h1
    obtain ⟨k, rfl⟩ : ∃ m, k = m + 1 := ⟨k - 1, by omega⟩
    obtain ⟨b, hb, hd⟩ := drop_bt s i (by omega)
    simp only [spec_l01Check.l0]
    rw [if_pos (by omega), if_pos (by omega), hb, chk_step n b h0 h1, w1 i (by omega), ih k (i + 1) _ (by omega) (by omega) (by omega) (by omega), hd]
    rfl
theorem check_f (s : ByteArray) (hs : s.size ≤ 1073741824) (k : Nat) (hk : s.size < k) (n : Int) (h0 : 0 ≤ n) (h1 : n ≤ 65002) : spec_l01Check.f k n s = some (chk n s.data.toList) :=
  check_l0 s hs s.size k 0 n (by omega) hk h0 h1
theorem checkOf_l0 (s : ByteArray) (hs : s.size ≤ 1073741824) : ∀ (d k i : Nat) (n : Int), i + d = s.size → d < k → 0 ≤ n → n ≤ 65002 → impl_CheckOf.l0 k n s (s.size : Int) (i : Int) = some (chk n (s.data.toList.drop i), true) := by
  intro d
  induction d with
  | zero =>
    intro k i n hi hk _ _
    obtain ⟨k, rfl⟩ : ∃ m, k = m + 1 := ⟨k - 1, by omega⟩
    simp only [impl_CheckOf.l0]
    rw [if_neg (by omega), drop_end s i (by omega)]
    rfl
  | succ d ih =>
    intro k i n hi hk h0 h1
    obtain ⟨k, rfl⟩ : ∃ m, k = m + 1 := ⟨k - 1, by omega⟩
    obtain ⟨b, hb, hd⟩ := drop_bt s i (by omega)
    simp only [impl_CheckOf.l0]
    rw [if_pos (by omega), if_pos (by omega), if_pos (by omega), hb, chk_step n b h0 h1, w1 i (by omega), ih k (i + 1) _ (by omega) (by omega) (by omega) (by omega), hd]
    rfl
theorem checkOf_f (s : ByteArray) (hs : s.size ≤ 1073741824) (k : Nat) (hk : s.size < k) (n : Int) (h0 : 0 ≤ n) (h1 : n ≤ 65002) : impl_CheckOf.f k n s = some (chk n s.data.toList, true) := by
  unfold impl_CheckOf.f impl_in.f
  rw [if_pos (by omega)]
  simp only [Option.bind_some]
  rw [decide_eq_true (by omega), if_pos rfl]
  exact checkOf_l0 s hs s.size k 0 n (by omega) hk h0 h1

def codes (l : List UInt8) : List Int := l.map fun b => (b.toNat : Int)
/-- strOfNums of the bytes of a list. -/
theorem strOf_codes (l : List UInt8) : strOfNums (codes l) = B l := by
  unfold strOfNums codes B
  rw [List.map_map]
  congr 2
  conv => rhs; rw [← List.map_id l]
  apply List.map_congr_left
  intro b _
  simp
/-- Digits, with the sign of x0 ahead. -/
def fin (x0 : Int) (D : List UInt8) : ByteArray := if x0 < 0 then B (45 :: D) else B D
theorem digit_code (m : Nat) : ((wrap64 (48 + ((m % 10 : Nat) : Int))) % 256) = ((UInt8.ofNat (48 + m % 10)).toNat : Int) := by
  rw [wrap_id (by omega) (by omega), UInt8.toNat_ofNat_of_lt' (show 48 + m % 10 < 256 by omega)]
  omega
theorem dec_step (x0 : Int) (neg : Bool) (k m : Nat) (D : List UInt8) (hm : m ≤ 9223372036854775807) (hD : D.length ≤ 1000) :
    spec_l01Dec.j1 (k + 1) x0 (codes D) (if neg then -(m : Int) else m) true = spec_l01Dec.l0 k x0 (codes (UInt8.ofNat (48 + m % 10) :: D)) (if neg then -((m / 10 : Nat) : Int) else ((m / 10 : Nat) : Int)) := by
  simp only [spec_l01Dec.j1, if_true]
  have hl : (codes D).length = D.length := by simp [codes]
  cases neg with
  | false =>
    simp only [Bool.false_eq_true, if_false]
    have e1 : Int.tmod (m : Int) 10 = ((m % 10 : Nat) : Int) := by rw [Int.tmod_eq_emod_of_nonneg (by omega)]; omega
    have e2 : Int.tdiv (m : Int) 10 = ((m / 10 : Nat) : Int) := by rw [Int.tdiv_eq_ediv_of_nonneg (by omega)]; omega
    rw [e1, e2, if_neg (by omega)]
    simp only [Option.bind_some, List.length_cons, List.length_nil]
    rw [if_pos (by omega), digit_code m, wrap_id (by omega) (by omega)]
    rfl
  | true =>
    simp only [if_true]
    have e1 : Int.tmod (-(m : Int)) 10 = -((m % 10 : Nat) : Int) := by rw [Int.neg_tmod, Int.tmod_eq_emod_of_nonneg (by omega)]; omega
    have e2 : Int.tdiv (-(m : Int)) 10 = -((m / 10 : Nat) : Int) := by rw [Int.neg_tdiv, Int.tdiv_eq_ediv_of_nonneg (by omega)]; omega
    rw [e1, e2]
    by_cases h0 : m % 10 = 0
    · rw [if_neg (by omega)]
      simp only [Option.bind_some, List.length_cons, List.length_nil]
      have e3 : (48 : Int) + -((m % 10 : Nat) : Int) = 48 + ((m % 10 : Nat) : Int) := by omega
      rw [if_pos (by omega), e3, digit_code m, wrap_id (by omega) (by omega)]
      rfl
    · rw [if_pos (by omega)]
      simp only [Option.bind_some, List.length_cons, List.length_nil]
      have e3 : wrap64 (-(-((m % 10 : Nat) : Int))) = ((m % 10 : Nat) : Int) := by rw [wrap_id (by omega) (by omega)]; omega
      rw [if_pos (by omega), e3, digit_code m, wrap_id (by omega) (by omega)]
      rfl
theorem dec_l0 (x0 : Int) (neg : Bool) : ∀ (e k m : Nat) (D : List UInt8), m < 10 ^ e → 2 * e + 3 < k → m ≤ 9223372036854775807 → D.length + e ≤ 1000 → D ≠ [] →
    spec_l01Dec.l0 k x0 (codes D) (if neg then -(m : Int) else m) = some (fin x0 (if m = 0 then D else Lib.decDigits m ++ D)) := by
  intro e
  induction e with
  | zero =>
    intro k m D hm hk _ hl hD
    have : m = 0 := by simpa using hm
    subst this
    obtain ⟨k, rfl⟩ : ∃ j, k = j + 2 := ⟨k - 2, by omega⟩
    have hDl : 0 < D.length := List.length_pos_iff.2 hD
    have hl : (codes D).length = D.length := by simp [codes]
    have e0 : (if neg then -((0 : Nat) : Int) else ((0 : Nat) : Int)) = 0 := by cases neg <;> rfl
    rw [e0]
    simp only [spec_l01Dec.l0]
    rw [if_neg (by omega)]
    simp only [spec_l01Dec.j1, bne_self_eq_false, Bool.false_eq_true, if_false, if_true]
    unfold fin
    by_cases hx : x0 < 0
    · rw [if_pos hx, if_pos hx]
      simp only [Option.bind_some, List.length_cons, List.length_nil]
      rw [if_pos (by omega)]
      exact congrArg some (strOf_codes (45 :: D))
    · rw [if_neg hx, if_neg hx, strOf_codes]
  | succ e ih =>
    intro k m D hm hk hb hl hD
    by_cases h0 : m = 0
    · subst h0
      exact (ih k 0 D (Nat.pow_pos (by decide)) (by omega) (by omega) (by omega) hD)
    obtain ⟨k, rfl⟩ : ∃ j, k = j + 2 := ⟨k - 2, by omega⟩
    have hDl : 0 < D.length := List.length_pos_iff.2 hD
    have hcl : (codes D).length = D.length := by simp [codes]
    have hne : ((if neg then -(m : Int) else (m : Int)) != 0) = true := by
      cases neg <;> simp [h0]
    conv => lhs; simp only [spec_l01Dec.l0]
    rw [if_neg (by omega), hne, dec_step x0 neg k m D hb (by omega)]
    rw [ih k (m / 10) _ (by rw [Nat.pow_succ] at hm; omega) (by omega) (by omega) (by simp only [List.length_cons]; omega) (by simp)]
    rw [if_neg h0]
    congr 2
    conv => rhs; rw [Lib.decDigits]
    by_cases h10 : m < 10
    · rw [if_pos (by omega), dif_pos h10, Nat.mod_eq_of_lt h10]; rfl
    · rw [if_neg (by omega), dif_neg h10]; simp
theorem dec_f (n : Int) (k : Nat) (hk : 60 < k) (h0 : -9223372036854775807 ≤ n) (h1 : n ≤ 9223372036854775807) : spec_l01Dec.f k n = some (B (Lib.itoa n)) := by
  obtain ⟨k, rfl⟩ : ∃ j, k = j + 2 := ⟨k - 2, by omega⟩
  unfold spec_l01Dec.f
  have e : n = if decide (n < 0) then -((n.natAbs : Nat) : Int) else ((n.natAbs : Nat) : Int) := by
    by_cases h : n < 0
    · rw [if_pos (decide_eq_true h)]; omega
    · rw [if_neg (by simpa using h)]; omega
  conv => lhs; simp only [spec_l01Dec.l0, List.length_nil]
  rw [if_pos (show ((0 : Nat) : Int) = 0 from rfl)]
  have h2 := dec_step n (decide (n < 0)) k n.natAbs [] (by omega) (by simp)
  rw [← e] at h2
  rw [show (([] : List Int)) = codes [] from rfl, h2]
  rw [dec_l0 n (decide (n < 0)) 19 k (n.natAbs / 10) _ (by omega) (by omega) (by omega) (by simp) (by simp)]
  congr 1
  unfold fin Lib.itoa
  have e3 : (if n.natAbs / 10 = 0 then [UInt8.ofNat (48 + n.natAbs % 10)] else Lib.decDigits (n.natAbs / 10) ++ [UInt8.ofNat (48 + n.natAbs % 10)]) = Lib.decDigits n.natAbs := by
    conv => rhs; rw [Lib.decDigits]
    by_cases h10 : n.natAbs < 10
    · rw [if_pos (by omega), dif_pos h10, Nat.mod_eq_of_lt h10]
    · rw [if_neg (by omega), dif_neg h10]
  rw [e3]
  by_cases h : n < 0
  · rw [if_pos h, if_pos h]
  · rw [if_neg h, if_neg h]
    congr 2
    omega
theorem decimal_f (n : Int) (h0 : -9223372036854775807 ≤ n) (h1 : n ≤ 9223372036854775807) : impl_Decimal.f n = some (B (Lib.itoa n)) := by
  unfold impl_Decimal.f XJ.strconv_FormatInt.f
  rw [if_pos rfl, if_pos (by omega)]
  rfl

theorem dec_len : ∀ (e u : Nat), u < 10 ^ (e + 1) → (Lib.decDigits u).length ≤ e + 1 := by
  intro e
  induction e with
  | zero =>
    intro u h
    rw [Lib.decDigits, dif_pos (by simpa using h)]
    simp
  | succ e ih =>
    intro u h
    rw [Lib.decDigits]
    split
    · simp
    · have := ih (u / 10) (by rw [Nat.pow_succ] at h; omega)
      simp only [List.length_append, List.length_cons, List.length_nil]
      omega
theorem itoa_len (n : Int) (h0 : -9223372036854775808 ≤ n) (h1 : n ≤ 9223372036854775807) : (Lib.itoa n).length ≤ 20 := by
  unfold Lib.itoa
  split
  · have := dec_len 18 n.natAbs (by omega)
    simp only [List.length_cons]
    omega
  · have := dec_len 18 n.toNat (by omega)
    omega

/-- The text of a mark: some text. -/
theorem mark_l0 : ∀ (d k : Nat) (n : Nat) (s : ByteArray), n ≤ d → d < k → n + s.size ≤ 1099511627776 → ∃ r, laws_markText.l0 k (n : Int) s = some r := by
  intro d
  induction d with
  | zero =>
    intro k n s hn hk hb
    obtain ⟨k, rfl⟩ : ∃ j, k = j + 1 := ⟨k - 1, by omega⟩
    simp only [laws_markText.l0]
    rw [if_neg (by omega), if_pos (by omega)]
    exact ⟨_, rfl⟩
  | succ d ih =>
    intro k n s hn hk hb
    obtain ⟨k, rfl⟩ : ∃ j, k = j + 1 := ⟨k - 1, by omega⟩
    simp only [laws_markText.l0]
    by_cases h : (n : Int) > 0
    · rw [if_pos h]
      simp only [Option.bind_some]
      have e : wrap64 (Int.tdiv (n : Int) 10) = ((n / 10 : Nat) : Int) := by rw [Int.tdiv_eq_ediv_of_nonneg (by omega), wrap_id (by omega) (by omega)]; omega
      have e1 : ∀ x : Int, (strOfNums [x]).size = 1 := fun x => rfl
      rw [e1, if_pos (by omega), e]
      refine ih k (n / 10) _ (by omega) (by omega) ?_
      rw [ByteArray.size_append, e1]
      omega
    · rw [if_neg h, if_pos (by omega)]
      exact ⟨_, rfl⟩
def mt (n : Nat) : ByteArray := (laws_markText.f (n + 2) (n : Int)).getD ByteArray.empty
theorem mark_f (n k : Nat) (hn : n ≤ 1073741824) (hk : n + 2 ≤ k) : laws_markText.f k (n : Int) = some (mt n) := by
  have : ∃ r, laws_markText.f (n + 2) (n : Int) = some r := by
    unfold laws_markText.f
    by_cases h : (n : Int) ≤ 0
    · rw [if_pos h]; exact ⟨_, rfl⟩
    · rw [if_neg h]; exact mark_l0 n (n + 2) n _ (Nat.le_refl _) (by omega) (by show n + 0 ≤ _; omega)
  obtain ⟨r, hr⟩ := this
  have e : mt n = r := by unfold mt; rw [hr]; rfl
  rw [e]
  exact at_rounds (fun k => laws_markText.mono (n : Int) k) hk hr
/-- The marks from m on, n of them. -/
def mks (m : Nat) : Nat → List ByteArray
  | 0 => []
  | n + 1 => mt m :: mks (m + 1) n
theorem mks_length (m : Nat) : ∀ n, (mks m n).length = n
  | 0 => rfl
  | n + 1 => by unfold mks; rw [List.length_cons, mks_length]
theorem markS_l0 : ∀ (ys done : List ByteArray) (k m : Nat), 2 * ys.length + m + 2 < k → 2 * ys.length + m + done.length ≤ 1073741824 →
    laws_markStringS.l0 k (done ++ ys) (m : Int) (done.length : Int) = some (((m + ys.length : Nat) : Int), done ++ mks m ys.length) := by
  intro ys
  induction ys with
  | nil =>
    intro done k m hk hb
    obtain ⟨k, rfl⟩ : ∃ j, k = j + 1 := ⟨k - 1, by omega⟩
    simp only [laws_markStringS.l0]
    rw [if_neg (by simp)]
    rfl
  | cons y ys ih =>
    intro done k m hk hb
    simp only [List.length_cons] at hk hb
    obtain ⟨k, rfl⟩ : ∃ j, k = j + 1 := ⟨k - 1, by omega⟩
    simp only [laws_markStringS.l0]
    rw [if_pos (by simp; omega), mark_f m k (by omega) (by omega)]
    simp only [Option.bind_some]
    rw [if_pos (by omega), w1 m (by omega), w1 done.length (by omega)]
    have e : (done ++ y :: ys).set ((done.length : Nat) : Int).toNat (mt m) = (done ++ [mt m]) ++ ys := by simp
    have e2 : done.length + 1 = (done ++ [mt m]).length := by simp
    rw [e, e2, ih (done ++ [mt m]) k (m + 1) (by omega) (by simp; omega)]
    simp only [List.length_cons, mks, List.append_assoc, List.singleton_append]
    congr 2
    omega
theorem markS_f (xs : List ByteArray) (k : Nat) (hk : 2 * xs.length + 3 < k) (hb : xs.length ≤ 500000000) : laws_markStringS.f k xs 1 = some (((1 + xs.length : Nat) : Int), mks 1 xs.length) := by
  have := markS_l0 xs [] k 1 (by omega) (by simp; omega)
  exact this
theorem heldS_l0 : ∀ (n : Nat) (done : List ByteArray) (k m : Nat), 2 * n + m + 2 < k → 2 * n + m + done.length ≤ 1073741824 →
    laws_heldStringS.l0 k (done ++ mks m n) (m : Int) (done.length : Int) = some ((m + n : Nat) : Int) := by
  intro n
  induction n with
  | zero =>
    intro done k m hk hb
    obtain ⟨k, rfl⟩ : ∃ j, k = j + 1 := ⟨k - 1, by omega⟩
    simp only [laws_heldStringS.l0]
    rw [if_neg (by simp [mks])]
    rfl
  | succ n ih =>
    intro done k m hk hb
    obtain ⟨k, rfl⟩ : ∃ j, k = j + 1 := ⟨k - 1, by omega⟩
    simp only [laws_heldStringS.l0]
    rw [if_pos (by simp [mks]; omega), if_pos (by omega), mark_f m k (by omega) (by omega)]
    simp only [Option.bind_some]
    have e0 : rdOf ByteArray.empty (done ++ mks m (n + 1)) (done.length : Int) = mt m := by simp [rdOf, mks]
    have e : done ++ mks m (n + 1) = (done ++ [mt m]) ++ mks (m + 1) n := by simp [mks]
    have e2 : done.length + 1 = (done ++ [mt m]).length := by simp
    rw [e0, if_pos rfl, w1 m (by omega), w1 done.length (by omega), e, e2, ih (done ++ [mt m]) k (m + 1) (by omega) (by simp; omega)]
    congr 1
    omega
theorem heldS_f (n : Nat) (k : Nat) (hk : 2 * n + 3 < k) (hb : n ≤ 500000000) : laws_heldStringS.f k (mks 1 n) 1 = some ((1 + n : Nat) : Int) := by
  have := heldS_l0 n [] k 1 (by omega) (by simp; omega)
  exact this
theorem eqS_l0 : ∀ (ys done : List ByteArray) (k : Nat), ys.length < k → ys.length + done.length ≤ 1073741824 → laws_eqStringS.l0 k (done ++ ys) (done ++ ys) (done.length : Int) = some true := by
  intro ys
  induction ys with
  | nil =>
    intro done k hk hb
    obtain ⟨k, rfl⟩ : ∃ j, k = j + 1 := ⟨k - 1, by omega⟩
    simp only [laws_eqStringS.l0]
    rw [if_neg (by simp)]
  | cons y ys ih =>
    intro done k hk hb
    simp only [List.length_cons] at hk hb
    obtain ⟨k, rfl⟩ : ∃ j, k = j + 1 := ⟨k - 1, by omega⟩
    simp only [laws_eqStringS.l0]
    rw [if_pos (by simp; omega), if_pos (by omega), if_pos (by simp; omega), if_pos trivial, w1 done.length (by omega)]
    have e : done ++ y :: ys = (done ++ [y]) ++ ys := by simp
    have e2 : done.length + 1 = (done ++ [y]).length := by simp
    rw [e, e2, ih (done ++ [y]) k (by omega) (by simp; omega)]
theorem eqS_f (xs : List ByteArray) (k : Nat) (hk : xs.length < k) (hb : xs.length ≤ 1000000000) : laws_eqStringS.f k xs xs = some true := by
  unfold laws_eqStringS.f
  rw [if_pos rfl]
  exact eqS_l0 xs [] k hk (by simp; omega)
end Go.Proofs.YtfnegdimddmjnaaDoor.PJ
