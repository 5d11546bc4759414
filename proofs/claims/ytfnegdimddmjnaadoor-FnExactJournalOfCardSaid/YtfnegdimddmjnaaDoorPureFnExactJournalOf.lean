/- The plain law of FnExactJournalOf: what its functions compute answers true at every list of texts. No memory in sight. -/
import Derived.Test.YtfnegdimddmjnaaDoorGK2
import Derived.Test.YtfnegdimddmjnaaDoorXK
namespace Go.Proofs.YtfnegdimddmjnaaDoor.PureJournalOf
open Go.RowKit Go.Proofs.YtfnegdimddmjnaaDoor.GK Go.Proofs.YtfnegdimddmjnaaDoorW.PrintWords Go.Proofs.YtfnegdimddmjnaaDoorW.PrintLast
open T PJ XK

theorem check_eq : ∀ (k : Nat) (a : Int) (s : ByteArray) (i : Int), GK.spec_l01Check.l0 k a s i = GJ.spec_l01Check.l0 k a s i
  | 0, _, _, _ => rfl
  | k + 1, a, s, i => by simp only [GK.spec_l01Check.l0, GJ.spec_l01Check.l0, check_eq k]
theorem dec_eq : ∀ (k : Nat), (∀ a b c, GK.spec_l01Dec.l0 k a b c = GJ.spec_l01Dec.l0 k a b c) ∧ (∀ a b c d, GK.spec_l01Dec.j1 k a b c d = GJ.spec_l01Dec.j1 k a b c d)
  | 0 => ⟨fun _ _ _ => by simp only [GK.spec_l01Dec.l0, GJ.spec_l01Dec.l0], fun _ _ _ _ => by simp only [GK.spec_l01Dec.j1, GJ.spec_l01Dec.j1]⟩
  | k + 1 => by
    have ih := dec_eq k
    refine ⟨fun a b c => ?_, fun a b c d => ?_⟩
    · simp only [GK.spec_l01Dec.l0, GJ.spec_l01Dec.l0, ih.2]
    · simp only [GK.spec_l01Dec.j1, GJ.spec_l01Dec.j1, ih.1]
theorem check_f (s : ByteArray) (hs : s.size ≤ 1073741824) (k : Nat) (hk : s.size < k) (n : Int) (h0 : 0 ≤ n) (h1 : n ≤ 65002) : GK.spec_l01Check.f k n s = some (chk n s.data.toList) :=
  (check_eq k n s 0).trans (PJ.check_f s hs k hk n h0 h1)
theorem dec_f (n : Int) (k : Nat) (hk : 60 < k) (h0 : -9223372036854775807 ≤ n) (h1 : n ≤ 9223372036854775807) : GK.spec_l01Dec.f k n = some (B (Lib.itoa n)) :=
  ((dec_eq k).1 n [] n).trans (PJ.dec_f n k hk h0 h1)
theorem eqS_l0 : ∀ (ys done : List ByteArray) (k : Nat), ys.length < k → ys.length + done.length ≤ 1073741824 → laws_eqStringS.l0 k (done ++ ys) (done ++ ys) (done.length : Int) = some true := by
  intro ys
  induction ys with
  | nil =>
    intro done k hk hb
    obtain ⟨k, rfl⟩ : ∃ j, k = j + 1 := ⟨k - 1, by omega⟩
    simp only [laws_eqStringS.l0]
    rw [if_neg (by simp)]
  | cons y ys ih =>
    intro done k hk hb
    simp only [List.length_cons] at hk hb
    obtain ⟨k, rfl⟩ : ∃ j, k = j + 1 := ⟨k - 1, by omega⟩
    simp only [laws_eqStringS.l0]
    rw [if_pos (by simp; omega), if_pos (by omega), if_pos (by simp; omega), if_pos trivial, w1 done.length (by omega)]
    have e : done ++ y :: ys = (done ++ [y]) ++ ys := by simp
    have e2 : done.length + 1 = (done ++ [y]).length := by simp
    rw [e, e2, ih (done ++ [y]) k (by omega) (by simp; omega)]
theorem eqS_f (xs : List ByteArray) (k : Nat) (hk : xs.length < k) (hb : xs.length ≤ 1000000000) : laws_eqStringS.f k xs xs = some true := by
  unfold laws_eqStringS.f
  rw [if_pos rfl]
  exact eqS_l0 xs [] k hk (by simp; omega)

/-- One line's bytes in the journal, behind the check number n. -/
def ent (n : Int) (L : ByteArray) : ByteArray := ((B (Lib.itoa (chk n L.data.toList)) ++ (⟨#[32]⟩ : ByteArray)) ++ L) ++ (⟨#[10]⟩ : ByteArray)
def full : List ByteArray → Int → ByteArray → ByteArray
  | [], _, out => out
  | L :: r, n, out => full r (chk n L.data.toList) (out ++ ent n L)
theorem dig_pos (u : Nat) : 1 ≤ (Lib.decDigits u).length := by
  unfold Lib.decDigits
  split
  · simp
  · simp
theorem itoa_pos (n : Int) : 1 ≤ (Lib.itoa n).length := by
  unfold Lib.itoa
  split
  · simp
  · exact dig_pos _
theorem ent_size (n : Int) (L : ByteArray) (h0 : 0 ≤ n) (h1 : n ≤ 65002) : L.size + 3 ≤ (ent n L).size ∧ (ent n L).size ≤ L.size + 22 := by
  obtain ⟨c0, c1⟩ := chk_range L.data.toList n h0 h1
  have a := itoa_pos (chk n L.data.toList)
  have b := itoa_len (chk n L.data.toList) (by omega) (by omega)
  unfold ent
  simp only [ByteArray.size_append, sz_sp, sz_nl, B_size]
  omega
/-- All lines' sizes with three more each. -/
def tot3 : List ByteArray → Nat
  | [] => 0
  | L :: r => L.size + 3 + tot3 r
theorem full_size : ∀ (ls : List ByteArray) (n : Int) (out : ByteArray), 0 ≤ n → n ≤ 65002 → out.size + tot3 ls ≤ (full ls n out).size
  | [], _, _, _, _ => by simp [full, tot3]
  | L :: r, n, out, h0, h1 => by
    obtain ⟨c0, c1⟩ := chk_range L.data.toList n h0 h1
    have := full_size r (chk n L.data.toList) (out ++ ent n L) c0 c1
    have e := (ent_size n L h0 h1).1
    rw [ByteArray.size_append] at this
    simp only [full, tot3]
    omega
def nlB (L : ByteArray) : Bool := Lib.contains L.data.toList [10]
def ans (ls all : List ByteArray) (n : Int) (out : ByteArray) : ByteArray × Bool := if ls.any nlB = true then (⟨#[]⟩, false) else if (full all n out).size > 16000 then (⟨#[]⟩, false) else (full all n out, true)
theorem jl_eq : ∀ (ls : List ByteArray) (n : Int) (out : ByteArray), 0 ≤ n → n ≤ 65002 → jl ls n out = ans ls ls n out
  | [], n, out, _, _ => by simp [jl, ans, full]
  | L :: r, n, out, h0, h1 => by
    obtain ⟨c0, c1⟩ := chk_range L.data.toList n h0 h1
    have hf := full_size (L :: r) n out h0 h1
    simp only [tot3] at hf
    unfold jl
    by_cases h : L.size > 16000 ∨ Lib.contains L.data.toList [10] = true ∨ out.size > 16000
    · rw [if_pos h]
      unfold ans
      split
      · rfl
      · rename_i hn
        rw [if_pos]
        rcases h with h | h | h
        · omega
        · exact absurd (by simp [nlB, h]) hn
        · omega
    · rw [if_neg h]
      have e := jl_eq r (chk n L.data.toList) (out ++ ent n L) c0 c1
      have hc : nlB L = false := by
        unfold nlB
        simp only [not_or] at h
        exact Bool.eq_false_iff.mpr h.2.1
      show jl r (chk n L.data.toList) (out ++ ent n L) = _
      rw [e]
      simp only [ans, List.any_cons, hc, Bool.false_or, full]
      rfl
theorem journal_l0 : ∀ (rest pre : List ByteArray) (out : ByteArray) (n : Int) (k : Nat), 0 ≤ n → n ≤ 65002 → rest.length + 1100000 < k → out.size + tot3 rest + 22 * rest.length ≤ 1000000000 → tot3 rest ≤ 1000000 → pre.length + rest.length ≤ 1073741824 →
    spec_l08Journal.l0 k (pre ++ rest) out n (pre.length : Int) = some (full rest n out) := by
  intro rest
  induction rest with
  | nil =>
    intro pre out n k h0 h1 hk hb ht hp
    obtain ⟨k, rfl⟩ : ∃ j, k = j + 1 := ⟨k - 1, by omega⟩
    simp only [spec_l08Journal.l0]
    rw [if_neg (by simp)]
    rfl
  | cons L rest ih =>
    intro pre out n k h0 h1 hk hb ht hp
    simp only [tot3, List.length_cons] at hb hk ht hp
    obtain ⟨k, rfl⟩ : ∃ j, k = j + 1 := ⟨k - 1, by omega⟩
    have hrd : rdOf ByteArray.empty (pre ++ L :: rest) (pre.length : Int) = L := by simp [rdOf]
    obtain ⟨c0, c1⟩ := chk_range L.data.toList n h0 h1
    obtain ⟨e0, e1⟩ := ent_size n L h0 h1
    simp only [spec_l08Journal.l0]
    rw [if_pos (by simp; omega), if_pos (by omega), hrd, check_f L (by omega) k (by omega) n h0 h1]
    simp only [Option.bind_some]
    rw [dec_f _ k (by omega) (by omega) (by omega)]
    simp only [Option.bind_some]
    have b := itoa_len (chk n L.data.toList) (by omega) (by omega)
    have s1 : (B (Lib.itoa (chk n L.data.toList))).size ≤ 20 := by rw [B_size]; exact b
    have s2 : (B (Lib.itoa (chk n L.data.toList)) ++ (⟨#[32]⟩ : ByteArray)).size ≤ 21 := by simp only [ByteArray.size_append, sz_sp]; omega
    have s3 : ((B (Lib.itoa (chk n L.data.toList)) ++ (⟨#[32]⟩ : ByteArray)) ++ L).size ≤ 21 + L.size := by rw [ByteArray.size_append]; omega
    rw [if_pos (by omega), if_pos (by omega), if_pos (by omega)]
    have s4 : out.size + ((((B (Lib.itoa (chk n L.data.toList))) ++ (⟨#[32]⟩ : ByteArray)) ++ L) ++ (⟨#[10]⟩ : ByteArray)).size ≤ 9223372036854775807 := by
      have := e1
      unfold ent at this
      omega
    rw [if_pos s4, w1 pre.length (by omega)]
    have e : pre ++ L :: rest = (pre ++ [L]) ++ rest := by simp
    have e2 : pre.length + 1 = (pre ++ [L]).length := by simp
    rw [e, e2]
    exact ih (pre ++ [L]) (out ++ ent n L) (chk n L.data.toList) k c0 c1 (by omega) (by rw [ByteArray.size_append]; omega) (by omega) (by simp; omega)

theorem contains_cons (b : UInt8) (l : List UInt8) : Lib.contains (b :: l) [10] = (decide (b = 10) || Lib.contains l [10]) := by
  unfold Lib.contains
  rw [Lib.index_one, Lib.index_one]
  have g := Lib.index_ge l [10]
  rw [Lib.index_one] at g
  show decide (0 ≤ (if (b == 10) = true then (0 : Int) else if (Lib.indexByte l 10 == -1) = true then -1 else Lib.indexByte l 10 + 1)) = _
  by_cases hb : b = 10
  · subst hb
    rw [if_pos (by simp)]
    simp
  · rw [if_neg (by simpa using hb), decide_eq_false hb, Bool.false_or]
    by_cases hi : Lib.indexByte l 10 = -1
    · rw [if_pos (by simpa using hi), hi]
    · rw [if_neg (by simpa using hi), decide_eq_true (by omega), decide_eq_true (by omega)]
theorem l1_runs (x0 : List ByteArray) (x4 : Int) (j : Nat) (L : ByteArray) (hL : L.size ≤ 1073741824) (hj : j < x0.length) (hr : rdOf ByteArray.empty x0 (j : Int) = L) (hx : x0.length ≤ 1073741824) (F : Nat) (R : ByteArray × Bool) (hR : ∀ k, F ≤ k → spec_JournalOf.l0 k x0 x4 ((j + 1 : Nat) : Int) = some R) :
    ∀ (d i k : Nat), i + d = L.size → F + d + 1 ≤ k → spec_JournalOf.l1 k x0 x4 (j : Int) (i : Int) = some (if Lib.contains (L.data.toList.drop i) [10] = true then (⟨#[]⟩, false) else R) := by
  intro d
  induction d with
  | zero =>
    intro i k hi hk
    obtain ⟨k, rfl⟩ : ∃ m, k = m + 1 := ⟨k - 1, by omega⟩
    simp only [spec_JournalOf.l1]
    rw [if_pos (by omega), if_pos (by omega), hr, if_neg (by omega), w1 j (by omega), hR k (by omega), drop_end L i (by omega)]
    rfl
  | succ d ih =>
    intro i k hi hk
    obtain ⟨k, rfl⟩ : ∃ m, k = m + 1 := ⟨k - 1, by omega⟩
    obtain ⟨b, hb, hd⟩ := drop_bt L i (by omega)
    simp only [spec_JournalOf.l1]
    rw [if_pos (by omega), if_pos (by omega), hr, if_pos (by omega), if_pos (by omega), hb, hd, contains_cons]
    by_cases h10 : b = 10
    · subst h10
      rw [if_pos (by rfl)]
      simp
    · rw [if_neg (fun h => h10 (UInt8.toNat_inj.1 (by simpa using Int.ofNat.inj h))), w1 i (by omega), ih (i + 1) k (by omega) (by omega), decide_eq_false h10, Bool.false_or]
theorem spec_l0 (M : Nat) (hM : 100000000 ≤ M) (all : List ByteArray) (hall : tot3 all ≤ 10000000) (hlen : all.length ≤ 2000000) : ∀ (rest pre : List ByteArray) (k : Nat), all = pre ++ rest → tot3 pre + tot3 rest = tot3 all → tot3 pre ≤ 16000 → tot3 rest + M + rest.length ≤ k →
    spec_JournalOf.l0 k all (tot3 pre : Int) (pre.length : Int) = some (if rest.any nlB = true ∨ tot3 all > 16000 then (⟨#[]⟩, false) else ans [] all 0 ⟨#[]⟩) := by
  intro rest
  induction rest with
  | nil =>
    intro pre k hp ht hpre hk
    obtain ⟨k, rfl⟩ : ∃ m, k = m + 1 := ⟨k - 1, by omega⟩
    simp only [spec_JournalOf.l0]
    have hlp : all.length = pre.length := by rw [hp]; simp
    simp only [tot3, Nat.add_zero] at ht
    rw [if_neg (by omega)]
    have hj := journal_l0 all [] ⟨#[]⟩ (0 : Int) k (Int.le_refl 0) (by decide) (by omega) (by simp only [show (⟨#[]⟩ : ByteArray).size = 0 from rfl]; omega) (by omega) (by simp; omega)
    have hj' : spec_l08Journal.f k all = some (full all 0 ⟨#[]⟩) := hj
    rw [hj']
    simp only [Option.bind_some]
    rw [if_neg (show ¬ (([] : List ByteArray).any nlB = true ∨ tot3 all > 16000) by simp; omega)]
    have hans : ans [] all 0 ⟨#[]⟩ = if (full all 0 ⟨#[]⟩).size > 16000 then (⟨#[]⟩, false) else (full all 0 ⟨#[]⟩, true) := by
      unfold ans
      rw [if_neg (by simp)]
    rw [hans]
    by_cases hs : (full all 0 ⟨#[]⟩).size > 16000
    · rw [if_pos hs, if_pos (show ((full all 0 ⟨#[]⟩).size : Int) > 16000 by omega)]
    · rw [if_neg hs, if_neg (show ¬ ((full all 0 ⟨#[]⟩).size : Int) > 16000 by omega)]
  | cons L rest ih =>
    intro pre k hp ht hpre hk
    obtain ⟨k, rfl⟩ : ∃ m, k = m + 1 := ⟨k - 1, by omega⟩
    simp only [tot3, List.length_cons] at ht hk
    have hlp : pre.length < all.length := by rw [hp]; simp
    have hrd : rdOf ByteArray.empty all (pre.length : Int) = L := by rw [hp]; simp [rdOf]
    have tpp : ∀ (a b : List ByteArray), tot3 (a ++ b) = tot3 a + tot3 b := by
      intro a b
      induction a with
      | nil => simp [tot3]
      | cons x a iha => simp only [List.cons_append, tot3, iha]; omega
    have hpl : tot3 (pre ++ [L]) = tot3 pre + (L.size + 3) := by rw [tpp]; simp [tot3]
    simp only [spec_JournalOf.l0]
    have hw : wrap64 ((tot3 pre : Int) + (wrap64 ((L.size : Int) + 3))) = ((tot3 pre + (L.size + 3) : Nat) : Int) := by
      rw [wrap_id (i := (L.size : Int) + 3) (by omega) (by omega), wrap_id (by omega) (by omega)]
      omega
    have g1 : (pre.length : Int) < (all.length : Int) := by clear hw; omega
    have g2 : (0 : Int) ≤ (pre.length : Int) := by clear hw; omega
    rw [if_pos g1, if_pos g2, hrd, hw]
    clear hw
    by_cases h1 : tot3 pre + (L.size + 3) > 16000
    · rw [if_pos (by omega), if_pos (.inr (by omega))]
    · rw [if_neg (by omega)]
      have hR : ∀ k', tot3 rest + M + rest.length ≤ k' → spec_JournalOf.l0 k' all ((tot3 pre + (L.size + 3) : Nat) : Int) ((pre.length + 1 : Nat) : Int) = some (if rest.any nlB = true ∨ tot3 all > 16000 then (⟨#[]⟩, false) else ans [] all 0 ⟨#[]⟩) := fun k' hk' => by
        have := ih (pre ++ [L]) k' (by rw [hp]; simp) (by rw [hpl]; omega) (by rw [hpl]; omega) hk'
        rw [hpl, List.length_append] at this
        exact this
      have hl1 := l1_runs all _ pre.length L (by omega) hlp hrd (by omega) _ _ hR L.size 0 k (by omega) (by omega)
      rw [List.drop_zero] at hl1
      refine Eq.trans hl1 (congrArg some ?_)
      show (if nlB L = true then _ else _) = _
      by_cases hn : nlB L = true
      · rw [if_pos hn, if_pos (.inl (by simp [hn]))]
      · rw [if_neg hn]
        replace hn := Bool.eq_false_iff.mpr hn
        simp only [List.any_cons, hn, Bool.false_or]
theorem spec_f (M : Nat) (hM : 100000000 ≤ M) (all : List ByteArray) (hall : tot3 all ≤ 10000000) (hlen : all.length ≤ 2000000) (k : Nat) (hk : M + 20000000 ≤ k) : spec_JournalOf.f k all = some (jl all 0 ⟨#[]⟩) := by
  have := spec_l0 M hM all hall hlen all [] k rfl (by simp [tot3]) (by simp [tot3]) (by omega)
  rw [jl_eq all 0 _ (by omega) (by omega)]
  refine Eq.trans this (congrArg some ?_)
  have hf := full_size all 0 ⟨#[]⟩ (by omega) (by omega)
  have z : (⟨#[]⟩ : ByteArray).size = 0 := rfl
  unfold ans
  by_cases h : all.any nlB = true
  · rw [if_pos (.inl h), if_pos h]
  · rw [if_neg h]
    by_cases h2 : tot3 all > 16000
    · rw [if_pos (.inr h2), if_pos (by omega)]
    · rw [if_neg (by simp only [not_or]; exact ⟨h, h2⟩)]
      simp
def tots : List ByteArray → Nat
  | [] => 0
  | L :: r => L.size + tots r
theorem tot3_eq : ∀ ls, tot3 ls = tots ls + 3 * ls.length
  | [] => rfl
  | L :: r => by simp only [tot3, tots, tot3_eq r, List.length_cons]; omega
theorem sz_l0 : ∀ (rest pre : List ByteArray) (left k : Nat), left ≤ 1048576 → (∀ s ∈ rest, s.size ≤ 9223372036854775807) → rest.length < k → pre.length + rest.length ≤ 1073741824 →
    ∃ t : Int, laws_szStringS.l0 k (pre ++ rest) (left : Int) (pre.length : Int) = some t ∧ (t < 0 ∨ tots rest ≤ left) := by
  intro rest
  induction rest with
  | nil =>
    intro pre left k hl hs hk hp
    obtain ⟨k, rfl⟩ : ∃ m, k = m + 1 := ⟨k - 1, by omega⟩
    simp only [laws_szStringS.l0]
    rw [if_neg (by simp)]
    exact ⟨_, rfl, .inr (by simp [tots])⟩
  | cons L rest ih =>
    intro pre left k hl hs hk hp
    simp only [List.length_cons] at hk hp
    obtain ⟨k, rfl⟩ : ∃ m, k = m + 1 := ⟨k - 1, by omega⟩
    have hL := hs L (by simp)
    have hrd : rdOf ByteArray.empty (pre ++ L :: rest) (pre.length : Int) = L := by simp [rdOf]
    simp only [laws_szStringS.l0]
    rw [if_pos (by simp; omega), if_pos (by omega), hrd, wrap_id (i := (left : Int) - (L.size : Int)) (by omega) (by omega)]
    by_cases h : (left : Int) - (L.size : Int) < 0
    · rw [if_pos h]
      exact ⟨_, rfl, .inl (by decide)⟩
    · rw [if_neg h, w1 pre.length (by omega)]
      have e : pre ++ L :: rest = (pre ++ [L]) ++ rest := by simp
      have e2 : pre.length + 1 = (pre ++ [L]).length := by simp
      have e3 : (left : Int) - (L.size : Int) = ((left - L.size : Nat) : Int) := by omega
      rw [e, e2, e3]
      obtain ⟨t, ht, h2⟩ := ih (pre ++ [L]) (left - L.size) k (by omega) (fun s hx => hs s (by simp [hx])) (by omega) (by simp; omega)
      exact ⟨t, ht, h2.imp id (fun x => by simp only [tots]; omega)⟩
theorem sz_f (ls : List ByteArray) (k : Nat) (hk : 2000000 < k) (hlen : ls.length ≤ 9000000000000000000) (hs : ∀ s ∈ ls, s.size ≤ 9223372036854775807) :
    ∃ t : Int, laws_szStringS.f k ls 1048576 = some t ∧ (t < 0 ∨ (ls.length ≤ 1048576 ∧ tots ls ≤ 1048576)) := by
  unfold laws_szStringS.f
  rw [wrap_id (i := 1048576 - (ls.length : Int)) (by omega) (by omega)]
  by_cases h : 1048576 - (ls.length : Int) < 0
  · rw [if_pos h]
    exact ⟨_, rfl, .inl (by decide)⟩
  · rw [if_neg h]
    have e3 : 1048576 - (ls.length : Int) = ((1048576 - ls.length : Nat) : Int) := by omega
    rw [e3]
    obtain ⟨t, ht, h2⟩ := sz_l0 ls [] (1048576 - ls.length) k (by omega) hs (by omega) (by simp; omega)
    exact ⟨t, ht, h2.imp id (fun x => ⟨by omega, by omega⟩)⟩
theorem to_l0 : ∀ (rest pre : List ByteArray) (k : Nat), rest.length < k → pre.length + rest.length ≤ 1073741824 →
    laws_toStringS.l0 k (pre ++ rest) (pre ++ List.replicate rest.length (⟨#[]⟩ : ByteArray)) (pre.length : Int) = some (pre ++ rest) := by
  intro rest
  induction rest with
  | nil =>
    intro pre k hk hp
    obtain ⟨k, rfl⟩ : ∃ m, k = m + 1 := ⟨k - 1, by omega⟩
    simp only [laws_toStringS.l0]
    rw [if_neg (by simp)]
    simp
  | cons L rest ih =>
    intro pre k hk hp
    simp only [List.length_cons] at hk hp
    obtain ⟨k, rfl⟩ : ∃ m, k = m + 1 := ⟨k - 1, by omega⟩
    have hrd : rdOf ByteArray.empty (pre ++ L :: rest) (pre.length : Int) = L := by simp [rdOf]
    simp only [laws_toStringS.l0]
    rw [if_pos (by simp; omega), if_pos (by omega), if_pos (by simp; omega), hrd, w1 pre.length (by omega)]
    have e : pre ++ L :: rest = (pre ++ [L]) ++ rest := by simp
    have e2 : pre.length + 1 = (pre ++ [L]).length := by simp
    have e3 : (pre ++ List.replicate (L :: rest).length (⟨#[]⟩ : ByteArray)).set (pre.length : Int).toNat L = (pre ++ [L]) ++ List.replicate rest.length (⟨#[]⟩ : ByteArray) := by
      simp only [Int.toNat_natCast, List.length_cons, List.replicate_succ]
      rw [List.set_append_right _ _ (Nat.le_refl _)]
      simp
    rw [e3, e, e2]
    exact ih (pre ++ [L]) k (by omega) (by simp; omega)
theorem to_f (ls : List ByteArray) (k : Nat) (hk : ls.length < k) (hlen : ls.length ≤ 1073741824) : laws_toStringS.f k ls = some ls := by
  unfold laws_toStringS.f
  rw [if_pos (by omega), if_pos (by simp; omega), Int.toNat_natCast]
  exact to_l0 ls [] k hk (by simp; omega)
theorem FnExactJournalOf (ls : List ByteArray) (hlen : ls.length ≤ 9000000000000000000) (hs : ∀ s ∈ ls, s.size ≤ 9223372036854775807) : ∃ k, laws_FnExactJournalOf.f k ls = some true := by
  obtain ⟨K, hK⟩ : ∃ K : Nat, 200000000 < K := ⟨200000001, by omega⟩
  refine ⟨K + 1, ?_⟩
  obtain ⟨t, ht, h2⟩ := sz_f ls (K + 1) (by omega) hlen hs
  unfold laws_FnExactJournalOf.f
  rw [ht]
  simp only [Option.bind_some]
  by_cases h0 : t < 0
  · rw [if_pos h0]
  · rw [if_neg h0]
    obtain ⟨hl, hts⟩ := h2.resolve_left h0
    have h3 := tot3_eq ls
    rw [to_f ls (K + 1) (by omega) (by omega)]
    simp only [Option.bind_some]
    rw [spec_f (K - 20000000) (by omega) ls (by omega) (by omega) (K + 1) (by omega)]
    simp only [Option.bind_some]
    have hjf : XK.journal.f ls = some (jl ls 0 ⟨#[]⟩) := by
      unfold XK.journal.f
      rw [if_pos (by omega)]
    rw [hjf]
    simp only [Option.bind_some]
    rw [if_pos trivial, show ((jl ls 0 ⟨#[]⟩).2 != (jl ls 0 ⟨#[]⟩).2) = false by simp]
    simp only [laws_FnExactJournalOf.j0]
    rw [if_neg (by simp), to_f ls K (by omega) (by omega)]
    simp only [Option.bind_some]
    rw [eqS_f ls K (by omega) (by omega)]
    rfl
end Go.Proofs.YtfnegdimddmjnaaDoor.PureJournalOf
