/- Whatever the text, the program's CountOutputs and the reference's tell the same three results: the plain law, over strings and numbers alone. -/
import Derived.Test.YtfnegdimddmjnaaDoorGB1
namespace Go.Proofs.YtfnegdimddmjnaaDoor.Pure
open Go.RowKit Go.Proofs.YtfnegdimddmjnaaDoor.GB Go.Proofs.YtfnegdimddmjnaaDoorW.PrintWords Go.Proofs.YtfnegdimddmjnaaDoorW.PrintLast
open T

/-- How many lines are 'no' or 'what'. -/
def cnt : List ByteArray → Nat
  | [] => 0
  | x :: xs => (if x.toList = ([110, 111] : List UInt8) then 1 else if x.toList = ([119, 104, 97, 116] : List UInt8) then 1 else 0) + cnt xs
theorem cnt_le : ∀ xs, cnt xs ≤ xs.length
  | [] => Nat.le_refl _
  | x :: xs => by
    have := cnt_le xs
    unfold cnt
    simp only [List.length_cons]
    split
    · omega
    · split <;> omega
theorem rdOf_drop (xs : List ByteArray) (i : Nat) (h : i < xs.length) : xs.drop i = rdOf ByteArray.empty xs (i : Int) :: xs.drop (i + 1) := by
  rw [List.drop_eq_getElem_cons h]
  congr 1
  simp [rdOf, h]
theorem w1 (i : Nat) (h : i ≤ 1073741824) : wrap64 ((i : Int) + 1) = ((i + 1 : Nat) : Int) := by rw [wrap_id (by omega) (by omega)]; rfl
theorem sc_l0 (xs : List ByteArray) (hx : xs.length ≤ 1073741824) : ∀ (d k i a : Nat), i + d = xs.length → d < k → a ≤ i →
    spec_CountOutputs.l0 k xs (a : Int) (i : Int) = some (((a + cnt (xs.drop i) : Nat) : Int), (xs.length : Int) - ((a + cnt (xs.drop i) : Nat) : Int), true) := by
  intro d
  induction d with
  | zero =>
    intro k i a hi hk ha
    obtain ⟨k, rfl⟩ : ∃ m, k = m + 1 := ⟨k - 1, by omega⟩
    simp only [spec_CountOutputs.l0]
    rw [if_neg (by omega), wrap_id (by omega) (by omega)]
    have : xs.drop i = [] := by rw [List.drop_eq_nil_iff]; omega
    rw [this]
    rfl
  | succ d ih =>
    intro k i a hi hk ha
    obtain ⟨k, rfl⟩ : ∃ m, k = m + 1 := ⟨k - 1, by omega⟩
    simp only [spec_CountOutputs.l0]
    rw [if_pos (by omega), if_pos (by omega), w1 i (by omega), w1 a (by omega), rdOf_drop xs i (by omega)]
    unfold cnt
    by_cases h1 : (rdOf ByteArray.empty xs i).toList = ([110, 111] : List UInt8)
    · rw [if_pos h1, if_pos h1, ih k (i + 1) (a + 1) (by omega) (by omega) (by omega), Nat.add_assoc a 1]
    · rw [if_neg h1, if_neg h1]
      by_cases h2 : (rdOf ByteArray.empty xs i).toList = ([119, 104, 97, 116] : List UInt8)
      · rw [if_pos h2, if_pos h2, ih k (i + 1) (a + 1) (by omega) (by omega) (by omega), Nat.add_assoc a 1]
      · rw [if_neg h2, if_neg h2, ih k (i + 1) a (by omega) (by omega) (by omega), Nat.zero_add]
theorem ic_l0 (xs : List ByteArray) (hx : xs.length ≤ 1073741824) : ∀ (d k i a : Nat), i + d = xs.length → d < k → a ≤ i →
    impl_CountOutputs.l0 k xs (a : Int) xs (xs.length : Int) (i : Int) = some (((a + cnt (xs.drop i) : Nat) : Int), (xs.length : Int) - ((a + cnt (xs.drop i) : Nat) : Int), true) := by
  intro d
  induction d with
  | zero =>
    intro k i a hi hk ha
    obtain ⟨k, rfl⟩ : ∃ m, k = m + 1 := ⟨k - 1, by omega⟩
    simp only [impl_CountOutputs.l0]
    rw [if_neg (by omega), wrap_id (by omega) (by omega)]
    have : xs.drop i = [] := by rw [List.drop_eq_nil_iff]; omega
    rw [this]
    rfl
  | succ d ih =>
    intro k i a hi hk ha
    obtain ⟨k, rfl⟩ : ∃ m, k = m + 1 := ⟨k - 1, by omega⟩
    simp only [impl_CountOutputs.l0]
    rw [if_pos (by omega), if_pos (by omega), if_pos (by omega), w1 i (by omega), w1 a (by omega), rdOf_drop xs i (by omega)]
    unfold cnt
    by_cases h1 : (rdOf ByteArray.empty xs i).toList = ([110, 111] : List UInt8)
    · rw [if_pos h1, if_pos h1, ih k (i + 1) (a + 1) (by omega) (by omega) (by omega), Nat.add_assoc a 1]
    · rw [if_neg h1, if_neg h1]
      by_cases h2 : (rdOf ByteArray.empty xs i).toList = ([119, 104, 97, 116] : List UInt8)
      · rw [if_pos h2, if_pos h2, ih k (i + 1) (a + 1) (by omega) (by omega) (by omega), Nat.add_assoc a 1]
      · rw [if_neg h2, if_neg h2, ih k (i + 1) a (by omega) (by omega) (by omega), Nat.zero_add]
/-- The last piece is empty just where the text is, or ends with the mark. -/
theorem sp_last (c : UInt8) : ∀ l : List UInt8, (sp c l).getLast? = some [] ↔ (l = [] ∨ l.getLast? = some c)
  | [] => by simp [sp]
  | [x] => by
    unfold sp
    split
    · rename_i h; simp [sp, h]
    · rename_i h; simp [sp, h]
  | x :: y :: l => by
    have ih := sp_last c (y :: l)
    have hne := sp_ne c (y :: l)
    unfold sp
    split
    · rename_i h
      rw [List.getLast?_cons_of_ne_nil hne, ih]
      simp
    · rename_i h
      split
      · rename_i h2; exact absurd h2 hne
      · rename_i p ps h2
        rw [h2] at ih
        have e : (x :: y :: l).getLast? = (y :: l).getLast? := by simp
        rw [e]
        cases ps with
        | nil =>
          refine ⟨fun h => (by simp at h), fun h3 => ?_⟩
          have h4 : (y :: l).getLast? = some c := by
            rcases h3 with h3 | h3
            · cases h3
            · exact h3
          have h5 := ih.2 (.inr h4)
          have h6 : p = [] := by simpa using h5
          subst h6
          exfalso
          unfold sp at h2
          split at h2
          · simp at h2
            exact sp_ne c l h2
          · split at h2
            · simp at h2
            · simp at h2
        | cons q qs =>
          rw [List.getLast?_cons_cons] at ih ⊢
          rw [ih]
          simp
theorem suffix_nl (s : ByteArray) : Lib.hasSuffix s.data.toList ([10] : List UInt8) = decide (s.data.toList.getLast? = some 10) := by
  unfold Lib.hasSuffix
  rw [Bool.eq_iff_iff, List.isSuffixOf_iff_suffix, decide_eq_true_iff]
  constructor
  · rintro ⟨l, h⟩
    rw [← h]
    simp
  · intro h
    obtain ⟨l, hl⟩ := List.getLast?_eq_some_iff.1 h
    exact ⟨l, hl.symm⟩
theorem toList_nil (s : ByteArray) : s.toList = ([] : List UInt8) ↔ s.data.toList = [] := by rw [Lib.toList_data]
theorem FnExactCountOutputs : laws_FnExactCountOutputs.Pure := by
  intro s _
  refine ⟨s.size + 3, ?_⟩
  unfold laws_FnExactCountOutputs.f
  by_cases h0 : (s.size : Int) > 1048576
  · rw [if_pos h0]
  rw [if_neg h0]
  unfold spec_CountOutputs.f impl_CountOutputs.f impl_linesOf.f
  by_cases h1 : (s.size : Int) > 16000
  · rw [if_pos h1, if_pos h1]; rfl
  rw [if_neg h1, if_neg h1]
  obtain ⟨L, hL⟩ : ∃ L, L = (sp 10 s.data.toList).map B := ⟨_, rfl⟩
  have hne : L ≠ [] := by rw [hL]; simp [sp_ne]
  have hlen : L.length ≤ s.size + 1 := by rw [hL, List.length_map, size_list]; exact X2.sp_len _ _
  have hlast : ((L.getLast?).getD ⟨#[]⟩).toList = ([] : List UInt8) ↔ (s.data.toList = [] ∨ s.data.toList.getLast? = some 10) := by
    rw [← sp_last, toList_nil, hL, List.getLast?_map]
    cases h : (sp 10 s.data.toList).getLast? with
    | none => exact absurd (List.getLast?_eq_none_iff.1 h) (sp_ne _ _)
    | some x => simp [B]
  have e1 : X2.lines.f s = some (L.dropLast, (L.getLast?).getD ⟨#[]⟩) := by
    unfold X2.lines.f
    rw [if_pos (by omega), hL]
  have e2 : X.strings_Split.f s ⟨#[10]⟩ = some L := by
    unfold X.strings_Split.f
    rw [if_pos (by omega), if_pos (by decide), splitB_sp, hL]
  have e3 : X.strings_HasSuffix.f s ⟨#[10]⟩ = some (decide (s.data.toList.getLast? = some 10)) := by
    unfold X.strings_HasSuffix.f
    rw [if_pos (by omega)]
    exact congrArg some (suffix_nl s)
  have ew : wrap64 ((L.length : Int) - 1) = ((L.length - 1 : Nat) : Int) := by
    have := List.length_pos_iff.2 hne
    rw [wrap_id (by omega) (by omega)]
    omega
  have et : L.take (L.length - 1) = L.dropLast := by rw [List.dropLast_eq_take]
  have hd : L.dropLast.length ≤ s.size := by rw [List.length_dropLast]; omega
  have q1 : 0 ≤ ((L.length - 1 : Nat) : Int) := by omega
  have q2 : ((L.length - 1 : Nat) : Int) ≤ (L.length : Int) := by omega
  have hs := sc_l0 L.dropLast (by omega) L.dropLast.length (s.size + 3) 0 0 (by omega) (by omega) (by omega)
  have hi := ic_l0 L.dropLast (by omega) L.dropLast.length (s.size + 3) 0 0 (by omega) (by omega) (by omega)
  rw [e1, e2, e3]
  simp only [Option.bind_some]
  rw [ew, if_pos q1, if_pos q2, Int.toNat_natCast, et]
  simp only [Int.ofNat_zero] at hs hi
  by_cases h2 : s.data.toList = []
  · rw [if_pos (hlast.2 (.inl h2)), if_pos ((toList_nil s).2 h2), hs]
    simp only [Option.bind_some, if_true, hi]
    simp
  · rw [if_neg (fun h => h2 ((toList_nil s).1 h))]
    by_cases h3 : s.data.toList.getLast? = some 10
    · rw [if_pos (hlast.2 (.inr h3)), hs, h3]
      simp only [Option.bind_some, decide_true, if_true, hi]
      simp
    · rw [if_neg (fun h => (hlast.1 h).elim h2 h3)]
      rw [decide_eq_false h3]
      simp

end Go.Proofs.YtfnegdimddmjnaaDoor.Pure
