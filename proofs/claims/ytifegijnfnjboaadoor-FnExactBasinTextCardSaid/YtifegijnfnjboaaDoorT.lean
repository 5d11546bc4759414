/- Plain laws on texts: a list of bytes cut at a byte; that strings.Split at one byte cuts so. No program in sight. -/
import Derived.Lib.SplitLaws
import Derived.RowKit
namespace Go.Proofs.YtifegijnfnjboaaDoor.T
open Go.Lib

/-- A list cut at each c. -/
def sp (c : UInt8) : List UInt8 → List (List UInt8)
  | [] => [[]]
  | x :: xs => if x = c then [] :: sp c xs else match sp c xs with
    | [] => [[x]]
    | p :: ps => (x :: p) :: ps
theorem sp_ne (c : UInt8) (l : List UInt8) : sp c l ≠ [] := by
  cases l with
  | nil => simp [sp]
  | cons x xs => unfold sp; split; · simp
                 · split <;> simp
/-- Behind p, which has no c. -/
def spp (c : UInt8) (p q : List UInt8) : List (List UInt8) := match sp c q with
  | [] => [p]
  | h :: t => (p ++ h) :: t
theorem spp_nil (c : UInt8) (p : List UInt8) : spp c p [] = [p] := by simp [spp, sp]
theorem spp_hit (c : UInt8) (p q : List UInt8) : spp c p (c :: q) = p :: sp c q := by simp [spp, sp]
theorem spp_miss (c x : UInt8) (p q : List UInt8) (h : x ≠ c) : spp c p (x :: q) = spp c (p ++ [x]) q := by
  unfold spp
  conv => lhs; unfold sp
  rw [if_neg h]
  cases hq : sp c q with
  | nil => exact absurd hq (sp_ne c q)
  | cons a t => simp
theorem spp_start (c : UInt8) (q : List UInt8) : spp c [] q = sp c q := by
  unfold spp
  cases hq : sp c q with
  | nil => exact absurd hq (sp_ne c q)
  | cons a t => simp
theorem sp_spec (c : UInt8) : ∀ s : List UInt8, (index s [c] = -1 ∧ sp c s = [s]) ∨ ∃ i : Nat, index s [c] = i ∧ i < s.length ∧ sp c s = s.take i :: sp c (s.drop (i + 1))
  | [] => .inl ⟨rfl, rfl⟩
  | b :: l => by
    by_cases hb : b = c
    · subst hb
      refine .inr ⟨0, ?_, by simp, by simp [sp]⟩
      unfold index
      simp
    · have e : index (b :: l) [c] = if index l [c] == -1 then -1 else index l [c] + 1 := by
        conv => lhs; unfold index
        rw [if_neg]
        simp only [List.isPrefixOf, Bool.and_true, beq_iff_eq]
        exact fun h => hb h.symm
      rcases sp_spec c l with ⟨h1, h2⟩ | ⟨i, h1, h2, h3⟩
      · refine .inl ⟨by rw [e, h1]; rfl, ?_⟩
        unfold sp
        rw [if_neg hb, h2]
      · refine .inr ⟨i + 1, ?_, by simp; omega, ?_⟩
        · rw [e, h1, if_neg (by simp)]
          rfl
        · conv => lhs; unfold sp
          rw [if_neg hb, h3]
          simp
theorem splitK_sp (c : UInt8) : ∀ (n : Nat) (s : List UInt8), s.length ≤ n → splitK [c] 0 (count s [c]) s = sp c s := by
  intro n
  induction n with
  | zero =>
    intro s hs
    have : s = [] := List.length_eq_zero_iff.1 (by omega)
    subst this
    rfl
  | succ n ih =>
    intro s hs
    rcases sp_spec c s with ⟨h1, h2⟩ | ⟨i, h1, h2, h3⟩
    · rw [count_miss h1, h2]; rfl
    · rw [count_hit (by simp) h1, Nat.add_comm, h3]
      unfold splitK
      have hm : ¬ (index s [c] == -1) = true := by rw [h1]; simp
      rw [if_neg hm]
      have e : (index s [c]).toNat = i := by rw [h1]; rfl
      rw [e]
      simp only [List.length_cons, List.length_nil, Nat.zero_add, Nat.add_zero]
      rw [ih (s.drop (i + 1)) (by simp; omega)]
/-- Bytes as a string. -/
def B (l : List UInt8) : ByteArray := ⟨l.toArray⟩
theorem B_data (s : ByteArray) : B s.data.toList = s := by cases s; simp [B]
theorem B_toList (l : List UInt8) : (B l).data.toList = l := by simp [B]
theorem B_size (l : List UInt8) : (B l).size = l.length := by simp [B, ByteArray.size]
theorem B_inj {a b : List UInt8} (h : B a = B b) : a = b := by have := congrArg (·.data.toList) h; simpa [B] using this
theorem B_append (a b : List UInt8) : B a ++ B b = B (a ++ b) := by
  refine (B_data (B a ++ B b)).symm.trans (congrArg B ?_)
  simp [B]
theorem size_list (s : ByteArray) : s.size = s.data.toList.length := by rw [Array.length_toList]; rfl
theorem extract_B (s : ByteArray) (a b : Nat) : s.extract a b = B ((s.data.toList.drop a).take (b - a)) :=
  (B_data (s.extract a b)).symm.trans (congrArg B (extract_data s a b))
theorem splitB_sp (c : UInt8) (s : ByteArray) : splitB ⟨#[c]⟩ 0 (countB s ⟨#[c]⟩) s = (sp c s.data.toList).map B := by
  have h := splitB_data ⟨#[c]⟩ 0 (countB s ⟨#[c]⟩) s
  have h2 : (([⟨#[c]⟩] : List ByteArray).map (·.data.toList)) = [[c]] := rfl
  have e : splitK [c] 0 (countB s ⟨#[c]⟩) s.data.toList = sp c s.data.toList := splitK_sp c _ _ (Nat.le_refl _)
  have h' : (splitB ⟨#[c]⟩ 0 (countB s ⟨#[c]⟩) s).map (·.data.toList) = sp c s.data.toList := h.trans e
  rw [← h', List.map_map]
  have : (B ∘ fun (x : ByteArray) => x.data.toList) = id := by funext x; exact B_data x
  rw [this, List.map_id]
theorem wrap_id {i : Int} (h0 : -9223372036854775808 ≤ i) (h : i ≤ 9223372036854775807) : RowKit.wrap64 i = i := by unfold RowKit.wrap64; omega
end Go.Proofs.YtifegijnfnjboaaDoor.T
