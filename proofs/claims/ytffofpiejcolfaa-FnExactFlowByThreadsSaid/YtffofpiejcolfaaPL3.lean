/- Plain laws on threads and lists of threads: sizes, copies, equality. No memory in sight. -/
import Derived.Test.YtffofpiejcolfaaL31
import Derived.Test.YtffofpiejcolfaaL32
set_option linter.unusedVariables false
set_option linter.unusedSimpArgs false
namespace Go.Proofs.Ytffofpiejcolfaa.PL3
open Go.RowKit Go.Proofs.Ytffofpiejcolfaa Go.Proofs.YtffofpiejcolfaaW.PrintWords Go.Proofs.YtffofpiejcolfaaW.PrintLast Go.Proofs.YtffofpiejcolfaaW.PrintMore
open XF XL XC XT XN XE XK L0 L3
theorem wrap_id {i : Int} (h0 : -9223372036854775808 ≤ i) (h1 : i ≤ 9223372036854775807) : wrap64 i = i := by unfold wrap64; omega
theorem w1 (n : Nat) (h : n < 9223372036854775807) : wrap64 ((n : Int) + 1) = ((n + 1 : Nat) : Int) := by unfold wrap64; omega
def to46 (v : S44) : S46 := ⟨v.f0, v.f1, v.f2⟩
theorem toV_l0 : ∀ (rest pre : List S44) (k : Nat), rest.length < k → pre.length + rest.length ≤ 1073741824 →
    L3.laws_toVectorS.l0 k (pre ++ rest) (pre.map to46 ++ List.replicate rest.length z46) (pre.length : Int) = some ((pre ++ rest).map to46) := by
  intro rest
  induction rest with
  | nil =>
    intro pre k hk hp
    obtain ⟨k, rfl⟩ : ∃ m, k = m + 1 := ⟨k - 1, by omega⟩
    simp only [L3.laws_toVectorS.l0]
    rw [if_neg (by simp)]
    simp
  | cons L rest ih =>
    intro pre k hk hp
    simp only [List.length_cons] at hk hp
    obtain ⟨k, rfl⟩ : ∃ m, k = m + 1 := ⟨k - 1, by omega⟩
    have hrd : rd_T44 (pre ++ L :: rest) (pre.length : Int) = L := by simp [rd_T44]
    simp only [L3.laws_toVectorS.l0, L3.laws_toVector.f, Option.bind_some]
    rw [if_pos (by simp; omega), if_pos (by omega), if_pos (by simp; omega), hrd, w1 pre.length (by omega)]
    have e : pre ++ L :: rest = (pre ++ [L]) ++ rest := by simp
    have e2 : pre.length + 1 = (pre ++ [L]).length := by simp
    have e3 : (pre.map to46 ++ List.replicate (L :: rest).length z46).set (pre.length : Int).toNat (⟨L.f0, L.f1, L.f2⟩ : S46) = (pre ++ [L]).map to46 ++ List.replicate rest.length z46 := by
      simp only [Int.toNat_natCast, List.length_cons, List.replicate_succ]
      rw [List.set_append_right _ _ (by simp)]
      simp [to46]
    rw [e3, e, e2]
    exact ih (pre ++ [L]) k (by omega) (by simp; omega)
theorem toT_f (l : List S44) (a k : Nat) (hk : l.length < k) (hlen : l.length ≤ 1073741824) : L3.laws_toThread.f k l a = some (l.map to46, a) := by
  unfold L3.laws_toThread.f L3.laws_toVectorS.f
  rw [if_pos (by omega), if_pos (by simp; omega), Int.toNat_natCast]
  have := toV_l0 l [] k hk (by simp; omega)
  simp only [List.map_nil, List.nil_append, List.length_nil] at this
  rw [show ((0 : Nat) : Int) = 0 from rfl] at this
  rw [this]
  rfl
theorem eqV_l0 : ∀ (rest pre : List S46) (k : Nat), rest.length < k → pre.length + rest.length ≤ 1073741824 → L0.laws_eqVectorS.l0 k (pre ++ rest) (pre ++ rest) (pre.length : Int) = some true := by
  intro rest
  induction rest with
  | nil =>
    intro pre k hk hp
    obtain ⟨k, rfl⟩ : ∃ m, k = m + 1 := ⟨k - 1, by omega⟩
    simp only [L0.laws_eqVectorS.l0]
    rw [if_neg (by simp)]
  | cons L rest ih =>
    intro pre k hk hp
    simp only [List.length_cons] at hk hp
    obtain ⟨k, rfl⟩ : ∃ m, k = m + 1 := ⟨k - 1, by omega⟩
    have hrd : rd_T46 (pre ++ L :: rest) (pre.length : Int) = L := by simp [rd_T46]
    simp only [L0.laws_eqVectorS.l0, XL.eqVector.f, hrd, sfc_self]
    have e : pre ++ L :: rest = (pre ++ [L]) ++ rest := by simp
    have e2 : pre.length + 1 = (pre ++ [L]).length := by simp
    have hlt : (pre.length : Int) < (((pre ++ L :: rest).length : Nat) : Int) := by simp; omega
    rw [if_pos hlt, if_pos (by omega), if_pos hlt]
    simp only [Option.bind_some]
    rw [if_pos (by rfl), w1 pre.length (by omega), e, e2]
    exact ih (pre ++ [L]) k (by omega) (by simp; omega)
theorem eqT_f (l : List S46) (a : Nat) (h : l.length ≤ 1000000000) : XT.eqThread.f l a l a = some true := by
  unfold XT.eqThread.f L0.laws_eqVectorS.f
  rw [if_pos rfl]
  have := eqV_l0 l [] (l.length + 1) (by omega) (by simp; omega)
  simp only [List.nil_append, List.length_nil] at this
  rw [show ((0 : Nat) : Int) = 0 from rfl] at this
  rw [this]
  simp only [Option.bind_some, sfc_self]
  rfl
def to31 (t : S25) : S31 := ⟨t.f0.map to46, t.f1⟩
def totP : List S25 → Nat
  | [] => 0
  | t :: r => t.f0.length + totP r
theorem szT (l : List S44) (a : Nat) (left : Nat) (hl : l.length ≤ 9223372036854775807) (hle : left ≤ 1048576) : ∃ t, L3.laws_szThread.f l a left = some t ∧ (t < 0 ∨ (l.length ≤ left ∧ t = ((left - l.length : Nat) : Int))) := by
  unfold L3.laws_szThread.f L3.laws_szVectorS.f
  rw [wrap_id (i := (left : Int) - (l.length : Int)) (by omega) (by omega)]
  by_cases h : (left : Int) - (l.length : Int) < 0
  · rw [if_pos h]
    simp only [Option.bind_some]
    rw [if_pos (by decide)]
    exact ⟨_, rfl, .inl (by decide)⟩
  · rw [if_neg h]
    simp only [Option.bind_some]
    rw [if_neg h]
    exact ⟨_, rfl, .inr ⟨by omega, by omega⟩⟩
theorem szTs_l0 : ∀ (rest pre : List S25) (left k : Nat), left ≤ 1048576 → (∀ t ∈ rest, t.f0.length ≤ 9223372036854775807) → rest.length < k → pre.length + rest.length ≤ 1073741824 →
    ∃ t : Int, L3.laws_szThreadS.l0 k (pre ++ rest) (left : Int) (pre.length : Int) = some t ∧ (t < 0 ∨ totP rest ≤ left) := by
  intro rest
  induction rest with
  | nil =>
    intro pre left k hl hs hk hp
    obtain ⟨k, rfl⟩ : ∃ m, k = m + 1 := ⟨k - 1, by omega⟩
    simp only [L3.laws_szThreadS.l0]
    rw [if_neg (by simp)]
    exact ⟨_, rfl, .inr (by simp [totP])⟩
  | cons L rest ih =>
    intro pre left k hl hs hk hp
    simp only [List.length_cons] at hk hp
    obtain ⟨k, rfl⟩ : ∃ m, k = m + 1 := ⟨k - 1, by omega⟩
    have hrd : rd_T25 (pre ++ L :: rest) (pre.length : Int) = L := by simp [rd_T25]
    obtain ⟨t, ht, h2⟩ := szT L.f0 L.f1 left (hs L (by simp)) hl
    simp only [L3.laws_szThreadS.l0]
    rw [if_pos (by simp; omega), if_pos (by omega), hrd, ht]
    simp only [Option.bind_some]
    by_cases h : t < 0
    · rw [if_pos h]
      exact ⟨_, rfl, .inl (by decide)⟩
    · rw [if_neg h, w1 pre.length (by omega)]
      obtain ⟨h3, rfl⟩ := h2.resolve_left h
      have e : pre ++ L :: rest = (pre ++ [L]) ++ rest := by simp
      have e2 : pre.length + 1 = (pre ++ [L]).length := by simp
      rw [e, e2]
      obtain ⟨t, ht, h2⟩ := ih (pre ++ [L]) (left - L.f0.length) k (by omega) (fun s hx => hs s (by simp [hx])) (by omega) (by simp; omega)
      exact ⟨t, ht, h2.imp id (fun x => by simp only [totP]; omega)⟩
theorem szTs_f (ls : List S25) (k : Nat) (hk : 2000000 < k) (hlen : ls.length ≤ 9223372036854775807) (hs : ∀ t ∈ ls, t.f0.length ≤ 9223372036854775807) :
    ∃ t : Int, L3.laws_szThreadS.f k ls 1048576 = some t ∧ (t < 0 ∨ (ls.length ≤ 1048576 ∧ totP ls ≤ 1048576)) := by
  unfold L3.laws_szThreadS.f
  rw [wrap_id (i := 1048576 - (ls.length : Int)) (by omega) (by omega)]
  by_cases h : 1048576 - (ls.length : Int) < 0
  · rw [if_pos h]
    exact ⟨_, rfl, .inl (by decide)⟩
  · rw [if_neg h]
    have e3 : 1048576 - (ls.length : Int) = ((1048576 - ls.length : Nat) : Int) := by omega
    rw [e3]
    obtain ⟨t, ht, h2⟩ := szTs_l0 ls [] (1048576 - ls.length) k (by omega) hs (by omega) (by simp; omega)
    exact ⟨t, ht, h2.imp id (fun x => ⟨by omega, by omega⟩)⟩
theorem toTs_l0 : ∀ (rest pre : List S25) (k : Nat), rest.length + totP rest + 2 < k → pre.length + rest.length ≤ 1073741824 → totP rest ≤ 1073741824 →
    L3.laws_toThreadS.l0 k (pre ++ rest) (pre.map to31 ++ List.replicate rest.length z31) (pre.length : Int) = some ((pre ++ rest).map to31) := by
  intro rest
  induction rest with
  | nil =>
    intro pre k hk hp _
    obtain ⟨k, rfl⟩ : ∃ m, k = m + 1 := ⟨k - 1, by omega⟩
    simp only [L3.laws_toThreadS.l0]
    rw [if_neg (by simp)]
    simp
  | cons L rest ih =>
    intro pre k hk hp ht
    simp only [List.length_cons, totP] at hk hp ht
    obtain ⟨k, rfl⟩ : ∃ m, k = m + 1 := ⟨k - 1, by omega⟩
    have hrd : rd_T25 (pre ++ L :: rest) (pre.length : Int) = L := by simp [rd_T25]
    simp only [L3.laws_toThreadS.l0]
    rw [if_pos (by simp; omega), if_pos (by omega), hrd, toT_f L.f0 L.f1 k (by omega) (by omega)]
    simp only [Option.bind_some]
    rw [if_pos (by simp; omega), w1 pre.length (by omega)]
    have e : pre ++ L :: rest = (pre ++ [L]) ++ rest := by simp
    have e2 : pre.length + 1 = (pre ++ [L]).length := by simp
    have e3 : (pre.map to31 ++ List.replicate (L :: rest).length z31).set (pre.length : Int).toNat (⟨L.f0.map to46, L.f1⟩ : S31) = (pre ++ [L]).map to31 ++ List.replicate rest.length z31 := by
      simp only [Int.toNat_natCast, List.length_cons, List.replicate_succ]
      rw [List.set_append_right _ _ (by simp)]
      simp [to31]
    rw [e3, e, e2]
    exact ih (pre ++ [L]) k (by omega) (by simp; omega) (by omega)
theorem toTs_f (ls : List S25) (k : Nat) (hk : ls.length + totP ls + 2 < k) (h1 : ls.length ≤ 1073741824) (h2 : totP ls ≤ 1073741824) : L3.laws_toThreadS.f k ls = some (ls.map to31) := by
  unfold L3.laws_toThreadS.f
  rw [if_pos (by omega), if_pos (by simp; omega), Int.toNat_natCast]
  have := toTs_l0 ls [] k hk (by simp; omega) h2
  simp only [List.map_nil, List.nil_append, List.length_nil] at this
  exact this
theorem eqTs_l0 : ∀ (rest pre : List S31) (k : Nat), rest.length < k → pre.length + rest.length ≤ 1073741824 → (∀ t ∈ rest, t.f0.length ≤ 1000000000) → L3.laws_eqThreadS.l0 k (pre ++ rest) (pre ++ rest) (pre.length : Int) = some true := by
  intro rest
  induction rest with
  | nil =>
    intro pre k hk hp _
    obtain ⟨k, rfl⟩ : ∃ m, k = m + 1 := ⟨k - 1, by omega⟩
    simp only [L3.laws_eqThreadS.l0]
    rw [if_neg (by simp)]
  | cons L rest ih =>
    intro pre k hk hp hs
    simp only [List.length_cons] at hk hp
    obtain ⟨k, rfl⟩ : ∃ m, k = m + 1 := ⟨k - 1, by omega⟩
    have hrd : rd_T31 (pre ++ L :: rest) (pre.length : Int) = L := by simp [rd_T31]
    have hlt : (pre.length : Int) < (((pre ++ L :: rest).length : Nat) : Int) := by simp; omega
    simp only [L3.laws_eqThreadS.l0, hrd]
    rw [if_pos hlt, if_pos (by omega), if_pos hlt, eqT_f L.f0 L.f1 (hs L (by simp))]
    simp only [Option.bind_some]
    have e : pre ++ L :: rest = (pre ++ [L]) ++ rest := by simp
    have e2 : pre.length + 1 = (pre ++ [L]).length := by simp
    rw [if_pos trivial, w1 pre.length (by omega), e, e2]
    exact ih (pre ++ [L]) k (by omega) (by simp; omega) (fun t h => hs t (by simp [h]))
theorem tot_mem : ∀ (ls : List S25) (t : S25), t ∈ ls → t.f0.length ≤ totP ls
  | [], _, h => by simp at h
  | x :: r, t, h => by
    simp only [totP]
    rcases List.mem_cons.1 h with rfl | h
    · omega
    · have := tot_mem r t h; omega
theorem eqTs_f (ls : List S25) (K : Nat) (h1 : ls.length + 1 < K) (h2 : ls.length ≤ 1048576) (h3 : totP ls ≤ 1048576) : L3.laws_eqThreadS.f K (ls.map to31) (ls.map to31) = some true := by
  unfold L3.laws_eqThreadS.f
  rw [if_pos rfl]
  have := eqTs_l0 (ls.map to31) [] K (by simp; omega) (by simp; omega) (fun t ht => by
    obtain ⟨u, hu, rfl⟩ := List.mem_map.1 ht
    have := tot_mem ls u hu
    simp [to31]
    omega)
  simp only [List.nil_append, List.length_nil] at this
  exact this
end Go.Proofs.Ytffofpiejcolfaa.PL3
