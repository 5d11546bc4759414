/- The plain law of FnExactThreadsText: what its functions compute answers true at every list of threads. No memory in sight. -/
import Derived.Test.YtffofpiejcolfaaF32
import Derived.Test.YtffofpiejcolfaaPureFnExactThreadText
set_option linter.unusedVariables false
namespace Go.Proofs.Ytffofpiejcolfaa.PureThreadsText
open Go.RowKit Go.Proofs.Ytffofpiejcolfaa Go.Proofs.YtffofpiejcolfaaW.PrintWords Go.Proofs.YtffofpiejcolfaaW.PrintLast Go.Proofs.YtffofpiejcolfaaW.PrintMore
open T XF XL XC XT XU F0 F3 PT PureThreadText

def to31 (t : S25) : S31 := ⟨t.f0.map to46, t.f1⟩
def totP : List S25 → Nat
  | [] => 0
  | t :: r => t.f0.length + totP r
theorem szT (l : List S44) (a : Nat) (left : Nat) (hl : l.length ≤ 9223372036854775807) (hle : left ≤ 1048576) : ∃ t, F2.laws_szThread.f l a left = some t ∧ (t < 0 ∨ (l.length ≤ left ∧ t = ((left - l.length : Nat) : Int))) := by
  unfold F2.laws_szThread.f F2.laws_szVectorS.f
  rw [wrap_id (i := (left : Int) - (l.length : Int)) (by omega) (by omega)]
  by_cases h : (left : Int) - (l.length : Int) < 0
  · rw [if_pos h]
    simp only [Option.bind_some]
    rw [if_pos (by decide)]
    exact ⟨_, rfl, .inl (by decide)⟩
  · rw [if_neg h]
    simp only [Option.bind_some]
    rw [if_neg h]
    exact ⟨_, rfl, .inr ⟨by omega, by omega⟩⟩
theorem szTs_l0 : ∀ (rest pre : List S25) (left k : Nat), left ≤ 1048576 → (∀ t ∈ rest, t.f0.length ≤ 9223372036854775807) → rest.length < k → pre.length + rest.length ≤ 1073741824 →
    ∃ t : Int, F3.laws_szThreadS.l0 k (pre ++ rest) (left : Int) (pre.length : Int) = some t ∧ (t < 0 ∨ totP rest ≤ left) := by
  intro rest
  induction rest with
  | nil =>
    intro pre left k hl hs hk hp
    obtain ⟨k, rfl⟩ : ∃ m, k = m + 1 := ⟨k - 1, by omega⟩
    simp only [F3.laws_szThreadS.l0]
    rw [if_neg (by simp)]
    exact ⟨_, rfl, .inr (by simp [totP])⟩
  | cons L rest ih =>
    intro pre left k hl hs hk hp
    simp only [List.length_cons] at hk hp
    obtain ⟨k, rfl⟩ : ∃ m, k = m + 1 := ⟨k - 1, by omega⟩
    have hrd : rd_T25 (pre ++ L :: rest) (pre.length : Int) = L := by simp [rd_T25]
    obtain ⟨t, ht, h2⟩ := szT L.f0 L.f1 left (hs L (by simp)) hl
    simp only [F3.laws_szThreadS.l0]
    rw [if_pos (by simp; omega), if_pos (by omega), hrd, ht]
    simp only [Option.bind_some]
    by_cases h : t < 0
    · rw [if_pos h]
      exact ⟨_, rfl, .inl (by decide)⟩
    · rw [if_neg h, w1 pre.length (by omega)]
      obtain ⟨h3, rfl⟩ := h2.resolve_left h
      have e : pre ++ L :: rest = (pre ++ [L]) ++ rest := by simp
      have e2 : pre.length + 1 = (pre ++ [L]).length := by simp
      rw [e, e2]
      obtain ⟨t, ht, h2⟩ := ih (pre ++ [L]) (left - L.f0.length) k (by omega) (fun s hx => hs s (by simp [hx])) (by omega) (by simp; omega)
      exact ⟨t, ht, h2.imp id (fun x => by simp only [totP]; omega)⟩
theorem szTs_f (ls : List S25) (k : Nat) (hk : 2000000 < k) (hlen : ls.length ≤ 9223372036854775807) (hs : ∀ t ∈ ls, t.f0.length ≤ 9223372036854775807) :
    ∃ t : Int, F3.laws_szThreadS.f k ls 1048576 = some t ∧ (t < 0 ∨ (ls.length ≤ 1048576 ∧ totP ls ≤ 1048576)) := by
  unfold F3.laws_szThreadS.f
  rw [wrap_id (i := 1048576 - (ls.length : Int)) (by omega) (by omega)]
  by_cases h : 1048576 - (ls.length : Int) < 0
  · rw [if_pos h]
    exact ⟨_, rfl, .inl (by decide)⟩
  · rw [if_neg h]
    have e3 : 1048576 - (ls.length : Int) = ((1048576 - ls.length : Nat) : Int) := by omega
    rw [e3]
    obtain ⟨t, ht, h2⟩ := szTs_l0 ls [] (1048576 - ls.length) k (by omega) hs (by omega) (by simp; omega)
    exact ⟨t, ht, h2.imp id (fun x => ⟨by omega, by omega⟩)⟩
theorem toTs_l0 : ∀ (rest pre : List S25) (k : Nat), rest.length + totP rest + 2 < k → pre.length + rest.length ≤ 1073741824 → totP rest ≤ 1073741824 →
    F3.laws_toThreadS.l0 k (pre ++ rest) (pre.map to31 ++ List.replicate rest.length z31) (pre.length : Int) = some ((pre ++ rest).map to31) := by
  intro rest
  induction rest with
  | nil =>
    intro pre k hk hp _
    obtain ⟨k, rfl⟩ : ∃ m, k = m + 1 := ⟨k - 1, by omega⟩
    simp only [F3.laws_toThreadS.l0]
    rw [if_neg (by simp)]
    simp
  | cons L rest ih =>
    intro pre k hk hp ht
    simp only [List.length_cons, totP] at hk hp ht
    obtain ⟨k, rfl⟩ : ∃ m, k = m + 1 := ⟨k - 1, by omega⟩
    have hrd : rd_T25 (pre ++ L :: rest) (pre.length : Int) = L := by simp [rd_T25]
    simp only [F3.laws_toThreadS.l0]
    rw [if_pos (by simp; omega), if_pos (by omega), hrd, toT_f L.f0 L.f1 k (by omega) (by omega)]
    simp only [Option.bind_some]
    rw [if_pos (by simp; omega), w1 pre.length (by omega)]
    have e : pre ++ L :: rest = (pre ++ [L]) ++ rest := by simp
    have e2 : pre.length + 1 = (pre ++ [L]).length := by simp
    have e3 : (pre.map to31 ++ List.replicate (L :: rest).length z31).set (pre.length : Int).toNat (⟨L.f0.map to46, L.f1⟩ : S31) = (pre ++ [L]).map to31 ++ List.replicate rest.length z31 := by
      simp only [Int.toNat_natCast, List.length_cons, List.replicate_succ]
      rw [List.set_append_right _ _ (by simp)]
      simp [to31]
    rw [e3, e, e2]
    exact ih (pre ++ [L]) k (by omega) (by simp; omega) (by omega)
theorem toTs_f (ls : List S25) (k : Nat) (hk : ls.length + totP ls + 2 < k) (h1 : ls.length ≤ 1073741824) (h2 : totP ls ≤ 1073741824) : F3.laws_toThreadS.f k ls = some (ls.map to31) := by
  unfold F3.laws_toThreadS.f
  rw [if_pos (by omega), if_pos (by simp; omega), Int.toNat_natCast]
  have := toTs_l0 ls [] k hk (by simp; omega) h2
  simp only [List.map_nil, List.nil_append, List.length_nil] at this
  exact this
theorem eqTs_l0 : ∀ (rest pre : List S31) (k : Nat), rest.length < k → pre.length + rest.length ≤ 1073741824 → (∀ t ∈ rest, t.f0.length ≤ 1000000000) → F3.laws_eqThreadS.l0 k (pre ++ rest) (pre ++ rest) (pre.length : Int) = some true := by
  intro rest
  induction rest with
  | nil =>
    intro pre k hk hp _
    obtain ⟨k, rfl⟩ : ∃ m, k = m + 1 := ⟨k - 1, by omega⟩
    simp only [F3.laws_eqThreadS.l0]
    rw [if_neg (by simp)]
  | cons L rest ih =>
    intro pre k hk hp hs
    simp only [List.length_cons] at hk hp
    obtain ⟨k, rfl⟩ : ∃ m, k = m + 1 := ⟨k - 1, by omega⟩
    have hrd : rd_T31 (pre ++ L :: rest) (pre.length : Int) = L := by simp [rd_T31]
    have hlt : (pre.length : Int) < (((pre ++ L :: rest).length : Nat) : Int) := by simp; omega
    simp only [F3.laws_eqThreadS.l0, hrd]
    rw [if_pos hlt, if_pos (by omega), if_pos hlt, eqT_f L.f0 L.f1 (hs L (by simp))]
    simp only [Option.bind_some]
    have e : pre ++ L :: rest = (pre ++ [L]) ++ rest := by simp
    have e2 : pre.length + 1 = (pre ++ [L]).length := by simp
    rw [if_pos trivial, w1 pre.length (by omega), e, e2]
    exact ih (pre ++ [L]) k (by omega) (by simp; omega) (fun t h => hs t (by simp [h]))
theorem impl_T (l : List S46) (a : Nat) (k : Nat) (hk : 100 < k) (h : isThread l a = true) : F2.impl_ThreadText.f k l a = some (B (TT l a), true) ∧ l.length ≤ 32 := by
  have h3 : 3 ≤ l.length ∧ l.length ≤ 32 := by
    unfold isThread at h
    simp only [Bool.and_eq_true, decide_eq_true_eq] at h
    exact ⟨h.1, h.2.1⟩
  have hne : l ≠ [] := by
    intro h
    rw [h] at h3
    simp at h3
  refine ⟨?_, h3.2⟩
  unfold F2.impl_ThreadText.f XC.IsThread.f
  simp only [Option.bind_some]
  rw [h, if_pos rfl]
  have := impl_T0 l a hne h3.2 l [] k rfl (by omega)
  simp only [List.map_nil, List.length_nil] at this
  exact this
theorem impl_l0 (all : List S31) (hall : all.length ≤ 4) (hok : ∀ t ∈ all, tis t = true) : ∀ (rest pre : List S31) (k : Nat), all = pre ++ rest → rest.length + 200 < k →
    F3.impl_ThreadsText.l0 k ((pre.map TTs).map B) all (all.length : Int) (pre.length : Int) = some (B (Lib.join (all.map TTs) [124]), true) := by
  intro rest
  induction rest with
  | nil =>
    intro pre k hp hk
    rw [List.append_nil] at hp
    subst hp
    obtain ⟨k, rfl⟩ : ∃ m, k = m + 1 := ⟨k - 1, by omega⟩
    have h32 : ∀ t ∈ all, t.f0.length ≤ 32 := fun t ht => (impl_T t.f0 t.f1 101 (by omega) (hok t ht)).2
    have ha : (Lib.join (all.map TTs) [124]).length ≤ 10000 := by
      by_cases h0 : all.length = 0
      · rw [List.eq_nil_of_length_eq_zero h0]
        simp [Lib.join_nil]
      · have := tz_len all h32 all.length (by omega) (Nat.le_refl _)
        unfold tz at this
        rw [List.take_length] at this
        omega
    simp only [F3.impl_ThreadsText.l0]
    rw [if_neg (by omega), join_f (all.map TTs) 124 (by simp; omega) (by omega)]
    simp only [Option.bind_some]
  | cons v rest ih =>
    intro pre k hp hk
    simp only [List.length_cons] at hk
    obtain ⟨k, rfl⟩ : ∃ m, k = m + 1 := ⟨k - 1, by omega⟩
    have hpl : pre.length < all.length := by rw [hp]; simp
    have hrd : rd_T31 all (pre.length : Int) = v := by rw [hp]; simp [rd_T31]
    simp only [F3.impl_ThreadsText.l0]
    rw [if_pos (by omega), if_pos (by omega), if_pos (by omega), hrd, (impl_T v.f0 v.f1 k (by omega) (hok v (by rw [hp]; simp))).1]
    simp only [Option.bind_some]
    have e2 : pre.length + 1 = (pre ++ [v]).length := by simp
    have e3 : (pre.map TTs).map B ++ [B (TT v.f0 v.f1)] = ((pre ++ [v]).map TTs).map B := by simp [TTs]
    rw [if_pos (by simp only [List.length_map]; omega), w1 pre.length (by omega), e2, e3]
    exact ih (pre ++ [v]) k (by rw [hp]; simp) (by omega)
theorem both (L : List S31) (k : Nat) (hk : 1000 < k) : ∃ r, F3.spec_ThreadsText.f L = some r ∧ F3.impl_ThreadsText.f k L = some r := by
  unfold F3.spec_ThreadsText.f F3.impl_ThreadsText.f XU.l06Are.f XU.AreThreads.f
  simp only [Option.bind_some]
  cases ha : are L with
  | false => exact ⟨_, by rw [if_neg (by decide)], by rw [if_neg (by decide)]⟩
  | true =>
    have ha' := ha
    unfold are at ha
    simp only [Bool.and_eq_true, decide_eq_true_eq, Bool.not_eq_true', List.any_eq_false] at ha
    have hok : ∀ t ∈ L, tis t = true := fun t ht => by simpa using ha.2 t ht
    have hlok : lok L := ⟨ha.1, fun t ht => (impl_T t.f0 t.f1 101 (by omega) (hok t ht)).2⟩
    rw [if_pos rfl, if_pos rfl]
    unfold XU.l08List.f
    rw [if_pos hlok]
    simp only [Option.bind_some]
    refine ⟨_, rfl, ?_⟩
    unfold lt
    by_cases h0 : L.length = 0
    · rw [if_pos (by omega), if_pos h0]
      rfl
    · rw [if_neg (by omega), if_neg h0]
      have := impl_l0 L ha.1 hok L [] k rfl (by omega)
      simp only [List.map_nil, List.length_nil] at this
      exact this
theorem tot_mem : ∀ (ls : List S25) (t : S25), t ∈ ls → t.f0.length ≤ totP ls
  | [], _, h => by simp at h
  | x :: r, t, h => by
    simp only [totP]
    rcases List.mem_cons.1 h with rfl | h
    · omega
    · have := tot_mem r t h; omega
theorem FnExactThreadsText (ls : List S25) (hlen : ls.length ≤ 9223372036854775807) (hs : ∀ t ∈ ls, t.f0.length ≤ 9223372036854775807) : ∃ k, F3.laws_FnExactThreadsText.f k ls = some true := by
  obtain ⟨K, hK⟩ : ∃ K : Nat, 20000000 < K := ⟨20000001, by omega⟩
  refine ⟨K + 1, ?_⟩
  obtain ⟨t, ht, h2⟩ := szTs_f ls (K + 1) (by omega) hlen hs
  unfold F3.laws_FnExactThreadsText.f
  rw [ht]
  simp only [Option.bind_some]
  by_cases h0 : t < 0
  · rw [if_pos h0]
  · rw [if_neg h0]
    obtain ⟨hl, htp⟩ := h2.resolve_left h0
    rw [toTs_f ls (K + 1) (by omega) (by omega) (by omega)]
    simp only [Option.bind_some]
    obtain ⟨r, hr1, hr2⟩ := both (ls.map to31) (K + 1) (by omega)
    rw [hr1]
    simp only [Option.bind_some]
    rw [hr2]
    simp only [Option.bind_some]
    rw [if_pos trivial, show (r.2 != r.2) = false by simp]
    simp only [F3.laws_FnExactThreadsText.j0]
    rw [if_neg (by simp), toTs_f ls K (by omega) (by omega) (by omega)]
    simp only [Option.bind_some]
    have heq : F3.laws_eqThreadS.f K (ls.map to31) (ls.map to31) = some true := by
      unfold F3.laws_eqThreadS.f
      rw [if_pos rfl]
      have := eqTs_l0 (ls.map to31) [] K (by simp; omega) (by simp; omega) (fun t ht => by
        obtain ⟨u, hu, rfl⟩ := List.mem_map.1 ht
        have := tot_mem ls u hu
        simp [to31]
        omega)
      simp only [List.nil_append, List.length_nil] at this
      exact this
    rw [heq]
    rfl
end Go.Proofs.Ytffofpiejcolfaa.PureThreadsText
