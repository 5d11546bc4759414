/- Plain laws on texts of numbers that are read: the reference's loops and the program's come to the same lists. No memory in sight. -/
import Derived.Test.YtifegijnfnjboaaDoorF33
import Derived.Test.YtifegijnfnjboaaDoorT
set_option linter.unusedVariables false
namespace Go.Proofs.YtifegijnfnjboaaDoor.PNB
open Go.RowKit Go.Proofs.YtifegijnfnjboaaDoor Go.Proofs.YtifegijnfnjboaaDoorW.PrintWords Go.Proofs.YtifegijnfnjboaaDoorW.PrintLast Go.Proofs.YtifegijnfnjboaaDoorW.PrintMore
open T XF XL XW FA F3

theorem w1 (i : Nat) (h : i ≤ 9223372036854775806) : wrap64 ((i : Int) + 1) = ((i + 1 : Nat) : Int) := by rw [wrap_id (by omega) (by omega)]; rfl
theorem bt_nat (s : ByteArray) (i : Nat) (h : i < s.size) : bt s (i : Int) = ((s.data.toList[i]'(by rw [← size_list]; exact h)).toNat : Int) := by
  unfold bt
  rw [dif_pos (by simpa using h)]
  simp only [Int.toNat_natCast]
  rfl
theorem bt_mid (p r : List UInt8) (b : UInt8) : bt (B (p ++ b :: r)) (p.length : Int) = (b.toNat : Int) := by
  rw [bt_nat _ _ (by rw [B_size]; simp)]
  simp [B]
/-- The loop of l01Cut: from the piece that begins at `from`, no mark between it and i. -/
theorem cut_l0 (s : ByteArray) (c : UInt8) (hs : s.size ≤ 1073741824) : ∀ (d k i fr : Nat) (out : List ByteArray), fr ≤ i → i ≤ s.size → s.size - i = d → d + 1 < k → out.length ≤ fr →
    F3.spec_l01Cut.l0 k s (c.toNat : Int) out (fr : Int) (i : Int) = some (out ++ (spp c ((s.data.toList.drop fr).take (i - fr)) (s.data.toList.drop i)).map B) := by
  intro d
  induction d with
  | zero =>
    intro k i fr out hfi hi hd hk ho
    obtain ⟨k, rfl⟩ : ∃ m, k = m + 2 := ⟨k - 2, by omega⟩
    have e : i = s.size := by omega
    subst e
    have hw : wrap64 ((s.size : Int) + 1) = ((s.size + 1 : Nat) : Int) := by rw [wrap_id (by omega) (by omega)]; rfl
    simp only [F3.spec_l01Cut.l0]
    rw [if_pos (Int.le_refl _), if_pos trivial, if_pos (by omega), if_pos (by omega), if_pos (by omega), hw, if_neg (by omega)]
    have hn : s.data.toList.drop s.size = [] := by rw [size_list]; simp
    rw [hn, spp_nil]
    simp only [Int.toNat_natCast, List.map_cons, List.map_nil, extract_B]
  | succ d ih =>
    intro k i fr out hfi hi hd hk ho
    obtain ⟨k, rfl⟩ : ∃ m, k = m + 1 := ⟨k - 1, by omega⟩
    have hlt : i < s.size := by omega
    have hlt' : i < s.data.toList.length := by rw [← size_list]; exact hlt
    have hw : wrap64 ((i : Int) + 1) = ((i + 1 : Nat) : Int) := by rw [wrap_id (by omega) (by omega)]; rfl
    simp only [F3.spec_l01Cut.l0]
    rw [if_pos (by omega), if_neg (by omega), if_pos (by omega), if_pos (by omega), bt_nat s i hlt]
    have hdrop : s.data.toList.drop i = s.data.toList[i] :: s.data.toList.drop (i + 1) := List.drop_eq_getElem_cons hlt'
    by_cases hc : s.data.toList[i] = c
    · rw [hc, if_pos rfl, if_pos (by omega), if_pos (by omega), if_pos (by omega), hw]
      rw [ih k (i + 1) (i + 1) _ (Nat.le_refl _) (by omega) (by omega) (by omega) (by simp; omega)]
      rw [hdrop, hc, spp_hit, Nat.sub_self, List.take_zero, spp_start]
      simp [extract_B]
    · rw [if_neg (fun h => hc (UInt8.toNat_inj.1 (by omega))), hw]
      rw [ih k (i + 1) fr _ (by omega) (by omega) (by omega) (by omega) ho]
      rw [hdrop, spp_miss c _ _ _ hc]
      have : (s.data.toList.drop fr).take (i + 1 - fr) = (s.data.toList.drop fr).take (i - fr) ++ [s.data.toList[i]] := by
        rw [show i + 1 - fr = (i - fr) + 1 by omega, List.take_succ_eq_append_getElem (by simp; omega)]
        simp [show fr + (i - fr) = i by omega]
      rw [this]
theorem cut_f (s : List UInt8) (c : UInt8) (k : Nat) (hs : s.length ≤ 1073741824) (hk : s.length + 2 ≤ k) : F3.spec_l01Cut.f k (B s) (c.toNat : Int) = some ((sp c s).map B) := by
  have := cut_l0 (B s) c (by rw [B_size]; exact hs) (B s).size k 0 0 [] (Nat.le_refl _) (Nat.zero_le _) rfl (by rw [B_size]; omega) (by simp)
  simp only [Nat.sub_self, List.take_zero, List.drop_zero, spp_start, List.nil_append, B_toList] at this
  exact this
/-- A digit's value; eight digits' number. -/
def dv (b : UInt8) : Option Nat := if 48 ≤ b.toNat ∧ b.toNat ≤ 57 then some (b.toNat - 48) else if 97 ≤ b.toNat ∧ b.toNat ≤ 102 then some (b.toNat - 87) else none
def ph : List UInt8 → Nat → Option Nat
  | [], n => some n
  | b :: r, n => match dv b with
    | none => none
    | some d => ph r (16 * n + d)
theorem dv_lt {b : UInt8} {d : Nat} (h : dv b = some d) : d < 16 := by
  unfold dv at h
  split at h
  · cases h; omega
  · split at h
    · cases h; omega
    · cases h
theorem ph_lt : ∀ (l : List UInt8) (n e : Nat) (m : Nat), n < 16 ^ e → ph l n = some m → m < 16 ^ (e + l.length)
  | [], n, e, m, hn, h => by
    simp only [ph, Option.some.injEq] at h
    subst h
    simpa using hn
  | b :: r, n, e, m, hn, h => by
    simp only [ph] at h
    cases hd : dv b with
    | none => rw [hd] at h; cases h
    | some d =>
      rw [hd] at h
      have := dv_lt hd
      have h2 := ph_lt r (16 * n + d) (e + 1) m (by rw [Nat.pow_succ]; omega) h
      rw [List.length_cons, show e + (r.length + 1) = e + 1 + r.length by omega]
      exact h2
def pn (p : List UInt8) : Option Nat := if p.length = 8 then match ph p 0 with
    | none => none
    | some m => if XL.bits m = (m : Int) then some m else none
  else none
def pns : List (List UInt8) → Option (List Nat)
  | [] => some []
  | p :: r => match pn p with
    | none => none
    | some m => match pns r with
      | none => none
      | some l => some (m :: l)
def numsOf (o : Option (List Nat)) : List Nat × Bool := match o with
  | some l => (l, true)
  | none => ([], false)
theorem pw (e : Nat) (h : e ≤ 8) : 16 ^ e ≤ 4294967296 := by
  have : 16 ^ e ≤ 16 ^ 8 := Nat.pow_le_pow_right (by omega) h
  simpa using this
theorem spec_dig (x4 : List Nat) (x5 : List ByteArray) (i6 : Nat) (s : List UInt8) (hs : rdOf ByteArray.empty x5 (i6 : Int) = B s) (h6 : i6 < x5.length) (h8 : s.length = 8) (kk : Nat) :
    ∀ (rest pre : List UInt8) (n : Nat), s = pre ++ rest → n < 16 ^ pre.length →
      F3.spec_l01NRead.l1 (kk + 4 * rest.length + 1) x4 x5 (i6 : Int) (n : Int) (pre.length : Int) =
        match ph rest n with
        | none => some ([], false)
        | some m => if XL.bits m = (m : Int) then (if x4.length < 35184372088832 then F3.spec_l01NRead.l0 kk (x4 ++ [m]) x5 (wrap64 ((i6 : Int) + 1)) else none) else some ([], false) := by
  intro rest
  induction rest with
  | nil =>
    intro pre n hp hn
    rw [List.append_nil] at hp
    subst hp
    rw [h8] at hn
    have hm : ((n : Int) % 4294967296).toNat = n := by
      have : (16 : Nat) ^ 8 = 4294967296 := by decide
      omega
    simp only [ph, List.length_nil, Nat.mul_zero, Nat.add_zero, F3.spec_l01NRead.l1]
    rw [if_neg (by omega)]
    simp only [XM.l01From.f, XL.l01Bits.f, Option.bind_some, hm]
  | cons b rest ih =>
    intro pre n hp hn
    have hlen : pre.length + (rest.length + 1) = 8 := by
      rw [← h8, hp]
      simp
    have hb : bt (B s) (pre.length : Int) = (b.toNat : Int) := by rw [hp]; exact bt_mid pre rest b
    have hbl : b.toNat < 256 := b.toNat_lt
    have hpw := pw pre.length (by omega)
    rw [List.length_cons, show kk + 4 * (rest.length + 1) + 1 = ((kk + 4 * rest.length + 1) + 3) + 1 by omega]
    have step (d : Nat) (hd : dv b = some d) : (wrap64 ((wrap64 (16 * (n : Int))) + (d : Int))) = ((16 * n + d : Nat) : Int) := by
      have := dv_lt hd
      rw [wrap_id (i := 16 * (n : Int)) (by omega) (by omega), wrap_id (by omega) (by omega)]
      omega
    have hw := w1 pre.length (by omega)
    have e2 : pre.length + 1 = (pre ++ [b]).length := by simp
    have ih2 (d : Nat) (hd : dv b = some d) := ih (pre ++ [b]) (16 * n + d) (by rw [hp]; simp) (by have := dv_lt hd; rw [← e2, Nat.pow_succ]; omega)
    have key : F3.spec_l01NRead.j2 (kk + 4 * rest.length + 1 + 3) x4 x5 (i6 : Int) (n : Int) (pre.length : Int) (b.toNat : Int) (-1) (decide (48 ≤ b.toNat ∧ b.toNat ≤ 57)) =
        match ph (b :: rest) n with
        | none => some ([], false)
        | some m => if XL.bits m = (m : Int) then (if x4.length < 35184372088832 then F3.spec_l01NRead.l0 kk (x4 ++ [m]) x5 (wrap64 ((i6 : Int) + 1)) else none) else some ([], false) := by
      simp only [F3.spec_l01NRead.j2, ph]
      by_cases c1 : 48 ≤ b.toNat ∧ b.toNat ≤ 57
      · have hd : dv b = some (b.toNat - 48) := by unfold dv; rw [if_pos c1]
        have e3 : ((b.toNat : Int) - 48) % 256 = ((b.toNat - 48 : Nat) : Int) := by omega
        rw [decide_eq_true c1, if_pos rfl, hd]
        simp only [F3.spec_l01NRead.j3]
        rw [if_neg (by omega)]
        simp only [F3.spec_l01NRead.j4]
        rw [if_neg (by decide), e3, if_neg (by omega), step _ hd, hw, e2]
        exact ih2 _ hd
      · rw [decide_eq_false c1, if_neg (by decide)]
        by_cases c2 : 97 ≤ b.toNat ∧ b.toNat ≤ 102
        · have hd : dv b = some (b.toNat - 87) := by unfold dv; rw [if_neg c1, if_pos c2]
          have e3 : ((b.toNat : Int) - 97) % 256 + 10 = ((b.toNat - 87 : Nat) : Int) := by omega
          rw [hd]
          simp only [F3.spec_l01NRead.j3]
          rw [if_pos (by omega), decide_eq_true (by omega)]
          simp only [F3.spec_l01NRead.j4]
          rw [if_pos trivial, e3, if_neg (by omega), step _ hd, hw, e2]
          exact ih2 _ hd
        · have hd : dv b = none := by unfold dv; rw [if_neg c1, if_neg c2]
          rw [hd]
          simp only [F3.spec_l01NRead.j3]
          by_cases c3 : (b.toNat : Int) ≥ 97
          · rw [if_pos c3, decide_eq_false (by omega)]
            simp only [F3.spec_l01NRead.j4]
            rw [if_neg (by decide), if_pos (by decide)]
          · rw [if_neg c3]
            simp only [F3.spec_l01NRead.j4]
            rw [if_neg (by decide), if_pos (by decide)]
    rw [F3.spec_l01NRead.l1]
    rw [if_pos (by omega), if_pos (by omega), if_pos (by omega), if_pos (by omega), hs, if_pos (by rw [B_size, h8]; omega), hb]
    rw [← key]
    by_cases c4 : (b.toNat : Int) ≥ 48
    · rw [if_pos c4]
      congr 1
      exact decide_eq_decide.2 ⟨fun h => ⟨by omega, by omega⟩, fun h => by omega⟩
    · rw [if_neg c4]
      congr 1
      exact (decide_eq_false (by omega)).symm
theorem spec_parts : ∀ (rest pre : List (List UInt8)) (out : List Nat) (k : Nat), 34 * rest.length < k → pre.length + rest.length ≤ 256 → out.length ≤ pre.length →
    F3.spec_l01NRead.l0 k out ((pre ++ rest).map B) (pre.length : Int) = some (match pns rest with | some l => (out ++ l, true) | none => ([], false)) := by
  intro rest
  induction rest with
  | nil =>
    intro pre out k hk hp ho
    obtain ⟨k, rfl⟩ : ∃ m, k = m + 1 := ⟨k - 1, by omega⟩
    simp only [F3.spec_l01NRead.l0]
    rw [if_neg (by simp)]
    simp [pns]
  | cons p rest ih =>
    intro pre out k hk hp ho
    simp only [List.length_cons] at hk hp
    obtain ⟨k, rfl⟩ : ∃ m, k = m + 4 * 8 + 1 + 1 := ⟨k - 34, by omega⟩
    have hrd : rdOf ByteArray.empty ((pre ++ p :: rest).map B) (pre.length : Int) = B p := by simp [rdOf]
    have hlt : pre.length < ((pre ++ p :: rest).map B).length := by simp
    rw [F3.spec_l01NRead.l0]
    rw [if_pos (by omega), if_pos (by omega), hrd, B_size]
    by_cases h8 : p.length = 8
    · rw [if_pos (by omega)]
      have := spec_dig out ((pre ++ p :: rest).map B) pre.length p hrd hlt h8 k p [] 0 rfl (by simp)
      rw [h8] at this
      simp only [List.length_nil, Int.ofNat_zero] at this
      refine Eq.trans this ?_
      simp only [pns, pn, h8, if_true]
      cases hph : ph p 0 with
      | none => rfl
      | some m =>
        simp only
        by_cases hb : XL.bits m = (m : Int)
        · rw [if_pos hb, if_pos hb, if_pos (by omega), w1 pre.length (by omega)]
          have e : pre ++ p :: rest = (pre ++ [p]) ++ rest := by simp
          have e2 : pre.length + 1 = (pre ++ [p]).length := by simp
          rw [e, e2, ih (pre ++ [p]) (out ++ [m]) k (by omega) (by simp; omega) (by simp; omega)]
          cases pns rest with
          | none => rfl
          | some l => simp
        · rw [if_neg hb, if_neg hb]
    · rw [if_neg (by omega)]
      simp [pns, pn, h8]
/-- The numbers with a text. -/
def RN (s : List UInt8) : Option (List Nat) := if s = [110, 111, 110, 101] then some [] else if (sp 44 s).length ≤ 256 then pns (sp 44 s) else none
theorem B_toList' (s : List UInt8) : (B s).toList = s := by rw [Lib.toList_data, B_toList]
theorem spec_N (s : List UInt8) (k : Nat) (hs : s.length ≤ 1073741824) (hk : s.length + 10000 ≤ k) : F3.spec_l01NRead.f k (B s) = some (numsOf (RN s)) := by
  unfold F3.spec_l01NRead.f RN
  simp only [Option.bind_some]
  rw [B_toList']
  by_cases h : s = [110, 111, 110, 101]
  · rw [if_pos h, if_pos h]
    rfl
  · rw [if_neg h, if_neg h]
    have hc := cut_f s 44 k hs (by omega)
    rw [show ((44 : UInt8).toNat : Int) = 44 from rfl] at hc
    rw [hc]
    simp only [Option.bind_some]
    by_cases h2 : (sp 44 s).length ≤ 256
    · rw [if_neg (by simp; omega), if_pos h2]
      have := spec_parts (sp 44 s) [] [] k (by omega) (by simpa using h2) (by simp)
      simp only [List.nil_append, List.length_nil, Int.ofNat_zero] at this
      refine Eq.trans this ?_
      cases pns (sp 44 s) <;> rfl
    · rw [if_pos (by simp; omega), if_neg h2]
      rfl
abbrev dg : ByteArray := ⟨#[48, 49, 50, 51, 52, 53, 54, 55, 56, 57, 97, 98, 99, 100, 101, 102]⟩
theorem ix_fin : ∀ n : Fin 256, Lib.indexByte dg.data.toList (UInt8.ofNat n.val) = match dv (UInt8.ofNat n.val) with | none => -1 | some d => (d : Int) := by decide +kernel
theorem ix_dv (b : UInt8) : Lib.indexByte dg.data.toList b = match dv b with | none => -1 | some d => (d : Int) := by
  have := ix_fin ⟨b.toNat, b.toNat_lt⟩
  simpa using this
theorem ix_f (b : UInt8) : XP.strings_IndexByte.f dg (b.toNat : Int) = some (match dv b with | none => -1 | some d => (d : Int)) := by
  unfold XP.strings_IndexByte.f XS.strings_IndexByte.f
  rw [← ix_dv b]
  simp
theorem rn_ok (s : List UInt8) (h8 : s.length ≤ 8) : ∀ (rest pre : List UInt8) (n k : Nat), s = pre ++ rest → n < 16 ^ pre.length → rest.length < k →
    F3.impl_readNumber.l0 k (B s) (n : Int) ((B s).size : Int) (pre.length : Int) = match ph rest n with
      | none => some (0, false)
      | some m => if s.length = 8 then some (m, XL.bits m == (m : Int)) else some (m, false) := by
  intro rest
  induction rest with
  | nil =>
    intro pre n k hp hn hk
    rw [List.append_nil] at hp
    subst hp
    obtain ⟨k, rfl⟩ : ∃ m, k = m + 1 := ⟨k - 1, by omega⟩
    have hpw := pw s.length h8
    have hm : ((n : Int) % 4294967296).toNat = n := by omega
    simp only [F3.impl_readNumber.l0]
    rw [if_neg (by rw [B_size]; omega)]
    unfold XM.FromBits.f
    rw [if_pos ⟨by omega, by omega⟩]
    simp only [Option.bind_some, XL.BitsOf.f, hm, ph, B_size]
    by_cases h : s.length = 8
    · rw [if_pos h, if_pos (by omega)]
    · rw [if_neg h, if_neg (by omega)]
  | cons b rest ih =>
    intro pre n k hp hn hk
    simp only [List.length_cons] at hk
    obtain ⟨k, rfl⟩ : ∃ m, k = m + 1 := ⟨k - 1, by omega⟩
    have hlen : pre.length + (rest.length + 1) = s.length := by
      rw [hp]
      simp
    have hb : bt (B s) (pre.length : Int) = (b.toNat : Int) := by rw [hp]; exact bt_mid pre rest b
    have hpw := pw pre.length (by omega)
    simp only [F3.impl_readNumber.l0]
    rw [if_pos (by rw [B_size]; omega), if_pos (by omega), if_pos (by rw [B_size]; omega), hb, ix_f b]
    simp only [Option.bind_some, ph]
    cases hd : dv b with
    | none =>
      simp only
      rw [if_pos (by decide)]
    | some d =>
      have := dv_lt hd
      simp only
      have e1 : wrap64 (wrap64 ((n : Int) * 16) + (d : Int)) = ((16 * n + d : Nat) : Int) := by
        rw [wrap_id (i := (n : Int) * 16) (by omega) (by omega), wrap_id (by omega) (by omega)]
        omega
      have e2 : pre.length + 1 = (pre ++ [b]).length := by simp
      rw [if_neg (by omega), if_neg (by omega), e1, w1 pre.length (by omega), e2]
      exact ih (pre ++ [b]) (16 * n + d) k (by rw [hp]; simp) (by rw [← e2, Nat.pow_succ]; omega) (by omega)
theorem rn_long (s : List UInt8) (h8 : 8 < s.length) : ∀ (d : Nat) (rest pre : List UInt8) (n k : Nat), s = pre ++ rest → pre.length + d = 8 → n < 16 ^ pre.length → d < k →
    ∃ x, F3.impl_readNumber.l0 k (B s) (n : Int) ((B s).size : Int) (pre.length : Int) = some (x, false) := by
  intro d
  induction d with
  | zero =>
    intro rest pre n k hp hd8 hn hk
    obtain ⟨k, rfl⟩ : ∃ m, k = m + 1 := ⟨k - 1, by omega⟩
    cases rest with
    | nil =>
      rw [List.append_nil] at hp
      rw [hp] at h8
      omega
    | cons b rest =>
      have hb : bt (B s) (pre.length : Int) = (b.toNat : Int) := by rw [hp]; exact bt_mid pre rest b
      simp only [F3.impl_readNumber.l0]
      rw [if_pos (by rw [B_size]; omega), if_pos (by omega), if_pos (by rw [B_size]; omega), hb, ix_f b]
      simp only [Option.bind_some]
      cases hd : dv b with
      | none =>
        simp only
        rw [if_pos (by decide)]
        exact ⟨_, rfl⟩
      | some e =>
        simp only
        rw [if_neg (by omega), if_pos (by omega)]
        exact ⟨_, rfl⟩
  | succ d ih =>
    intro rest pre n k hp hd8 hn hk
    obtain ⟨k, rfl⟩ : ∃ m, k = m + 1 := ⟨k - 1, by omega⟩
    cases rest with
    | nil =>
      rw [List.append_nil] at hp
      rw [hp] at h8
      omega
    | cons b rest =>
      have hb : bt (B s) (pre.length : Int) = (b.toNat : Int) := by rw [hp]; exact bt_mid pre rest b
      have hpw := pw pre.length (by omega)
      simp only [F3.impl_readNumber.l0]
      rw [if_pos (by rw [B_size]; omega), if_pos (by omega), if_pos (by rw [B_size]; omega), hb, ix_f b]
      simp only [Option.bind_some]
      cases hd : dv b with
      | none =>
        simp only
        rw [if_pos (by decide)]
        exact ⟨_, rfl⟩
      | some e =>
        have := dv_lt hd
        simp only
        have e1 : wrap64 (wrap64 ((n : Int) * 16) + (e : Int)) = ((16 * n + e : Nat) : Int) := by
          rw [wrap_id (i := (n : Int) * 16) (by omega) (by omega), wrap_id (by omega) (by omega)]
          omega
        have e2 : pre.length + 1 = (pre ++ [b]).length := by simp
        rw [if_neg (by omega), if_neg (by omega), e1, w1 pre.length (by omega), e2]
        exact ih rest (pre ++ [b]) (16 * n + e) k (by rw [hp]; simp) (by rw [← e2]; omega) (by rw [← e2, Nat.pow_succ]; omega) (by omega)
theorem rn_f (s : List UInt8) (k : Nat) (hk : 10 ≤ k) : (∃ m, pn s = some m ∧ F3.impl_readNumber.f k (B s) = some (m, true)) ∨ (pn s = none ∧ ∃ x, F3.impl_readNumber.f k (B s) = some (x, false)) := by
  unfold F3.impl_readNumber.f
  by_cases h : s.length ≤ 8
  · have := rn_ok s h s [] 0 k rfl (by simp) (by omega)
    simp only [List.length_nil, Int.ofNat_zero] at this
    rw [this]
    unfold pn
    cases hp : ph s 0 with
    | none =>
      refine .inr ⟨?_, _, rfl⟩
      split <;> rfl
    | some m =>
      simp only
      by_cases h8 : s.length = 8
      · rw [if_pos h8, if_pos h8]
        by_cases hb : XL.bits m = (m : Int)
        · rw [if_pos hb]
          exact .inl ⟨m, rfl, by rw [beq_iff_eq.2 hb]⟩
        · rw [if_neg hb]
          exact .inr ⟨rfl, m, by rw [beq_eq_false_iff_ne.2 hb]⟩
      · rw [if_neg h8, if_neg h8]
        exact .inr ⟨rfl, _, rfl⟩
  · obtain ⟨x, hx⟩ := rn_long s (by omega) 8 s [] 0 k rfl (by simp) (by simp) (by omega)
    simp only [List.length_nil, Int.ofNat_zero] at hx
    refine .inr ⟨?_, x, hx⟩
    unfold pn
    rw [if_neg (by omega)]
theorem impl_parts : ∀ (rest pre : List (List UInt8)) (out : List Nat) (k : Nat), rest.length + 10 < k → pre.length + rest.length ≤ 1073741825 → out.length = pre.length → out.length ≤ 256 →
    F3.impl_ReadNumbers.l0 k out ((pre ++ rest).map B) (((pre ++ rest).map B).length : Int) (pre.length : Int) = some (if pre.length + rest.length ≤ 256 then match pns rest with | some l => (out ++ l, true) | none => ([], false) else ([], false)) := by
  intro rest
  induction rest with
  | nil =>
    intro pre out k hk hp ho h256
    obtain ⟨k, rfl⟩ : ∃ m, k = m + 1 := ⟨k - 1, by omega⟩
    simp only [F3.impl_ReadNumbers.l0]
    rw [if_neg (by simp), if_pos (by simp; omega)]
    simp [pns]
  | cons p rest ih =>
    intro pre out k hk hp ho h256
    simp only [List.length_cons] at hk hp
    obtain ⟨k, rfl⟩ : ∃ m, k = m + 1 := ⟨k - 1, by omega⟩
    have hrd : rdOf ByteArray.empty ((pre ++ p :: rest).map B) (pre.length : Int) = B p := by simp [rdOf]
    have hlt : (pre.length : Int) < (((pre ++ p :: rest).map B).length : Int) := by simp; omega
    have e : pre ++ p :: rest = (pre ++ [p]) ++ rest := by simp
    have e2 : pre.length + 1 = (pre ++ [p]).length := by simp
    simp only [F3.impl_ReadNumbers.l0]
    rw [if_pos hlt, if_pos (by omega), if_pos hlt, hrd]
    rcases rn_f p k (by omega) with ⟨m, h1, h2⟩ | ⟨h1, x, h2⟩
    · rw [h2]
      simp only [Option.bind_some, pns, h1, if_true]
      by_cases h3 : out.length = 256
      · rw [if_pos (by omega), if_neg (by simp; omega)]
      · rw [if_neg (by omega), if_pos (by omega), w1 pre.length (by omega), e2]
        rw [e, ih (pre ++ [p]) (out ++ [m]) k (by omega) (by simp; omega) (by simp; omega) (by simp; omega)]
        congr 1
        rw [← e2]
        simp only [List.length_cons]
        by_cases h4 : pre.length + (rest.length + 1) ≤ 256
        · rw [if_pos h4, if_pos (by omega)]
          cases pns rest with
          | none => rfl
          | some l => simp
        · rw [if_neg h4, if_neg (by omega)]
    · rw [h2]
      simp only [Option.bind_some, pns, h1]
      rw [if_neg (by decide)]
      split <;> rfl
theorem sp_len (c : UInt8) : ∀ l : List UInt8, (sp c l).length = l.count c + 1
  | [] => by simp [sp]
  | x :: xs => by
    have := sp_len c xs
    unfold sp
    split
    · rename_i h; subst h; simp [this]
    · rename_i h
      split
      · rename_i h2; rw [h2] at this; simp at this
      · rename_i h2; rw [h2] at this; simp only [List.length_cons] at this ⊢; rw [this, List.count_cons_of_ne h]
theorem split_f (s : List UInt8) (c : UInt8) (hs : s.length ≤ 1073741824) : XP.strings_Split.f (B s) ⟨#[c]⟩ = some ((sp c s).map B) := by
  unfold XP.strings_Split.f XS.strings_Split.f
  rw [if_pos (by rw [B_size]; exact hs), if_pos (by exact Nat.le_refl 1), splitB_sp, B_toList]
theorem impl_N (s : List UInt8) (k : Nat) (hs : s.length ≤ 1073741824) (hk : s.length + 10000 ≤ k) : F3.impl_ReadNumbers.f k (B s) = some (numsOf (RN s)) := by
  unfold F3.impl_ReadNumbers.f F3.impl_parted.f RN
  rw [B_toList']
  by_cases h : s = [110, 111, 110, 101]
  · rw [if_pos h, if_pos h]
    simp only [Option.bind_some]
    obtain ⟨k, rfl⟩ : ∃ m, k = m + 1 := ⟨k - 1, by omega⟩
    simp only [F3.impl_ReadNumbers.l0]
    rw [if_neg (by simp)]
    rfl
  · rw [if_neg h, if_neg h, split_f s 44 hs]
    simp only [Option.bind_some]
    have hc : s.count 44 ≤ s.length := List.count_le_length
    have := impl_parts (sp 44 s) [] [] k (by rw [sp_len]; omega) (by rw [sp_len]; simp; omega) rfl (by simp)
    simp only [List.nil_append, List.length_nil, Int.ofNat_zero, Nat.zero_add] at this
    refine Eq.trans this ?_
    congr 1
    split
    · cases pns (sp 44 s) <;> rfl
    · rfl
theorem sp_mem (c : UInt8) : ∀ (s : List UInt8) (b : UInt8), b ∈ s → b = c ∨ ∃ p ∈ sp c s, b ∈ p
  | x :: xs, b, h => by
    have ih := sp_mem c xs
    unfold sp
    split
    · rename_i hx
      rcases List.mem_cons.1 h with rfl | h
      · exact .inl hx
      · rcases ih b h with h | ⟨p, hp, hb⟩
        · exact .inl h
        · exact .inr ⟨p, by simp [hp], hb⟩
    · split
      · rename_i h2; exact absurd h2 (sp_ne c xs)
      · rename_i q qs h2
        rw [h2] at ih
        rcases List.mem_cons.1 h with rfl | h
        · exact .inr ⟨_, List.mem_cons_self .., by simp⟩
        · rcases ih b h with h | ⟨p, hp, hb⟩
          · exact .inl h
          · rcases List.mem_cons.1 hp with rfl | hp
            · exact .inr ⟨_, List.mem_cons_self .., by simp [hb]⟩
            · exact .inr ⟨p, by simp [hp], hb⟩
theorem sp_le (c : UInt8) : ∀ (s : List UInt8) (p : List UInt8), p ∈ sp c s → p.length ≤ s.length
  | [], p, h => by simp [sp] at h; simp [h]
  | x :: xs, p, h => by
    have ih := sp_le c xs
    unfold sp at h
    split at h
    · rcases List.mem_cons.1 h with rfl | h
      · simp
      · have := ih p h; simp; omega
    · split at h
      · rename_i h2; exact absurd h2 (sp_ne c xs)
      · rename_i q qs h2
        rw [h2] at ih
        rcases List.mem_cons.1 h with rfl | h
        · have := ih q (by simp); simp; omega
        · have := ih p (by simp [h]); simp; omega
theorem ph_dv : ∀ (p : List UInt8) (n m : Nat), ph p n = some m → ∀ b ∈ p, ∃ d, dv b = some d
  | b :: r, n, m, h, x, hx => by
    simp only [ph] at h
    cases hd : dv b with
    | none => rw [hd] at h; cases h
    | some d =>
      rw [hd] at h
      rcases List.mem_cons.1 hx with rfl | hx
      · exact ⟨d, hd⟩
      · exact ph_dv r _ m h x hx
theorem pns_dv : ∀ (l : List (List UInt8)) (r : List Nat), pns l = some r → ∀ p ∈ l, ∀ b ∈ p, ∃ d, dv b = some d
  | q :: l, r, h, p, hp, b, hb => by
    simp only [pns] at h
    cases h1 : pn q with
    | none => rw [h1] at h; cases h
    | some m =>
      rw [h1] at h
      cases h2 : pns l with
      | none => rw [h2] at h; cases h
      | some l' =>
        rcases List.mem_cons.1 hp with rfl | hp
        · unfold pn at h1
          split at h1
          · cases h3 : ph p 0 with
            | none => rw [h3] at h1; cases h1
            | some m => exact ph_dv p 0 m h3 b hb
          · cases h1
        · exact pns_dv l l' h2 p hp b hb
theorem RN_no (s : List UInt8) (l : List Nat) (h : RN s = some l) (c : UInt8) (hc : dv c = none) (h44 : c ≠ 44) (hn : c ∉ ([110, 111, 110, 101] : List UInt8)) : c ∉ s := by
  intro hm
  unfold RN at h
  split at h
  · rename_i e
    rw [e] at hm
    exact hn hm
  · split at h
    · rcases sp_mem 44 s c hm with e | ⟨p, hp, hb⟩
      · exact h44 e
      · obtain ⟨d, hd⟩ := pns_dv _ _ h p hp c hb
        rw [hc] at hd
        cases hd
    · cases h
theorem sp_no (c : UInt8) : ∀ s : List UInt8, c ∉ s → sp c s = [s]
  | [], _ => rfl
  | x :: xs, h => by
    simp only [List.mem_cons, not_or] at h
    unfold sp
    rw [if_neg (Ne.symm h.1), sp_no c xs h.2]
theorem RN_59 (s : List UInt8) (l : List Nat) (h : RN s = some l) : (59 : UInt8) ∉ s := RN_no s l h 59 (by decide) (by decide) (by decide)
def codes (l : List UInt8) : List Int := l.map fun b => (b.toNat : Int)
/-- strOfNums of the bytes of a list. -/
theorem strOf_codes (l : List UInt8) : strOfNums (codes l) = B l := by
  unfold strOfNums codes B
  rw [List.map_map]
  congr 2
  conv => rhs; rw [← List.map_id l]
  apply List.map_congr_left
  intro b _
  simp
/-- Digits, with the sign of x0 ahead. -/
def finB (x0 : Int) (D : List UInt8) : ByteArray := if x0 < 0 then B (45 :: D) else B D
theorem digit_code (m : Nat) : ((wrap64 (48 + ((m % 10 : Nat) : Int))) % 256) = ((UInt8.ofNat (48 + m % 10)).toNat : Int) := by
  rw [wrap_id (by omega) (by omega), UInt8.toNat_ofNat_of_lt' (show 48 + m % 10 < 256 by omega)]
  omega
theorem dec_step (x0 : Int) (neg : Bool) (k m : Nat) (D : List UInt8) (hm : m ≤ 9223372036854775807) (hD : D.length ≤ 1000) :
    F3.spec_l01Dec.j1 (k + 1) x0 (codes D) (if neg then -(m : Int) else m) true = F3.spec_l01Dec.l0 k x0 (codes (UInt8.ofNat (48 + m % 10) :: D)) (if neg then -((m / 10 : Nat) : Int) else ((m / 10 : Nat) : Int)) := by
  simp only [F3.spec_l01Dec.j1, if_true]
  have hl : (codes D).length = D.length := by simp [codes]
  cases neg with
  | false =>
    simp only [Bool.false_eq_true, if_false]
    have e1 : Int.tmod (m : Int) 10 = ((m % 10 : Nat) : Int) := by rw [Int.tmod_eq_emod_of_nonneg (by omega)]; omega
    have e2 : Int.tdiv (m : Int) 10 = ((m / 10 : Nat) : Int) := by rw [Int.tdiv_eq_ediv_of_nonneg (by omega)]; omega
    rw [e1, e2, if_neg (by omega)]
    simp only [Option.bind_some, List.length_cons, List.length_nil]
    rw [if_pos (by omega), digit_code m, wrap_id (by omega) (by omega)]
    rfl
  | true =>
    simp only [if_true]
    have e1 : Int.tmod (-(m : Int)) 10 = -((m % 10 : Nat) : Int) := by rw [Int.neg_tmod, Int.tmod_eq_emod_of_nonneg (by omega)]; omega
    have e2 : Int.tdiv (-(m : Int)) 10 = -((m / 10 : Nat) : Int) := by rw [Int.neg_tdiv, Int.tdiv_eq_ediv_of_nonneg (by omega)]; omega
    rw [e1, e2]
    by_cases h0 : m % 10 = 0
    · rw [if_neg (by omega)]
      simp only [Option.bind_some, List.length_cons, List.length_nil]
      have e3 : (48 : Int) + -((m % 10 : Nat) : Int) = 48 + ((m % 10 : Nat) : Int) := by omega
      rw [if_pos (by omega), e3, digit_code m, wrap_id (by omega) (by omega)]
      rfl
    · rw [if_pos (by omega)]
      simp only [Option.bind_some, List.length_cons, List.length_nil]
      have e3 : wrap64 (-(-((m % 10 : Nat) : Int))) = ((m % 10 : Nat) : Int) := by rw [wrap_id (by omega) (by omega)]; omega
      rw [if_pos (by omega), e3, digit_code m, wrap_id (by omega) (by omega)]
      rfl
theorem dec_l0 (x0 : Int) (neg : Bool) : ∀ (e k m : Nat) (D : List UInt8), m < 10 ^ e → 2 * e + 3 < k → m ≤ 9223372036854775807 → D.length + e ≤ 1000 → D ≠ [] →
    F3.spec_l01Dec.l0 k x0 (codes D) (if neg then -(m : Int) else m) = some (finB x0 (if m = 0 then D else Lib.decDigits m ++ D)) := by
  intro e
  induction e with
  | zero =>
    intro k m D hm hk _ hl hD
    have : m = 0 := by simpa using hm
    subst this
    obtain ⟨k, rfl⟩ : ∃ j, k = j + 2 := ⟨k - 2, by omega⟩
    have hDl : 0 < D.length := List.length_pos_iff.2 hD
    have hl : (codes D).length = D.length := by simp [codes]
    have e0 : (if neg then -((0 : Nat) : Int) else ((0 : Nat) : Int)) = 0 := by cases neg <;> rfl
    rw [e0]
    simp only [F3.spec_l01Dec.l0]
    rw [if_neg (by omega)]
    simp only [F3.spec_l01Dec.j1, bne_self_eq_false, Bool.false_eq_true, if_false, if_true]
    unfold finB
    by_cases hx : x0 < 0
    · rw [if_pos hx, if_pos hx]
      simp only [Option.bind_some, List.length_cons, List.length_nil]
      rw [if_pos (by omega)]
      exact congrArg some (strOf_codes (45 :: D))
    · rw [if_neg hx, if_neg hx, strOf_codes]
  | succ e ih =>
    intro k m D hm hk hb hl hD
    by_cases h0 : m = 0
    · subst h0
      exact (ih k 0 D (Nat.pow_pos (by decide)) (by omega) (by omega) (by omega) hD)
    obtain ⟨k, rfl⟩ : ∃ j, k = j + 2 := ⟨k - 2, by omega⟩
    have hDl : 0 < D.length := List.length_pos_iff.2 hD
    have hcl : (codes D).length = D.length := by simp [codes]
    have hne : ((if neg then -(m : Int) else (m : Int)) != 0) = true := by
      cases neg <;> simp [h0]
    conv => lhs; simp only [F3.spec_l01Dec.l0]
    rw [if_neg (by omega), hne, dec_step x0 neg k m D hb (by omega)]
    rw [ih k (m / 10) _ (by rw [Nat.pow_succ] at hm; omega) (by omega) (by omega) (by simp only [List.length_cons]; omega) (by simp)]
    rw [if_neg h0]
    congr 2
    conv => rhs; rw [Lib.decDigits]
    by_cases h10 : m < 10
    · rw [if_pos (by omega), dif_pos h10, Nat.mod_eq_of_lt h10]; rfl
    · rw [if_neg (by omega), dif_neg h10]; simp
theorem dec_f (n : Int) (k : Nat) (hk : 60 < k) (h0 : -9223372036854775807 ≤ n) (h1 : n ≤ 9223372036854775807) : F3.spec_l01Dec.f k n = some (B (Lib.itoa n)) := by
  obtain ⟨k, rfl⟩ : ∃ j, k = j + 2 := ⟨k - 2, by omega⟩
  unfold F3.spec_l01Dec.f
  have e : n = if decide (n < 0) then -((n.natAbs : Nat) : Int) else ((n.natAbs : Nat) : Int) := by
    by_cases h : n < 0
    · rw [if_pos (decide_eq_true h)]; omega
    · rw [if_neg (by simpa using h)]; omega
  conv => lhs; simp only [F3.spec_l01Dec.l0, List.length_nil]
  rw [if_pos (show ((0 : Nat) : Int) = 0 from rfl)]
  have h2 := dec_step n (decide (n < 0)) k n.natAbs [] (by omega) (by simp)
  rw [← e] at h2
  rw [show (([] : List Int)) = codes [] from rfl, h2]
  rw [dec_l0 n (decide (n < 0)) 19 k (n.natAbs / 10) _ (by omega) (by omega) (by omega) (by simp) (by simp)]
  congr 1
  unfold finB Lib.itoa
  have e3 : (if n.natAbs / 10 = 0 then [UInt8.ofNat (48 + n.natAbs % 10)] else Lib.decDigits (n.natAbs / 10) ++ [UInt8.ofNat (48 + n.natAbs % 10)]) = Lib.decDigits n.natAbs := by
    conv => rhs; rw [Lib.decDigits]
    by_cases h10 : n.natAbs < 10
    · rw [if_pos (by omega), dif_pos h10, Nat.mod_eq_of_lt h10]
    · rw [if_neg (by omega), dif_neg h10]
  rw [e3]
  by_cases h : n < 0
  · rw [if_pos h, if_pos h]
  · rw [if_neg h, if_neg h]
    congr 2
    omega
theorem dec_len : ∀ (e u : Nat), u < 10 ^ (e + 1) → (Lib.decDigits u).length ≤ e + 1 := by
  intro e
  induction e with
  | zero =>
    intro u h
    rw [Lib.decDigits, dif_pos (by simpa using h)]
    simp
  | succ e ih =>
    intro u h
    rw [Lib.decDigits]
    split
    · simp
    · have := ih (u / 10) (by rw [Nat.pow_succ] at h; omega)
      simp only [List.length_append, List.length_cons, List.length_nil]
      omega
/-- Digits, read; other bytes passed over. -/
def dfold (n : Nat) : List UInt8 → Nat
  | [] => n
  | b :: r => if 48 ≤ b.toNat ∧ b.toNat ≤ 57 then dfold (10 * n + (b.toNat - 48)) r else dfold n r
theorem dfold_app (n : Nat) : ∀ (l r : List UInt8), dfold n (l ++ r) = dfold (dfold n l) r := by
  intro l
  induction l generalizing n with
  | nil => intro r; rfl
  | cons b l ih =>
    intro r
    simp only [List.cons_append, dfold]
    split
    · exact ih _ r
    · exact ih _ r
theorem digit_nat (m : Nat) : (UInt8.ofNat (48 + m % 10)).toNat = 48 + m % 10 := by
  have : m % 10 < 10 := Nat.mod_lt _ (by omega)
  rw [UInt8.toNat_ofNat']
  exact Nat.mod_eq_of_lt (by omega)
theorem dec_fold : ∀ u : Nat, dfold 0 (Lib.decDigits u) = u ∧ ∀ b ∈ Lib.decDigits u, 48 ≤ b.toNat ∧ b.toNat ≤ 57 := by
  intro u
  induction u using Nat.strongRecOn with
  | ind u ih =>
    rw [Lib.decDigits]
    by_cases h : u < 10
    · rw [dif_pos h]
      have e : (UInt8.ofNat (48 + u)).toNat = 48 + u := by
        have := digit_nat u
        rwa [Nat.mod_eq_of_lt h] at this
      refine ⟨?_, ?_⟩
      · simp only [dfold, e]
        rw [if_pos (by omega)]
        omega
      · intro b hb
        rw [List.mem_singleton] at hb
        subst hb
        rw [e]
        omega
    · rw [dif_neg h]
      obtain ⟨h1, h2⟩ := ih (u / 10) (by omega)
      have hm : u % 10 < 10 := Nat.mod_lt _ (by omega)
      refine ⟨?_, ?_⟩
      · rw [dfold_app, h1]
        simp only [dfold, digit_nat]
        rw [if_pos (by omega)]
        omega
      · intro b hb
        rcases List.mem_append.1 hb with hb | hb
        · exact h2 b hb
        · rw [List.mem_singleton] at hb
          subst hb
          rw [digit_nat]
          omega
theorem pum_app (M : Nat) : ∀ (l r : List UInt8) (acc a : Nat), Lib.parseUintM M acc l = .ok a → Lib.parseUintM M acc (l ++ r) = Lib.parseUintM M a r := by
  intro l
  induction l with
  | nil => intro r acc a h; simp only [Lib.parseUintM] at h; cases h; rfl
  | cons c l ih =>
    intro r acc a h
    simp only [List.cons_append, Lib.parseUintM] at h ⊢
    split at h
    · rename_i h1
      rw [if_pos h1]
      split at h
      · cases h
      · rename_i h2
        rw [if_neg h2]
        split at h
        · cases h
        · rename_i h3
          rw [if_neg h3]
          exact ih r _ a h
    · cases h
theorem pum_dec (M : Nat) (hM : 1000000000000000 ≤ M) : ∀ u : Nat, u ≤ 1000000000000000 → Lib.parseUintM M 0 (Lib.decDigits u) = .ok u := by
  intro u
  induction u using Nat.strongRecOn with
  | ind u ih =>
    intro hu
    rw [Lib.decDigits]
    by_cases h : u < 10
    · rw [dif_pos h]
      have e : (UInt8.ofNat (48 + u)).toNat = 48 + u := by
        have := digit_nat u
        rwa [Nat.mod_eq_of_lt h] at this
      simp only [Lib.parseUintM, e]
      rw [if_pos (by omega), if_neg (by omega), if_neg (by omega)]
      congr 1
      omega
    · rw [dif_neg h]
      have hm : u % 10 < 10 := Nat.mod_lt _ (by omega)
      rw [pum_app M _ _ 0 (u / 10) (ih (u / 10) (by omega) (by omega))]
      simp only [Lib.parseUintM, digit_nat]
      rw [if_pos (by omega), if_neg (by omega), if_neg (by omega)]
      congr 1
      omega
theorem dec_ne (u : Nat) : Lib.decDigits u ≠ [] := by
  rw [Lib.decDigits]
  split <;> simp
theorem dec_cons (u : Nat) : ∃ b r, Lib.decDigits u = b :: r ∧ 48 ≤ b.toNat ∧ b.toNat ≤ 57 := by
  cases h : Lib.decDigits u with
  | nil => exact absurd h (dec_ne u)
  | cons b r => exact ⟨b, r, rfl, (dec_fold u).2 b (by rw [h]; simp)⟩
/-- The number that a text tells, before it is told again. -/
def dnum (s : List UInt8) : Int := if s.head? = some 45 then -(dfold 0 s : Int) else (dfold 0 s : Int)
theorem dnum_itoa (n : Int) : dnum (Lib.itoa n) = n := by
  unfold dnum
  by_cases h : n < 0
  · obtain ⟨u, rfl⟩ : ∃ u : Nat, n = -(u : Int) := ⟨n.natAbs, by omega⟩
    rw [Lib.itoa_neg u (by omega)]
    simp only [List.head?_cons, if_true, dfold]
    rw [if_neg (by decide), (dec_fold u).1]
  · obtain ⟨u, rfl⟩ : ∃ u : Nat, n = u := ⟨n.toNat, by omega⟩
    rw [Lib.itoa_nonneg]
    obtain ⟨b, r, e, h1, h2⟩ := dec_cons u
    rw [if_neg, (dec_fold u).1]
    rw [e]
    simp only [List.head?_cons, Option.some.injEq]
    rintro rfl
    revert h1
    decide
theorem parse_itoa (n : Int) (h0 : -1000000000000000 ≤ n) (h1 : n ≤ 1000000000000000) : Lib.parseIntB 64 (Lib.itoa n) = .ok n := by
  by_cases h : n < 0
  · obtain ⟨u, rfl⟩ : ∃ u : Nat, n = -(u : Int) := ⟨n.natAbs, by omega⟩
    rw [Lib.itoa_neg u (by omega)]
    have hp : Lib.parseUintB 64 (Lib.decDigits u) = .ok u := by
      unfold Lib.parseUintB
      rw [if_neg (dec_ne u)]
      exact pum_dec _ (by decide) u (by omega)
    unfold Lib.parseIntB
    simp only [show (45 : UInt8).toNat = 45 from rfl, or_true, if_true, hp]
    rw [if_neg (by omega)]
    simp
    omega
  · obtain ⟨u, rfl⟩ : ∃ u : Nat, n = u := ⟨n.toNat, by omega⟩
    rw [Lib.itoa_nonneg]
    obtain ⟨b, r, e, h2, h3⟩ := dec_cons u
    have hp : Lib.parseUintB 64 (Lib.decDigits u) = .ok u := by
      unfold Lib.parseUintB
      rw [if_neg (dec_ne u)]
      exact pum_dec _ (by decide) u (by omega)
    rw [e] at hp ⊢
    unfold Lib.parseIntB
    simp only
    have hb45 : ¬ b.toNat = 45 := by omega
    rw [if_neg (by omega), hp]
    simp only
    rw [if_neg (by omega), if_neg (fun h => hb45 h.1), if_neg hb45]
theorem itoa_len17 (n : Int) (h0 : -1000000000000000 ≤ n) (h1 : n ≤ 1000000000000000) : 1 ≤ (Lib.itoa n).length ∧ (Lib.itoa n).length ≤ 17 := by
  by_cases h : n < 0
  · obtain ⟨u, rfl⟩ : ∃ u : Nat, n = -(u : Int) := ⟨n.natAbs, by omega⟩
    rw [Lib.itoa_neg u (by omega)]
    have := dec_len 15 u (by omega)
    simp only [List.length_cons]
    omega
  · obtain ⟨u, rfl⟩ : ∃ u : Nat, n = u := ⟨n.toNat, by omega⟩
    rw [Lib.itoa_nonneg]
    have := dec_len 15 u (by omega)
    have := List.length_pos_iff.2 (dec_ne u)
    omega
/-- The number with a text. -/
def VS (s : List UInt8) : Option Int := if (-1000000000000000 ≤ dnum s ∧ dnum s ≤ 1000000000000000) ∧ Lib.itoa (dnum s) = s then some (dnum s) else none
theorem impl_V (s : List UInt8) (hs : s.length ≤ 1073741824) : XP.ReadDecimal.f (B s) = some (match VS s with | some n => (n, true) | none => (0, false)) := by
  unfold XP.ReadDecimal.f XP.rdec VS
  rw [if_pos (by rw [B_size]; exact hs), B_toList, B_toList']
  by_cases h : (-1000000000000000 ≤ dnum s ∧ dnum s ≤ 1000000000000000) ∧ Lib.itoa (dnum s) = s
  · rw [if_pos h]
    have e := parse_itoa (dnum s) h.1.1 h.1.2
    rw [h.2] at e
    rw [e]
    simp only
    rw [if_pos h]
  · rw [if_neg h]
    cases hp : Lib.parseIntB 64 s with
    | ok v =>
      simp only
      rw [if_neg]
      rintro ⟨h1, h2⟩
      apply h
      have : dnum s = v := by rw [← h2]; exact dnum_itoa v
      rw [this]
      exact ⟨h1, h2⟩
    | «syntax» => rfl
    | range => rfl
theorem dfold_lt : ∀ (l : List UInt8) (n e : Nat), n < 10 ^ e → dfold n l < 10 ^ (e + l.length)
  | [], n, e, h => by simpa [dfold] using h
  | b :: r, n, e, h => by
    simp only [dfold, List.length_cons]
    split
    · have := dfold_lt r (10 * n + (b.toNat - 48)) (e + 1) (by rw [Nat.pow_succ]; omega)
      rwa [show e + (r.length + 1) = e + 1 + r.length by omega]
    · have := dfold_lt r n (e + 1) (by rw [Nat.pow_succ]; omega)
      rwa [show e + (r.length + 1) = e + 1 + r.length by omega]
theorem pw10 (e : Nat) (h : e ≤ 17) : 10 ^ e ≤ 100000000000000000 := by
  have : 10 ^ e ≤ 10 ^ 17 := Nat.pow_le_pow_right (by omega) h
  simpa using this
theorem spec_vl (s : List UInt8) (h17 : s.length ≤ 17) (h1 : 1 ≤ s.length) (kk : Nat) : ∀ (rest pre : List UInt8) (n : Nat), s = pre ++ rest → n < 10 ^ pre.length → n = dfold 0 pre →
    F3.spec_l01Value.l0 (kk + rest.length + 1) (B s) (n : Int) (pre.length : Int) = F3.spec_l01Value.j2 kk (B s) (dnum s) := by
  intro rest
  induction rest with
  | nil =>
    intro pre n hp hn hd
    rw [List.append_nil] at hp
    subst hp
    have := pw10 s.length h17
    simp only [List.length_nil, Nat.add_zero, F3.spec_l01Value.l0]
    rw [if_neg (by rw [B_size]; omega), if_pos (by rw [B_size]; omega)]
    cases s with
    | nil => simp at h1
    | cons b r =>
      have hb : bt (B (b :: r)) 0 = (b.toNat : Int) := by
        have := bt_mid [] r b
        simpa using this
      rw [hb]
      unfold dnum
      simp only [List.head?_cons, Option.some.injEq]
      by_cases hb45 : b = 45
      · rw [if_pos (by rw [hb45]; rfl), if_pos hb45, wrap_id (by omega) (by omega), hd]
      · rw [if_neg (by intro e; apply hb45; apply UInt8.toNat_inj.1; have : (45 : UInt8).toNat = 45 := rfl; omega), if_neg hb45, hd]
  | cons b rest ih =>
    intro pre n hp hn hd
    have hlen : pre.length + (rest.length + 1) = s.length := by
      rw [hp]
      simp
    have hb : bt (B s) (pre.length : Int) = (b.toNat : Int) := by rw [hp]; exact bt_mid pre rest b
    have hpw := pw10 (pre.length + 1) (by omega)
    rw [Nat.pow_succ] at hpw
    have hpe : n * 10 < 10 ^ pre.length * 10 := by omega
    have e2 : pre.length + 1 = (pre ++ [b]).length := by simp
    have hbl : b.toNat < 256 := b.toNat_lt
    rw [List.length_cons, show kk + (rest.length + 1) + 1 = (kk + rest.length + 1) + 1 by omega]
    rw [F3.spec_l01Value.l0]
    rw [if_pos (by rw [B_size]; omega), if_pos (by omega), hb, w1 pre.length (by omega)]
    have hds : dfold 0 (pre ++ [b]) = dfold n [b] := by rw [dfold_app, ← hd]
    by_cases c1 : (b.toNat : Int) ≥ 48
    · rw [if_pos c1]
      by_cases c2 : (b.toNat : Int) ≤ 57
      · rw [if_pos c2]
        have e1 : wrap64 (wrap64 (10 * (n : Int)) + ((b.toNat : Int) - 48) % 256) = ((10 * n + (b.toNat - 48) : Nat) : Int) := by
          rw [wrap_id (i := 10 * (n : Int)) (by omega) (by omega), wrap_id (by omega) (by omega)]
          omega
        rw [e1, e2]
        refine ih (pre ++ [b]) _ (by rw [hp]; simp) (by rw [← e2, Nat.pow_succ]; omega) ?_
        rw [hds]
        simp only [dfold]
        rw [if_pos (by omega)]
      · rw [if_neg c2, e2]
        refine ih (pre ++ [b]) _ (by rw [hp]; simp) (by rw [← e2, Nat.pow_succ]; omega) ?_
        rw [hds]
        simp only [dfold]
        rw [if_neg (by omega)]
    · rw [if_neg c1, e2]
      refine ih (pre ++ [b]) _ (by rw [hp]; simp) (by rw [← e2, Nat.pow_succ]; omega) ?_
      rw [hds]
      simp only [dfold]
      rw [if_neg (by omega)]
theorem spec_V (s : List UInt8) (k : Nat) (hs : s.length ≤ 1073741824) (hk : 200 ≤ k) : F3.spec_l01Value.f k (B s) = some (match VS s with | some n => (n, true) | none => (0, false)) := by
  obtain ⟨k, rfl⟩ : ∃ m, k = m + 1 := ⟨k - 1, by omega⟩
  have hno : ¬ (1 ≤ s.length ∧ s.length ≤ 17) → VS s = none := by
    intro h
    unfold VS
    rw [if_neg]
    rintro ⟨h1, h2⟩
    have := itoa_len17 (dnum s) h1.1 h1.2
    rw [h2] at this
    exact h this
  unfold F3.spec_l01Value.f
  by_cases h1 : s.length < 1
  · rw [if_pos (by rw [B_size]; omega), hno (by omega)]
    simp only [F3.spec_l01Value.j0, if_true]
  · rw [if_neg (by rw [B_size]; omega)]
    by_cases h2 : s.length > 17
    · rw [decide_eq_true (by rw [B_size]; omega), hno (by omega)]
      simp only [F3.spec_l01Value.j0, if_true]
    · rw [decide_eq_false (by rw [B_size]; omega)]
      simp only [F3.spec_l01Value.j0]
      rw [if_neg (by decide)]
      obtain ⟨kk, rfl⟩ : ∃ kk, k = kk + s.length + 1 := ⟨k - s.length - 1, by omega⟩
      have := spec_vl s (by omega) (by omega) kk s [] 0 rfl (by simp) rfl
      simp only [List.length_nil, Int.ofNat_zero] at this
      refine Eq.trans this ?_
      obtain ⟨kk, rfl⟩ : ∃ m, kk = m + 1 := ⟨kk - 1, by omega⟩
      simp only [F3.spec_l01Value.j2, F3.spec_l00In.f]
      unfold VS
      by_cases c1 : dnum s ≥ -1000000000000000
      · rw [if_pos c1]
        simp only [Option.bind_some]
        by_cases c2 : dnum s ≤ 1000000000000000
        · rw [decide_eq_true c2, if_pos rfl, dec_f (dnum s) kk (by omega) (by omega) (by omega)]
          simp only [Option.bind_some]
          rw [B_toList', B_toList']
          by_cases c3 : Lib.itoa (dnum s) = s
          · rw [if_pos c3, if_pos ⟨⟨by omega, c2⟩, c3⟩]
          · rw [if_neg c3, if_neg (fun h => c3 h.2)]
        · rw [decide_eq_false c2, if_neg (by decide), if_neg (fun h => c2 h.1.2)]
      · rw [if_neg c1]
        simp only [Option.bind_some]
        rw [if_neg (by decide), if_neg (fun h => c1 h.1.1)]
def vss : List (List UInt8) → Option (List Int)
  | [] => some []
  | p :: r => match VS p with
    | none => none
    | some m => match vss r with
      | none => none
      | some l => some (m :: l)
def intsOf (o : Option (List Int)) : List Int × Bool := match o with
  | some l => (l, true)
  | none => ([], false)
theorem spec_iparts (N : Nat) (hN : N ≤ 1073741824) : ∀ (rest pre : List (List UInt8)) (out : List Int) (k : Nat), (∀ p ∈ rest, p.length ≤ N) → rest.length + 210 < k → pre.length + rest.length ≤ 64 → out.length ≤ pre.length →
    F3.spec_l01Numbers.l0 k out ((pre ++ rest).map B) (pre.length : Int) = some (match vss rest with | some l => (out ++ l, true) | none => ([], false)) := by
  intro rest
  induction rest with
  | nil =>
    intro pre out k hm hk hp ho
    obtain ⟨k, rfl⟩ : ∃ m, k = m + 1 := ⟨k - 1, by omega⟩
    simp only [F3.spec_l01Numbers.l0]
    rw [if_neg (by simp)]
    simp [vss]
  | cons p rest ih =>
    intro pre out k hm hk hp ho
    simp only [List.length_cons] at hk hp
    obtain ⟨k, rfl⟩ : ∃ m, k = m + 1 := ⟨k - 1, by omega⟩
    have hrd : rdOf ByteArray.empty ((pre ++ p :: rest).map B) (pre.length : Int) = B p := by simp [rdOf]
    have hlt : (pre.length : Int) < (((pre ++ p :: rest).map B).length : Int) := by simp; omega
    have e : pre ++ p :: rest = (pre ++ [p]) ++ rest := by simp
    have e2 : pre.length + 1 = (pre ++ [p]).length := by simp
    have hpN := hm p (by simp)
    simp only [F3.spec_l01Numbers.l0]
    rw [if_pos hlt, if_pos (by omega), hrd, spec_V p k (by omega) (by omega)]
    simp only [Option.bind_some, vss]
    cases VS p with
    | none => rfl
    | some v =>
      simp only [if_true]
      rw [if_pos (by omega), w1 pre.length (by omega), e2, e, ih (pre ++ [p]) (out ++ [v]) k (fun q hq => hm q (by simp [hq])) (by omega) (by simp; omega) (by simp; omega)]
      cases vss rest with
      | none => rfl
      | some l => simp
theorem impl_iparts (N : Nat) (hN : N ≤ 1073741824) : ∀ (rest pre : List (List UInt8)) (out : List Int) (k : Nat), (∀ p ∈ rest, p.length ≤ N) → rest.length + 10 < k → pre.length + rest.length ≤ 1073741825 → out.length = pre.length → out.length ≤ 64 →
    F3.impl_ReadList.l0 k out ((pre ++ rest).map B) (((pre ++ rest).map B).length : Int) (pre.length : Int) = some (if pre.length + rest.length ≤ 64 then match vss rest with | some l => (out ++ l, true) | none => ([], false) else ([], false)) := by
  intro rest
  induction rest with
  | nil =>
    intro pre out k hm hk hp ho h64
    obtain ⟨k, rfl⟩ : ∃ m, k = m + 1 := ⟨k - 1, by omega⟩
    simp only [F3.impl_ReadList.l0]
    rw [if_neg (by simp), if_pos (by simp; omega)]
    simp [vss]
  | cons p rest ih =>
    intro pre out k hm hk hp ho h64
    simp only [List.length_cons] at hk hp
    obtain ⟨k, rfl⟩ : ∃ m, k = m + 1 := ⟨k - 1, by omega⟩
    have hrd : rdOf ByteArray.empty ((pre ++ p :: rest).map B) (pre.length : Int) = B p := by simp [rdOf]
    have hlt : (pre.length : Int) < (((pre ++ p :: rest).map B).length : Int) := by simp; omega
    have e : pre ++ p :: rest = (pre ++ [p]) ++ rest := by simp
    have e2 : pre.length + 1 = (pre ++ [p]).length := by simp
    have hpN := hm p (by simp)
    simp only [F3.impl_ReadList.l0]
    rw [if_pos hlt, if_pos (by omega), if_pos hlt, hrd, impl_V p (by omega)]
    simp only [Option.bind_some, vss]
    cases VS p with
    | none =>
      simp only
      rw [if_neg (by decide)]
      split <;> rfl
    | some v =>
      simp only [if_true]
      by_cases h3 : out.length = 64
      · rw [if_pos (by omega), if_neg (by simp; omega)]
      · rw [if_neg (by omega), if_pos (by omega), w1 pre.length (by omega), e2]
        rw [e, ih (pre ++ [p]) (out ++ [v]) k (fun q hq => hm q (by simp [hq])) (by omega) (by simp; omega) (by simp; omega) (by simp; omega)]
        congr 1
        rw [← e2]
        simp only [List.length_cons]
        by_cases h4 : pre.length + (rest.length + 1) ≤ 64
        · rw [if_pos h4, if_pos (by omega)]
          cases vss rest with
          | none => rfl
          | some l => simp
        · rw [if_neg h4, if_neg (by omega)]
/-- The whole numbers with a text. -/
def RI (s : List UInt8) : Option (List Int) := if s = [110, 111, 110, 101] then some [] else if (sp 44 s).length ≤ 64 then vss (sp 44 s) else none
theorem spec_I (s : List UInt8) (k : Nat) (hs : s.length ≤ 1073741824) (hk : s.length + 10000 ≤ k) : F3.spec_l01Numbers.f k (B s) = some (intsOf (RI s)) := by
  unfold F3.spec_l01Numbers.f RI
  simp only [Option.bind_some]
  rw [B_toList']
  by_cases h : s = [110, 111, 110, 101]
  · rw [if_pos h, if_pos h]
    rfl
  · rw [if_neg h, if_neg h]
    have hc := cut_f s 44 k hs (by omega)
    rw [show ((44 : UInt8).toNat : Int) = 44 from rfl] at hc
    rw [hc]
    simp only [Option.bind_some]
    by_cases h2 : (sp 44 s).length ≤ 64
    · rw [if_neg (by simp; omega), if_pos h2]
      have := spec_iparts s.length hs (sp 44 s) [] [] k (sp_le 44 s) (by omega) (by simpa using h2) (by simp)
      simp only [List.nil_append, List.length_nil, Int.ofNat_zero] at this
      refine Eq.trans this ?_
      cases vss (sp 44 s) <;> rfl
    · rw [if_pos (by simp; omega), if_neg h2]
      rfl
theorem impl_I (s : List UInt8) (k : Nat) (hs : s.length ≤ 1073741824) (hk : s.length + 10000 ≤ k) : F3.impl_ReadList.f k (B s) = some (intsOf (RI s)) := by
  unfold F3.impl_ReadList.f F3.impl_parted.f RI
  rw [B_toList']
  by_cases h : s = [110, 111, 110, 101]
  · rw [if_pos h, if_pos h]
    simp only [Option.bind_some]
    obtain ⟨k, rfl⟩ : ∃ m, k = m + 1 := ⟨k - 1, by omega⟩
    simp only [F3.impl_ReadList.l0]
    rw [if_neg (by simp)]
    rfl
  · rw [if_neg h, if_neg h, split_f s 44 hs]
    simp only [Option.bind_some]
    have hc : s.count 44 ≤ s.length := List.count_le_length
    have := impl_iparts s.length hs (sp 44 s) [] [] k (sp_le 44 s) (by rw [sp_len]; omega) (by rw [sp_len]; simp; omega) rfl (by simp)
    simp only [List.nil_append, List.length_nil, Int.ofNat_zero, Nat.zero_add] at this
    refine Eq.trans this ?_
    congr 1
    split
    · cases vss (sp 44 s) <;> rfl
    · rfl
end Go.Proofs.YtifegijnfnjboaaDoor.PNB
