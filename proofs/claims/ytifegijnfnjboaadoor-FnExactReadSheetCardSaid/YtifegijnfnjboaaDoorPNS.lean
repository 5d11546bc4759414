/- Plain laws on texts of numbers that are read: the reference's loops and the program's come to the same lists. No memory in sight. -/
import Derived.Test.YtifegijnfnjboaaDoorF24
import Derived.Test.YtifegijnfnjboaaDoorT
set_option linter.unusedVariables false
namespace Go.Proofs.YtifegijnfnjboaaDoor.PNS
open Go.RowKit Go.Proofs.YtifegijnfnjboaaDoor Go.Proofs.YtifegijnfnjboaaDoorW.PrintWords Go.Proofs.YtifegijnfnjboaaDoorW.PrintLast Go.Proofs.YtifegijnfnjboaaDoorW.PrintMore
open T XF XL XW FA F2

theorem w1 (i : Nat) (h : i ≤ 9223372036854775806) : wrap64 ((i : Int) + 1) = ((i + 1 : Nat) : Int) := by rw [wrap_id (by omega) (by omega)]; rfl
theorem bt_nat (s : ByteArray) (i : Nat) (h : i < s.size) : bt s (i : Int) = ((s.data.toList[i]'(by rw [← size_list]; exact h)).toNat : Int) := by
  unfold bt
  rw [dif_pos (by simpa using h)]
  simp only [Int.toNat_natCast]
  rfl
theorem bt_mid (p r : List UInt8) (b : UInt8) : bt (B (p ++ b :: r)) (p.length : Int) = (b.toNat : Int) := by
  rw [bt_nat _ _ (by rw [B_size]; simp)]
  simp [B]
/-- The loop of l01Cut: from the piece that begins at `from`, no mark between it and i. -/
theorem cut_l0 (s : ByteArray) (c : UInt8) (hs : s.size ≤ 1073741824) : ∀ (d k i fr : Nat) (out : List ByteArray), fr ≤ i → i ≤ s.size → s.size - i = d → d + 1 < k → out.length ≤ fr →
    F2.spec_l01Cut.l0 k s (c.toNat : Int) out (fr : Int) (i : Int) = some (out ++ (spp c ((s.data.toList.drop fr).take (i - fr)) (s.data.toList.drop i)).map B) := by
  intro d
  induction d with
  | zero =>
    intro k i fr out hfi hi hd hk ho
    obtain ⟨k, rfl⟩ : ∃ m, k = m + 2 := ⟨k - 2, by omega⟩
    have e : i = s.size := by omega
    subst e
    have hw : wrap64 ((s.size : Int) + 1) = ((s.size + 1 : Nat) : Int) := by rw [wrap_id (by omega) (by omega)]; rfl
    simp only [F2.spec_l01Cut.l0]
    rw [if_pos (Int.le_refl _), if_pos trivial, if_pos (by omega), if_pos (by omega), if_pos (by omega), hw, if_neg (by omega)]
    have hn : s.data.toList.drop s.size = [] := by rw [size_list]; simp
    rw [hn, spp_nil]
    simp only [Int.toNat_natCast, List.map_cons, List.map_nil, extract_B]
  | succ d ih =>
    intro k i fr out hfi hi hd hk ho
    obtain ⟨k, rfl⟩ : ∃ m, k = m + 1 := ⟨k - 1, by omega⟩
    have hlt : i < s.size := by omega
    have hlt' : i < s.data.toList.length := by rw [← size_list]; exact hlt
    have hw : wrap64 ((i : Int) + 1) = ((i + 1 : Nat) : Int) := by rw [wrap_id (by omega) (by omega)]; rfl
    simp only [F2.spec_l01Cut.l0]
    rw [if_pos (by omega), if_neg (by omega), if_pos (by omega), if_pos (by omega), bt_nat s i hlt]
    have hdrop : s.data.toList.drop i = s.data.toList[i] :: s.data.toList.drop (i + 1) := List.drop_eq_getElem_cons hlt'
    by_cases hc : s.data.toList[i] = c
    · rw [hc, if_pos rfl, if_pos (by omega), if_pos (by omega), if_pos (by omega), hw]
      rw [ih k (i + 1) (i + 1) _ (Nat.le_refl _) (by omega) (by omega) (by omega) (by simp; omega)]
      rw [hdrop, hc, spp_hit, Nat.sub_self, List.take_zero, spp_start]
      simp [extract_B]
    · rw [if_neg (fun h => hc (UInt8.toNat_inj.1 (by omega))), hw]
      rw [ih k (i + 1) fr _ (by omega) (by omega) (by omega) (by omega) ho]
      rw [hdrop, spp_miss c _ _ _ hc]
      have : (s.data.toList.drop fr).take (i + 1 - fr) = (s.data.toList.drop fr).take (i - fr) ++ [s.data.toList[i]] := by
        rw [show i + 1 - fr = (i - fr) + 1 by omega, List.take_succ_eq_append_getElem (by simp; omega)]
        simp [show fr + (i - fr) = i by omega]
      rw [this]
theorem cut_f (s : List UInt8) (c : UInt8) (k : Nat) (hs : s.length ≤ 1073741824) (hk : s.length + 2 ≤ k) : F2.spec_l01Cut.f k (B s) (c.toNat : Int) = some ((sp c s).map B) := by
  have := cut_l0 (B s) c (by rw [B_size]; exact hs) (B s).size k 0 0 [] (Nat.le_refl _) (Nat.zero_le _) rfl (by rw [B_size]; omega) (by simp)
  simp only [Nat.sub_self, List.take_zero, List.drop_zero, spp_start, List.nil_append, B_toList] at this
  exact this
/-- A digit's value; eight digits' number. -/
def dv (b : UInt8) : Option Nat := if 48 ≤ b.toNat ∧ b.toNat ≤ 57 then some (b.toNat - 48) else if 97 ≤ b.toNat ∧ b.toNat ≤ 102 then some (b.toNat - 87) else none
def ph : List UInt8 → Nat → Option Nat
  | [], n => some n
  | b :: r, n => match dv b with
    | none => none
    | some d => ph r (16 * n + d)
theorem dv_lt {b : UInt8} {d : Nat} (h : dv b = some d) : d < 16 := by
  unfold dv at h
  split at h
  · cases h; omega
  · split at h
    · cases h; omega
    · cases h
theorem ph_lt : ∀ (l : List UInt8) (n e : Nat) (m : Nat), n < 16 ^ e → ph l n = some m → m < 16 ^ (e + l.length)
  | [], n, e, m, hn, h => by
    simp only [ph, Option.some.injEq] at h
    subst h
    simpa using hn
  | b :: r, n, e, m, hn, h => by
    simp only [ph] at h
    cases hd : dv b with
    | none => rw [hd] at h; cases h
    | some d =>
      rw [hd] at h
      have := dv_lt hd
      have h2 := ph_lt r (16 * n + d) (e + 1) m (by rw [Nat.pow_succ]; omega) h
      rw [List.length_cons, show e + (r.length + 1) = e + 1 + r.length by omega]
      exact h2
def pn (p : List UInt8) : Option Nat := if p.length = 8 then match ph p 0 with
    | none => none
    | some m => if XL.bits m = (m : Int) then some m else none
  else none
def pns : List (List UInt8) → Option (List Nat)
  | [] => some []
  | p :: r => match pn p with
    | none => none
    | some m => match pns r with
      | none => none
      | some l => some (m :: l)
def numsOf (o : Option (List Nat)) : List Nat × Bool := match o with
  | some l => (l, true)
  | none => ([], false)
theorem pw (e : Nat) (h : e ≤ 8) : 16 ^ e ≤ 4294967296 := by
  have : 16 ^ e ≤ 16 ^ 8 := Nat.pow_le_pow_right (by omega) h
  simpa using this
theorem spec_dig (x4 : List Nat) (x5 : List ByteArray) (i6 : Nat) (s : List UInt8) (hs : rdOf ByteArray.empty x5 (i6 : Int) = B s) (h6 : i6 < x5.length) (h8 : s.length = 8) (kk : Nat) :
    ∀ (rest pre : List UInt8) (n : Nat), s = pre ++ rest → n < 16 ^ pre.length →
      F2.spec_l01NRead.l1 (kk + 4 * rest.length + 1) x4 x5 (i6 : Int) (n : Int) (pre.length : Int) =
        match ph rest n with
        | none => some ([], false)
        | some m => if XL.bits m = (m : Int) then (if x4.length < 35184372088832 then F2.spec_l01NRead.l0 kk (x4 ++ [m]) x5 (wrap64 ((i6 : Int) + 1)) else none) else some ([], false) := by
  intro rest
  induction rest with
  | nil =>
    intro pre n hp hn
    rw [List.append_nil] at hp
    subst hp
    rw [h8] at hn
    have hm : ((n : Int) % 4294967296).toNat = n := by
      have : (16 : Nat) ^ 8 = 4294967296 := by decide
      omega
    simp only [ph, List.length_nil, Nat.mul_zero, Nat.add_zero, F2.spec_l01NRead.l1]
    rw [if_neg (by omega)]
    simp only [XM.l01From.f, XL.l01Bits.f, Option.bind_some, hm]
  | cons b rest ih =>
    intro pre n hp hn
    have hlen : pre.length + (rest.length + 1) = 8 := by
      rw [← h8, hp]
      simp
    have hb : bt (B s) (pre.length : Int) = (b.toNat : Int) := by rw [hp]; exact bt_mid pre rest b
    have hbl : b.toNat < 256 := b.toNat_lt
    have hpw := pw pre.length (by omega)
    rw [List.length_cons, show kk + 4 * (rest.length + 1) + 1 = ((kk + 4 * rest.length + 1) + 3) + 1 by omega]
    have step (d : Nat) (hd : dv b = some d) : (wrap64 ((wrap64 (16 * (n : Int))) + (d : Int))) = ((16 * n + d : Nat) : Int) := by
      have := dv_lt hd
      rw [wrap_id (i := 16 * (n : Int)) (by omega) (by omega), wrap_id (by omega) (by omega)]
      omega
    have hw := w1 pre.length (by omega)
    have e2 : pre.length + 1 = (pre ++ [b]).length := by simp
    have ih2 (d : Nat) (hd : dv b = some d) := ih (pre ++ [b]) (16 * n + d) (by rw [hp]; simp) (by have := dv_lt hd; rw [← e2, Nat.pow_succ]; omega)
    have key : F2.spec_l01NRead.j2 (kk + 4 * rest.length + 1 + 3) x4 x5 (i6 : Int) (n : Int) (pre.length : Int) (b.toNat : Int) (-1) (decide (48 ≤ b.toNat ∧ b.toNat ≤ 57)) =
        match ph (b :: rest) n with
        | none => some ([], false)
        | some m => if XL.bits m = (m : Int) then (if x4.length < 35184372088832 then F2.spec_l01NRead.l0 kk (x4 ++ [m]) x5 (wrap64 ((i6 : Int) + 1)) else none) else some ([], false) := by
      simp only [F2.spec_l01NRead.j2, ph]
      by_cases c1 : 48 ≤ b.toNat ∧ b.toNat ≤ 57
      · have hd : dv b = some (b.toNat - 48) := by unfold dv; rw [if_pos c1]
        have e3 : ((b.toNat : Int) - 48) % 256 = ((b.toNat - 48 : Nat) : Int) := by omega
        rw [decide_eq_true c1, if_pos rfl, hd]
        simp only [F2.spec_l01NRead.j3]
        rw [if_neg (by omega)]
        simp only [F2.spec_l01NRead.j4]
        rw [if_neg (by decide), e3, if_neg (by omega), step _ hd, hw, e2]
        exact ih2 _ hd
      · rw [decide_eq_false c1, if_neg (by decide)]
        by_cases c2 : 97 ≤ b.toNat ∧ b.toNat ≤ 102
        · have hd : dv b = some (b.toNat - 87) := by unfold dv; rw [if_neg c1, if_pos c2]
          have e3 : ((b.toNat : Int) - 97) % 256 + 10 = ((b.toNat - 87 : Nat) : Int) := by omega
          rw [hd]
          simp only [F2.spec_l01NRead.j3]
          rw [if_pos (by omega), decide_eq_true (by omega)]
          simp only [F2.spec_l01NRead.j4]
          rw [if_pos trivial, e3, if_neg (by omega), step _ hd, hw, e2]
          exact ih2 _ hd
        · have hd : dv b = none := by unfold dv; rw [if_neg c1, if_neg c2]
          rw [hd]
          simp only [F2.spec_l01NRead.j3]
          by_cases c3 : (b.toNat : Int) ≥ 97
          · rw [if_pos c3, decide_eq_false (by omega)]
            simp only [F2.spec_l01NRead.j4]
            rw [if_neg (by decide), if_pos (by decide)]
          · rw [if_neg c3]
            simp only [F2.spec_l01NRead.j4]
            rw [if_neg (by decide), if_pos (by decide)]
    rw [F2.spec_l01NRead.l1]
    rw [if_pos (by omega), if_pos (by omega), if_pos (by omega), if_pos (by omega), hs, if_pos (by rw [B_size, h8]; omega), hb]
    rw [← key]
    by_cases c4 : (b.toNat : Int) ≥ 48
    · rw [if_pos c4]
      congr 1
      exact decide_eq_decide.2 ⟨fun h => ⟨by omega, by omega⟩, fun h => by omega⟩
    · rw [if_neg c4]
      congr 1
      exact (decide_eq_false (by omega)).symm
theorem spec_parts : ∀ (rest pre : List (List UInt8)) (out : List Nat) (k : Nat), 34 * rest.length < k → pre.length + rest.length ≤ 256 → out.length ≤ pre.length →
    F2.spec_l01NRead.l0 k out ((pre ++ rest).map B) (pre.length : Int) = some (match pns rest with | some l => (out ++ l, true) | none => ([], false)) := by
  intro rest
  induction rest with
  | nil =>
    intro pre out k hk hp ho
    obtain ⟨k, rfl⟩ : ∃ m, k = m + 1 := ⟨k - 1, by omega⟩
    simp only [F2.spec_l01NRead.l0]
    rw [if_neg (by simp)]
    simp [pns]
  | cons p rest ih =>
    intro pre out k hk hp ho
    simp only [List.length_cons] at hk hp
    obtain ⟨k, rfl⟩ : ∃ m, k = m + 4 * 8 + 1 + 1 := ⟨k - 34, by omega⟩
    have hrd : rdOf ByteArray.empty ((pre ++ p :: rest).map B) (pre.length : Int) = B p := by simp [rdOf]
    have hlt : pre.length < ((pre ++ p :: rest).map B).length := by simp
    rw [F2.spec_l01NRead.l0]
    rw [if_pos (by omega), if_pos (by omega), hrd, B_size]
    by_cases h8 : p.length = 8
    · rw [if_pos (by omega)]
      have := spec_dig out ((pre ++ p :: rest).map B) pre.length p hrd hlt h8 k p [] 0 rfl (by simp)
      rw [h8] at this
      simp only [List.length_nil, Int.ofNat_zero] at this
      refine Eq.trans this ?_
      simp only [pns, pn, h8, if_true]
      cases hph : ph p 0 with
      | none => rfl
      | some m =>
        simp only
        by_cases hb : XL.bits m = (m : Int)
        · rw [if_pos hb, if_pos hb, if_pos (by omega), w1 pre.length (by omega)]
          have e : pre ++ p :: rest = (pre ++ [p]) ++ rest := by simp
          have e2 : pre.length + 1 = (pre ++ [p]).length := by simp
          rw [e, e2, ih (pre ++ [p]) (out ++ [m]) k (by omega) (by simp; omega) (by simp; omega)]
          cases pns rest with
          | none => rfl
          | some l => simp
        · rw [if_neg hb, if_neg hb]
    · rw [if_neg (by omega)]
      simp [pns, pn, h8]
/-- The numbers with a text. -/
def RN (s : List UInt8) : Option (List Nat) := if s = [110, 111, 110, 101] then some [] else if (sp 44 s).length ≤ 256 then pns (sp 44 s) else none
theorem B_toList' (s : List UInt8) : (B s).toList = s := by rw [Lib.toList_data, B_toList]
theorem spec_N (s : List UInt8) (k : Nat) (hs : s.length ≤ 1073741824) (hk : s.length + 10000 ≤ k) : F2.spec_l01NRead.f k (B s) = some (numsOf (RN s)) := by
  unfold F2.spec_l01NRead.f RN
  simp only [Option.bind_some]
  rw [B_toList']
  by_cases h : s = [110, 111, 110, 101]
  · rw [if_pos h, if_pos h]
    rfl
  · rw [if_neg h, if_neg h]
    have hc := cut_f s 44 k hs (by omega)
    rw [show ((44 : UInt8).toNat : Int) = 44 from rfl] at hc
    rw [hc]
    simp only [Option.bind_some]
    by_cases h2 : (sp 44 s).length ≤ 256
    · rw [if_neg (by simp; omega), if_pos h2]
      have := spec_parts (sp 44 s) [] [] k (by omega) (by simpa using h2) (by simp)
      simp only [List.nil_append, List.length_nil, Int.ofNat_zero] at this
      refine Eq.trans this ?_
      cases pns (sp 44 s) <;> rfl
    · rw [if_pos (by simp; omega), if_neg h2]
      rfl
abbrev dg : ByteArray := ⟨#[48, 49, 50, 51, 52, 53, 54, 55, 56, 57, 97, 98, 99, 100, 101, 102]⟩
theorem ix_fin : ∀ n : Fin 256, Lib.indexByte dg.data.toList (UInt8.ofNat n.val) = match dv (UInt8.ofNat n.val) with | none => -1 | some d => (d : Int) := by decide +kernel
theorem ix_dv (b : UInt8) : Lib.indexByte dg.data.toList b = match dv b with | none => -1 | some d => (d : Int) := by
  have := ix_fin ⟨b.toNat, b.toNat_lt⟩
  simpa using this
theorem ix_f (b : UInt8) : XS.strings_IndexByte.f dg (b.toNat : Int) = some (match dv b with | none => -1 | some d => (d : Int)) := by
  unfold XS.strings_IndexByte.f
  rw [← ix_dv b]
  simp
theorem rn_ok (s : List UInt8) (h8 : s.length ≤ 8) : ∀ (rest pre : List UInt8) (n k : Nat), s = pre ++ rest → n < 16 ^ pre.length → rest.length < k →
    F2.impl_readNumber.l0 k (B s) (n : Int) ((B s).size : Int) (pre.length : Int) = match ph rest n with
      | none => some (0, false)
      | some m => if s.length = 8 then some (m, XL.bits m == (m : Int)) else some (m, false) := by
  intro rest
  induction rest with
  | nil =>
    intro pre n k hp hn hk
    rw [List.append_nil] at hp
    subst hp
    obtain ⟨k, rfl⟩ : ∃ m, k = m + 1 := ⟨k - 1, by omega⟩
    have hpw := pw s.length h8
    have hm : ((n : Int) % 4294967296).toNat = n := by omega
    simp only [F2.impl_readNumber.l0]
    rw [if_neg (by rw [B_size]; omega)]
    unfold XM.FromBits.f
    rw [if_pos ⟨by omega, by omega⟩]
    simp only [Option.bind_some, XL.BitsOf.f, hm, ph, B_size]
    by_cases h : s.length = 8
    · rw [if_pos h, if_pos (by omega)]
    · rw [if_neg h, if_neg (by omega)]
  | cons b rest ih =>
    intro pre n k hp hn hk
    simp only [List.length_cons] at hk
    obtain ⟨k, rfl⟩ : ∃ m, k = m + 1 := ⟨k - 1, by omega⟩
    have hlen : pre.length + (rest.length + 1) = s.length := by
      rw [hp]
      simp
    have hb : bt (B s) (pre.length : Int) = (b.toNat : Int) := by rw [hp]; exact bt_mid pre rest b
    have hpw := pw pre.length (by omega)
    simp only [F2.impl_readNumber.l0]
    rw [if_pos (by rw [B_size]; omega), if_pos (by omega), if_pos (by rw [B_size]; omega), hb, ix_f b]
    simp only [Option.bind_some, ph]
    cases hd : dv b with
    | none =>
      simp only
      rw [if_pos (by decide)]
    | some d =>
      have := dv_lt hd
      simp only
      have e1 : wrap64 (wrap64 ((n : Int) * 16) + (d : Int)) = ((16 * n + d : Nat) : Int) := by
        rw [wrap_id (i := (n : Int) * 16) (by omega) (by omega), wrap_id (by omega) (by omega)]
        omega
      have e2 : pre.length + 1 = (pre ++ [b]).length := by simp
      rw [if_neg (by omega), if_neg (by omega), e1, w1 pre.length (by omega), e2]
      exact ih (pre ++ [b]) (16 * n + d) k (by rw [hp]; simp) (by rw [← e2, Nat.pow_succ]; omega) (by omega)
theorem rn_long (s : List UInt8) (h8 : 8 < s.length) : ∀ (d : Nat) (rest pre : List UInt8) (n k : Nat), s = pre ++ rest → pre.length + d = 8 → n < 16 ^ pre.length → d < k →
    ∃ x, F2.impl_readNumber.l0 k (B s) (n : Int) ((B s).size : Int) (pre.length : Int) = some (x, false) := by
  intro d
  induction d with
  | zero =>
    intro rest pre n k hp hd8 hn hk
    obtain ⟨k, rfl⟩ : ∃ m, k = m + 1 := ⟨k - 1, by omega⟩
    cases rest with
    | nil =>
      rw [List.append_nil] at hp
      rw [hp] at h8
      omega
    | cons b rest =>
      have hb : bt (B s) (pre.length : Int) = (b.toNat : Int) := by rw [hp]; exact bt_mid pre rest b
      simp only [F2.impl_readNumber.l0]
      rw [if_pos (by rw [B_size]; omega), if_pos (by omega), if_pos (by rw [B_size]; omega), hb, ix_f b]
      simp only [Option.bind_some]
      cases hd : dv b with
      | none =>
        simp only
        rw [if_pos (by decide)]
        exact ⟨_, rfl⟩
      | some e =>
        simp only
        rw [if_neg (by omega), if_pos (by omega)]
        exact ⟨_, rfl⟩
  | succ d ih =>
    intro rest pre n k hp hd8 hn hk
    obtain ⟨k, rfl⟩ : ∃ m, k = m + 1 := ⟨k - 1, by omega⟩
    cases rest with
    | nil =>
      rw [List.append_nil] at hp
      rw [hp] at h8
      omega
    | cons b rest =>
      have hb : bt (B s) (pre.length : Int) = (b.toNat : Int) := by rw [hp]; exact bt_mid pre rest b
      have hpw := pw pre.length (by omega)
      simp only [F2.impl_readNumber.l0]
      rw [if_pos (by rw [B_size]; omega), if_pos (by omega), if_pos (by rw [B_size]; omega), hb, ix_f b]
      simp only [Option.bind_some]
      cases hd : dv b with
      | none =>
        simp only
        rw [if_pos (by decide)]
        exact ⟨_, rfl⟩
      | some e =>
        have := dv_lt hd
        simp only
        have e1 : wrap64 (wrap64 ((n : Int) * 16) + (e : Int)) = ((16 * n + e : Nat) : Int) := by
          rw [wrap_id (i := (n : Int) * 16) (by omega) (by omega), wrap_id (by omega) (by omega)]
          omega
        have e2 : pre.length + 1 = (pre ++ [b]).length := by simp
        rw [if_neg (by omega), if_neg (by omega), e1, w1 pre.length (by omega), e2]
        exact ih rest (pre ++ [b]) (16 * n + e) k (by rw [hp]; simp) (by rw [← e2]; omega) (by rw [← e2, Nat.pow_succ]; omega) (by omega)
theorem rn_f (s : List UInt8) (k : Nat) (hk : 10 ≤ k) : (∃ m, pn s = some m ∧ F2.impl_readNumber.f k (B s) = some (m, true)) ∨ (pn s = none ∧ ∃ x, F2.impl_readNumber.f k (B s) = some (x, false)) := by
  unfold F2.impl_readNumber.f
  by_cases h : s.length ≤ 8
  · have := rn_ok s h s [] 0 k rfl (by simp) (by omega)
    simp only [List.length_nil, Int.ofNat_zero] at this
    rw [this]
    unfold pn
    cases hp : ph s 0 with
    | none =>
      refine .inr ⟨?_, _, rfl⟩
      split <;> rfl
    | some m =>
      simp only
      by_cases h8 : s.length = 8
      · rw [if_pos h8, if_pos h8]
        by_cases hb : XL.bits m = (m : Int)
        · rw [if_pos hb]
          exact .inl ⟨m, rfl, by rw [beq_iff_eq.2 hb]⟩
        · rw [if_neg hb]
          exact .inr ⟨rfl, m, by rw [beq_eq_false_iff_ne.2 hb]⟩
      · rw [if_neg h8, if_neg h8]
        exact .inr ⟨rfl, _, rfl⟩
  · obtain ⟨x, hx⟩ := rn_long s (by omega) 8 s [] 0 k rfl (by simp) (by simp) (by omega)
    simp only [List.length_nil, Int.ofNat_zero] at hx
    refine .inr ⟨?_, x, hx⟩
    unfold pn
    rw [if_neg (by omega)]
theorem impl_parts : ∀ (rest pre : List (List UInt8)) (out : List Nat) (k : Nat), rest.length + 10 < k → pre.length + rest.length ≤ 1073741825 → out.length = pre.length → out.length ≤ 256 →
    F2.impl_ReadNumbers.l0 k out ((pre ++ rest).map B) (((pre ++ rest).map B).length : Int) (pre.length : Int) = some (if pre.length + rest.length ≤ 256 then match pns rest with | some l => (out ++ l, true) | none => ([], false) else ([], false)) := by
  intro rest
  induction rest with
  | nil =>
    intro pre out k hk hp ho h256
    obtain ⟨k, rfl⟩ : ∃ m, k = m + 1 := ⟨k - 1, by omega⟩
    simp only [F2.impl_ReadNumbers.l0]
    rw [if_neg (by simp), if_pos (by simp; omega)]
    simp [pns]
  | cons p rest ih =>
    intro pre out k hk hp ho h256
    simp only [List.length_cons] at hk hp
    obtain ⟨k, rfl⟩ : ∃ m, k = m + 1 := ⟨k - 1, by omega⟩
    have hrd : rdOf ByteArray.empty ((pre ++ p :: rest).map B) (pre.length : Int) = B p := by simp [rdOf]
    have hlt : (pre.length : Int) < (((pre ++ p :: rest).map B).length : Int) := by simp; omega
    have e : pre ++ p :: rest = (pre ++ [p]) ++ rest := by simp
    have e2 : pre.length + 1 = (pre ++ [p]).length := by simp
    simp only [F2.impl_ReadNumbers.l0]
    rw [if_pos hlt, if_pos (by omega), if_pos hlt, hrd]
    rcases rn_f p k (by omega) with ⟨m, h1, h2⟩ | ⟨h1, x, h2⟩
    · rw [h2]
      simp only [Option.bind_some, pns, h1, if_true]
      by_cases h3 : out.length = 256
      · rw [if_pos (by omega), if_neg (by simp; omega)]
      · rw [if_neg (by omega), if_pos (by omega), w1 pre.length (by omega), e2]
        rw [e, ih (pre ++ [p]) (out ++ [m]) k (by omega) (by simp; omega) (by simp; omega) (by simp; omega)]
        congr 1
        rw [← e2]
        simp only [List.length_cons]
        by_cases h4 : pre.length + (rest.length + 1) ≤ 256
        · rw [if_pos h4, if_pos (by omega)]
          cases pns rest with
          | none => rfl
          | some l => simp
        · rw [if_neg h4, if_neg (by omega)]
    · rw [h2]
      simp only [Option.bind_some, pns, h1]
      rw [if_neg (by decide)]
      split <;> rfl
theorem sp_len (c : UInt8) : ∀ l : List UInt8, (sp c l).length = l.count c + 1
  | [] => by simp [sp]
  | x :: xs => by
    have := sp_len c xs
    unfold sp
    split
    · rename_i h; subst h; simp [this]
    · rename_i h
      split
      · rename_i h2; rw [h2] at this; simp at this
      · rename_i h2; rw [h2] at this; simp only [List.length_cons] at this ⊢; rw [this, List.count_cons_of_ne h]
theorem split_f (s : List UInt8) (c : UInt8) (hs : s.length ≤ 1073741824) : XS.strings_Split.f (B s) ⟨#[c]⟩ = some ((sp c s).map B) := by
  unfold XS.strings_Split.f
  rw [if_pos (by rw [B_size]; exact hs), if_pos (by exact Nat.le_refl 1), splitB_sp, B_toList]
theorem impl_N (s : List UInt8) (k : Nat) (hs : s.length ≤ 1073741824) (hk : s.length + 10000 ≤ k) : F2.impl_ReadNumbers.f k (B s) = some (numsOf (RN s)) := by
  unfold F2.impl_ReadNumbers.f F2.impl_parted.f RN
  rw [B_toList']
  by_cases h : s = [110, 111, 110, 101]
  · rw [if_pos h, if_pos h]
    simp only [Option.bind_some]
    obtain ⟨k, rfl⟩ : ∃ m, k = m + 1 := ⟨k - 1, by omega⟩
    simp only [F2.impl_ReadNumbers.l0]
    rw [if_neg (by simp)]
    rfl
  · rw [if_neg h, if_neg h, split_f s 44 hs]
    simp only [Option.bind_some]
    have hc : s.count 44 ≤ s.length := List.count_le_length
    have := impl_parts (sp 44 s) [] [] k (by rw [sp_len]; omega) (by rw [sp_len]; simp; omega) rfl (by simp)
    simp only [List.nil_append, List.length_nil, Int.ofNat_zero, Nat.zero_add] at this
    refine Eq.trans this ?_
    congr 1
    split
    · cases pns (sp 44 s) <;> rfl
    · rfl
theorem sp_mem (c : UInt8) : ∀ (s : List UInt8) (b : UInt8), b ∈ s → b = c ∨ ∃ p ∈ sp c s, b ∈ p
  | x :: xs, b, h => by
    have ih := sp_mem c xs
    unfold sp
    split
    · rename_i hx
      rcases List.mem_cons.1 h with rfl | h
      · exact .inl hx
      · rcases ih b h with h | ⟨p, hp, hb⟩
        · exact .inl h
        · exact .inr ⟨p, by simp [hp], hb⟩
    · split
      · rename_i h2; exact absurd h2 (sp_ne c xs)
      · rename_i q qs h2
        rw [h2] at ih
        rcases List.mem_cons.1 h with rfl | h
        · exact .inr ⟨_, List.mem_cons_self .., by simp⟩
        · rcases ih b h with h | ⟨p, hp, hb⟩
          · exact .inl h
          · rcases List.mem_cons.1 hp with rfl | hp
            · exact .inr ⟨_, List.mem_cons_self .., by simp [hb]⟩
            · exact .inr ⟨p, by simp [hp], hb⟩
theorem sp_le (c : UInt8) : ∀ (s : List UInt8) (p : List UInt8), p ∈ sp c s → p.length ≤ s.length
  | [], p, h => by simp [sp] at h; simp [h]
  | x :: xs, p, h => by
    have ih := sp_le c xs
    unfold sp at h
    split at h
    · rcases List.mem_cons.1 h with rfl | h
      · simp
      · have := ih p h; simp; omega
    · split at h
      · rename_i h2; exact absurd h2 (sp_ne c xs)
      · rename_i q qs h2
        rw [h2] at ih
        rcases List.mem_cons.1 h with rfl | h
        · have := ih q (by simp); simp; omega
        · have := ih p (by simp [h]); simp; omega
theorem ph_dv : ∀ (p : List UInt8) (n m : Nat), ph p n = some m → ∀ b ∈ p, ∃ d, dv b = some d
  | b :: r, n, m, h, x, hx => by
    simp only [ph] at h
    cases hd : dv b with
    | none => rw [hd] at h; cases h
    | some d =>
      rw [hd] at h
      rcases List.mem_cons.1 hx with rfl | hx
      · exact ⟨d, hd⟩
      · exact ph_dv r _ m h x hx
theorem pns_dv : ∀ (l : List (List UInt8)) (r : List Nat), pns l = some r → ∀ p ∈ l, ∀ b ∈ p, ∃ d, dv b = some d
  | q :: l, r, h, p, hp, b, hb => by
    simp only [pns] at h
    cases h1 : pn q with
    | none => rw [h1] at h; cases h
    | some m =>
      rw [h1] at h
      cases h2 : pns l with
      | none => rw [h2] at h; cases h
      | some l' =>
        rcases List.mem_cons.1 hp with rfl | hp
        · unfold pn at h1
          split at h1
          · cases h3 : ph p 0 with
            | none => rw [h3] at h1; cases h1
            | some m => exact ph_dv p 0 m h3 b hb
          · cases h1
        · exact pns_dv l l' h2 p hp b hb
theorem RN_no (s : List UInt8) (l : List Nat) (h : RN s = some l) (c : UInt8) (hc : dv c = none) (h44 : c ≠ 44) (hn : c ∉ ([110, 111, 110, 101] : List UInt8)) : c ∉ s := by
  intro hm
  unfold RN at h
  split at h
  · rename_i e
    rw [e] at hm
    exact hn hm
  · split at h
    · rcases sp_mem 44 s c hm with e | ⟨p, hp, hb⟩
      · exact h44 e
      · obtain ⟨d, hd⟩ := pns_dv _ _ h p hp c hb
        rw [hc] at hd
        cases hd
    · cases h
theorem sp_no (c : UInt8) : ∀ s : List UInt8, c ∉ s → sp c s = [s]
  | [], _ => rfl
  | x :: xs, h => by
    simp only [List.mem_cons, not_or] at h
    unfold sp
    rw [if_neg (Ne.symm h.1), sp_no c xs h.2]
theorem spec_digits (s : List UInt8) (h8 : s.length = 8) (kk : Nat) : ∀ (rest pre : List UInt8) (n : Nat), s = pre ++ rest → n < 16 ^ pre.length →
    F2.spec_l01Digits.l0 (kk + 4 * rest.length + 1) (B s) (n : Int) (pre.length : Int) =
      match ph rest n with
      | none => some (0, false)
      | some m => if XL.bits m = (m : Int) then some (m, true) else some (0, false) := by
  intro rest
  induction rest with
  | nil =>
    intro pre n hp hn
    rw [List.append_nil] at hp
    subst hp
    rw [h8] at hn
    have hm : ((n : Int) % 4294967296).toNat = n := by
      have : (16 : Nat) ^ 8 = 4294967296 := by decide
      omega
    simp only [ph, List.length_nil, Nat.mul_zero, Nat.add_zero, F2.spec_l01Digits.l0]
    rw [if_neg (by rw [B_size]; omega)]
    simp only [XM.l01From.f, XL.l01Bits.f, Option.bind_some, hm]
  | cons b rest ih =>
    intro pre n hp hn
    have hlen : pre.length + (rest.length + 1) = 8 := by
      rw [← h8, hp]
      simp
    have hb : bt (B s) (pre.length : Int) = (b.toNat : Int) := by rw [hp]; exact bt_mid pre rest b
    have hbl : b.toNat < 256 := b.toNat_lt
    have hpw := pw pre.length (by omega)
    have g0 : (0 : Int) ≤ (pre.length : Int) := by omega
    have g1 : (pre.length : Int) < ((B s).size : Int) := by rw [B_size, h8]; omega
    rw [List.length_cons, show kk + 4 * (rest.length + 1) + 1 = ((kk + 4 * rest.length + 1) + 3) + 1 by omega]
    have step (d : Nat) (hd : dv b = some d) : (wrap64 ((wrap64 (16 * (n : Int))) + (d : Int))) = ((16 * n + d : Nat) : Int) := by
      have := dv_lt hd
      rw [wrap_id (i := 16 * (n : Int)) (by omega) (by omega), wrap_id (by omega) (by omega)]
      omega
    have hw := w1 pre.length (by omega)
    have e2 : pre.length + 1 = (pre ++ [b]).length := by simp
    have ih2 (d : Nat) (hd : dv b = some d) := ih (pre ++ [b]) (16 * n + d) (by rw [hp]; simp) (by have := dv_lt hd; rw [← e2, Nat.pow_succ]; omega)
    have key : F2.spec_l01Digits.j1 (kk + 4 * rest.length + 1 + 3) (B s) (n : Int) (pre.length : Int) (-1) (decide (48 ≤ b.toNat ∧ b.toNat ≤ 57)) =
        match ph (b :: rest) n with
        | none => some (0, false)
        | some m => if XL.bits m = (m : Int) then some (m, true) else some (0, false) := by
      simp only [F2.spec_l01Digits.j1, ph, hb]
      by_cases c1 : 48 ≤ b.toNat ∧ b.toNat ≤ 57
      · have hd : dv b = some (b.toNat - 48) := by unfold dv; rw [if_pos c1]
        have e3 : ((b.toNat : Int) - 48) % 256 = ((b.toNat - 48 : Nat) : Int) := by omega
        rw [decide_eq_true c1, if_pos rfl, if_pos g0, if_pos g1, hd]
        simp only [F2.spec_l01Digits.j2, hb]
        rw [if_pos g0, if_pos g1, if_neg (by omega)]
        simp only [F2.spec_l01Digits.j3]
        rw [if_neg (by decide), e3, if_neg (by omega), step _ hd, hw, e2]
        exact ih2 _ hd
      · rw [decide_eq_false c1, if_neg (by decide)]
        by_cases c2 : 97 ≤ b.toNat ∧ b.toNat ≤ 102
        · have hd : dv b = some (b.toNat - 87) := by unfold dv; rw [if_neg c1, if_pos c2]
          have e3 : ((b.toNat : Int) - 97) % 256 + 10 = ((b.toNat - 87 : Nat) : Int) := by omega
          rw [hd]
          simp only [F2.spec_l01Digits.j2, hb]
          rw [if_pos g0, if_pos g1, if_pos (by omega), decide_eq_true (by omega)]
          simp only [F2.spec_l01Digits.j3, hb]
          rw [if_pos trivial, if_pos g0, if_pos g1, e3, if_neg (by omega), step _ hd, hw, e2]
          exact ih2 _ hd
        · have hd : dv b = none := by unfold dv; rw [if_neg c1, if_neg c2]
          rw [hd]
          simp only [F2.spec_l01Digits.j2, hb]
          rw [if_pos g0, if_pos g1]
          by_cases c3 : (b.toNat : Int) ≥ 97
          · rw [if_pos c3, decide_eq_false (by omega)]
            simp only [F2.spec_l01Digits.j3]
            rw [if_neg (by decide), if_pos (by decide)]
          · rw [if_neg c3]
            simp only [F2.spec_l01Digits.j3]
            rw [if_neg (by decide), if_pos (by decide)]
    rw [F2.spec_l01Digits.l0]
    rw [if_pos g1, if_pos g0, hb]
    rw [← key]
    by_cases c4 : (b.toNat : Int) ≥ 48
    · rw [if_pos c4]
      congr 1
      exact decide_eq_decide.2 ⟨fun h => ⟨by omega, by omega⟩, fun h => by omega⟩
    · rw [if_neg c4]
      congr 1
      exact (decide_eq_false (by omega)).symm
theorem digits_f (s : List UInt8) (h8 : s.length = 8) (k : Nat) (hk : 33 ≤ k) : F2.spec_l01Digits.f k (B s) = some (match pn s with | some m => (m, true) | none => (0, false)) := by
  obtain ⟨kk, rfl⟩ : ∃ kk, k = kk + 4 * 8 + 1 := ⟨k - 33, by omega⟩
  have := spec_digits s h8 kk s [] 0 rfl (by simp)
  rw [h8] at this
  simp only [List.length_nil, Int.ofNat_zero] at this
  unfold F2.spec_l01Digits.f pn
  refine Eq.trans this ?_
  rw [if_pos h8]
  cases ph s 0 with
  | none => rfl
  | some m =>
    simp only
    split <;> rfl
def pc (p : List UInt8) : Option (Nat × Nat) := if p.length = 16 then match pn (p.take 8) with
    | none => none
    | some a => match pn (p.drop 8) with
      | none => none
      | some b => some (a, b)
  else none
def pcs : List (List UInt8) → Option (List (Nat × Nat))
  | [] => some []
  | p :: r => match pc p with
    | none => none
    | some m => match pcs r with
      | none => none
      | some l => some (m :: l)
def cplxOf (o : Option (List (Nat × Nat))) : List (Nat × Nat) × Bool := match o with
  | some l => (l, true)
  | none => ([], false)
theorem ex1 (p : List UInt8) : (B p).extract 0 8 = B (p.take 8) := by
  rw [extract_B, B_toList]
  rfl
theorem ex2 (p : List UInt8) (h : p.length = 16) : (B p).extract 8 (B p).size = B (p.drop 8) := by
  rw [extract_B, B_toList, B_size, List.take_of_length_le (by simp)]
theorem spec_cparts : ∀ (rest pre : List (List UInt8)) (out : List (Nat × Nat)) (k : Nat), rest.length + 40 < k → pre.length + rest.length ≤ 256 → out.length ≤ pre.length →
    F2.spec_l01CRead.l0 k out ((pre ++ rest).map B) (pre.length : Int) = some (match pcs rest with | some l => (out ++ l, true) | none => ([], false)) := by
  intro rest
  induction rest with
  | nil =>
    intro pre out k hk hp ho
    obtain ⟨k, rfl⟩ : ∃ m, k = m + 1 := ⟨k - 1, by omega⟩
    simp only [F2.spec_l01CRead.l0]
    rw [if_neg (by simp)]
    simp [pcs]
  | cons p rest ih =>
    intro pre out k hk hp ho
    simp only [List.length_cons] at hk hp
    obtain ⟨k, rfl⟩ : ∃ m, k = m + 1 := ⟨k - 1, by omega⟩
    have hrd : rdOf ByteArray.empty ((pre ++ p :: rest).map B) (pre.length : Int) = B p := by simp [rdOf]
    have hlt : (pre.length : Int) < (((pre ++ p :: rest).map B).length : Int) := by simp; omega
    have e : pre ++ p :: rest = (pre ++ [p]) ++ rest := by simp
    have e2 : pre.length + 1 = (pre ++ [p]).length := by simp
    simp only [F2.spec_l01CRead.l0]
    rw [if_pos hlt, if_pos (by omega), hrd]
    by_cases h16 : p.length = 16
    · rw [if_pos (by rw [B_size]; omega), if_pos (by decide), if_pos (by rw [B_size]; omega), ex1, ex2 p h16, digits_f _ (by simp [h16]) k (by omega), digits_f _ (by simp [h16]) k (by omega)]
      simp only [Option.bind_some, pcs, pc]
      rw [if_pos h16]
      cases pn (p.take 8) with
      | none => rfl
      | some a =>
        cases pn (p.drop 8) with
        | none => rfl
        | some b =>
          simp only [if_true]
          rw [if_pos (by omega), w1 pre.length (by omega), e2, e, ih (pre ++ [p]) (out ++ [(a, b)]) k (by omega) (by simp; omega) (by simp; omega)]
          cases pcs rest with
          | none => rfl
          | some l => simp
    · rw [if_neg (by rw [B_size]; omega)]
      simp [pcs, pc, h16]
/-- The complex numbers with a text. -/
def RC (s : List UInt8) : Option (List (Nat × Nat)) := if s = [110, 111, 110, 101] then some [] else if (sp 44 s).length ≤ 256 then pcs (sp 44 s) else none
theorem spec_C (s : List UInt8) (k : Nat) (hs : s.length ≤ 1073741824) (hk : s.length + 10000 ≤ k) : F2.spec_l01CRead.f k (B s) = some (cplxOf (RC s)) := by
  unfold F2.spec_l01CRead.f RC
  simp only [Option.bind_some]
  rw [B_toList']
  by_cases h : s = [110, 111, 110, 101]
  · rw [if_pos h, if_pos h]
    rfl
  · rw [if_neg h, if_neg h]
    have hc := cut_f s 44 k hs (by omega)
    rw [show ((44 : UInt8).toNat : Int) = 44 from rfl] at hc
    rw [hc]
    simp only [Option.bind_some]
    by_cases h2 : (sp 44 s).length ≤ 256
    · rw [if_neg (by simp; omega), if_pos h2]
      have := spec_cparts (sp 44 s) [] [] k (by omega) (by simpa using h2) (by simp)
      simp only [List.nil_append, List.length_nil, Int.ofNat_zero] at this
      refine Eq.trans this ?_
      cases pcs (sp 44 s) <;> rfl
    · rw [if_pos (by simp; omega), if_neg h2]
      rfl
theorem impl_cparts : ∀ (rest pre : List (List UInt8)) (out : List (Nat × Nat)) (k : Nat), 2 * rest.length + 20 < k → pre.length + rest.length ≤ 1073741825 → out.length = pre.length → out.length ≤ 256 →
    F2.impl_ReadComplex.l0 k out ((pre ++ rest).map B) (((pre ++ rest).map B).length : Int) (pre.length : Int) = some (if pre.length + rest.length ≤ 256 then match pcs rest with | some l => (out ++ l, true) | none => ([], false) else ([], false)) := by
  intro rest
  induction rest with
  | nil =>
    intro pre out k hk hp ho h256
    obtain ⟨k, rfl⟩ : ∃ m, k = m + 1 := ⟨k - 1, by omega⟩
    simp only [F2.impl_ReadComplex.l0]
    rw [if_neg (by simp), if_pos (by simp; omega)]
    simp [pcs]
  | cons p rest ih =>
    intro pre out k hk hp ho h256
    simp only [List.length_cons] at hk hp
    obtain ⟨k, rfl⟩ : ∃ m, k = m + 2 := ⟨k - 2, by omega⟩
    have hrd : rdOf ByteArray.empty ((pre ++ p :: rest).map B) (pre.length : Int) = B p := by simp [rdOf]
    have hlt : (pre.length : Int) < (((pre ++ p :: rest).map B).length : Int) := by simp; omega
    have e : pre ++ p :: rest = (pre ++ [p]) ++ rest := by simp
    have e2 : pre.length + 1 = (pre ++ [p]).length := by simp
    rw [F2.impl_ReadComplex.l0]
    rw [if_pos hlt, if_pos (by omega), if_pos hlt, hrd]
    have key : ∀ x26 : Bool, x26 = (decide (p.length ≠ 16) || (decide (out.length = 256))) → F2.impl_ReadComplex.j1 (k + 1) out (B p) ((pre ++ p :: rest).map B) (((pre ++ p :: rest).map B).length : Int) (pre.length : Int) x26 =
        some (if pre.length + (p :: rest).length ≤ 256 then match pcs (p :: rest) with | some l => (out ++ l, true) | none => ([], false) else ([], false)) := by
      intro x26 hx
      simp only [F2.impl_ReadComplex.j1]
      by_cases h16 : p.length = 16
      · by_cases h256' : out.length = 256
        · have : x26 = true := by rw [hx]; simp [h256']
          rw [if_pos this, if_neg (by simp; omega)]
        · have : x26 = false := by rw [hx]; simp [h16, h256']
          rw [if_neg (by rw [this]; decide), if_pos (by decide), if_pos (by rw [B_size]; omega), ex1, ex2 p h16]
          simp only [pcs, pc]
          rw [if_pos h16]
          rcases rn_f (p.take 8) (k) (by omega) with ⟨a, a1, a2⟩ | ⟨a1, x, a2⟩
          · rcases rn_f (p.drop 8) (k) (by omega) with ⟨b, b1, b2⟩ | ⟨b1, y, b2⟩
            · rw [a1, a2, b1, b2]
              simp only [Option.bind_some, if_true]
              rw [if_pos (by omega), w1 pre.length (by omega), e2, e, ih (pre ++ [p]) (out ++ [(a, b)]) k (by omega) (by simp; omega) (by simp; omega) (by simp; omega)]
              congr 1
              rw [← e2]
              simp only [List.length_cons]
              by_cases h4 : pre.length + (rest.length + 1) ≤ 256
              · rw [if_pos h4, if_pos (by omega)]
                cases pcs rest with
                | none => rfl
                | some l => simp
              · rw [if_neg h4, if_neg (by omega)]
            · rw [a1, a2, b1, b2]
              simp only [Option.bind_some, if_true]
              rw [if_neg (by decide)]
              split <;> rfl
          · rw [a1, a2]
            rcases rn_f (p.drop 8) (k) (by omega) with ⟨b, b1, b2⟩ | ⟨b1, y, b2⟩
            · rw [b2]
              simp only [Option.bind_some]
              rw [if_neg (by decide)]
              split <;> rfl
            · rw [b2]
              simp only [Option.bind_some]
              rw [if_neg (by decide)]
              split <;> rfl
      · have : x26 = true := by rw [hx]; simp [h16]
        rw [if_pos this]
        simp only [pcs, pc]
        rw [if_neg h16]
        split <;> rfl
    by_cases h16 : p.length = 16
    · rw [if_pos (by rw [B_size]; omega)]
      refine key _ ?_
      rw [decide_eq_false (by simpa using h16), Bool.false_or]
      by_cases h : out.length = 256
      · rw [decide_eq_true h]
        simp [h]
      · rw [decide_eq_false h]
        rw [beq_eq_false_iff_ne]
        omega
    · rw [if_neg (by rw [B_size]; omega)]
      refine key _ ?_
      rw [decide_eq_true h16]
      rfl
theorem impl_C (s : List UInt8) (k : Nat) (hs : s.length ≤ 1073741824) (hk : 2 * s.length + 10000 ≤ k) : F2.impl_ReadComplex.f k (B s) = some (cplxOf (RC s)) := by
  unfold F2.impl_ReadComplex.f F2.impl_parted.f RC
  rw [B_toList']
  by_cases h : s = [110, 111, 110, 101]
  · rw [if_pos h, if_pos h]
    simp only [Option.bind_some]
    obtain ⟨k, rfl⟩ : ∃ m, k = m + 1 := ⟨k - 1, by omega⟩
    simp only [F2.impl_ReadComplex.l0]
    rw [if_neg (by simp)]
    rfl
  · rw [if_neg h, if_neg h, split_f s 44 hs]
    simp only [Option.bind_some]
    have hc : s.count 44 ≤ s.length := List.count_le_length
    have := impl_cparts (sp 44 s) [] [] k (by rw [sp_len]; omega) (by rw [sp_len]; simp; omega) rfl (by simp)
    simp only [List.nil_append, List.length_nil, Int.ofNat_zero, Nat.zero_add] at this
    refine Eq.trans this ?_
    congr 1
    split
    · cases pcs (sp 44 s) <;> rfl
    · rfl
theorem pcs_len : ∀ (l : List (List UInt8)) (r : List (Nat × Nat)), pcs l = some r → r.length = l.length
  | [], r, h => by cases h; rfl
  | p :: l, r, h => by
    simp only [pcs] at h
    cases h1 : pc p with
    | none => rw [h1] at h; cases h
    | some m =>
      rw [h1] at h
      cases h2 : pcs l with
      | none => rw [h2] at h; cases h
      | some l' =>
        rw [h2] at h
        cases h
        simp [pcs_len l l' h2]
theorem RC_len (s : List UInt8) (l : List (Nat × Nat)) (h : RC s = some l) : l.length ≤ 256 := by
  unfold RC at h
  split at h
  · cases h; simp
  · split at h
    · rw [pcs_len _ _ h]; assumption
    · cases h
theorem RN_59 (s : List UInt8) (l : List Nat) (h : RN s = some l) : (59 : UInt8) ∉ s := RN_no s l h 59 (by decide) (by decide) (by decide)
end Go.Proofs.YtifegijnfnjboaaDoor.PNS
