/- The reference's l01Cut (a text cut at each mark) and l08Lines (its lines and what is left behind them), as plain functions with their contracts. Condition: GLJ. -/
import Derived.Test.YtfnegdimddmjnaaDoorGJA1
import Derived.Test.YtfnegdimddmjnaaDoorT
namespace Go.Proofs.YtfnegdimddmjnaaDoor
open Go.RowKit Go.Proofs.YtfnegdimddmjnaaDoorW.PrintWords Go.Proofs.YtfnegdimddmjnaaDoorW.PrintLast
open T

namespace XJ2
theorem bt_nat (s : ByteArray) (i : Nat) (h : i < s.size) : bt s (i : Int) = ((s.data.toList[i]'(by rw [← size_list]; exact h)).toNat : Int) := by
  unfold bt
  rw [dif_pos (by simpa using h)]
  simp only [Int.toNat_natCast]
  rfl
/-- The loop: from the piece that begins at `from`, no mark between it and i. -/
theorem cut_l0 (s : ByteArray) (c : UInt8) (hs : s.size ≤ 1073741824) : ∀ (d k i fr : Nat) (out : List ByteArray), fr ≤ i → i ≤ s.size → s.size - i = d → d + 1 < k → out.length ≤ fr →
    GJA.spec_l01Cut.l0 k s (c.toNat : Int) out (fr : Int) (i : Int) = some (out ++ (spp c ((s.data.toList.drop fr).take (i - fr)) (s.data.toList.drop i)).map B) := by
  intro d
  induction d with
  | zero =>
    intro k i fr out hfi hi hd hk ho
    obtain ⟨k, rfl⟩ : ∃ m, k = m + 2 := ⟨k - 2, by omega⟩
    have e : i = s.size := by omega
    subst e
    have hw : wrap64 ((s.size : Int) + 1) = ((s.size + 1 : Nat) : Int) := by rw [wrap_id (by omega) (by omega)]; rfl
    simp only [GJA.spec_l01Cut.l0]
    rw [if_pos (Int.le_refl _), if_pos trivial, if_pos (by omega), if_pos (by omega), if_pos (by omega), hw, if_neg (by omega)]
    have hn : s.data.toList.drop s.size = [] := by rw [size_list]; simp
    rw [hn, spp_nil]
    simp only [Int.toNat_natCast, List.map_cons, List.map_nil, extract_B]
  | succ d ih =>
    intro k i fr out hfi hi hd hk ho
    obtain ⟨k, rfl⟩ : ∃ m, k = m + 1 := ⟨k - 1, by omega⟩
    have hlt : i < s.size := by omega
    have hlt' : i < s.data.toList.length := by rw [← size_list]; exact hlt
    have hw : wrap64 ((i : Int) + 1) = ((i + 1 : Nat) : Int) := by rw [wrap_id (by omega) (by omega)]; rfl
    simp only [GJA.spec_l01Cut.l0]
    rw [if_pos (by omega), if_neg (by omega), if_pos (by omega), if_pos (by omega), bt_nat s i hlt]
    have hdrop : s.data.toList.drop i = s.data.toList[i] :: s.data.toList.drop (i + 1) := List.drop_eq_getElem_cons hlt'
    by_cases hc : s.data.toList[i] = c
    · rw [hc, if_pos rfl, if_pos (by omega), if_pos (by omega), if_pos (by omega), hw]
      rw [ih k (i + 1) (i + 1) _ (Nat.le_refl _) (by omega) (by omega) (by omega) (by simp; omega)]
      rw [hdrop, hc, spp_hit, Nat.sub_self, List.take_zero, spp_start]
      simp [extract_B]
    · rw [if_neg (fun h => hc (UInt8.toNat_inj.1 (by omega))), hw]
      rw [ih k (i + 1) fr _ (by omega) (by omega) (by omega) (by omega) ho]
      rw [hdrop, spp_miss c _ _ _ hc]
      have : (s.data.toList.drop fr).take (i + 1 - fr) = (s.data.toList.drop fr).take (i - fr) ++ [s.data.toList[i]] := by
        rw [show i + 1 - fr = (i - fr) + 1 by omega, List.take_succ_eq_append_getElem (by simp; omega)]
        simp [show fr + (i - fr) = i by omega]
      rw [this]
/-- spec.l01Cut. -/
def cut.f (a0 : ByteArray) (a1 : Int) : Option (List ByteArray) := if a0.size ≤ 1073741824 then if 0 ≤ a1 ∧ a1 ≤ 255 then some ((sp a1.toNat.toUInt8 a0.data.toList).map B) else none else none
theorem cut_f (s : ByteArray) (c : UInt8) (hs : s.size ≤ 1073741824) : GJA.spec_l01Cut.f (s.size + 2) s (c.toNat : Int) = some ((sp c s.data.toList).map B) := by
  have := cut_l0 s c hs s.size (s.size + 2) 0 0 [] (Nat.le_refl _) (Nat.zero_le _) rfl (by omega) (by simp)
  simp only [Nat.sub_self, List.take_zero, List.drop_zero, spp_start, List.nil_append] at this
  exact this
theorem cut.calls (a0 : ByteArray) (a1 : Int) (r : List ByteArray) (w : World) (h : cut.f a0 a1 = some r) (gl : GLJ w := by first | exact (‹Aside0 (GLJ _)›).out | exact GLJ.of_below (‹Aside0 (GLJ _)›).out (by repeat (first | (with_reducible first | exact (‹Aside0 (Below _ _ _)›).out | apply below_alloc | apply pw_below_drewN | apply below_drew1) | exact (‹Aside0 (Below _ _ _)›).out))) :
    Calls Tryd.prog 30 #[.string a0, .int .u8 a1] w fun e w' => ∃ v0_ : Value, e = .returned (v0_) ∧ Kd.R Kd.string 9 w' w.heap.size (fun _ => True) v0_ r ∧ Below w.heap.size w w' := by
  unfold cut.f at h
  split at h
  · rename_i hs
    split at h
    · rename_i hc
      have e := cut_f a0 a1.toNat.toUInt8 hs
      have ec : ((a1.toNat.toUInt8).toNat : Int) = a1 := by
        have e2 : a1.toNat.toUInt8.toNat = a1.toNat := by
          have : a1.toNat < 256 := by omega
          simp [Nat.toUInt8, UInt8.toNat_ofNat', Nat.mod_eq_of_lt this]
        rw [e2]
        omega
      rw [ec, h] at e
      exact GJA.spec_l01Cut.calls _ a0 a1 r w e gl
    · cases h
  · cases h
/-- spec.l08Lines. -/
def lines.f (a0 : ByteArray) : Option (List ByteArray × ByteArray) := if a0.size ≤ 1073741824 then some (((sp 10 a0.data.toList).map B).dropLast, (((sp 10 a0.data.toList).map B).getLast?).getD ⟨#[]⟩) else none
theorem sp_len (c : UInt8) : ∀ l : List UInt8, (sp c l).length ≤ l.length + 1
  | [] => by simp [sp]
  | x :: xs => by
    have := sp_len c xs
    unfold sp
    split
    · simp; omega
    · split
      · simp
      · rename_i h; rw [h] at this; simp at this ⊢; omega
set_option maxHeartbeats 1000000 in
theorem lines.calls (a0 : ByteArray) (r1 : List ByteArray) (r2 : ByteArray) (w : World) (h : lines.f a0 = some (r1, r2)) (gl : GLJ w := by first | exact (‹Aside0 (GLJ _)›).out | exact GLJ.of_below (‹Aside0 (GLJ _)›).out (by repeat (first | (with_reducible first | exact (‹Aside0 (Below _ _ _)›).out | apply below_alloc | apply pw_below_drewN | apply below_drew1) | exact (‹Aside0 (Below _ _ _)›).out))) :
    Calls Tryd.prog 17 #[.string a0] w fun e w' => ∃ v0_ : Value, e = .returned (.tuple #[v0_, .string r2]) ∧ Kd.R Kd.string 9 w' w.heap.size (fun _ => True) v0_ r1 ∧ Below w.heap.size w w' := by
  unfold lines.f at h
  split at h
  · rename_i hs
    simp only [Option.some.injEq, Prod.mk.injEq] at h
    obtain ⟨h1, h2⟩ := h
    obtain ⟨L, hL⟩ : ∃ L, L = (sp 10 a0.data.toList).map B := ⟨_, rfl⟩
    have hf : cut.f a0 10 = some L := by
      unfold cut.f
      rw [if_pos hs, if_pos (by omega), hL]
      rfl
    rw [← hL] at h1 h2
    have hne : L ≠ [] := by rw [hL]; simp [sp_ne]
    have hlen : L.length ≤ a0.size + 1 := by rw [hL, List.length_map, size_list]; exact sp_len _ _
    clear hL
    obtain ⟨m, hm⟩ : ∃ m, L.length = m + 1 := ⟨L.length - 1, by have := List.length_pos_iff.2 hne; omega⟩
    have hr1 : r1 = L.take m := by rw [← h1, List.dropLast_eq_take, hm]; rfl
    have hr2 : rdOf ByteArray.empty L m = r2 := by
      rw [← h2]
      simp [rdOf, List.getLast?_eq_getElem?, hm]
    have HN := Aside0.mk hr1
    have HR2 := Aside0.mk hr2
    have HM := Aside0.mk hm
    have HS := Aside0.mk hs
    have HLN := Aside0.mk hlen
    have HG_ := Aside0.mk gl
    have HF := Aside0.mk hf
    clear h1 h2 hr1 hr2 gl hf hne hm hs hlen
    go_enter Tryd.func17, Tryd.ntmps17
    go_wp2_with (go_at_call 30; (with_reducible refine (cut.calls a0 10 L _ HF.out).mono ?_); rintro e w1 ⟨v, rfl, ho, hb⟩; have HO := Aside0.mk ho; have HB := Aside0.mk hb; clear ho hb)
    obtain ⟨A, c, e⟩ := Kd.R_slice HO.out
    subst e
    have hm := HM.out
    have hbd : m ≤ 1073741824 := by have := HS.out; have := HLN.out; omega
    have hcap := (Kd.R_reads' HO.out).2.1
    obtain ⟨i0, hi0, _, _, _⟩ := info_parts GJA.info9
    have hcut := cut_to (P := Tryd.prog) 25 9 .i64 Tryd.underlying25 hi0 A L.length c (m : Int) (by omega) (by omega) hcap
    have hr := Kd.R_take (m := m) HO.out (by omega)
    obtain ⟨ad, e133, hx⟩ := Kd.at_string (Kd.R_reads' HO.out).2.2 (m : Int) (by omega) (by omega)
    cases e133
    rw [HR2.out] at hx
    simp only [Int.toNat_natCast] at hx
    have j1 : IntKind.i64.wrap ((L.length : Int) - 1) = (m : Int) := by
      rw [hm, IntKind.wrap_i64]
      simp
      omega
    have p1 : 0 ≤ (m : Int) := by omega
    have q1 : (m : Int) < (L.length : Int) := by omega
    rw [← HN.out] at hr
    rw [← show r1.length = m by rw [HN.out, List.length_take]; omega] at hr
    have HR := Aside0.mk hr
    have HL := Aside0.mk (show r1.length = m by rw [HN.out, List.length_take]; omega)
    clear hm hbd hcap hi0 hr
    go_quiet (fail)
    go_wp2
    rw [← HL.out]
    go_ret2
    exact ⟨_, rfl, Kd.R_drewN HR.out nq, pw_below_drewN HB.out nq⟩
  · cases h
end XJ2
end Go.Proofs.YtfnegdimddmjnaaDoor
