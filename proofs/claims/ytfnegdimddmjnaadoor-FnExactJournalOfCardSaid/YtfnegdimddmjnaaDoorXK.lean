/- impl.JournalOf as a plain function with its contract: the journal in a strings.Builder that the call has made. Condition: GLJ. -/
import Derived.Test.YtfnegdimddmjnaaDoorXB
import Derived.Test.YtfnegdimddmjnaaDoorPJ
set_option linter.unusedVariables false
namespace Go.Proofs.YtfnegdimddmjnaaDoor
open Go.RowKit Go.Proofs.YtfnegdimddmjnaaDoorW.PrintWords Go.Proofs.YtfnegdimddmjnaaDoorW.PrintLast Go.Proofs.YtfnegdimddmjnaaDoorW.PrintMore
open T PJ
attribute [local go_sem] max2_int min2_int max_two min_two max_three min_three max_four min_four   -- for this text's walks alone
namespace XK
/-- A journal's bytes behind `out`, from the check number n on. -/
def jl : List ByteArray → Int → ByteArray → ByteArray × Bool
  | [], _, out => if out.size > 16000 then (⟨#[]⟩, false) else (out, true)
  | L :: r, n, out => if L.size > 16000 ∨ Lib.contains L.data.toList [10] = true ∨ out.size > 16000 then (⟨#[]⟩, false) else jl r (chk n L.data.toList) (out ++ (((B (Lib.itoa (chk n L.data.toList)) ++ (⟨#[32]⟩ : ByteArray)) ++ L) ++ (⟨#[10]⟩ : ByteArray)))
def journal.f (l0 : List ByteArray) : Option (ByteArray × Bool) := if l0.length ≤ 1073741824 then some (jl l0 0 ⟨#[]⟩) else none
theorem builder_below {Bb b : Nat} {p : Value} {bs : List Value} {w w' : World} (h : Lib.BuilderAtF 42 5 Bb b p bs w) (hb : Below w.heap.size w w') : Lib.BuilderAtF 42 5 Bb b p bs w' := by
  obtain ⟨hB, v, hbk, hown, hne⟩ := h
  have lt {i : Nat} {o : Obj} (h : w.heap[i]? = some o) : i < w.heap.size := by
    rcases Nat.lt_or_ge i w.heap.size with h' | h'
    · exact h'
    · simp [Array.getElem?_eq_none h'] at h
  refine ⟨hB, v, (hb.block b (lt hbk)).trans hbk, ⟨hown.1, ?_⟩, hne⟩
  rcases hown.2 with hn | ⟨g, cap, cur, fz, hv, hbg, hg, r⟩
  · exact .inl hn
  · exact .inr ⟨g, cap, cur, fz, hv, hbg, (hb.block g (lt hg)).trans hg, r⟩
theorem isb_below {Bb b : Nat} {bs : List Value} {w w' : World} (h : Lib.IsBuilderF 42 5 Bb b bs w) (hb : Below w.heap.size w w') : Lib.IsBuilderF 42 5 Bb b bs w' :=
  h.elim (fun x => .inl (builder_below x hb)) (fun x => .inr (builder_below x hb))
theorem sz_sp : (⟨#[32]⟩ : ByteArray).size = 1 := rfl
theorem sz_nl : (⟨#[10]⟩ : ByteArray).size = 1 := rfl
theorem nl_eq : (⟨#[10]⟩ : ByteArray).data.toList = [10] := rfl
theorem out_size {x s : ByteArray} : (x ++ s).size = x.size + s.size := by simp
theorem strCells_append (a b : ByteArray) : Lib.strCells a ++ Lib.strCells b = Lib.strCells (a ++ b) := by simp [Lib.strCells]
theorem len_c (Bb b : Nat) (out : ByteArray) (w : World) (h : Lib.IsBuilderF 42 5 Bb b (Lib.strCells out) w) :
    Calls Tryd.prog 21 #[.pointer (some ⟨b, 0, none⟩)] w fun e w' => e = .returned (.int .i64 out.size) ∧ w' = w := by
  have := Tryd.Builder_Len_f Bb b _ w h
  rwa [Lib.strCells_length] at this
theorem str_c (Bb b : Nat) (out : ByteArray) (w : World) (h : Lib.IsBuilderF 42 5 Bb b (Lib.strCells out) w) (hBw : Bb ≤ w.heap.size) :
    Calls Tryd.prog 25 #[.pointer (some ⟨b, 0, none⟩)] w fun e w' => e = .returned (.string out) ∧ Below Bb w w' := by
  refine (Tryd.Builder_String_any_f Bb b out.data.toList w h hBw).mono ?_
  rintro e w' ⟨rfl, _, hb⟩
  exact ⟨rfl, hb⟩
theorem ws_c (Bb b : Nat) (out s : ByteArray) (w : World) (h : Lib.IsBuilderF 42 5 Bb b (Lib.strCells out) w) (hl : out.size + s.size ≤ 140737488355328) (hBw : Bb ≤ w.heap.size) :
    Calls Tryd.prog 23 #[.pointer (some ⟨b, 0, none⟩), .string s] w fun e w' => e = .returned (.tuple #[.int .i64 s.size, .nilIface]) ∧ Lib.IsBuilderF 42 5 Bb b (Lib.strCells (out ++ s)) w' ∧ Below Bb w w' := by
  refine (XB.writeString_f Bb b _ s w h (by rw [Lib.strCells_length]; exact hl) hBw).mono ?_
  rintro e w' ⟨rfl, ha, hb⟩
  exact ⟨rfl, .inr (strCells_append out s ▸ ha), hb⟩
set_option maxHeartbeats 8000000 in
set_option maxRecDepth 100000 in
theorem journal.calls (A0 : Option Addr) (c0 : Nat) (l0 : List ByteArray) (r1 : ByteArray) (r2 : Bool) (w : World) (hr0 : Kd.C Kd.string w A0 l0.length l0) (hc0 : l0.length ≤ c0) (h : journal.f l0 = some (r1, r2)) (gl : GLJ w := by first | exact (‹Aside0 (GLJ _)›).out | exact GLJ.of_below (‹Aside0 (GLJ _)›).out (by repeat (first | (with_reducible first | exact (‹Aside0 (Below _ _ _)›).out | apply below_alloc | apply pw_below_drewN | apply below_drew1) | exact (‹Aside0 (Below _ _ _)›).out))) :
    Calls Tryd.prog 11 #[.slice A0 l0.length c0] w fun e w' => e = .returned (.tuple #[.string r1, .bool r2]) ∧ Below w.heap.size w w' := by
  unfold journal.f at h
  split at h
  case isFalse => cases h
  rename_i hl0
  replace h := Option.some.inj h
  have HG_ := Aside0.mk gl
  clear gl
  have HR0 := Aside0.mk hr0
  clear hr0
  have HH := Aside0.mk h
  clear h
  go_enter Tryd.func11, Tryd.ntmps11
  go_wp2
  go_loopg [5, 11] l0.length (fun kq v5 v11 w' => ∃ (i : Nat) (n : Int) (out : ByteArray), v5 = .int .i64 n ∧ v11 = .int .i64 (i : Int) ∧ Aside0 (i + kq = l0.length) ∧ Aside0 (0 ≤ n ∧ n ≤ 65002 ∧ out.size ≤ 40000) ∧ Aside0 (jl (l0.drop i) n out = (r1, r2)) ∧ Aside0 (Lib.IsBuilderF 42 5 w.heap.size w.heap.size (Lib.strCells out) w') ∧ Aside0 (Below w.heap.size w w'))
  case atStart => exact ⟨0, 0, ⟨#[]⟩, rfl, rfl, ⟨by simp⟩, ⟨by decide, by decide, by decide⟩, HH, ⟨Lib.IsBuilderF.of (Lib.fresh_isBuilder 42 5 w)⟩, ⟨below_alloc (Below.refl _ _) _⟩⟩
  case round =>
    clear HH
    obtain ⟨i, n, out, rfl, rfl, HI, HN, HJ, HBU, HB⟩ := hrel
    obtain ⟨hn0, hn1, hos⟩ := HN.out
    clear HN
    cases gk with
    | zero =>
      have hi := HI.out
      have hc : decide ((i : Int) < (l0.length : Int)) = false := by simp; omega
      have hj := HJ.out
      rw [List.drop_eq_nil_of_le (by omega), jl] at hj
      clear HI HJ
      by_cases hb : out.size > 16000
      · rw [if_pos hb] at hj
        obtain ⟨rfl, rfl⟩ := Prod.mk.inj hj
        have hb' : decide ((16000 : Int) < (out.size : Int)) = true := by simp; omega
        go_wp2_with (first | (go_at_call 21; refine (len_c _ _ _ _ HBU.out).mono ?_; rintro e w1 ⟨rfl, rfl⟩))
        go_ret2
        exact ⟨rfl, HB.out⟩
      · rw [if_neg hb] at hj
        obtain ⟨rfl, rfl⟩ := Prod.mk.inj hj
        have hb' : decide ((16000 : Int) < (out.size : Int)) = false := by simp; omega
        have hs := HB.out.size
        go_wp2_with (first | (go_at_call 21; refine (len_c _ _ _ _ HBU.out).mono ?_; rintro e w1 ⟨rfl, rfl⟩) | (go_at_call 25; refine (str_c _ _ _ _ HBU.out hs).mono ?_; rintro e w1 ⟨rfl, hb1⟩))
        go_ret2
        exact ⟨rfl, HB.out.trans hb1⟩
    | succ k1 =>
      have hi := HI.out
      have hil : i < l0.length := by omega
      have hc : decide ((i : Int) < (l0.length : Int)) = true := by simp; omega
      have p0 : (0 : Int) ≤ (i : Int) := by omega
      have q0 : (i : Int) < (l0.length : Int) := by omega
      obtain ⟨ad, ead, hx⟩ := Kd.at_string HR0.out (i : Int) p0 q0
      cases ead
      replace hx := (HB.out.cell (World.block_lt_of_cell? w _ hx)).trans hx
      rw [Int.toNat_natCast] at hx
      have hrd : rdOf ByteArray.empty l0 (i : Int) = l0[i] := by simp [rdOf, hil]
      rw [hrd] at hx
      have hj := HJ.out
      rw [List.drop_eq_getElem_cons hil, jl] at hj
      clear HJ
      have p0b := eq_true p0
      have q0b := eq_true q0
      have p0c := decide_eq_true p0
      generalize l0[i] = L at hx hj
      by_cases h1 : L.size > 16000
      · rw [if_pos (.inl h1)] at hj
        obtain ⟨rfl, rfl⟩ := Prod.mk.inj hj
        have h1' : decide ((16000 : Int) < (L.size : Int)) = true := by simp; omega
        go_wp2
        go_ret2
        exact ⟨rfl, HB.out⟩
      · have h1' : decide ((16000 : Int) < (L.size : Int)) = false := by simp; omega
        have gl1 : GLJ wr := GLJ.of_below HG_.out HB.out
        have hct : XJ.strings_Contains.f L (⟨#[10]⟩ : ByteArray) = some (Lib.contains L.data.toList [10]) := by
          unfold XJ.strings_Contains.f
          rw [if_pos (by omega)]
        by_cases h2 : Lib.contains L.data.toList [10] = true
        · rw [if_pos (.inr (.inl h2))] at hj
          obtain ⟨rfl, rfl⟩ := Prod.mk.inj hj
          rw [h2] at hct
          go_wp2_with (first | (go_at_call 20; refine (XJ.strings_Contains.calls _ _ _ _ hct gl1).mono ?_; rintro e w1 ⟨rfl, ⟨nd, rfl⟩⟩))
          go_ret2
          exact ⟨rfl, pw_below_drewN HB.out _⟩
        · replace h2 := Bool.eq_false_iff.mpr h2
          rw [h2] at hct
          by_cases h3 : out.size > 16000
          · rw [if_pos (.inr (.inr h3))] at hj
            obtain ⟨rfl, rfl⟩ := Prod.mk.inj hj
            have h3' : decide ((16000 : Int) < (out.size : Int)) = true := by simp; omega
            go_wp2_with (first | (go_at_call 20; refine (XJ.strings_Contains.calls _ _ _ _ hct gl1).mono ?_; rintro e w1 ⟨rfl, ⟨nd, rfl⟩⟩) | (go_at_call 21; refine (len_c _ _ _ _ (isb_below HBU.out (pw_below_drewN (Below.refl _ _) _))).mono ?_; rintro e w1 ⟨rfl, rfl⟩))
            go_ret2
            exact ⟨rfl, pw_below_drewN HB.out _⟩
          · rw [if_neg (by rw [h2]; simp only [Bool.false_eq_true, false_or, not_or]; exact ⟨h1, h3⟩)] at hj
            have h3' : decide ((16000 : Int) < (out.size : Int)) = false := by simp; omega
            have hck := PJ.checkOf_f L (by omega) (L.size + 1) (by omega) n hn0 hn1
            obtain ⟨hm0, hm1⟩ := chk_range L.data.toList n hn0 hn1
            generalize chk n L.data.toList = m at hj hck hm0 hm1
            have hdc := PJ.decimal_f m (by omega) (by omega)
            have hdl := itoa_len m (by omega) (by omega)
            have hds : (B (Lib.itoa m)).size ≤ 20 := by rw [B_size]; exact hdl
            generalize B (Lib.itoa m) = D at hj hdc hds
            have gl2 : ∀ k, GLJ (wr.drewN k) := fun k => GLJ.of_below HG_.out (pw_below_drewN HB.out k)
            go_wp2_with (first | (go_at_call 20; refine (XJ.strings_Contains.calls _ _ _ _ hct gl1).mono ?_; rintro e w1 ⟨rfl, ⟨nd, rfl⟩⟩) | (go_at_call 21; refine (len_c _ _ _ _ (isb_below HBU.out (pw_below_drewN (Below.refl _ _) _))).mono ?_; rintro e w1 ⟨rfl, rfl⟩) | (go_at_call 22; refine (GJ.impl_CheckOf.calls _ _ _ _ _ _ hck (gl2 _)).mono ?_; rintro e w1 ⟨rfl, ⟨nd1, rfl⟩⟩))
            · generalize hW : World.drewN _ _ = wq
              have hbq : Below w.heap.size w wq := by rw [← hW]; exact pw_below_drewN HB.out _
              have hbu : Lib.IsBuilderF 42 5 w.heap.size w.heap.size (Lib.strCells out) wq := by rw [← hW]; exact isb_below HBU.out (pw_below_drewN (Below.refl _ _) _)
              clear HBU HB hx hW
              have sz1 : D.size + 1 ≤ 9223372036854775807 := by omega
              have sz2 : (D ++ (⟨#[32]⟩ : ByteArray)).size + L.size ≤ 9223372036854775807 := by simp only [ByteArray.size_append, sz_sp]; omega
              have sz3 : ((D ++ (⟨#[32]⟩ : ByteArray)) ++ L).size + 1 ≤ 9223372036854775807 := by simp only [ByteArray.size_append, sz_sp]; omega
              have sz4 : D.size + 1 + L.size ≤ 9223372036854775807 := by omega
              have sz5 : D.size + 1 + L.size + 1 ≤ 9223372036854775807 := by omega
              have sz6 : (9223372036854775807 < D.size + 1) = False := eq_false (Nat.not_lt.2 sz1)
              have sz7 : (9223372036854775807 < D.size + 1 + L.size) = False := eq_false (Nat.not_lt.2 sz4)
              have sz8 : (9223372036854775807 < D.size + 1 + L.size + 1) = False := eq_false (Nat.not_lt.2 sz5)
              have szT : (((D ++ (⟨#[32]⟩ : ByteArray)) ++ L) ++ (⟨#[10]⟩ : ByteArray)).size ≤ 16030 := by simp only [ByteArray.size_append, sz_sp, sz_nl]; omega
              refine (GJ.impl_Decimal.calls _ _ _ hdc (GLJ.of_below HG_.out hbq)).mono ?_
              rintro e wd ⟨rfl, hb1⟩
              have hbd : Below w.heap.size w wd := below_step hbq hb1
              replace hbu := isb_below hbu hb1
              clear hb1 hbq
              have hsz := hbd.size
              go_wp2_with (go_at_call 23; refine (ws_c _ _ _ _ _ hbu (by omega) hsz).mono ?_; rintro e w1 ⟨rfl, hbu1, hb1⟩)
              go_roundg k1
              case measure => omega
              case rel => exact ⟨i + 1, m, _, rfl, rfl, ⟨by omega⟩, ⟨hm0, hm1, by simp only [ByteArray.size_append, sz_sp, sz_nl]; omega⟩, ⟨hj⟩, ⟨hbu1⟩, ⟨hbd.trans hb1⟩⟩
end XK
end Go.Proofs.YtfnegdimddmjnaaDoor
