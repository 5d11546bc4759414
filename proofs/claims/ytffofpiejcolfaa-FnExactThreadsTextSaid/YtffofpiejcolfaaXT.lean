/- strings.Join, the laws' eqVectorS and eqThread, as plain functions with their contracts. -/
import Derived.Test.YtffofpiejcolfaaXC
import Derived.Test.YtffofpiejcolfaaShelf
import Derived.Test.YtffofpiejcolfaaF02
set_option linter.unusedVariables false
set_option linter.unusedSimpArgs false
namespace Go.Proofs.Ytffofpiejcolfaa
open Go.RowKit Go.Proofs.YtffofpiejcolfaaW.PrintWords Go.Proofs.YtffofpiejcolfaaW.PrintLast Go.Proofs.YtffofpiejcolfaaW.PrintMore
attribute [local go_sem] max2_int min2_int max_two min_two max_three min_three max_four min_four   -- for this text's walks alone
namespace XT
open XF XL XC F0
/-- strings.Join. -/
def strings_Join.f (l0 : List ByteArray) (a1 : ByteArray) : Option ByteArray :=
  if l0.length ≤ 140737488355328 ∧ (Lib.join (l0.map (·.data.toList)) a1.data.toList).length ≤ 140737488355328 then some ⟨(Lib.join (l0.map (·.data.toList)) a1.data.toList).toArray⟩ else none
theorem strings_Join.calls (A0 : Option Addr) (c0 : Nat) (l0 : List ByteArray) (a1 : ByteArray) (r : ByteArray) (w : World) (hr0 : Kd.C Kd.string w A0 l0.length l0) (hc0 : l0.length ≤ c0) (h : strings_Join.f l0 a1 = some r) :
    Calls Try.prog 51 #[.slice A0 l0.length c0, .string a1] w fun e w' => e = .returned (.string r) ∧ Below w.heap.size w w' := by
  unfold strings_Join.f at h
  split at h
  case isFalse => cases h
  rename_i hl
  obtain rfl := Option.some.inj h
  cases l0 with
  | nil =>
    refine (Try.strings_Join_none A0 c0 a1 w).mono ?_
    rintro e w' ⟨rfl, rfl⟩
    exact ⟨rfl, Below.refl _ _⟩
  | cons x l =>
    obtain ⟨ad, rfl, h0⟩ := Kd.at_string hr0 0 (Int.le_refl 0) (by simp)
    obtain ⟨bk, o, sp⟩ := ad
    have hsp : sp = none := by
      cases sp with
      | none => rfl
      | some s =>
        simp only [Int.toNat_zero, Addr.add, if_true] at h0
        unfold World.cell? at h0
        split at h0
        · simp at h0
        · cases h0
    subst hsp
    refine (Try.strings_Join bk o c0 (x :: l) a1 w ?_ (World.block_lt_of_cell? w _ h0) hl.1 hc0 hl.2).mono ?_
    · intro j y hy
      obtain ⟨ad2, e2, hj⟩ := Kd.at_string hr0 (j : Int) (by omega) (by have := (List.getElem?_eq_some_iff.1 hy).1; omega)
      obtain rfl := Option.some.inj e2
      rw [Int.toNat_natCast, show (⟨bk, o, none⟩ : Addr).add j = ⟨bk, o + j, none⟩ by unfold Addr.add; split <;> simp_all] at hj
      rw [hj]
      simp only [rdOf, Int.toNat_natCast, List.getD_eq_getElem?_getD, hy, Option.getD_some]
    · rintro e w' ⟨rfl, hb⟩
      exact ⟨rfl, hb⟩
theorem cell_first (w : World) (c : Array Value) (t : TypeId) (o2 : Obj) (i : Nat) : ((w.alloc (.cells c t)).alloc o2).cell? ⟨w.heap.size, i, none⟩ = c[i]? := by
  have h : ((w.alloc (.cells c t)).alloc o2).heap[w.heap.size]? = some (.cells c t) := (heap_alloc_old (w.alloc _) o2 (by simp)).trans (heap_alloc_new w _)
  unfold World.cell?
  rw [h]
  rfl
theorem cell_second (w : World) (o1 : Obj) (c : Array Value) (t : TypeId) (i : Nat) : ((w.alloc o1).alloc (.cells c t)).cell? ⟨w.heap.size + 1, i, none⟩ = c[i]? := by
  unfold World.cell?
  rw [heap_two]
  rfl
/-- laws.eqThread. -/
def eqThread.f (l0_0 : List S46) (a0_1 : Nat) (l1_0 : List S46) (a1_1 : Nat) : Option Bool :=
  (F0.laws_eqVectorS.f (l0_0.length + 1) l0_0 l1_0).bind fun t => some (t && sfc a0_1 a1_1)
set_option maxHeartbeats 4000000 in
set_option maxRecDepth 100000 in
theorem eqThread.calls (A0_0 : Option Addr) (c0_0 : Nat) (l0_0 : List S46) (a0_1 : Nat) (A1_0 : Option Addr) (c1_0 : Nat) (l1_0 : List S46) (a1_1 : Nat) (r : Bool) (w : World) (hr0_0 : Kd.C k46 w A0_0 l0_0.length l0_0) (hc0_0 : l0_0.length ≤ c0_0) (hr1_0 : Kd.C k46 w A1_0 l1_0.length l1_0) (hc1_0 : l1_0.length ≤ c1_0) (h : eqThread.f l0_0 a0_1 l1_0 a1_1 = some r) :
    Calls Try.prog 16 #[.agg #[.slice A0_0 l0_0.length c0_0, .float .f32 a0_1], .agg #[.slice A1_0 l1_0.length c1_0, .float .f32 a1_1]] w fun e w' => e = .returned (.bool r) ∧ Below w.heap.size w w' := by
  obtain ⟨t, ht, h2⟩ := Option.bind_eq_some_iff.1 h
  obtain rfl := Option.some.inj h2
  clear h h2
  have q0 : (Try.prog.underlying 23).isSome = true := by kernel_rfl
  have q1 := Try.underlying34
  cases t with
  | false =>
    go_enter Try.func16, Try.ntmps16
    go_wp2_with (first | (go_at_call 48; refine (F0.laws_eqVectorS.calls _ _ _ _ _ _ _ _ _ (Kd.C_alloc (Kd.C_alloc hr0_0 _) _) hc0_0 (Kd.C_alloc (Kd.C_alloc hr1_0 _) _) hc1_0 ht).mono ?_; rintro e w1 ⟨rfl, hb⟩))
    go_ret
    exact ⟨by first | rfl | (simp [*]; done), below_step (below_alloc (below_alloc (Below.refl _ _) _) _) hb⟩
  | true =>
    cases es : sfc a0_1 a1_1 with
    | false =>
      go_enter Try.func16, Try.ntmps16
      go_wp2_with (first | (go_at_call 48; refine (F0.laws_eqVectorS.calls _ _ _ _ _ _ _ _ _ (Kd.C_alloc (Kd.C_alloc hr0_0 _) _) hc0_0 (Kd.C_alloc (Kd.C_alloc hr1_0 _) _) hc1_0 ht).mono ?_; rintro e w1 ⟨rfl, hb⟩; have f1 := (hb.cell (p := ⟨w.heap.size, 1, none⟩) (by first | (simp; done) | (simp; omega))).trans (cell_first _ _ _ _ 1); have g1 := (hb.cell (p := ⟨w.heap.size + 1, 1, none⟩) (by first | (simp; done) | (simp; omega))).trans (cell_second _ _ _ _ 1); have hbw := below_step (below_alloc (below_alloc (Below.refl w.heap.size w) _) _) hb; clear hb) | (refine wpList_conv rfl _ _ _ rfl q0 q1 _ rfl ?_; intro b' n hc) | (go_at_call 15; refine (sameFloat_c _ _ _ _ (by assumption) (by assumption) _).mono ?_; rw [es]; rintro e w1 ⟨rfl, ⟨nd, rfl⟩⟩))
      go_ret
      exact ⟨by first | rfl | (simp [*]; done), by repeat (first | exact hbw | apply pw_below_drewN)⟩
    | true =>
      go_enter Try.func16, Try.ntmps16
      go_wp2_with (first | (go_at_call 48; refine (F0.laws_eqVectorS.calls _ _ _ _ _ _ _ _ _ (Kd.C_alloc (Kd.C_alloc hr0_0 _) _) hc0_0 (Kd.C_alloc (Kd.C_alloc hr1_0 _) _) hc1_0 ht).mono ?_; rintro e w1 ⟨rfl, hb⟩; have f1 := (hb.cell (p := ⟨w.heap.size, 1, none⟩) (by first | (simp; done) | (simp; omega))).trans (cell_first _ _ _ _ 1); have g1 := (hb.cell (p := ⟨w.heap.size + 1, 1, none⟩) (by first | (simp; done) | (simp; omega))).trans (cell_second _ _ _ _ 1); have hbw := below_step (below_alloc (below_alloc (Below.refl w.heap.size w) _) _) hb; clear hb) | (refine wpList_conv rfl _ _ _ rfl q0 q1 _ rfl ?_; intro b' n hc) | (go_at_call 15; refine (sameFloat_c _ _ _ _ (by assumption) (by assumption) _).mono ?_; rw [es]; rintro e w1 ⟨rfl, ⟨nd, rfl⟩⟩))
      go_ret
      exact ⟨by first | rfl | (simp [*]; done), by repeat (first | exact hbw | apply pw_below_drewN)⟩
/-- spec.ThreadText. -/
def spec_ThreadText.f (k : Nat) (l0_0 : List S46) (a0_1 : Nat) : Option (ByteArray × Bool) :=
  (F0.spec_l06Is.f k l0_0 a0_1).bind fun t => if t.1 = true then (F0.spec_l08Thread.f k l0_0 t.2).bind fun u => some (u.1, true) else some ((⟨#[]⟩ : ByteArray), false)
theorem spec_ThreadText.mono : ∀ a0 a1 k, LeO (spec_ThreadText.f k a0 a1) (spec_ThreadText.f (k + 1) a0 a1) := by
  intro a0 a1 k
  unfold spec_ThreadText.f
  refine LeO.bind (F0.spec_l06Is.mono _ _ _) (fun _ => ?_)
  refine LeO.ite ?_ ?_
  · refine LeO.bind (F0.spec_l08Thread.mono _ _ _) (fun _ => ?_)
    exact LeO.refl _
  · exact LeO.refl _
set_option maxHeartbeats 4000000 in
set_option maxRecDepth 100000 in
theorem spec_ThreadText.calls (k : Nat) (A0_0 : Option Addr) (c0_0 : Nat) (l0_0 : List S46) (a0_1 : Nat) (r1 : ByteArray) (r2 : Bool) (w : World) (hr0_0 : Kd.C k46 w A0_0 l0_0.length l0_0) (hc0_0 : l0_0.length ≤ c0_0) (h : spec_ThreadText.f k l0_0 a0_1 = some (r1, r2)) :
    Calls Try.prog 17 #[.agg #[.slice A0_0 l0_0.length c0_0, .float .f32 a0_1]] w fun e w' => e = .returned (.tuple #[.string r1, .bool r2]) ∧ Below w.heap.size w w' := by
  obtain ⟨⟨t, s⟩, ht, h⟩ := Option.bind_eq_some_iff.1 h
  have hI := IsS31.new w w A0_0 c0_0 l0_0 a0_1 (Below.refl _ _) hr0_0
  have hB1 := below_alloc (Below.refl w.heap.size w) (.cells #[.slice A0_0 l0_0.length c0_0, .float .f32 a0_1] 31)
  cases t with
  | false =>
    rw [if_neg (by simp)] at h
    obtain ⟨rfl, rfl⟩ := Prod.mk.inj (Option.some.inj h)
    go_enter Try.func17, Try.ntmps17
    go_wp2_with (first | (go_at_call 41; refine (F0.spec_l06Is.calls _ _ _ _ _ _ _ _ hI hB1 ht).mono ?_; rintro e w1 ⟨rfl, hI1, hb1, hk1⟩))
    go_ret2
    exact ⟨rfl, hb1⟩
  | true =>
    rw [if_pos rfl] at h
    obtain ⟨⟨u, s2⟩, hu, h⟩ := Option.bind_eq_some_iff.1 h
    obtain ⟨rfl, rfl⟩ := Prod.mk.inj (Option.some.inj h)
    go_enter Try.func17, Try.ntmps17
    go_wp2_with (first | (go_at_call 41; refine (F0.spec_l06Is.calls _ _ _ _ _ _ _ _ hI hB1 ht).mono ?_; rintro e w1 ⟨rfl, hI1, hb1, hk1⟩) | (go_at_call 49; refine (F0.spec_l08Thread.calls _ _ _ _ _ _ _ _ hI1 hb1 hu).mono ?_; rintro e w2 ⟨rfl, hI2, hb2, hk2⟩))
    go_ret2
    exact ⟨rfl, hb2⟩
end XT
end Go.Proofs.Ytffofpiejcolfaa
