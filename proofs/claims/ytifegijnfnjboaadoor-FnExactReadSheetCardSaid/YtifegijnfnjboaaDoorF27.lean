/- Walks of functions of this seat, printed by a program of this session; each contract speaks of every world that meets its premises. -/
import Derived.Test.YtifegijnfnjboaaDoorXS
import Derived.Test.YtifegijnfnjboaaDoorXM
import Derived.Test.YtifegijnfnjboaaDoorXV
import Derived.Test.YtifegijnfnjboaaDoorF20
import Derived.Test.YtifegijnfnjboaaDoorF23
import Derived.Test.YtifegijnfnjboaaDoorF25
import Derived.Test.YtifegijnfnjboaaDoorF26
namespace Go.Proofs.YtifegijnfnjboaaDoor.F2
open Go.Proofs.YtifegijnfnjboaaDoor.FA
open Go.RowKit Go.Proofs.YtifegijnfnjboaaDoorW.PrintWords Go.Proofs.YtifegijnfnjboaaDoorW.PrintLast Go.Proofs.YtifegijnfnjboaaDoorW.PrintMore
attribute [local go_sem] max2_int min2_int max_two min_two max_three min_three max_four min_four   -- for this text's walks alone
set_option linter.unusedVariables false
set_option linter.unusedSimpArgs false

/-! ### laws_FnExactReadSheet: function 6 -/
mutual
def laws_FnExactReadSheet.j0 : Nat → ByteArray → Bool → Bool → List (Nat × Nat) → List Nat → Bool → List (Nat × Nat) → List Nat → Bool → Option (Bool)
  | 0, _, _, _, _, _, _, _, _, _ => none
  | k + 1, x0, x4, x32, x268000, x268001, x268002, x277000, x277001, x277002 => if x32 = true then (some false) else ((laws_markSheet.f k x277000 x277001 x277002 1).bind fun bt278 => ((laws_heldSheet.f k bt278.2.1 bt278.2.2 x277002 1).bind fun t281 => (if t281 < 0 then (some false) else (if t281 = bt278.1 then ((impl_ReadSheet.f k x0).bind fun bt282 => ((laws_eqSheet.f bt282.1 bt282.2.1 bt282.2.2.1 x268000 x268001 x268002).bind fun t291 => (if t291 = true then (laws_FnExactReadSheet.j1 k bt278.1 (bt282.2.2.2 != x4) bt278.2.1 bt278.2.2 x277002) else (laws_FnExactReadSheet.j1 k bt278.1 true bt278.2.1 bt278.2.2 x277002)))) else (some false)))))
def laws_FnExactReadSheet.j1 : Nat → Int → Bool → List (Nat × Nat) → List Nat → Bool → Option (Bool)
  | 0, _, _, _, _, _ => none
  | k + 1, x7, x57, x277000, x277001, x277002 => if x57 = true then (some false) else ((laws_heldSheet.f k x277000 x277001 x277002 1).bind fun t292 => (if t292 < 0 then (some false) else (if t292 = x7 then (some true) else (some false))))
end
def laws_FnExactReadSheet.f (k : Nat) (a0 : ByteArray) : Option (Bool) := if (a0.size : Int) > 1048576 then (some true) else ((spec_ReadSheet.f k a0).bind fun bt259 => ((impl_ReadSheet.f k a0).bind fun bt268 => ((laws_eqSheet.f bt268.1 bt268.2.1 bt268.2.2.1 bt259.1 bt259.2.1 bt259.2.2.1).bind fun t277 => (if t277 = true then (laws_FnExactReadSheet.j0 k a0 bt259.2.2.2 (bt268.2.2.2 != bt259.2.2.2) bt259.1 bt259.2.1 bt259.2.2.1 bt268.1 bt268.2.1 bt268.2.2.1) else (laws_FnExactReadSheet.j0 k a0 bt259.2.2.2 true bt259.1 bt259.2.1 bt259.2.2.1 bt268.1 bt268.2.1 bt268.2.2.1)))))
theorem laws_FnExactReadSheet.mono_l : ∀ k, (∀ y0 y1 y2 y3 y4 y5 y6 y7 y8, LeO (laws_FnExactReadSheet.j0 k y0 y1 y2 y3 y4 y5 y6 y7 y8) (laws_FnExactReadSheet.j0 (k + 1) y0 y1 y2 y3 y4 y5 y6 y7 y8)) ∧ (∀ y0 y1 y2 y3 y4, LeO (laws_FnExactReadSheet.j1 k y0 y1 y2 y3 y4) (laws_FnExactReadSheet.j1 (k + 1) y0 y1 y2 y3 y4))
  | 0 => ⟨fun _ _ _ _ _ _ _ _ _ r h => by simp [laws_FnExactReadSheet.j0] at h, fun _ _ _ _ _ r h => by simp [laws_FnExactReadSheet.j1] at h⟩
  | k + 1 => by
    obtain ⟨ih0, ih1⟩ := laws_FnExactReadSheet.mono_l k
    refine ⟨?_, ?_⟩
    · intro y0 y1 y2 y3 y4 y5 y6 y7 y8
      unfold laws_FnExactReadSheet.j0
      repeat' first
      | (with_reducible exact ih0 _ _ _ _ _ _ _ _ _)
      | (with_reducible exact ih1 _ _ _ _ _)
      | (with_reducible exact impl_ReadSheet.mono _ _)
      | (with_reducible exact laws_heldSheet.mono _ _ _ _ _)
      | (with_reducible exact laws_markSheet.mono _ _ _ _ _)
      | (with_reducible exact spec_ReadSheet.mono _ _)
      | (with_reducible exact LeO.refl _)
      | (with_reducible exact LeO.none _)
      | (with_reducible refine LeO.ite ?_ ?_)
      | (with_reducible refine LeO.bind ?_ (fun _ => ?_))
      | exact ih0 _ _ _ _ _ _ _ _ _
      | exact ih1 _ _ _ _ _
      | exact impl_ReadSheet.mono _ _
      | exact laws_heldSheet.mono _ _ _ _ _
      | exact laws_markSheet.mono _ _ _ _ _
      | exact spec_ReadSheet.mono _ _
      | exact LeO.none _
      | refine LeO.ite ?_ ?_
      | refine LeO.bind ?_ (fun _ => ?_)
    · intro y0 y1 y2 y3 y4
      unfold laws_FnExactReadSheet.j1
      repeat' first
      | (with_reducible exact ih0 _ _ _ _ _ _ _ _ _)
      | (with_reducible exact ih1 _ _ _ _ _)
      | (with_reducible exact impl_ReadSheet.mono _ _)
      | (with_reducible exact laws_heldSheet.mono _ _ _ _ _)
      | (with_reducible exact laws_markSheet.mono _ _ _ _ _)
      | (with_reducible exact spec_ReadSheet.mono _ _)
      | (with_reducible exact LeO.refl _)
      | (with_reducible exact LeO.none _)
      | (with_reducible refine LeO.ite ?_ ?_)
      | (with_reducible refine LeO.bind ?_ (fun _ => ?_))
      | exact ih0 _ _ _ _ _ _ _ _ _
      | exact ih1 _ _ _ _ _
      | exact impl_ReadSheet.mono _ _
      | exact laws_heldSheet.mono _ _ _ _ _
      | exact laws_markSheet.mono _ _ _ _ _
      | exact spec_ReadSheet.mono _ _
      | exact LeO.none _
      | refine LeO.ite ?_ ?_
      | refine LeO.bind ?_ (fun _ => ?_)
theorem laws_FnExactReadSheet.mono : ∀ a0 k, LeO (laws_FnExactReadSheet.f k a0) (laws_FnExactReadSheet.f (k + 1) a0) := by
  intro a0 k
  obtain ⟨ih0, ih1⟩ := laws_FnExactReadSheet.mono_l k
  unfold laws_FnExactReadSheet.f
  repeat' first
      | (with_reducible exact ih0 _ _ _ _ _ _ _ _ _)
      | (with_reducible exact ih1 _ _ _ _ _)
      | (with_reducible exact impl_ReadSheet.mono _ _)
      | (with_reducible exact laws_heldSheet.mono _ _ _ _ _)
      | (with_reducible exact laws_markSheet.mono _ _ _ _ _)
      | (with_reducible exact spec_ReadSheet.mono _ _)
      | (with_reducible exact LeO.refl _)
      | (with_reducible exact LeO.none _)
      | (with_reducible refine LeO.ite ?_ ?_)
      | (with_reducible refine LeO.bind ?_ (fun _ => ?_))
      | exact ih0 _ _ _ _ _ _ _ _ _
      | exact ih1 _ _ _ _ _
      | exact impl_ReadSheet.mono _ _
      | exact laws_heldSheet.mono _ _ _ _ _
      | exact laws_markSheet.mono _ _ _ _ _
      | exact spec_ReadSheet.mono _ _
      | exact LeO.none _
      | refine LeO.ite ?_ ?_
      | refine LeO.bind ?_ (fun _ => ?_)
set_option maxHeartbeats 8000000 in
set_option maxRecDepth 100000 in
theorem laws_FnExactReadSheet.calls (k : Nat) (a0 : ByteArray) (r : Bool) (w : World) (h : laws_FnExactReadSheet.f k a0 = some r) (gl : GL w := by first | exact (‹Aside0 (GL _)›).out | exact GL.of_below (‹Aside0 (GL _)›).out (by repeat (first | (with_reducible first | exact (‹Aside0 (Below _ _ _)›).out | apply below_alloc | apply pw_below_drewN | apply below_drew1 | refine below_set ?_ (Aside0.out (by assumption)) | exact Below.refl _ _) | exact (‹Aside0 (Below _ _ _)›).out))) :
    Calls Tryd.prog 6 #[.string a0] w fun e w' => e = .returned (.bool r) ∧ Below w.heap.size w w' := by
  have HG_ := Aside0.mk gl
  clear gl
  have hu43 := Tryd.underlying43
  have HB := Aside0.mk (Below.refl w.heap.size w)
  have H : (if (a0.size : Int) > 1048576 then (some true) else ((spec_ReadSheet.f k a0).bind fun bt259 => ((impl_ReadSheet.f k a0).bind fun bt268 => ((laws_eqSheet.f bt268.1 bt268.2.1 bt268.2.2.1 bt259.1 bt259.2.1 bt259.2.2.1).bind fun t277 => (if t277 = true then (laws_FnExactReadSheet.j0 k a0 bt259.2.2.2 (bt268.2.2.2 != bt259.2.2.2) bt259.1 bt259.2.1 bt259.2.2.1 bt268.1 bt268.2.1 bt268.2.2.1) else (laws_FnExactReadSheet.j0 k a0 bt259.2.2.2 true bt259.1 bt259.2.1 bt259.2.2.1 bt268.1 bt268.2.1 bt268.2.2.1)))))) = some r := h
  clear h
  by_cases c2 : (a0.size : Int) > 1048576
  · rw [if_pos c2] at H
    have c2b0 : decide (1048576 < (a0.size : Int)) = true := decide_eq_true c2
    have c2b1 : decide (1048576 < a0.size) = true := decide_eq_true (by omega)
    clear c2
    obtain rfl := Option.some.inj H
    go_enter Tryd.func6, Tryd.ntmps6
    go_wp2
    go_ret
    exact ⟨by first | rfl | (simp [errW_none, errW_some] <;> rfl) | (simp [*, errW_none, errW_some] <;> rfl), by repeat (first | (with_reducible first | exact HB.out | apply below_alloc | apply pw_below_drewN | apply below_drew1) | exact HB.out)⟩
  · rw [if_neg c2] at H
    have c2b0 : decide (1048576 < (a0.size : Int)) = false := decide_eq_false c2
    have c2b1 : decide (1048576 < a0.size) = false := decide_eq_false (by omega)
    clear c2
    replace H := Option.bind_eq_some_iff.mp H
    obtain ⟨⟨t259, t262, t265, t266⟩, A30, H⟩ := H
    replace H : ((impl_ReadSheet.f k a0).bind fun bt268 => ((laws_eqSheet.f bt268.1 bt268.2.1 bt268.2.2.1 t259 t262 t265).bind fun t277 => (if t277 = true then (laws_FnExactReadSheet.j0 k a0 t266 (bt268.2.2.2 != t266) t259 t262 t265 bt268.1 bt268.2.1 bt268.2.2.1) else (laws_FnExactReadSheet.j0 k a0 t266 true t259 t262 t265 bt268.1 bt268.2.1 bt268.2.2.1)))) = some r := H
    have A3 := Aside0.mk A30
    clear A30
    replace H := Option.bind_eq_some_iff.mp H
    obtain ⟨⟨t268, t271, t274, t275⟩, A40, H⟩ := H
    replace H : ((laws_eqSheet.f t268 t271 t274 t259 t262 t265).bind fun t277 => (if t277 = true then (laws_FnExactReadSheet.j0 k a0 t266 (t275 != t266) t259 t262 t265 t268 t271 t274) else (laws_FnExactReadSheet.j0 k a0 t266 true t259 t262 t265 t268 t271 t274))) = some r := H
    have A4 := Aside0.mk A40
    clear A40
    have HC5 := Aside0.mk H
    clear H
    go_enter Tryd.func6, Tryd.ntmps6
    go_upto_region 5 with (first | ((with_reducible refine gate_callee (f := 21) rfl ?_); refine goesL_ (some 16) rfl rfl Tryd.func21 (by kernel_rfl) rfl #[.string a0] rfl (by (try simp only [List.map_toArray, List.map_cons, List.map_nil]); first | done | rfl | (simp only [List.length_drop, List.length_take]; rfl)) ?_; (with_reducible refine (spec_ReadSheet.calls k a0 t259 t262 t265 t266 _ A3.out).mono ?_); rintro e w6 ⟨v260, v263, rfl, ho0, ho1, hb⟩; refine ⟨_, rfl, ?_⟩; have n0_ := Aside0.mk (Kd.R_lower ho0 (below_size (by repeat (first | (with_reducible first | exact HB.out | apply below_alloc | apply pw_below_drewN | apply below_drew1) | exact HB.out)))); have n1_ := Aside0.mk (Kd.R_lower ho1 (below_size (by repeat (first | (with_reducible first | exact HB.out | apply below_alloc | apply pw_below_drewN | apply below_drew1) | exact HB.out)))); have n2_ := Aside0.mk (below_step (by repeat (first | (with_reducible first | exact HB.out | apply below_alloc | apply pw_below_drewN | apply below_drew1) | exact HB.out)) hb); clear HB; have HO261 := n0_; have HO264 := n1_; have HB := n2_; clear n0_ n1_ n2_; (try clear hb); (try clear hb2); (try clear hk); (try clear hi); (try clear ho0); (try clear ho1)) | ((with_reducible refine gate_dst (N := 3) rfl ?_); refine box_event ?hg (N := 3) ?hd (cs := #[.slice none 0 0, .slice none 0 0, .bool false]) (t := 43) ?hr ?_; (case hd => rfl); (case hg => rfl); (case hr => first | (go_simp; done) | (go_simp; rfl)); intro gb267 hg w7 hbox hb; have n0_ := Aside0.mk (Kd.R_below (by (with_reducible repeat (first | apply Kd.R_alloc | apply Kd.R_drewN | apply Kd.R_drew)); exact HO261.out) hb); have n1_ := Aside0.mk (Kd.R_below (by (with_reducible repeat (first | apply Kd.R_alloc | apply Kd.R_drewN | apply Kd.R_drew)); exact HO264.out) hb); have n2_ := Aside0.mk (below_step (by repeat (first | (with_reducible first | exact HB.out | apply below_alloc | apply pw_below_drewN | apply below_drew1) | exact HB.out)) hb); have n3_ := Aside0.mk (hbox); have n4_ := Aside0.mk ((by rw [hg]; exact (below_size (by repeat (first | (with_reducible first | exact HB.out | apply below_alloc | apply pw_below_drewN | apply below_drew1) | exact HB.out))) : w.heap.size ≤ gb267)); have n5_ := Aside0.mk ((by rw [hg]; exact (below_size (by repeat (first | (with_reducible first | exact HB.out | apply below_alloc | apply pw_below_drewN | apply below_drew1) | exact HB.out))) : w.heap.size ≤ gb267)); clear HO261; clear HO264; clear HB; have HO261 := n0_; have HO264 := n1_; have HB := n2_; have BK267 := n3_; have GW267 := n4_; have GE267 := n5_; clear n0_ n1_ n2_ n3_ n4_ n5_; clear hb hbox hg; obtain ⟨Ao8, co8, eo8⟩ := Kd.R_slice HO261.out; subst eo8; have hcz9_0 : w7.cell? ⟨gb267, 0, none⟩ = some (.slice none 0 0) := (blk_cell BK267.out 0).trans rfl; have hcz9_1 : w7.cell? ⟨gb267, 1, none⟩ = some (.slice none 0 0) := (blk_cell BK267.out 1).trans rfl; have hcz9_2 : w7.cell? ⟨gb267, 2, none⟩ = some (.bool false) := (blk_cell BK267.out 2).trans rfl; have hfz9_0 := blk_frozen BK267.out 0; have hfz9_1 := blk_frozen BK267.out 1; have hfz9_2 := blk_frozen BK267.out 2; obtain ⟨Ao10, co10, eo10⟩ := Kd.R_slice HO264.out; subst eo10) | ((with_reducible refine gate_callee (f := 22) rfl ?_); refine goesL_ (some 21) rfl rfl Tryd.func22 (by kernel_rfl) rfl #[.string a0] rfl (by (try simp only [List.map_toArray, List.map_cons, List.map_nil]); first | done | rfl | (simp only [List.length_drop, List.length_take]; rfl)) ?_; (with_reducible refine (impl_ReadSheet.calls k a0 t268 t271 t274 t275 _ A4.out).mono ?_); rintro e w11 ⟨v269, v272, rfl, ho0, ho1, hb⟩; refine ⟨_, rfl, ?_⟩; have n0_ := Aside0.mk (Kd.R_elder' (by (with_reducible repeat (first | apply Kd.R_alloc | apply Kd.R_drewN | apply Kd.R_drew)); exact (Kd.R_mono (Kd.R_far (p := ⟨gb267, 2, none⟩) (Kd.R_far (p := ⟨gb267, 1, none⟩) (Kd.R_far (p := ⟨gb267, 0, none⟩) (Kd.R_types HO261.out BK267.out (by decide)) (fun _ hk => hk.2) (.slice Ao8 t259.length co8)) (fun _ hk => hk.2) (.slice Ao10 t262.length co10)) (fun _ hk => hk.2) (.bool t265)) (fun _ h_ => h_.1))) (Kd.R_base ho0) hb); have n1_ := Aside0.mk (Kd.R_elder' (by (with_reducible repeat (first | apply Kd.R_alloc | apply Kd.R_drewN | apply Kd.R_drew)); exact (Kd.R_mono (Kd.R_far (p := ⟨gb267, 2, none⟩) (Kd.R_far (p := ⟨gb267, 1, none⟩) (Kd.R_far (p := ⟨gb267, 0, none⟩) (Kd.R_types HO264.out BK267.out (by decide)) (fun _ hk => hk.2) (.slice Ao8 t259.length co8)) (fun _ hk => hk.2) (.slice Ao10 t262.length co10)) (fun _ hk => hk.2) (.bool t265)) (fun _ h_ => h_.1))) (Kd.R_base ho1) hb); have n2_ := Aside0.mk (Kd.R_lower (Kd.R_new' ho0 (Kd.R_lt (by (with_reducible repeat (first | apply Kd.R_alloc | apply Kd.R_drewN | apply Kd.R_drew)); exact (Kd.R_mono (Kd.R_far (p := ⟨gb267, 2, none⟩) (Kd.R_far (p := ⟨gb267, 1, none⟩) (Kd.R_far (p := ⟨gb267, 0, none⟩) (Kd.R_types HO261.out BK267.out (by decide)) (fun _ hk => hk.2) (.slice Ao8 t259.length co8)) (fun _ hk => hk.2) (.slice Ao10 t262.length co10)) (fun _ hk => hk.2) (.bool t265)) (fun _ h_ => h_.1))))) (below_size (by repeat (first | (with_reducible first | exact HB.out | apply below_alloc | apply pw_below_drewN | apply below_drew1 | refine below_set ?_ GE267.out) | exact HB.out)))); have n3_ := Aside0.mk (Kd.R_lower (Kd.R_new' ho1 (Kd.R_lt (by (with_reducible repeat (first | apply Kd.R_alloc | apply Kd.R_drewN | apply Kd.R_drew)); exact (Kd.R_mono (Kd.R_far (p := ⟨gb267, 2, none⟩) (Kd.R_far (p := ⟨gb267, 1, none⟩) (Kd.R_far (p := ⟨gb267, 0, none⟩) (Kd.R_types HO264.out BK267.out (by decide)) (fun _ hk => hk.2) (.slice Ao8 t259.length co8)) (fun _ hk => hk.2) (.slice Ao10 t262.length co10)) (fun _ hk => hk.2) (.bool t265)) (fun _ h_ => h_.1))))) (below_size (by repeat (first | (with_reducible first | exact HB.out | apply below_alloc | apply pw_below_drewN | apply below_drew1 | refine below_set ?_ GE267.out) | exact HB.out)))); have n4_ := Aside0.mk (blk_below (g := gb267) (o := .cells #[.slice Ao8 t259.length co8, .slice Ao10 t262.length co10, .bool t265] 43 (0, 0)) (by (with_reducible repeat (first | refine blk_drewN ?_ _ | refine blk_drew ?_ | refine blk_alloc ?_ _)); refine blk_put (cs := #[.slice Ao8 t259.length co8, .slice Ao10 t262.length co10, .bool false]) ?_ 2 _ rfl; (with_reducible repeat (first | refine blk_drewN ?_ _ | refine blk_drew ?_ | refine blk_alloc ?_ _)); refine blk_put (cs := #[.slice Ao8 t259.length co8, .slice none 0 0, .bool false]) ?_ 1 _ rfl; (with_reducible repeat (first | refine blk_drewN ?_ _ | refine blk_drew ?_ | refine blk_alloc ?_ _)); refine blk_put (cs := #[.slice none 0 0, .slice none 0 0, .bool false]) ?_ 0 _ rfl; (with_reducible repeat (first | refine blk_drewN ?_ _ | refine blk_drew ?_ | refine blk_alloc ?_ _)); exact BK267.out) hb); have n5_ := Aside0.mk (below_step (by repeat (first | (with_reducible first | exact HB.out | apply below_alloc | apply pw_below_drewN | apply below_drew1 | refine below_set ?_ GE267.out) | exact HB.out)) hb); clear HO261; clear HO264; clear BK267; clear HB; have HO261 := n0_; have HO264 := n1_; have HO270 := n2_; have HO273 := n3_; have BK267 := n4_; have HB := n5_; clear n0_ n1_ n2_ n3_ n4_ n5_; (try clear hb); (try clear hb2); (try clear hk); (try clear hi); (try clear ho0); (try clear ho1)) | ((with_reducible refine gate_dst (N := 5) rfl ?_); refine box_event ?hg (N := 5) ?hd (cs := #[.slice none 0 0, .slice none 0 0, .bool false]) (t := 43) ?hr ?_; (case hd => rfl); (case hg => rfl); (case hr => first | (go_simp; done) | (go_simp; rfl)); intro gb276 hg w12 hbox hb; have n0_ := Aside0.mk (Kd.R_below (by (with_reducible repeat (first | apply Kd.R_alloc | apply Kd.R_drewN | apply Kd.R_drew)); exact HO261.out) hb); have n1_ := Aside0.mk (Kd.R_below (by (with_reducible repeat (first | apply Kd.R_alloc | apply Kd.R_drewN | apply Kd.R_drew)); exact HO264.out) hb); have n2_ := Aside0.mk (Kd.R_below (by (with_reducible repeat (first | apply Kd.R_alloc | apply Kd.R_drewN | apply Kd.R_drew)); exact HO270.out) hb); have n3_ := Aside0.mk (Kd.R_below (by (with_reducible repeat (first | apply Kd.R_alloc | apply Kd.R_drewN | apply Kd.R_drew)); exact HO273.out) hb); have n4_ := Aside0.mk (blk_below (g := gb267) (o := .cells #[.slice Ao8 t259.length co8, .slice Ao10 t262.length co10, .bool t265] 43 (0, 0)) (by (with_reducible repeat (first | refine blk_drewN ?_ _ | refine blk_drew ?_ | refine blk_alloc ?_ _)); exact BK267.out) hb); have n5_ := Aside0.mk (below_step (by repeat (first | (with_reducible first | exact HB.out | apply below_alloc | apply pw_below_drewN | apply below_drew1 | refine below_set ?_ GE267.out) | exact HB.out)) hb); have n6_ := Aside0.mk (hbox); have n7_ := Aside0.mk ((by rw [hg]; exact (below_size (by repeat (first | (with_reducible first | exact HB.out | apply below_alloc | apply pw_below_drewN | apply below_drew1 | refine below_set ?_ GE267.out) | exact HB.out))) : w.heap.size ≤ gb276)); have n8_ := Aside0.mk ((by rw [hg]; exact (below_size (by repeat (first | (with_reducible first | exact HB.out | apply below_alloc | apply pw_below_drewN | apply below_drew1 | refine below_set ?_ GE267.out) | exact HB.out))) : w.heap.size ≤ gb276)); have n9_ := Aside0.mk ((by rw [hg]; exact Nat.ne_of_lt (blk_lt (g := gb267) (o := .cells #[.slice Ao8 t259.length co8, .slice Ao10 t262.length co10, .bool t265] 43 (0, 0)) (by (with_reducible repeat (first | refine blk_drewN ?_ _ | refine blk_drew ?_ | refine blk_alloc ?_ _)); exact BK267.out)) : gb267 ≠ gb276)); have n10_ := Aside0.mk ((by rw [hg]; exact Nat.ne_of_gt (blk_lt (g := gb267) (o := .cells #[.slice Ao8 t259.length co8, .slice Ao10 t262.length co10, .bool t265] 43 (0, 0)) (by (with_reducible repeat (first | refine blk_drewN ?_ _ | refine blk_drew ?_ | refine blk_alloc ?_ _)); exact BK267.out)) : gb276 ≠ gb267)); clear HO261; clear HO264; clear HO270; clear HO273; clear BK267; clear HB; have HO261 := n0_; have HO264 := n1_; have HO270 := n2_; have HO273 := n3_; have BK267 := n4_; have HB := n5_; have BK276 := n6_; have GW276 := n7_; have GE276 := n8_; have NB267_276 := n9_; have NB276_267 := n10_; clear n0_ n1_ n2_ n3_ n4_ n5_ n6_ n7_ n8_ n9_ n10_; clear hb hbox hg; obtain ⟨Ao13, co13, eo13⟩ := Kd.R_slice HO270.out; subst eo13; have hnb14 := NB276_267.out; have hnc14 := NB267_276.out; have hcz15_0 : w12.cell? ⟨gb276, 0, none⟩ = some (.slice none 0 0) := (blk_cell BK276.out 0).trans rfl; have hcz15_1 : w12.cell? ⟨gb276, 1, none⟩ = some (.slice none 0 0) := (blk_cell BK276.out 1).trans rfl; have hcz15_2 : w12.cell? ⟨gb276, 2, none⟩ = some (.bool false) := (blk_cell BK276.out 2).trans rfl; have hfz15_0 := blk_frozen BK276.out 0; have hfz15_1 := blk_frozen BK276.out 1; have hfz15_2 := blk_frozen BK276.out 2; obtain ⟨Ao16, co16, eo16⟩ := Kd.R_slice HO273.out; subst eo16))
    (try simp only [Act.put, List.setIfInBounds_toArray, List.set_cons_zero, List.set_cons_succ])
    go_cut [32] (fun v32 wc => ∃ (kq : Nat) (x32_4 : Bool), v32 = .bool x32_4 ∧ Aside0 (laws_FnExactReadSheet.j0 kq a0 t266 x32_4 t259 t262 t265 t268 t271 t274 = some r) ∧ Aside0 (kq ≤ k) ∧ Aside0 (Kd.R (Kd.complex .f32) 67 wc w.heap.size (fun k_ => some k_ ≠ ((.slice Ao13 t268.length co13) : Value).ownBlock) (.slice Ao8 t259.length co8) t259) ∧ Aside0 (Kd.R (Kd.float .f32) 68 wc w.heap.size (fun k_ => some k_ ≠ ((.slice Ao16 t271.length co16) : Value).ownBlock) (.slice Ao10 t262.length co10) t262) ∧ Aside0 (Kd.R (Kd.complex .f32) 67 wc w.heap.size (fun k_ => some k_ ≠ ((.slice Ao8 t259.length co8) : Value).ownBlock) (.slice Ao13 t268.length co13) t268) ∧ Aside0 (Kd.R (Kd.float .f32) 68 wc w.heap.size (fun k_ => some k_ ≠ ((.slice Ao10 t262.length co10) : Value).ownBlock) (.slice Ao16 t271.length co16) t271) ∧ Aside0 (wc.heap[gb267]? = some (.cells #[(.slice Ao8 t259.length co8), (.slice Ao10 t262.length co10), .bool t265] 43 (0, 0))) ∧ Aside0 (wc.heap[gb276]? = some (.cells #[(.slice Ao13 t268.length co13), (.slice Ao16 t271.length co16), .bool t274] 43 (0, 0))) ∧ Aside0 (Below w.heap.size w wc))
    case first =>
      have H := HC5.out
      clear HC5
      replace H := Option.bind_eq_some_iff.mp H
      obtain ⟨t277, A170, H⟩ := H
      replace H : (if t277 = true then (laws_FnExactReadSheet.j0 k a0 t266 (t275 != t266) t259 t262 t265 t268 t271 t274) else (laws_FnExactReadSheet.j0 k a0 t266 true t259 t262 t265 t268 t271 t274)) = some r := H
      have A17 := Aside0.mk A170
      clear A170
      by_cases c18 : t277 = true
      · subst c18
        have H1 : (laws_FnExactReadSheet.j0 k a0 t266 (t275 != t266) t259 t262 t265 t268 t271 t274) = some r := by rw [if_pos rfl] at H; exact H
        clear H
        have H := H1
        clear H1
        have H' := Aside0.mk H
        clear H
        have hnb19 := NB276_267.out
        have hnc19 := NB267_276.out
        have hcz20_0 : w12.cell? ⟨gb276, 0, none⟩ = some (.slice none 0 0) := (blk_cell BK276.out 0).trans rfl
        have hcz20_1 : w12.cell? ⟨gb276, 1, none⟩ = some (.slice none 0 0) := (blk_cell BK276.out 1).trans rfl
        have hcz20_2 : w12.cell? ⟨gb276, 2, none⟩ = some (.bool false) := (blk_cell BK276.out 2).trans rfl
        have hfz20_0 := blk_frozen BK276.out 0
        have hfz20_1 := blk_frozen BK276.out 1
        have hfz20_2 := blk_frozen BK276.out 2
        have hcz21_0 : w12.cell? ⟨gb267, 0, none⟩ = some (.slice Ao8 t259.length co8) := (blk_cell BK267.out 0).trans rfl
        have hcz21_1 : w12.cell? ⟨gb267, 1, none⟩ = some (.slice Ao10 t262.length co10) := (blk_cell BK267.out 1).trans rfl
        have hcz21_2 : w12.cell? ⟨gb267, 2, none⟩ = some (.bool t265) := (blk_cell BK267.out 2).trans rfl
        have hfz21_0 := blk_frozen BK267.out 0
        have hfz21_1 := blk_frozen BK267.out 1
        have hfz21_2 := blk_frozen BK267.out 2
        go_wp2_with (first | ((with_reducible refine gate_callee (f := 23) rfl ?_); refine goesL_ (some 26) rfl rfl Tryd.func23 (by kernel_rfl) rfl #[.agg #[.slice Ao13 t268.length co13, .slice Ao16 t271.length co16, .bool t274], .agg #[.slice Ao8 t259.length co8, .slice Ao10 t262.length co10, .bool t265]] rfl (by (try simp only [List.map_toArray, List.map_cons, List.map_nil]); first | done | rfl | (simp only [List.length_drop, List.length_take]; rfl)) ?_; (with_reducible refine (laws_eqSheet.calls _ _ t268 _ _ t271 t274 _ _ t259 _ _ t262 t265 true _ ?side1 ?side2 ?side3 ?side4 ?side5 ?side6 ?side7 ?side8 A17.out).mono ?_); (case side1 => refine (Kd.R_reads' (e := 67) (base := w.heap.size) (ok := fun k_ => (True ∧ some k_ ≠ (.slice Ao8 t259.length co8 : Value).ownBlock)) (n := t268.length) (c := co13) ?_).2.2; exact (by (with_reducible repeat (first | apply Kd.R_alloc | apply Kd.R_drewN | apply Kd.R_drew)); exact (Kd.R_mono (Kd.R_far (p := ⟨gb276, 2, none⟩) (Kd.R_far (p := ⟨gb276, 1, none⟩) (Kd.R_far (p := ⟨gb276, 0, none⟩) (Kd.R_types HO270.out BK276.out (by decide)) (fun _ hk => hk.2) (.slice Ao13 t268.length co13)) (fun _ hk => hk.2) (.slice Ao16 t271.length co16)) (fun _ hk => hk.2) (.bool t274)) (fun _ h_ => h_.1)))); (case side2 => exact (Kd.R_reads' HO270.out).2.1); (case side3 => refine (Kd.R_reads' (e := 68) (base := w.heap.size) (ok := fun k_ => (True ∧ some k_ ≠ (.slice Ao10 t262.length co10 : Value).ownBlock)) (n := t271.length) (c := co16) ?_).2.2; exact (by (with_reducible repeat (first | apply Kd.R_alloc | apply Kd.R_drewN | apply Kd.R_drew)); exact (Kd.R_mono (Kd.R_far (p := ⟨gb276, 2, none⟩) (Kd.R_far (p := ⟨gb276, 1, none⟩) (Kd.R_far (p := ⟨gb276, 0, none⟩) (Kd.R_types HO273.out BK276.out (by decide)) (fun _ hk => hk.2) (.slice Ao13 t268.length co13)) (fun _ hk => hk.2) (.slice Ao16 t271.length co16)) (fun _ hk => hk.2) (.bool t274)) (fun _ h_ => h_.1)))); (case side4 => exact (Kd.R_reads' HO273.out).2.1); (case side5 => refine (Kd.R_reads' (e := 67) (base := w.heap.size) (ok := fun k_ => (True ∧ some k_ ≠ (.slice Ao13 t268.length co13 : Value).ownBlock)) (n := t259.length) (c := co8) ?_).2.2; exact (by (with_reducible repeat (first | apply Kd.R_alloc | apply Kd.R_drewN | apply Kd.R_drew)); exact (Kd.R_mono (Kd.R_far (p := ⟨gb276, 2, none⟩) (Kd.R_far (p := ⟨gb276, 1, none⟩) (Kd.R_far (p := ⟨gb276, 0, none⟩) (Kd.R_types HO261.out BK276.out (by decide)) (fun _ hk => hk.2) (.slice Ao13 t268.length co13)) (fun _ hk => hk.2) (.slice Ao16 t271.length co16)) (fun _ hk => hk.2) (.bool t274)) (fun _ h_ => h_.1)))); (case side6 => exact (Kd.R_reads' HO261.out).2.1); (case side7 => refine (Kd.R_reads' (e := 68) (base := w.heap.size) (ok := fun k_ => (True ∧ some k_ ≠ (.slice Ao16 t271.length co16 : Value).ownBlock)) (n := t262.length) (c := co10) ?_).2.2; exact (by (with_reducible repeat (first | apply Kd.R_alloc | apply Kd.R_drewN | apply Kd.R_drew)); exact (Kd.R_mono (Kd.R_far (p := ⟨gb276, 2, none⟩) (Kd.R_far (p := ⟨gb276, 1, none⟩) (Kd.R_far (p := ⟨gb276, 0, none⟩) (Kd.R_types HO264.out BK276.out (by decide)) (fun _ hk => hk.2) (.slice Ao13 t268.length co13)) (fun _ hk => hk.2) (.slice Ao16 t271.length co16)) (fun _ hk => hk.2) (.bool t274)) (fun _ h_ => h_.1)))); (case side8 => exact (Kd.R_reads' HO264.out).2.1); rintro e w22 ⟨rfl, hb⟩; refine ⟨_, rfl, ?_⟩; have n0_ := Aside0.mk (Kd.R_below (by (with_reducible repeat (first | apply Kd.R_alloc | apply Kd.R_drewN | apply Kd.R_drew)); exact (Kd.R_mono (Kd.R_far (p := ⟨gb276, 2, none⟩) (Kd.R_far (p := ⟨gb276, 1, none⟩) (Kd.R_far (p := ⟨gb276, 0, none⟩) (Kd.R_types HO261.out BK276.out (by decide)) (fun _ hk => hk.2) (.slice Ao13 t268.length co13)) (fun _ hk => hk.2) (.slice Ao16 t271.length co16)) (fun _ hk => hk.2) (.bool t274)) (fun _ h_ => h_.1))) hb); have n1_ := Aside0.mk (Kd.R_below (by (with_reducible repeat (first | apply Kd.R_alloc | apply Kd.R_drewN | apply Kd.R_drew)); exact (Kd.R_mono (Kd.R_far (p := ⟨gb276, 2, none⟩) (Kd.R_far (p := ⟨gb276, 1, none⟩) (Kd.R_far (p := ⟨gb276, 0, none⟩) (Kd.R_types HO264.out BK276.out (by decide)) (fun _ hk => hk.2) (.slice Ao13 t268.length co13)) (fun _ hk => hk.2) (.slice Ao16 t271.length co16)) (fun _ hk => hk.2) (.bool t274)) (fun _ h_ => h_.1))) hb); have n2_ := Aside0.mk (Kd.R_below (by (with_reducible repeat (first | apply Kd.R_alloc | apply Kd.R_drewN | apply Kd.R_drew)); exact (Kd.R_mono (Kd.R_far (p := ⟨gb276, 2, none⟩) (Kd.R_far (p := ⟨gb276, 1, none⟩) (Kd.R_far (p := ⟨gb276, 0, none⟩) (Kd.R_types HO270.out BK276.out (by decide)) (fun _ hk => hk.2) (.slice Ao13 t268.length co13)) (fun _ hk => hk.2) (.slice Ao16 t271.length co16)) (fun _ hk => hk.2) (.bool t274)) (fun _ h_ => h_.1))) hb); have n3_ := Aside0.mk (Kd.R_below (by (with_reducible repeat (first | apply Kd.R_alloc | apply Kd.R_drewN | apply Kd.R_drew)); exact (Kd.R_mono (Kd.R_far (p := ⟨gb276, 2, none⟩) (Kd.R_far (p := ⟨gb276, 1, none⟩) (Kd.R_far (p := ⟨gb276, 0, none⟩) (Kd.R_types HO273.out BK276.out (by decide)) (fun _ hk => hk.2) (.slice Ao13 t268.length co13)) (fun _ hk => hk.2) (.slice Ao16 t271.length co16)) (fun _ hk => hk.2) (.bool t274)) (fun _ h_ => h_.1))) hb); have n4_ := Aside0.mk (blk_below (g := gb267) (o := .cells #[.slice Ao8 t259.length co8, .slice Ao10 t262.length co10, .bool t265] 43 (0, 0)) (by (with_reducible repeat (first | refine blk_drewN ?_ _ | refine blk_drew ?_ | refine blk_alloc ?_ _)); refine blk_far ?_ NB267_276.out _; (with_reducible repeat (first | refine blk_drewN ?_ _ | refine blk_drew ?_ | refine blk_alloc ?_ _)); refine blk_far ?_ NB267_276.out _; (with_reducible repeat (first | refine blk_drewN ?_ _ | refine blk_drew ?_ | refine blk_alloc ?_ _)); refine blk_far ?_ NB267_276.out _; (with_reducible repeat (first | refine blk_drewN ?_ _ | refine blk_drew ?_ | refine blk_alloc ?_ _)); exact BK267.out) hb); have n5_ := Aside0.mk (blk_below (g := gb276) (o := .cells #[.slice Ao13 t268.length co13, .slice Ao16 t271.length co16, .bool t274] 43 (0, 0)) (by (with_reducible repeat (first | refine blk_drewN ?_ _ | refine blk_drew ?_ | refine blk_alloc ?_ _)); refine blk_put (cs := #[.slice Ao13 t268.length co13, .slice Ao16 t271.length co16, .bool false]) ?_ 2 _ rfl; (with_reducible repeat (first | refine blk_drewN ?_ _ | refine blk_drew ?_ | refine blk_alloc ?_ _)); refine blk_put (cs := #[.slice Ao13 t268.length co13, .slice none 0 0, .bool false]) ?_ 1 _ rfl; (with_reducible repeat (first | refine blk_drewN ?_ _ | refine blk_drew ?_ | refine blk_alloc ?_ _)); refine blk_put (cs := #[.slice none 0 0, .slice none 0 0, .bool false]) ?_ 0 _ rfl; (with_reducible repeat (first | refine blk_drewN ?_ _ | refine blk_drew ?_ | refine blk_alloc ?_ _)); exact BK276.out) hb); have n6_ := Aside0.mk (below_step (by repeat (first | (with_reducible first | exact HB.out | apply below_alloc | apply pw_below_drewN | apply below_drew1 | refine below_set ?_ GE267.out | refine below_set ?_ GE276.out) | exact HB.out)) hb); clear HO261; clear HO264; clear HO270; clear HO273; clear BK267; clear BK276; clear HB; have HO261 := n0_; have HO264 := n1_; have HO270 := n2_; have HO273 := n3_; have BK267 := n4_; have BK276 := n5_; have HB := n6_; clear n0_ n1_ n2_ n3_ n4_ n5_ n6_; (try clear hb); (try clear hb2); (try clear hk); (try clear hi)))
        go_meet
        case rel => exact ⟨_, ((t275 != t266)), (by first | rfl | (simp; done) | (simp [*]; done)), H', ⟨by first | omega | exact Nat.le_refl _⟩, ⟨by (with_reducible repeat (first | apply Kd.R_alloc | apply Kd.R_drewN | apply Kd.R_drew)); exact Kd.R_mono HO261.out (fun _ hk => hk.2)⟩, ⟨by (with_reducible repeat (first | apply Kd.R_alloc | apply Kd.R_drewN | apply Kd.R_drew)); exact Kd.R_mono HO264.out (fun _ hk => hk.2)⟩, ⟨by (with_reducible repeat (first | apply Kd.R_alloc | apply Kd.R_drewN | apply Kd.R_drew)); exact Kd.R_mono HO270.out (fun _ hk => hk.2)⟩, ⟨by (with_reducible repeat (first | apply Kd.R_alloc | apply Kd.R_drewN | apply Kd.R_drew)); exact Kd.R_mono HO273.out (fun _ hk => hk.2)⟩, ⟨by (with_reducible repeat (first | refine blk_drewN ?_ _ | refine blk_drew ?_ | refine blk_alloc ?_ _)); exact BK267.out⟩, ⟨by (with_reducible repeat (first | refine blk_drewN ?_ _ | refine blk_drew ?_ | refine blk_alloc ?_ _)); exact BK276.out⟩, ⟨by repeat (first | (with_reducible first | exact HB.out | apply below_alloc | apply pw_below_drewN | apply below_drew1 | refine below_set ?_ GE267.out | refine below_set ?_ GE276.out) | exact HB.out)⟩⟩
      · replace c18 := Bool.eq_false_iff.mpr c18
        subst c18
        have H1 : (laws_FnExactReadSheet.j0 k a0 t266 true t259 t262 t265 t268 t271 t274) = some r := by rw [if_neg (show ¬ (false = true) by decide)] at H; exact H
        clear H
        have H := H1
        clear H1
        have H' := Aside0.mk H
        clear H
        have hnb23 := NB276_267.out
        have hnc23 := NB267_276.out
        have hcz24_0 : w12.cell? ⟨gb276, 0, none⟩ = some (.slice none 0 0) := (blk_cell BK276.out 0).trans rfl
        have hcz24_1 : w12.cell? ⟨gb276, 1, none⟩ = some (.slice none 0 0) := (blk_cell BK276.out 1).trans rfl
        have hcz24_2 : w12.cell? ⟨gb276, 2, none⟩ = some (.bool false) := (blk_cell BK276.out 2).trans rfl
        have hfz24_0 := blk_frozen BK276.out 0
        have hfz24_1 := blk_frozen BK276.out 1
        have hfz24_2 := blk_frozen BK276.out 2
        have hcz25_0 : w12.cell? ⟨gb267, 0, none⟩ = some (.slice Ao8 t259.length co8) := (blk_cell BK267.out 0).trans rfl
        have hcz25_1 : w12.cell? ⟨gb267, 1, none⟩ = some (.slice Ao10 t262.length co10) := (blk_cell BK267.out 1).trans rfl
        have hcz25_2 : w12.cell? ⟨gb267, 2, none⟩ = some (.bool t265) := (blk_cell BK267.out 2).trans rfl
        have hfz25_0 := blk_frozen BK267.out 0
        have hfz25_1 := blk_frozen BK267.out 1
        have hfz25_2 := blk_frozen BK267.out 2
        go_wp2_with (first | ((with_reducible refine gate_callee (f := 23) rfl ?_); refine goesL_ (some 26) rfl rfl Tryd.func23 (by kernel_rfl) rfl #[.agg #[.slice Ao13 t268.length co13, .slice Ao16 t271.length co16, .bool t274], .agg #[.slice Ao8 t259.length co8, .slice Ao10 t262.length co10, .bool t265]] rfl (by (try simp only [List.map_toArray, List.map_cons, List.map_nil]); first | done | rfl | (simp only [List.length_drop, List.length_take]; rfl)) ?_; (with_reducible refine (laws_eqSheet.calls _ _ t268 _ _ t271 t274 _ _ t259 _ _ t262 t265 false _ ?side1 ?side2 ?side3 ?side4 ?side5 ?side6 ?side7 ?side8 A17.out).mono ?_); (case side1 => refine (Kd.R_reads' (e := 67) (base := w.heap.size) (ok := fun k_ => (True ∧ some k_ ≠ (.slice Ao8 t259.length co8 : Value).ownBlock)) (n := t268.length) (c := co13) ?_).2.2; exact (by (with_reducible repeat (first | apply Kd.R_alloc | apply Kd.R_drewN | apply Kd.R_drew)); exact (Kd.R_mono (Kd.R_far (p := ⟨gb276, 2, none⟩) (Kd.R_far (p := ⟨gb276, 1, none⟩) (Kd.R_far (p := ⟨gb276, 0, none⟩) (Kd.R_types HO270.out BK276.out (by decide)) (fun _ hk => hk.2) (.slice Ao13 t268.length co13)) (fun _ hk => hk.2) (.slice Ao16 t271.length co16)) (fun _ hk => hk.2) (.bool t274)) (fun _ h_ => h_.1)))); (case side2 => exact (Kd.R_reads' HO270.out).2.1); (case side3 => refine (Kd.R_reads' (e := 68) (base := w.heap.size) (ok := fun k_ => (True ∧ some k_ ≠ (.slice Ao10 t262.length co10 : Value).ownBlock)) (n := t271.length) (c := co16) ?_).2.2; exact (by (with_reducible repeat (first | apply Kd.R_alloc | apply Kd.R_drewN | apply Kd.R_drew)); exact (Kd.R_mono (Kd.R_far (p := ⟨gb276, 2, none⟩) (Kd.R_far (p := ⟨gb276, 1, none⟩) (Kd.R_far (p := ⟨gb276, 0, none⟩) (Kd.R_types HO273.out BK276.out (by decide)) (fun _ hk => hk.2) (.slice Ao13 t268.length co13)) (fun _ hk => hk.2) (.slice Ao16 t271.length co16)) (fun _ hk => hk.2) (.bool t274)) (fun _ h_ => h_.1)))); (case side4 => exact (Kd.R_reads' HO273.out).2.1); (case side5 => refine (Kd.R_reads' (e := 67) (base := w.heap.size) (ok := fun k_ => (True ∧ some k_ ≠ (.slice Ao13 t268.length co13 : Value).ownBlock)) (n := t259.length) (c := co8) ?_).2.2; exact (by (with_reducible repeat (first | apply Kd.R_alloc | apply Kd.R_drewN | apply Kd.R_drew)); exact (Kd.R_mono (Kd.R_far (p := ⟨gb276, 2, none⟩) (Kd.R_far (p := ⟨gb276, 1, none⟩) (Kd.R_far (p := ⟨gb276, 0, none⟩) (Kd.R_types HO261.out BK276.out (by decide)) (fun _ hk => hk.2) (.slice Ao13 t268.length co13)) (fun _ hk => hk.2) (.slice Ao16 t271.length co16)) (fun _ hk => hk.2) (.bool t274)) (fun _ h_ => h_.1)))); (case side6 => exact (Kd.R_reads' HO261.out).2.1); (case side7 => refine (Kd.R_reads' (e := 68) (base := w.heap.size) (ok := fun k_ => (True ∧ some k_ ≠ (.slice Ao16 t271.length co16 : Value).ownBlock)) (n := t262.length) (c := co10) ?_).2.2; exact (by (with_reducible repeat (first | apply Kd.R_alloc | apply Kd.R_drewN | apply Kd.R_drew)); exact (Kd.R_mono (Kd.R_far (p := ⟨gb276, 2, none⟩) (Kd.R_far (p := ⟨gb276, 1, none⟩) (Kd.R_far (p := ⟨gb276, 0, none⟩) (Kd.R_types HO264.out BK276.out (by decide)) (fun _ hk => hk.2) (.slice Ao13 t268.length co13)) (fun _ hk => hk.2) (.slice Ao16 t271.length co16)) (fun _ hk => hk.2) (.bool t274)) (fun _ h_ => h_.1)))); (case side8 => exact (Kd.R_reads' HO264.out).2.1); rintro e w26 ⟨rfl, hb⟩; refine ⟨_, rfl, ?_⟩; have n0_ := Aside0.mk (Kd.R_below (by (with_reducible repeat (first | apply Kd.R_alloc | apply Kd.R_drewN | apply Kd.R_drew)); exact (Kd.R_mono (Kd.R_far (p := ⟨gb276, 2, none⟩) (Kd.R_far (p := ⟨gb276, 1, none⟩) (Kd.R_far (p := ⟨gb276, 0, none⟩) (Kd.R_types HO261.out BK276.out (by decide)) (fun _ hk => hk.2) (.slice Ao13 t268.length co13)) (fun _ hk => hk.2) (.slice Ao16 t271.length co16)) (fun _ hk => hk.2) (.bool t274)) (fun _ h_ => h_.1))) hb); have n1_ := Aside0.mk (Kd.R_below (by (with_reducible repeat (first | apply Kd.R_alloc | apply Kd.R_drewN | apply Kd.R_drew)); exact (Kd.R_mono (Kd.R_far (p := ⟨gb276, 2, none⟩) (Kd.R_far (p := ⟨gb276, 1, none⟩) (Kd.R_far (p := ⟨gb276, 0, none⟩) (Kd.R_types HO264.out BK276.out (by decide)) (fun _ hk => hk.2) (.slice Ao13 t268.length co13)) (fun _ hk => hk.2) (.slice Ao16 t271.length co16)) (fun _ hk => hk.2) (.bool t274)) (fun _ h_ => h_.1))) hb); have n2_ := Aside0.mk (Kd.R_below (by (with_reducible repeat (first | apply Kd.R_alloc | apply Kd.R_drewN | apply Kd.R_drew)); exact (Kd.R_mono (Kd.R_far (p := ⟨gb276, 2, none⟩) (Kd.R_far (p := ⟨gb276, 1, none⟩) (Kd.R_far (p := ⟨gb276, 0, none⟩) (Kd.R_types HO270.out BK276.out (by decide)) (fun _ hk => hk.2) (.slice Ao13 t268.length co13)) (fun _ hk => hk.2) (.slice Ao16 t271.length co16)) (fun _ hk => hk.2) (.bool t274)) (fun _ h_ => h_.1))) hb); have n3_ := Aside0.mk (Kd.R_below (by (with_reducible repeat (first | apply Kd.R_alloc | apply Kd.R_drewN | apply Kd.R_drew)); exact (Kd.R_mono (Kd.R_far (p := ⟨gb276, 2, none⟩) (Kd.R_far (p := ⟨gb276, 1, none⟩) (Kd.R_far (p := ⟨gb276, 0, none⟩) (Kd.R_types HO273.out BK276.out (by decide)) (fun _ hk => hk.2) (.slice Ao13 t268.length co13)) (fun _ hk => hk.2) (.slice Ao16 t271.length co16)) (fun _ hk => hk.2) (.bool t274)) (fun _ h_ => h_.1))) hb); have n4_ := Aside0.mk (blk_below (g := gb267) (o := .cells #[.slice Ao8 t259.length co8, .slice Ao10 t262.length co10, .bool t265] 43 (0, 0)) (by (with_reducible repeat (first | refine blk_drewN ?_ _ | refine blk_drew ?_ | refine blk_alloc ?_ _)); refine blk_far ?_ NB267_276.out _; (with_reducible repeat (first | refine blk_drewN ?_ _ | refine blk_drew ?_ | refine blk_alloc ?_ _)); refine blk_far ?_ NB267_276.out _; (with_reducible repeat (first | refine blk_drewN ?_ _ | refine blk_drew ?_ | refine blk_alloc ?_ _)); refine blk_far ?_ NB267_276.out _; (with_reducible repeat (first | refine blk_drewN ?_ _ | refine blk_drew ?_ | refine blk_alloc ?_ _)); exact BK267.out) hb); have n5_ := Aside0.mk (blk_below (g := gb276) (o := .cells #[.slice Ao13 t268.length co13, .slice Ao16 t271.length co16, .bool t274] 43 (0, 0)) (by (with_reducible repeat (first | refine blk_drewN ?_ _ | refine blk_drew ?_ | refine blk_alloc ?_ _)); refine blk_put (cs := #[.slice Ao13 t268.length co13, .slice Ao16 t271.length co16, .bool false]) ?_ 2 _ rfl; (with_reducible repeat (first | refine blk_drewN ?_ _ | refine blk_drew ?_ | refine blk_alloc ?_ _)); refine blk_put (cs := #[.slice Ao13 t268.length co13, .slice none 0 0, .bool false]) ?_ 1 _ rfl; (with_reducible repeat (first | refine blk_drewN ?_ _ | refine blk_drew ?_ | refine blk_alloc ?_ _)); refine blk_put (cs := #[.slice none 0 0, .slice none 0 0, .bool false]) ?_ 0 _ rfl; (with_reducible repeat (first | refine blk_drewN ?_ _ | refine blk_drew ?_ | refine blk_alloc ?_ _)); exact BK276.out) hb); have n6_ := Aside0.mk (below_step (by repeat (first | (with_reducible first | exact HB.out | apply below_alloc | apply pw_below_drewN | apply below_drew1 | refine below_set ?_ GE267.out | refine below_set ?_ GE276.out) | exact HB.out)) hb); clear HO261; clear HO264; clear HO270; clear HO273; clear BK267; clear BK276; clear HB; have HO261 := n0_; have HO264 := n1_; have HO270 := n2_; have HO273 := n3_; have BK267 := n4_; have BK276 := n5_; have HB := n6_; clear n0_ n1_ n2_ n3_ n4_ n5_ n6_; (try clear hb); (try clear hb2); (try clear hk); (try clear hi)))
        go_meet
        case rel => exact ⟨_, (true), (by first | rfl | (simp; done) | (simp [*]; done)), H', ⟨by first | omega | exact Nat.le_refl _⟩, ⟨by (with_reducible repeat (first | apply Kd.R_alloc | apply Kd.R_drewN | apply Kd.R_drew)); exact Kd.R_mono HO261.out (fun _ hk => hk.2)⟩, ⟨by (with_reducible repeat (first | apply Kd.R_alloc | apply Kd.R_drewN | apply Kd.R_drew)); exact Kd.R_mono HO264.out (fun _ hk => hk.2)⟩, ⟨by (with_reducible repeat (first | apply Kd.R_alloc | apply Kd.R_drewN | apply Kd.R_drew)); exact Kd.R_mono HO270.out (fun _ hk => hk.2)⟩, ⟨by (with_reducible repeat (first | apply Kd.R_alloc | apply Kd.R_drewN | apply Kd.R_drew)); exact Kd.R_mono HO273.out (fun _ hk => hk.2)⟩, ⟨by (with_reducible repeat (first | refine blk_drewN ?_ _ | refine blk_drew ?_ | refine blk_alloc ?_ _)); exact BK267.out⟩, ⟨by (with_reducible repeat (first | refine blk_drewN ?_ _ | refine blk_drew ?_ | refine blk_alloc ?_ _)); exact BK276.out⟩, ⟨by repeat (first | (with_reducible first | exact HB.out | apply below_alloc | apply pw_below_drewN | apply below_drew1 | refine below_set ?_ GE267.out | refine below_set ?_ GE276.out) | exact HB.out)⟩⟩
    case rest =>
      clear HC5
      try clear c1
      try clear c2
      try clear c2b0
      try clear c2b1
      try clear p2
      try clear c6
      try clear c14
      try clear c18
      try clear c19
      try clear c21
      try clear c22
      try clear c23
      try clear hcz15_0
      try clear hcz15_1
      try clear hcz15_2
      try clear hcz20_0
      try clear hcz20_1
      try clear hcz20_2
      try clear hcz21_0
      try clear hcz21_1
      try clear hcz21_2
      try clear hcz24_0
      try clear hcz24_1
      try clear hcz24_2
      try clear hcz25_0
      try clear hcz25_1
      try clear hcz25_2
      try clear hcz9_0
      try clear hcz9_1
      try clear hcz9_2
      try clear hfz15_0
      try clear hfz15_1
      try clear hfz15_2
      try clear hfz20_0
      try clear hfz20_1
      try clear hfz20_2
      try clear hfz21_0
      try clear hfz21_1
      try clear hfz21_2
      try clear hfz24_0
      try clear hfz24_1
      try clear hfz24_2
      try clear hfz25_0
      try clear hfz25_1
      try clear hfz25_2
      try clear hfz9_0
      try clear hfz9_1
      try clear hfz9_2
      obtain ⟨kq, x32_4, rfl, HA, HJ4, HO_268000, HO_268001, HO_277000, HO_277001, BK267, BK276, HB⟩ := hcut
      cases kq with
      | zero => exact absurd HA.out (by simp [laws_FnExactReadSheet.j0])
      | succ kj4 =>
        have H := HA.out
        clear HA
        simp only [laws_FnExactReadSheet.j0] at H
        by_cases c27 : x32_4 = true
        · subst c27
          have H1 : (some false) = some r := by rw [if_pos rfl] at H; exact H
          clear H
          have H := H1
          clear H1
          obtain rfl := Option.some.inj H
          go_wp2
          go_ret
          exact ⟨by first | rfl | (simp [errW_none, errW_some] <;> rfl) | (simp [*, errW_none, errW_some] <;> rfl), by repeat (first | (with_reducible first | exact HB.out | apply below_alloc | apply pw_below_drewN | apply below_drew1 | refine below_set ?_ GE267.out | refine below_set ?_ GE276.out) | exact HB.out)⟩
        · replace c27 := Bool.eq_false_iff.mpr c27
          subst c27
          have H1 : ((laws_markSheet.f kj4 t268 t271 t274 1).bind fun bt278 => ((laws_heldSheet.f kj4 bt278.2.1 bt278.2.2 t274 1).bind fun t281 => (if t281 < 0 then (some false) else (if t281 = bt278.1 then ((impl_ReadSheet.f kj4 a0).bind fun bt282 => ((laws_eqSheet.f bt282.1 bt282.2.1 bt282.2.2.1 t259 t262 t265).bind fun t291 => (if t291 = true then (laws_FnExactReadSheet.j1 kj4 bt278.1 (bt282.2.2.2 != t266) bt278.2.1 bt278.2.2 t274) else (laws_FnExactReadSheet.j1 kj4 bt278.1 true bt278.2.1 bt278.2.2 t274)))) else (some false))))) = some r := by rw [if_neg (show ¬ (false = true) by decide)] at H; exact H
          clear H
          have H := H1
          clear H1
          replace H := Option.bind_eq_some_iff.mp H
          obtain ⟨⟨t278, t279, t280⟩, A280, H⟩ := H
          replace H : ((laws_heldSheet.f kj4 t279 t280 t274 1).bind fun t281 => (if t281 < 0 then (some false) else (if t281 = t278 then ((impl_ReadSheet.f kj4 a0).bind fun bt282 => ((laws_eqSheet.f bt282.1 bt282.2.1 bt282.2.2.1 t259 t262 t265).bind fun t291 => (if t291 = true then (laws_FnExactReadSheet.j1 kj4 t278 (bt282.2.2.2 != t266) t279 t280 t274) else (laws_FnExactReadSheet.j1 kj4 t278 true t279 t280 t274)))) else (some false)))) = some r := H
          have A28 := Aside0.mk A280
          clear A280
          replace H := Option.bind_eq_some_iff.mp H
          obtain ⟨t281, A290, H⟩ := H
          replace H : (if t281 < 0 then (some false) else (if t281 = t278 then ((impl_ReadSheet.f kj4 a0).bind fun bt282 => ((laws_eqSheet.f bt282.1 bt282.2.1 bt282.2.2.1 t259 t262 t265).bind fun t291 => (if t291 = true then (laws_FnExactReadSheet.j1 kj4 t278 (bt282.2.2.2 != t266) t279 t280 t274) else (laws_FnExactReadSheet.j1 kj4 t278 true t279 t280 t274)))) else (some false))) = some r := H
          have A29 := Aside0.mk A290
          clear A290
          by_cases c30 : t281 < 0
          · rw [if_pos c30] at H
            have c30b0 : decide (t281 < 0) = true := decide_eq_true c30
            clear c30
            obtain rfl := Option.some.inj H
            have hnb31 := NB276_267.out
            have hnc31 := NB267_276.out
            have hcz32_0 : wc.cell? ⟨gb276, 0, none⟩ = some (.slice Ao13 t268.length co13) := (blk_cell BK276.out 0).trans rfl
            have hcz32_1 : wc.cell? ⟨gb276, 1, none⟩ = some (.slice Ao16 t271.length co16) := (blk_cell BK276.out 1).trans rfl
            have hcz32_2 : wc.cell? ⟨gb276, 2, none⟩ = some (.bool t274) := (blk_cell BK276.out 2).trans rfl
            have hfz32_0 := blk_frozen BK276.out 0
            have hfz32_1 := blk_frozen BK276.out 1
            have hfz32_2 := blk_frozen BK276.out 2
            go_wp2_with (first | ((with_reducible refine gate_callee (f := 24) rfl ?_); refine goesL_ (some 35) rfl rfl Tryd.func24 (by kernel_rfl) rfl #[.agg #[.slice Ao13 t268.length co13, .slice Ao16 t271.length co16, .bool t274], .int .i64 1] rfl (by (try simp only [List.map_toArray, List.map_cons, List.map_nil]); first | done | rfl | (simp only [List.length_drop, List.length_take]; rfl)) ?_; (with_reducible refine (laws_markSheet.calls kj4 (fun k_ => some k_ = (.slice Ao13 t268.length co13 : Value).ownBlock) (.slice Ao13 t268.length co13) t268 (fun k_ => some k_ = (.slice Ao16 t271.length co16 : Value).ownBlock) (.slice Ao16 t271.length co16) t271 t274 1 t278 t279 t280 w _ ?side1 ?side2 ?side3 A28.out).mono ?_); (case side1 => repeat (first | (with_reducible first | exact HB.out | apply below_alloc | apply pw_below_drewN | apply below_drew1 | refine below_set ?_ GE267.out | refine below_set ?_ GE276.out) | exact HB.out)); (case side2 => exact Kd.R_tight rfl HO_277000.out); (case side3 => exact Kd.R_tight rfl HO_277001.out); rintro e w33 ⟨rfl, hy0, hy1, hb, hkp⟩; refine ⟨_, rfl, ?_⟩; have n0_ := Aside0.mk (Kd.R_mono (ok' := fun k_ => some k_ ≠ (.slice Ao13 t268.length co13 : Value).ownBlock) (Kd.R_keptB ((Kd.R_apart' HO_268000.out (Kd.R_typed HO_277001.out) (by decide))) hkp (fun k_ hk_ hs_ => Or.elim hs_ (fun e_ => (hk_.1) e_) (fun e_ => (hk_.2) e_))) (fun k_ hk_ => hk_.1.1)); have n1_ := Aside0.mk (Kd.R_mono (ok' := fun k_ => some k_ ≠ (.slice Ao16 t271.length co16 : Value).ownBlock) (Kd.R_keptB ((Kd.R_apart' HO_268001.out (Kd.R_typed HO_277000.out) (by decide))) hkp (fun k_ hk_ hs_ => Or.elim hs_ (fun e_ => (hk_.2) e_) (fun e_ => (hk_.1) e_))) (fun k_ hk_ => hk_.1.1)); have n2_ := Aside0.mk (Kd.R_reok rfl hy0 (fun k_ e_ => HO_277000.out.1 k_ e_)); have n3_ := Aside0.mk (Kd.R_reok rfl hy1 (fun k_ e_ => HO_277001.out.1 k_ e_)); have n4_ := Aside0.mk (blk_kept (by (with_reducible repeat (first | refine blk_drewN ?_ _ | refine blk_drew ?_ | refine blk_alloc ?_ _)); exact BK267.out) hkp (fun hs_ => Or.elim hs_ (fun e_ => (fun e_ => (Kd.R_ne HO_277000.out BK267.out (by decide)) e_) e_) (fun e_ => (fun e_ => (Kd.R_ne HO_277001.out BK267.out (by decide)) e_) e_))); have n5_ := Aside0.mk (blk_kept (by (with_reducible repeat (first | refine blk_drewN ?_ _ | refine blk_drew ?_ | refine blk_alloc ?_ _)); exact BK276.out) hkp (fun hs_ => Or.elim hs_ (fun e_ => (fun e_ => (Kd.R_ne HO_277000.out BK276.out (by decide)) e_) e_) (fun e_ => (fun e_ => (Kd.R_ne HO_277001.out BK276.out (by decide)) e_) e_))); have n6_ := Aside0.mk (hb); clear HO_268000; clear HO_268001; clear HO_277000; clear HO_277001; clear BK267; clear BK276; clear HB; have HO_268000 := n0_; have HO_268001 := n1_; have HO_277000 := n2_; have HO_277001 := n3_; have BK267 := n4_; have BK276 := n5_; have HB := n6_; clear n0_ n1_ n2_ n3_ n4_ n5_ n6_; (try clear hb); (try clear hkp); (try clear hy0); (try clear hy1); have hcz34_0 : w33.cell? ⟨gb276, 0, none⟩ = some (.slice Ao13 t268.length co13) := (blk_cell BK276.out 0).trans rfl; have hcz34_1 : w33.cell? ⟨gb276, 1, none⟩ = some (.slice Ao16 t271.length co16) := (blk_cell BK276.out 1).trans rfl; have hcz34_2 : w33.cell? ⟨gb276, 2, none⟩ = some (.bool t274) := (blk_cell BK276.out 2).trans rfl; have hfz34_0 := blk_frozen BK276.out 0; have hfz34_1 := blk_frozen BK276.out 1; have hfz34_2 := blk_frozen BK276.out 2) | ((with_reducible refine gate_callee (f := 25) rfl ?_); refine goesL_ (some 38) rfl rfl Tryd.func25 (by kernel_rfl) rfl #[.agg #[.slice Ao13 t279.length co13, .slice Ao16 t280.length co16, .bool t274], .int .i64 1] rfl (by (try simp only [List.map_toArray, List.map_cons, List.map_nil]); first | done | (rw [show t279.length = t268.length from (Kd.R_reads' HO_277000.out).1.symm, show t280.length = t271.length from (Kd.R_reads' HO_277001.out).1.symm] <;> rfl) | rfl | (simp only [List.length_drop, List.length_take]; rfl)) ?_; (with_reducible refine (laws_heldSheet.calls kj4 _ _ t279 _ _ t280 t274 1 t281 _ ?side1 ?side2 ?side3 ?side4 A29.out).mono ?_); (case side1 => repeat (first | exact (Kd.R_reads' HO_277000.out).2.2 | (with_reducible refine Kd.C_alloc ?_ _) | (with_reducible refine Kd.C_drewN ?_ _) | (with_reducible refine Kd.C_drew ?_))); (case side2 => rw [show t279.length = t268.length from (Kd.R_reads' HO_277000.out).1.symm]; exact (Kd.R_reads' HO_277000.out).2.1); (case side3 => repeat (first | exact (Kd.R_reads' HO_277001.out).2.2 | (with_reducible refine Kd.C_alloc ?_ _) | (with_reducible refine Kd.C_drewN ?_ _) | (with_reducible refine Kd.C_drew ?_))); (case side4 => rw [show t280.length = t271.length from (Kd.R_reads' HO_277001.out).1.symm]; exact (Kd.R_reads' HO_277001.out).2.1); rintro e w35 ⟨rfl, hb⟩; refine ⟨_, rfl, ?_⟩; have n0_ := Aside0.mk (Kd.R_below (by (with_reducible repeat (first | apply Kd.R_alloc | apply Kd.R_drewN | apply Kd.R_drew)); exact HO_268000.out) hb); have n1_ := Aside0.mk (Kd.R_below (by (with_reducible repeat (first | apply Kd.R_alloc | apply Kd.R_drewN | apply Kd.R_drew)); exact HO_268001.out) hb); have n2_ := Aside0.mk (Kd.R_below (by (with_reducible repeat (first | apply Kd.R_alloc | apply Kd.R_drewN | apply Kd.R_drew)); exact HO_277000.out) hb); have n3_ := Aside0.mk (Kd.R_below (by (with_reducible repeat (first | apply Kd.R_alloc | apply Kd.R_drewN | apply Kd.R_drew)); exact HO_277001.out) hb); have n4_ := Aside0.mk (blk_below (g := gb267) (o := .cells #[.slice Ao8 t259.length co8, .slice Ao10 t262.length co10, .bool t265] 43 (0, 0)) (by (with_reducible repeat (first | refine blk_drewN ?_ _ | refine blk_drew ?_ | refine blk_alloc ?_ _)); exact BK267.out) hb); have n5_ := Aside0.mk (blk_below (g := gb276) (o := .cells #[.slice Ao13 t268.length co13, .slice Ao16 t271.length co16, .bool t274] 43 (0, 0)) (by (with_reducible repeat (first | refine blk_drewN ?_ _ | refine blk_drew ?_ | refine blk_alloc ?_ _)); exact BK276.out) hb); have n6_ := Aside0.mk (below_step (by repeat (first | (with_reducible first | exact HB.out | apply below_alloc | apply pw_below_drewN | apply below_drew1 | refine below_set ?_ GE267.out | refine below_set ?_ GE276.out) | exact HB.out)) hb); clear HO_268000; clear HO_268001; clear HO_277000; clear HO_277001; clear BK267; clear BK276; clear HB; have HO_268000 := n0_; have HO_268001 := n1_; have HO_277000 := n2_; have HO_277001 := n3_; have BK267 := n4_; have BK276 := n5_; have HB := n6_; clear n0_ n1_ n2_ n3_ n4_ n5_ n6_; (try clear hb); (try clear hb2); (try clear hk); (try clear hi)))
            go_ret
            exact ⟨by first | rfl | (simp [errW_none, errW_some] <;> rfl) | (simp [*, errW_none, errW_some] <;> rfl), by repeat (first | (with_reducible first | exact HB.out | apply below_alloc | apply pw_below_drewN | apply below_drew1 | refine below_set ?_ GE267.out | refine below_set ?_ GE276.out) | exact HB.out)⟩
          · rw [if_neg c30] at H
            have c30b0 : decide (t281 < 0) = false := decide_eq_false c30
            clear c30
            by_cases c36 : t281 = t278
            · rw [if_pos c36] at H
              have c36b0 : (t281 == t278) = true := beq_iff_eq.mpr c36
              have c36b1 : (t281 != t278) = false := bne_eq_false_iff_eq.mpr c36
              clear c36
              replace H := Option.bind_eq_some_iff.mp H
              obtain ⟨⟨t282, t285, t288, t289⟩, A370, H⟩ := H
              replace H : ((laws_eqSheet.f t282 t285 t288 t259 t262 t265).bind fun t291 => (if t291 = true then (laws_FnExactReadSheet.j1 kj4 t278 (t289 != t266) t279 t280 t274) else (laws_FnExactReadSheet.j1 kj4 t278 true t279 t280 t274))) = some r := H
              have A37 := Aside0.mk A370
              clear A370
              have HC38 := Aside0.mk H
              clear H
              have hnb39 := NB276_267.out
              have hnc39 := NB267_276.out
              have hcz40_0 : wc.cell? ⟨gb276, 0, none⟩ = some (.slice Ao13 t268.length co13) := (blk_cell BK276.out 0).trans rfl
              have hcz40_1 : wc.cell? ⟨gb276, 1, none⟩ = some (.slice Ao16 t271.length co16) := (blk_cell BK276.out 1).trans rfl
              have hcz40_2 : wc.cell? ⟨gb276, 2, none⟩ = some (.bool t274) := (blk_cell BK276.out 2).trans rfl
              have hfz40_0 := blk_frozen BK276.out 0
              have hfz40_1 := blk_frozen BK276.out 1
              have hfz40_2 := blk_frozen BK276.out 2
              go_upto_region 16 with (first | ((with_reducible refine gate_callee (f := 24) rfl ?_); refine goesL_ (some 35) rfl rfl Tryd.func24 (by kernel_rfl) rfl #[.agg #[.slice Ao13 t268.length co13, .slice Ao16 t271.length co16, .bool t274], .int .i64 1] rfl (by (try simp only [List.map_toArray, List.map_cons, List.map_nil]); first | done | rfl | (simp only [List.length_drop, List.length_take]; rfl)) ?_; (with_reducible refine (laws_markSheet.calls kj4 (fun k_ => some k_ = (.slice Ao13 t268.length co13 : Value).ownBlock) (.slice Ao13 t268.length co13) t268 (fun k_ => some k_ = (.slice Ao16 t271.length co16 : Value).ownBlock) (.slice Ao16 t271.length co16) t271 t274 1 t278 t279 t280 w _ ?side1 ?side2 ?side3 A28.out).mono ?_); (case side1 => repeat (first | (with_reducible first | exact HB.out | apply below_alloc | apply pw_below_drewN | apply below_drew1 | refine below_set ?_ GE267.out | refine below_set ?_ GE276.out) | exact HB.out)); (case side2 => exact Kd.R_tight rfl HO_277000.out); (case side3 => exact Kd.R_tight rfl HO_277001.out); rintro e w41 ⟨rfl, hy0, hy1, hb, hkp⟩; refine ⟨_, rfl, ?_⟩; have n0_ := Aside0.mk (Kd.R_mono (ok' := fun k_ => some k_ ≠ (.slice Ao13 t268.length co13 : Value).ownBlock) (Kd.R_keptB ((Kd.R_apart' HO_268000.out (Kd.R_typed HO_277001.out) (by decide))) hkp (fun k_ hk_ hs_ => Or.elim hs_ (fun e_ => (hk_.1) e_) (fun e_ => (hk_.2) e_))) (fun k_ hk_ => hk_.1.1)); have n1_ := Aside0.mk (Kd.R_mono (ok' := fun k_ => some k_ ≠ (.slice Ao16 t271.length co16 : Value).ownBlock) (Kd.R_keptB ((Kd.R_apart' HO_268001.out (Kd.R_typed HO_277000.out) (by decide))) hkp (fun k_ hk_ hs_ => Or.elim hs_ (fun e_ => (hk_.2) e_) (fun e_ => (hk_.1) e_))) (fun k_ hk_ => hk_.1.1)); have n2_ := Aside0.mk (Kd.R_reok rfl hy0 (fun k_ e_ => HO_277000.out.1 k_ e_)); have n3_ := Aside0.mk (Kd.R_reok rfl hy1 (fun k_ e_ => HO_277001.out.1 k_ e_)); have n4_ := Aside0.mk (blk_kept (by (with_reducible repeat (first | refine blk_drewN ?_ _ | refine blk_drew ?_ | refine blk_alloc ?_ _)); exact BK267.out) hkp (fun hs_ => Or.elim hs_ (fun e_ => (fun e_ => (Kd.R_ne HO_277000.out BK267.out (by decide)) e_) e_) (fun e_ => (fun e_ => (Kd.R_ne HO_277001.out BK267.out (by decide)) e_) e_))); have n5_ := Aside0.mk (blk_kept (by (with_reducible repeat (first | refine blk_drewN ?_ _ | refine blk_drew ?_ | refine blk_alloc ?_ _)); exact BK276.out) hkp (fun hs_ => Or.elim hs_ (fun e_ => (fun e_ => (Kd.R_ne HO_277000.out BK276.out (by decide)) e_) e_) (fun e_ => (fun e_ => (Kd.R_ne HO_277001.out BK276.out (by decide)) e_) e_))); have n6_ := Aside0.mk (hb); clear HO_268000; clear HO_268001; clear HO_277000; clear HO_277001; clear BK267; clear BK276; clear HB; have HO_268000 := n0_; have HO_268001 := n1_; have HO_277000 := n2_; have HO_277001 := n3_; have BK267 := n4_; have BK276 := n5_; have HB := n6_; clear n0_ n1_ n2_ n3_ n4_ n5_ n6_; (try clear hb); (try clear hkp); (try clear hy0); (try clear hy1); have hcz42_0 : w41.cell? ⟨gb276, 0, none⟩ = some (.slice Ao13 t268.length co13) := (blk_cell BK276.out 0).trans rfl; have hcz42_1 : w41.cell? ⟨gb276, 1, none⟩ = some (.slice Ao16 t271.length co16) := (blk_cell BK276.out 1).trans rfl; have hcz42_2 : w41.cell? ⟨gb276, 2, none⟩ = some (.bool t274) := (blk_cell BK276.out 2).trans rfl; have hfz42_0 := blk_frozen BK276.out 0; have hfz42_1 := blk_frozen BK276.out 1; have hfz42_2 := blk_frozen BK276.out 2) | ((with_reducible refine gate_callee (f := 25) rfl ?_); refine goesL_ (some 38) rfl rfl Tryd.func25 (by kernel_rfl) rfl #[.agg #[.slice Ao13 t279.length co13, .slice Ao16 t280.length co16, .bool t274], .int .i64 1] rfl (by (try simp only [List.map_toArray, List.map_cons, List.map_nil]); first | done | (rw [show t279.length = t268.length from (Kd.R_reads' HO_277000.out).1.symm, show t280.length = t271.length from (Kd.R_reads' HO_277001.out).1.symm] <;> rfl) | rfl | (simp only [List.length_drop, List.length_take]; rfl)) ?_; (with_reducible refine (laws_heldSheet.calls kj4 _ _ t279 _ _ t280 t274 1 t281 _ ?side1 ?side2 ?side3 ?side4 A29.out).mono ?_); (case side1 => repeat (first | exact (Kd.R_reads' HO_277000.out).2.2 | (with_reducible refine Kd.C_alloc ?_ _) | (with_reducible refine Kd.C_drewN ?_ _) | (with_reducible refine Kd.C_drew ?_))); (case side2 => rw [show t279.length = t268.length from (Kd.R_reads' HO_277000.out).1.symm]; exact (Kd.R_reads' HO_277000.out).2.1); (case side3 => repeat (first | exact (Kd.R_reads' HO_277001.out).2.2 | (with_reducible refine Kd.C_alloc ?_ _) | (with_reducible refine Kd.C_drewN ?_ _) | (with_reducible refine Kd.C_drew ?_))); (case side4 => rw [show t280.length = t271.length from (Kd.R_reads' HO_277001.out).1.symm]; exact (Kd.R_reads' HO_277001.out).2.1); rintro e w43 ⟨rfl, hb⟩; refine ⟨_, rfl, ?_⟩; have n0_ := Aside0.mk (Kd.R_below (by (with_reducible repeat (first | apply Kd.R_alloc | apply Kd.R_drewN | apply Kd.R_drew)); exact HO_268000.out) hb); have n1_ := Aside0.mk (Kd.R_below (by (with_reducible repeat (first | apply Kd.R_alloc | apply Kd.R_drewN | apply Kd.R_drew)); exact HO_268001.out) hb); have n2_ := Aside0.mk (Kd.R_below (by (with_reducible repeat (first | apply Kd.R_alloc | apply Kd.R_drewN | apply Kd.R_drew)); exact HO_277000.out) hb); have n3_ := Aside0.mk (Kd.R_below (by (with_reducible repeat (first | apply Kd.R_alloc | apply Kd.R_drewN | apply Kd.R_drew)); exact HO_277001.out) hb); have n4_ := Aside0.mk (blk_below (g := gb267) (o := .cells #[.slice Ao8 t259.length co8, .slice Ao10 t262.length co10, .bool t265] 43 (0, 0)) (by (with_reducible repeat (first | refine blk_drewN ?_ _ | refine blk_drew ?_ | refine blk_alloc ?_ _)); exact BK267.out) hb); have n5_ := Aside0.mk (blk_below (g := gb276) (o := .cells #[.slice Ao13 t268.length co13, .slice Ao16 t271.length co16, .bool t274] 43 (0, 0)) (by (with_reducible repeat (first | refine blk_drewN ?_ _ | refine blk_drew ?_ | refine blk_alloc ?_ _)); exact BK276.out) hb); have n6_ := Aside0.mk (below_step (by repeat (first | (with_reducible first | exact HB.out | apply below_alloc | apply pw_below_drewN | apply below_drew1 | refine below_set ?_ GE267.out | refine below_set ?_ GE276.out) | exact HB.out)) hb); clear HO_268000; clear HO_268001; clear HO_277000; clear HO_277001; clear BK267; clear BK276; clear HB; have HO_268000 := n0_; have HO_268001 := n1_; have HO_277000 := n2_; have HO_277001 := n3_; have BK267 := n4_; have BK276 := n5_; have HB := n6_; clear n0_ n1_ n2_ n3_ n4_ n5_ n6_; (try clear hb); (try clear hb2); (try clear hk); (try clear hi)) | ((with_reducible refine gate_callee (f := 22) rfl ?_); refine goesL_ (some 46) rfl rfl Tryd.func22 (by kernel_rfl) rfl #[.string a0] rfl (by (try simp only [List.map_toArray, List.map_cons, List.map_nil]); first | done | rfl | (simp only [List.length_drop, List.length_take]; rfl)) ?_; (with_reducible refine (impl_ReadSheet.calls kj4 a0 t282 t285 t288 t289 _ A37.out).mono ?_); rintro e w44 ⟨v283, v286, rfl, ho0, ho1, hb⟩; refine ⟨_, rfl, ?_⟩; have n0_ := Aside0.mk (Kd.R_elder' (by (with_reducible repeat (first | apply Kd.R_alloc | apply Kd.R_drewN | apply Kd.R_drew)); exact HO_268000.out) (Kd.R_base ho0) hb); have n1_ := Aside0.mk (Kd.R_elder' (by (with_reducible repeat (first | apply Kd.R_alloc | apply Kd.R_drewN | apply Kd.R_drew)); exact HO_268001.out) (Kd.R_base ho1) hb); have n2_ := Aside0.mk (Kd.R_elder' (by (with_reducible repeat (first | apply Kd.R_alloc | apply Kd.R_drewN | apply Kd.R_drew)); exact HO_277000.out) (Kd.R_base ho0) hb); have n3_ := Aside0.mk (Kd.R_elder' (by (with_reducible repeat (first | apply Kd.R_alloc | apply Kd.R_drewN | apply Kd.R_drew)); exact HO_277001.out) (Kd.R_base ho1) hb); have n4_ := Aside0.mk (Kd.R_lower (Kd.R_new' (Kd.R_new' ho0 (Kd.R_lt (by (with_reducible repeat (first | apply Kd.R_alloc | apply Kd.R_drewN | apply Kd.R_drew)); exact HO_268000.out))) (Kd.R_lt (by (with_reducible repeat (first | apply Kd.R_alloc | apply Kd.R_drewN | apply Kd.R_drew)); exact HO_277000.out))) (below_size (by repeat (first | (with_reducible first | exact HB.out | apply below_alloc | apply pw_below_drewN | apply below_drew1 | refine below_set ?_ GE267.out | refine below_set ?_ GE276.out) | exact HB.out)))); have n5_ := Aside0.mk (Kd.R_lower (Kd.R_new' (Kd.R_new' ho1 (Kd.R_lt (by (with_reducible repeat (first | apply Kd.R_alloc | apply Kd.R_drewN | apply Kd.R_drew)); exact HO_268001.out))) (Kd.R_lt (by (with_reducible repeat (first | apply Kd.R_alloc | apply Kd.R_drewN | apply Kd.R_drew)); exact HO_277001.out))) (below_size (by repeat (first | (with_reducible first | exact HB.out | apply below_alloc | apply pw_below_drewN | apply below_drew1 | refine below_set ?_ GE267.out | refine below_set ?_ GE276.out) | exact HB.out)))); have n6_ := Aside0.mk (blk_below (g := gb267) (o := .cells #[.slice Ao8 t259.length co8, .slice Ao10 t262.length co10, .bool t265] 43 (0, 0)) (by (with_reducible repeat (first | refine blk_drewN ?_ _ | refine blk_drew ?_ | refine blk_alloc ?_ _)); exact BK267.out) hb); have n7_ := Aside0.mk (blk_below (g := gb276) (o := .cells #[.slice Ao13 t268.length co13, .slice Ao16 t271.length co16, .bool t274] 43 (0, 0)) (by (with_reducible repeat (first | refine blk_drewN ?_ _ | refine blk_drew ?_ | refine blk_alloc ?_ _)); exact BK276.out) hb); have n8_ := Aside0.mk (below_step (by repeat (first | (with_reducible first | exact HB.out | apply below_alloc | apply pw_below_drewN | apply below_drew1 | refine below_set ?_ GE267.out | refine below_set ?_ GE276.out) | exact HB.out)) hb); clear HO_268000; clear HO_268001; clear HO_277000; clear HO_277001; clear BK267; clear BK276; clear HB; have HO_268000 := n0_; have HO_268001 := n1_; have HO_277000 := n2_; have HO_277001 := n3_; have HO284 := n4_; have HO287 := n5_; have BK267 := n6_; have BK276 := n7_; have HB := n8_; clear n0_ n1_ n2_ n3_ n4_ n5_ n6_ n7_ n8_; (try clear hb); (try clear hb2); (try clear hk); (try clear hi); (try clear ho0); (try clear ho1)) | ((with_reducible refine gate_dst (N := 9) rfl ?_); refine box_event ?hg (N := 9) ?hd (cs := #[.slice none 0 0, .slice none 0 0, .bool false]) (t := 43) ?hr ?_; (case hd => rfl); (case hg => rfl); (case hr => first | (go_simp; done) | (go_simp; rfl)); intro gb290 hg w45 hbox hb; have n0_ := Aside0.mk (Kd.R_below (by (with_reducible repeat (first | apply Kd.R_alloc | apply Kd.R_drewN | apply Kd.R_drew)); exact HO_268000.out) hb); have n1_ := Aside0.mk (Kd.R_below (by (with_reducible repeat (first | apply Kd.R_alloc | apply Kd.R_drewN | apply Kd.R_drew)); exact HO_268001.out) hb); have n2_ := Aside0.mk (Kd.R_below (by (with_reducible repeat (first | apply Kd.R_alloc | apply Kd.R_drewN | apply Kd.R_drew)); exact HO_277000.out) hb); have n3_ := Aside0.mk (Kd.R_below (by (with_reducible repeat (first | apply Kd.R_alloc | apply Kd.R_drewN | apply Kd.R_drew)); exact HO_277001.out) hb); have n4_ := Aside0.mk (Kd.R_below (by (with_reducible repeat (first | apply Kd.R_alloc | apply Kd.R_drewN | apply Kd.R_drew)); exact HO284.out) hb); have n5_ := Aside0.mk (Kd.R_below (by (with_reducible repeat (first | apply Kd.R_alloc | apply Kd.R_drewN | apply Kd.R_drew)); exact HO287.out) hb); have n6_ := Aside0.mk (blk_below (g := gb267) (o := .cells #[.slice Ao8 t259.length co8, .slice Ao10 t262.length co10, .bool t265] 43 (0, 0)) (by (with_reducible repeat (first | refine blk_drewN ?_ _ | refine blk_drew ?_ | refine blk_alloc ?_ _)); exact BK267.out) hb); have n7_ := Aside0.mk (blk_below (g := gb276) (o := .cells #[.slice Ao13 t268.length co13, .slice Ao16 t271.length co16, .bool t274] 43 (0, 0)) (by (with_reducible repeat (first | refine blk_drewN ?_ _ | refine blk_drew ?_ | refine blk_alloc ?_ _)); exact BK276.out) hb); have n8_ := Aside0.mk (below_step (by repeat (first | (with_reducible first | exact HB.out | apply below_alloc | apply pw_below_drewN | apply below_drew1 | refine below_set ?_ GE267.out | refine below_set ?_ GE276.out) | exact HB.out)) hb); have n9_ := Aside0.mk (hbox); have n10_ := Aside0.mk ((by rw [hg]; exact (below_size (by repeat (first | (with_reducible first | exact HB.out | apply below_alloc | apply pw_below_drewN | apply below_drew1 | refine below_set ?_ GE267.out | refine below_set ?_ GE276.out) | exact HB.out))) : w.heap.size ≤ gb290)); have n11_ := Aside0.mk ((by rw [hg]; exact (below_size (by repeat (first | (with_reducible first | exact HB.out | apply below_alloc | apply pw_below_drewN | apply below_drew1 | refine below_set ?_ GE267.out | refine below_set ?_ GE276.out) | exact HB.out))) : w.heap.size ≤ gb290)); have n12_ := Aside0.mk ((by rw [hg]; exact Nat.ne_of_lt (blk_lt (g := gb267) (o := .cells #[.slice Ao8 t259.length co8, .slice Ao10 t262.length co10, .bool t265] 43 (0, 0)) (by (with_reducible repeat (first | refine blk_drewN ?_ _ | refine blk_drew ?_ | refine blk_alloc ?_ _)); exact BK267.out)) : gb267 ≠ gb290)); have n13_ := Aside0.mk ((by rw [hg]; exact Nat.ne_of_gt (blk_lt (g := gb267) (o := .cells #[.slice Ao8 t259.length co8, .slice Ao10 t262.length co10, .bool t265] 43 (0, 0)) (by (with_reducible repeat (first | refine blk_drewN ?_ _ | refine blk_drew ?_ | refine blk_alloc ?_ _)); exact BK267.out)) : gb290 ≠ gb267)); have n14_ := Aside0.mk ((by rw [hg]; exact Nat.ne_of_lt (blk_lt (g := gb276) (o := .cells #[.slice Ao13 t268.length co13, .slice Ao16 t271.length co16, .bool t274] 43 (0, 0)) (by (with_reducible repeat (first | refine blk_drewN ?_ _ | refine blk_drew ?_ | refine blk_alloc ?_ _)); exact BK276.out)) : gb276 ≠ gb290)); have n15_ := Aside0.mk ((by rw [hg]; exact Nat.ne_of_gt (blk_lt (g := gb276) (o := .cells #[.slice Ao13 t268.length co13, .slice Ao16 t271.length co16, .bool t274] 43 (0, 0)) (by (with_reducible repeat (first | refine blk_drewN ?_ _ | refine blk_drew ?_ | refine blk_alloc ?_ _)); exact BK276.out)) : gb290 ≠ gb276)); clear HO_268000; clear HO_268001; clear HO_277000; clear HO_277001; clear HO284; clear HO287; clear BK267; clear BK276; clear HB; have HO_268000 := n0_; have HO_268001 := n1_; have HO_277000 := n2_; have HO_277001 := n3_; have HO284 := n4_; have HO287 := n5_; have BK267 := n6_; have BK276 := n7_; have HB := n8_; have BK290 := n9_; have GW290 := n10_; have GE290 := n11_; have NB267_290 := n12_; have NB290_267 := n13_; have NB276_290 := n14_; have NB290_276 := n15_; clear n0_ n1_ n2_ n3_ n4_ n5_ n6_ n7_ n8_ n9_ n10_ n11_ n12_ n13_ n14_ n15_; clear hb hbox hg; obtain ⟨Ao46, co46, eo46⟩ := Kd.R_slice HO284.out; subst eo46; have hnb47 := NB290_267.out; have hnc47 := NB267_290.out; have hnb48 := NB290_276.out; have hnc48 := NB276_290.out; have hcz49_0 : w45.cell? ⟨gb290, 0, none⟩ = some (.slice none 0 0) := (blk_cell BK290.out 0).trans rfl; have hcz49_1 : w45.cell? ⟨gb290, 1, none⟩ = some (.slice none 0 0) := (blk_cell BK290.out 1).trans rfl; have hcz49_2 : w45.cell? ⟨gb290, 2, none⟩ = some (.bool false) := (blk_cell BK290.out 2).trans rfl; have hfz49_0 := blk_frozen BK290.out 0; have hfz49_1 := blk_frozen BK290.out 1; have hfz49_2 := blk_frozen BK290.out 2; obtain ⟨Ao50, co50, eo50⟩ := Kd.R_slice HO287.out; subst eo50))
              (try simp only [Act.put, List.setIfInBounds_toArray, List.set_cons_zero, List.set_cons_succ])
              go_cut [57] (fun v57 wc => ∃ (kq : Nat) (x57_37 : Bool), v57 = .bool x57_37 ∧ Aside0 (laws_FnExactReadSheet.j1 kq t278 x57_37 t279 t280 t274 = some r) ∧ Aside0 (kq ≤ kj4) ∧ Aside0 (Kd.R (Kd.complex .f32) 67 wc w.heap.size (fun k_ => some k_ ≠ ((.slice Ao13 t268.length co13) : Value).ownBlock ∧ some k_ ≠ ((.slice Ao46 t282.length co46) : Value).ownBlock) (.slice Ao8 t259.length co8) t259) ∧ Aside0 (Kd.R (Kd.float .f32) 68 wc w.heap.size (fun k_ => some k_ ≠ ((.slice Ao16 t271.length co16) : Value).ownBlock ∧ some k_ ≠ ((.slice Ao50 t285.length co50) : Value).ownBlock) (.slice Ao10 t262.length co10) t262) ∧ Aside0 (Kd.R (Kd.complex .f32) 67 wc w.heap.size (fun k_ => some k_ ≠ ((.slice Ao8 t259.length co8) : Value).ownBlock ∧ some k_ ≠ ((.slice Ao46 t282.length co46) : Value).ownBlock) (.slice Ao13 t268.length co13) t279) ∧ Aside0 (Kd.R (Kd.float .f32) 68 wc w.heap.size (fun k_ => some k_ ≠ ((.slice Ao10 t262.length co10) : Value).ownBlock ∧ some k_ ≠ ((.slice Ao50 t285.length co50) : Value).ownBlock) (.slice Ao16 t271.length co16) t280) ∧ Aside0 (Kd.R (Kd.complex .f32) 67 wc w.heap.size (fun k_ => some k_ ≠ ((.slice Ao8 t259.length co8) : Value).ownBlock ∧ some k_ ≠ ((.slice Ao13 t268.length co13) : Value).ownBlock) (.slice Ao46 t282.length co46) t282) ∧ Aside0 (Kd.R (Kd.float .f32) 68 wc w.heap.size (fun k_ => some k_ ≠ ((.slice Ao10 t262.length co10) : Value).ownBlock ∧ some k_ ≠ ((.slice Ao16 t271.length co16) : Value).ownBlock) (.slice Ao50 t285.length co50) t285) ∧ Aside0 (wc.heap[gb267]? = some (.cells #[(.slice Ao8 t259.length co8), (.slice Ao10 t262.length co10), .bool t265] 43 (0, 0))) ∧ Aside0 (wc.heap[gb276]? = some (.cells #[(.slice Ao13 t268.length co13), (.slice Ao16 t271.length co16), .bool t274] 43 (0, 0))) ∧ Aside0 (wc.heap[gb290]? = some (.cells #[(.slice Ao46 t282.length co46), (.slice Ao50 t285.length co50), .bool t288] 43 (0, 0))) ∧ Aside0 (Below w.heap.size w wc))
              case first =>
                have H := HC38.out
                clear HC38
                replace H := Option.bind_eq_some_iff.mp H
                obtain ⟨t291, A510, H⟩ := H
                replace H : (if t291 = true then (laws_FnExactReadSheet.j1 kj4 t278 (t289 != t266) t279 t280 t274) else (laws_FnExactReadSheet.j1 kj4 t278 true t279 t280 t274)) = some r := H
                have A51 := Aside0.mk A510
                clear A510
                by_cases c52 : t291 = true
                · subst c52
                  have H1 : (laws_FnExactReadSheet.j1 kj4 t278 (t289 != t266) t279 t280 t274) = some r := by rw [if_pos rfl] at H; exact H
                  clear H
                  have H := H1
                  clear H1
                  have H' := Aside0.mk H
                  clear H
                  have hnb53 := NB290_267.out
                  have hnc53 := NB267_290.out
                  have hnb54 := NB290_276.out
                  have hnc54 := NB276_290.out
                  have hcz55_0 : w45.cell? ⟨gb290, 0, none⟩ = some (.slice none 0 0) := (blk_cell BK290.out 0).trans rfl
                  have hcz55_1 : w45.cell? ⟨gb290, 1, none⟩ = some (.slice none 0 0) := (blk_cell BK290.out 1).trans rfl
                  have hcz55_2 : w45.cell? ⟨gb290, 2, none⟩ = some (.bool false) := (blk_cell BK290.out 2).trans rfl
                  have hfz55_0 := blk_frozen BK290.out 0
                  have hfz55_1 := blk_frozen BK290.out 1
                  have hfz55_2 := blk_frozen BK290.out 2
                  have hnb56 := NB267_276.out
                  have hnc56 := NB276_267.out
                  have hcz57_0 : w45.cell? ⟨gb267, 0, none⟩ = some (.slice Ao8 t259.length co8) := (blk_cell BK267.out 0).trans rfl
                  have hcz57_1 : w45.cell? ⟨gb267, 1, none⟩ = some (.slice Ao10 t262.length co10) := (blk_cell BK267.out 1).trans rfl
                  have hcz57_2 : w45.cell? ⟨gb267, 2, none⟩ = some (.bool t265) := (blk_cell BK267.out 2).trans rfl
                  have hfz57_0 := blk_frozen BK267.out 0
                  have hfz57_1 := blk_frozen BK267.out 1
                  have hfz57_2 := blk_frozen BK267.out 2
                  go_wp2_with (first | ((with_reducible refine gate_callee (f := 23) rfl ?_); refine goesL_ (some 51) rfl rfl Tryd.func23 (by kernel_rfl) rfl #[.agg #[.slice Ao46 t282.length co46, .slice Ao50 t285.length co50, .bool t288], .agg #[.slice Ao8 t259.length co8, .slice Ao10 t262.length co10, .bool t265]] rfl (by (try simp only [List.map_toArray, List.map_cons, List.map_nil]); first | done | rfl | (simp only [List.length_drop, List.length_take]; rfl)) ?_; (with_reducible refine (laws_eqSheet.calls _ _ t282 _ _ t285 t288 _ _ t259 _ _ t262 t265 true _ ?side1 ?side2 ?side3 ?side4 ?side5 ?side6 ?side7 ?side8 A51.out).mono ?_); (case side1 => refine (Kd.R_reads' (e := 67) (base := w.heap.size) (ok := fun k_ => ((True ∧ some k_ ≠ (.slice Ao8 t259.length co8 : Value).ownBlock) ∧ some k_ ≠ (.slice Ao13 t268.length co13 : Value).ownBlock)) (n := t282.length) (c := co46) ?_).2.2; exact (by (with_reducible repeat (first | apply Kd.R_alloc | apply Kd.R_drewN | apply Kd.R_drew)); exact (Kd.R_mono (Kd.R_far (p := ⟨gb290, 2, none⟩) (Kd.R_far (p := ⟨gb290, 1, none⟩) (Kd.R_far (p := ⟨gb290, 0, none⟩) (Kd.R_types HO284.out BK290.out (by decide)) (fun _ hk => hk.2) (.slice Ao46 t282.length co46)) (fun _ hk => hk.2) (.slice Ao50 t285.length co50)) (fun _ hk => hk.2) (.bool t288)) (fun _ h_ => h_.1)))); (case side2 => exact (Kd.R_reads' HO284.out).2.1); (case side3 => refine (Kd.R_reads' (e := 68) (base := w.heap.size) (ok := fun k_ => ((True ∧ some k_ ≠ (.slice Ao10 t262.length co10 : Value).ownBlock) ∧ some k_ ≠ (.slice Ao16 t271.length co16 : Value).ownBlock)) (n := t285.length) (c := co50) ?_).2.2; exact (by (with_reducible repeat (first | apply Kd.R_alloc | apply Kd.R_drewN | apply Kd.R_drew)); exact (Kd.R_mono (Kd.R_far (p := ⟨gb290, 2, none⟩) (Kd.R_far (p := ⟨gb290, 1, none⟩) (Kd.R_far (p := ⟨gb290, 0, none⟩) (Kd.R_types HO287.out BK290.out (by decide)) (fun _ hk => hk.2) (.slice Ao46 t282.length co46)) (fun _ hk => hk.2) (.slice Ao50 t285.length co50)) (fun _ hk => hk.2) (.bool t288)) (fun _ h_ => h_.1)))); (case side4 => exact (Kd.R_reads' HO287.out).2.1); (case side5 => refine (Kd.R_reads' (e := 67) (base := w.heap.size) (ok := fun k_ => (some k_ ≠ (.slice Ao13 t268.length co13 : Value).ownBlock ∧ some k_ ≠ (.slice Ao46 t282.length co46 : Value).ownBlock)) (n := t259.length) (c := co8) ?_).2.2; exact (by (with_reducible repeat (first | apply Kd.R_alloc | apply Kd.R_drewN | apply Kd.R_drew)); exact (Kd.R_mono (Kd.R_far (p := ⟨gb290, 2, none⟩) (Kd.R_far (p := ⟨gb290, 1, none⟩) (Kd.R_far (p := ⟨gb290, 0, none⟩) (Kd.R_types HO_268000.out BK290.out (by decide)) (fun _ hk => hk.2) (.slice Ao46 t282.length co46)) (fun _ hk => hk.2) (.slice Ao50 t285.length co50)) (fun _ hk => hk.2) (.bool t288)) (fun _ h_ => h_.1)))); (case side6 => exact (Kd.R_reads' HO_268000.out).2.1); (case side7 => refine (Kd.R_reads' (e := 68) (base := w.heap.size) (ok := fun k_ => (some k_ ≠ (.slice Ao16 t271.length co16 : Value).ownBlock ∧ some k_ ≠ (.slice Ao50 t285.length co50 : Value).ownBlock)) (n := t262.length) (c := co10) ?_).2.2; exact (by (with_reducible repeat (first | apply Kd.R_alloc | apply Kd.R_drewN | apply Kd.R_drew)); exact (Kd.R_mono (Kd.R_far (p := ⟨gb290, 2, none⟩) (Kd.R_far (p := ⟨gb290, 1, none⟩) (Kd.R_far (p := ⟨gb290, 0, none⟩) (Kd.R_types HO_268001.out BK290.out (by decide)) (fun _ hk => hk.2) (.slice Ao46 t282.length co46)) (fun _ hk => hk.2) (.slice Ao50 t285.length co50)) (fun _ hk => hk.2) (.bool t288)) (fun _ h_ => h_.1)))); (case side8 => exact (Kd.R_reads' HO_268001.out).2.1); rintro e w58 ⟨rfl, hb⟩; refine ⟨_, rfl, ?_⟩; have n0_ := Aside0.mk (Kd.R_below (by (with_reducible repeat (first | apply Kd.R_alloc | apply Kd.R_drewN | apply Kd.R_drew)); exact (Kd.R_mono (Kd.R_far (p := ⟨gb290, 2, none⟩) (Kd.R_far (p := ⟨gb290, 1, none⟩) (Kd.R_far (p := ⟨gb290, 0, none⟩) (Kd.R_types HO_268000.out BK290.out (by decide)) (fun _ hk => hk.2) (.slice Ao46 t282.length co46)) (fun _ hk => hk.2) (.slice Ao50 t285.length co50)) (fun _ hk => hk.2) (.bool t288)) (fun _ h_ => h_.1))) hb); have n1_ := Aside0.mk (Kd.R_below (by (with_reducible repeat (first | apply Kd.R_alloc | apply Kd.R_drewN | apply Kd.R_drew)); exact (Kd.R_mono (Kd.R_far (p := ⟨gb290, 2, none⟩) (Kd.R_far (p := ⟨gb290, 1, none⟩) (Kd.R_far (p := ⟨gb290, 0, none⟩) (Kd.R_types HO_268001.out BK290.out (by decide)) (fun _ hk => hk.2) (.slice Ao46 t282.length co46)) (fun _ hk => hk.2) (.slice Ao50 t285.length co50)) (fun _ hk => hk.2) (.bool t288)) (fun _ h_ => h_.1))) hb); have n2_ := Aside0.mk (Kd.R_below (by (with_reducible repeat (first | apply Kd.R_alloc | apply Kd.R_drewN | apply Kd.R_drew)); exact (Kd.R_mono (Kd.R_far (p := ⟨gb290, 2, none⟩) (Kd.R_far (p := ⟨gb290, 1, none⟩) (Kd.R_far (p := ⟨gb290, 0, none⟩) (Kd.R_types HO_277000.out BK290.out (by decide)) (fun _ hk => hk.2) (.slice Ao46 t282.length co46)) (fun _ hk => hk.2) (.slice Ao50 t285.length co50)) (fun _ hk => hk.2) (.bool t288)) (fun _ h_ => h_.1))) hb); have n3_ := Aside0.mk (Kd.R_below (by (with_reducible repeat (first | apply Kd.R_alloc | apply Kd.R_drewN | apply Kd.R_drew)); exact (Kd.R_mono (Kd.R_far (p := ⟨gb290, 2, none⟩) (Kd.R_far (p := ⟨gb290, 1, none⟩) (Kd.R_far (p := ⟨gb290, 0, none⟩) (Kd.R_types HO_277001.out BK290.out (by decide)) (fun _ hk => hk.2) (.slice Ao46 t282.length co46)) (fun _ hk => hk.2) (.slice Ao50 t285.length co50)) (fun _ hk => hk.2) (.bool t288)) (fun _ h_ => h_.1))) hb); have n4_ := Aside0.mk (Kd.R_below (by (with_reducible repeat (first | apply Kd.R_alloc | apply Kd.R_drewN | apply Kd.R_drew)); exact (Kd.R_mono (Kd.R_far (p := ⟨gb290, 2, none⟩) (Kd.R_far (p := ⟨gb290, 1, none⟩) (Kd.R_far (p := ⟨gb290, 0, none⟩) (Kd.R_types HO284.out BK290.out (by decide)) (fun _ hk => hk.2) (.slice Ao46 t282.length co46)) (fun _ hk => hk.2) (.slice Ao50 t285.length co50)) (fun _ hk => hk.2) (.bool t288)) (fun _ h_ => h_.1))) hb); have n5_ := Aside0.mk (Kd.R_below (by (with_reducible repeat (first | apply Kd.R_alloc | apply Kd.R_drewN | apply Kd.R_drew)); exact (Kd.R_mono (Kd.R_far (p := ⟨gb290, 2, none⟩) (Kd.R_far (p := ⟨gb290, 1, none⟩) (Kd.R_far (p := ⟨gb290, 0, none⟩) (Kd.R_types HO287.out BK290.out (by decide)) (fun _ hk => hk.2) (.slice Ao46 t282.length co46)) (fun _ hk => hk.2) (.slice Ao50 t285.length co50)) (fun _ hk => hk.2) (.bool t288)) (fun _ h_ => h_.1))) hb); have n6_ := Aside0.mk (blk_below (g := gb267) (o := .cells #[.slice Ao8 t259.length co8, .slice Ao10 t262.length co10, .bool t265] 43 (0, 0)) (by (with_reducible repeat (first | refine blk_drewN ?_ _ | refine blk_drew ?_ | refine blk_alloc ?_ _)); refine blk_far ?_ NB267_290.out _; (with_reducible repeat (first | refine blk_drewN ?_ _ | refine blk_drew ?_ | refine blk_alloc ?_ _)); refine blk_far ?_ NB267_290.out _; (with_reducible repeat (first | refine blk_drewN ?_ _ | refine blk_drew ?_ | refine blk_alloc ?_ _)); refine blk_far ?_ NB267_290.out _; (with_reducible repeat (first | refine blk_drewN ?_ _ | refine blk_drew ?_ | refine blk_alloc ?_ _)); exact BK267.out) hb); have n7_ := Aside0.mk (blk_below (g := gb276) (o := .cells #[.slice Ao13 t268.length co13, .slice Ao16 t271.length co16, .bool t274] 43 (0, 0)) (by (with_reducible repeat (first | refine blk_drewN ?_ _ | refine blk_drew ?_ | refine blk_alloc ?_ _)); refine blk_far ?_ NB276_290.out _; (with_reducible repeat (first | refine blk_drewN ?_ _ | refine blk_drew ?_ | refine blk_alloc ?_ _)); refine blk_far ?_ NB276_290.out _; (with_reducible repeat (first | refine blk_drewN ?_ _ | refine blk_drew ?_ | refine blk_alloc ?_ _)); refine blk_far ?_ NB276_290.out _; (with_reducible repeat (first | refine blk_drewN ?_ _ | refine blk_drew ?_ | refine blk_alloc ?_ _)); exact BK276.out) hb); have n8_ := Aside0.mk (blk_below (g := gb290) (o := .cells #[.slice Ao46 t282.length co46, .slice Ao50 t285.length co50, .bool t288] 43 (0, 0)) (by (with_reducible repeat (first | refine blk_drewN ?_ _ | refine blk_drew ?_ | refine blk_alloc ?_ _)); refine blk_put (cs := #[.slice Ao46 t282.length co46, .slice Ao50 t285.length co50, .bool false]) ?_ 2 _ rfl; (with_reducible repeat (first | refine blk_drewN ?_ _ | refine blk_drew ?_ | refine blk_alloc ?_ _)); refine blk_put (cs := #[.slice Ao46 t282.length co46, .slice none 0 0, .bool false]) ?_ 1 _ rfl; (with_reducible repeat (first | refine blk_drewN ?_ _ | refine blk_drew ?_ | refine blk_alloc ?_ _)); refine blk_put (cs := #[.slice none 0 0, .slice none 0 0, .bool false]) ?_ 0 _ rfl; (with_reducible repeat (first | refine blk_drewN ?_ _ | refine blk_drew ?_ | refine blk_alloc ?_ _)); exact BK290.out) hb); have n9_ := Aside0.mk (below_step (by repeat (first | (with_reducible first | exact HB.out | apply below_alloc | apply pw_below_drewN | apply below_drew1 | refine below_set ?_ GE267.out | refine below_set ?_ GE276.out | refine below_set ?_ GE290.out) | exact HB.out)) hb); clear HO_268000; clear HO_268001; clear HO_277000; clear HO_277001; clear HO284; clear HO287; clear BK267; clear BK276; clear BK290; clear HB; have HO_268000 := n0_; have HO_268001 := n1_; have HO_277000 := n2_; have HO_277001 := n3_; have HO284 := n4_; have HO287 := n5_; have BK267 := n6_; have BK276 := n7_; have BK290 := n8_; have HB := n9_; clear n0_ n1_ n2_ n3_ n4_ n5_ n6_ n7_ n8_ n9_; (try clear hb); (try clear hb2); (try clear hk); (try clear hi)))
                  go_meet
                  case rel => exact ⟨_, ((t289 != t266)), (by first | rfl | (simp; done) | (simp [*]; done)), H', ⟨by have := HJ4.out; first | omega | exact Nat.le_refl _⟩, ⟨by (with_reducible repeat (first | apply Kd.R_alloc | apply Kd.R_drewN | apply Kd.R_drew)); exact HO_268000.out⟩, ⟨by (with_reducible repeat (first | apply Kd.R_alloc | apply Kd.R_drewN | apply Kd.R_drew)); exact HO_268001.out⟩, ⟨by (with_reducible repeat (first | apply Kd.R_alloc | apply Kd.R_drewN | apply Kd.R_drew)); exact HO_277000.out⟩, ⟨by (with_reducible repeat (first | apply Kd.R_alloc | apply Kd.R_drewN | apply Kd.R_drew)); exact HO_277001.out⟩, ⟨by (with_reducible repeat (first | apply Kd.R_alloc | apply Kd.R_drewN | apply Kd.R_drew)); exact Kd.R_mono HO284.out (fun _ hk => ⟨hk.1.2, hk.2⟩)⟩, ⟨by (with_reducible repeat (first | apply Kd.R_alloc | apply Kd.R_drewN | apply Kd.R_drew)); exact Kd.R_mono HO287.out (fun _ hk => ⟨hk.1.2, hk.2⟩)⟩, ⟨by (with_reducible repeat (first | refine blk_drewN ?_ _ | refine blk_drew ?_ | refine blk_alloc ?_ _)); exact BK267.out⟩, ⟨by (with_reducible repeat (first | refine blk_drewN ?_ _ | refine blk_drew ?_ | refine blk_alloc ?_ _)); exact BK276.out⟩, ⟨by (with_reducible repeat (first | refine blk_drewN ?_ _ | refine blk_drew ?_ | refine blk_alloc ?_ _)); exact BK290.out⟩, ⟨by repeat (first | (with_reducible first | exact HB.out | apply below_alloc | apply pw_below_drewN | apply below_drew1 | refine below_set ?_ GE267.out | refine below_set ?_ GE276.out | refine below_set ?_ GE290.out) | exact HB.out)⟩⟩
                · replace c52 := Bool.eq_false_iff.mpr c52
                  subst c52
                  have H1 : (laws_FnExactReadSheet.j1 kj4 t278 true t279 t280 t274) = some r := by rw [if_neg (show ¬ (false = true) by decide)] at H; exact H
                  clear H
                  have H := H1
                  clear H1
                  have H' := Aside0.mk H
                  clear H
                  have hnb59 := NB290_267.out
                  have hnc59 := NB267_290.out
                  have hnb60 := NB290_276.out
                  have hnc60 := NB276_290.out
                  have hcz61_0 : w45.cell? ⟨gb290, 0, none⟩ = some (.slice none 0 0) := (blk_cell BK290.out 0).trans rfl
                  have hcz61_1 : w45.cell? ⟨gb290, 1, none⟩ = some (.slice none 0 0) := (blk_cell BK290.out 1).trans rfl
                  have hcz61_2 : w45.cell? ⟨gb290, 2, none⟩ = some (.bool false) := (blk_cell BK290.out 2).trans rfl
                  have hfz61_0 := blk_frozen BK290.out 0
                  have hfz61_1 := blk_frozen BK290.out 1
                  have hfz61_2 := blk_frozen BK290.out 2
                  have hnb62 := NB267_276.out
                  have hnc62 := NB276_267.out
                  have hcz63_0 : w45.cell? ⟨gb267, 0, none⟩ = some (.slice Ao8 t259.length co8) := (blk_cell BK267.out 0).trans rfl
                  have hcz63_1 : w45.cell? ⟨gb267, 1, none⟩ = some (.slice Ao10 t262.length co10) := (blk_cell BK267.out 1).trans rfl
                  have hcz63_2 : w45.cell? ⟨gb267, 2, none⟩ = some (.bool t265) := (blk_cell BK267.out 2).trans rfl
                  have hfz63_0 := blk_frozen BK267.out 0
                  have hfz63_1 := blk_frozen BK267.out 1
                  have hfz63_2 := blk_frozen BK267.out 2
                  go_wp2_with (first | ((with_reducible refine gate_callee (f := 23) rfl ?_); refine goesL_ (some 51) rfl rfl Tryd.func23 (by kernel_rfl) rfl #[.agg #[.slice Ao46 t282.length co46, .slice Ao50 t285.length co50, .bool t288], .agg #[.slice Ao8 t259.length co8, .slice Ao10 t262.length co10, .bool t265]] rfl (by (try simp only [List.map_toArray, List.map_cons, List.map_nil]); first | done | rfl | (simp only [List.length_drop, List.length_take]; rfl)) ?_; (with_reducible refine (laws_eqSheet.calls _ _ t282 _ _ t285 t288 _ _ t259 _ _ t262 t265 false _ ?side1 ?side2 ?side3 ?side4 ?side5 ?side6 ?side7 ?side8 A51.out).mono ?_); (case side1 => refine (Kd.R_reads' (e := 67) (base := w.heap.size) (ok := fun k_ => ((True ∧ some k_ ≠ (.slice Ao8 t259.length co8 : Value).ownBlock) ∧ some k_ ≠ (.slice Ao13 t268.length co13 : Value).ownBlock)) (n := t282.length) (c := co46) ?_).2.2; exact (by (with_reducible repeat (first | apply Kd.R_alloc | apply Kd.R_drewN | apply Kd.R_drew)); exact (Kd.R_mono (Kd.R_far (p := ⟨gb290, 2, none⟩) (Kd.R_far (p := ⟨gb290, 1, none⟩) (Kd.R_far (p := ⟨gb290, 0, none⟩) (Kd.R_types HO284.out BK290.out (by decide)) (fun _ hk => hk.2) (.slice Ao46 t282.length co46)) (fun _ hk => hk.2) (.slice Ao50 t285.length co50)) (fun _ hk => hk.2) (.bool t288)) (fun _ h_ => h_.1)))); (case side2 => exact (Kd.R_reads' HO284.out).2.1); (case side3 => refine (Kd.R_reads' (e := 68) (base := w.heap.size) (ok := fun k_ => ((True ∧ some k_ ≠ (.slice Ao10 t262.length co10 : Value).ownBlock) ∧ some k_ ≠ (.slice Ao16 t271.length co16 : Value).ownBlock)) (n := t285.length) (c := co50) ?_).2.2; exact (by (with_reducible repeat (first | apply Kd.R_alloc | apply Kd.R_drewN | apply Kd.R_drew)); exact (Kd.R_mono (Kd.R_far (p := ⟨gb290, 2, none⟩) (Kd.R_far (p := ⟨gb290, 1, none⟩) (Kd.R_far (p := ⟨gb290, 0, none⟩) (Kd.R_types HO287.out BK290.out (by decide)) (fun _ hk => hk.2) (.slice Ao46 t282.length co46)) (fun _ hk => hk.2) (.slice Ao50 t285.length co50)) (fun _ hk => hk.2) (.bool t288)) (fun _ h_ => h_.1)))); (case side4 => exact (Kd.R_reads' HO287.out).2.1); (case side5 => refine (Kd.R_reads' (e := 67) (base := w.heap.size) (ok := fun k_ => (some k_ ≠ (.slice Ao13 t268.length co13 : Value).ownBlock ∧ some k_ ≠ (.slice Ao46 t282.length co46 : Value).ownBlock)) (n := t259.length) (c := co8) ?_).2.2; exact (by (with_reducible repeat (first | apply Kd.R_alloc | apply Kd.R_drewN | apply Kd.R_drew)); exact (Kd.R_mono (Kd.R_far (p := ⟨gb290, 2, none⟩) (Kd.R_far (p := ⟨gb290, 1, none⟩) (Kd.R_far (p := ⟨gb290, 0, none⟩) (Kd.R_types HO_268000.out BK290.out (by decide)) (fun _ hk => hk.2) (.slice Ao46 t282.length co46)) (fun _ hk => hk.2) (.slice Ao50 t285.length co50)) (fun _ hk => hk.2) (.bool t288)) (fun _ h_ => h_.1)))); (case side6 => exact (Kd.R_reads' HO_268000.out).2.1); (case side7 => refine (Kd.R_reads' (e := 68) (base := w.heap.size) (ok := fun k_ => (some k_ ≠ (.slice Ao16 t271.length co16 : Value).ownBlock ∧ some k_ ≠ (.slice Ao50 t285.length co50 : Value).ownBlock)) (n := t262.length) (c := co10) ?_).2.2; exact (by (with_reducible repeat (first | apply Kd.R_alloc | apply Kd.R_drewN | apply Kd.R_drew)); exact (Kd.R_mono (Kd.R_far (p := ⟨gb290, 2, none⟩) (Kd.R_far (p := ⟨gb290, 1, none⟩) (Kd.R_far (p := ⟨gb290, 0, none⟩) (Kd.R_types HO_268001.out BK290.out (by decide)) (fun _ hk => hk.2) (.slice Ao46 t282.length co46)) (fun _ hk => hk.2) (.slice Ao50 t285.length co50)) (fun _ hk => hk.2) (.bool t288)) (fun _ h_ => h_.1)))); (case side8 => exact (Kd.R_reads' HO_268001.out).2.1); rintro e w64 ⟨rfl, hb⟩; refine ⟨_, rfl, ?_⟩; have n0_ := Aside0.mk (Kd.R_below (by (with_reducible repeat (first | apply Kd.R_alloc | apply Kd.R_drewN | apply Kd.R_drew)); exact (Kd.R_mono (Kd.R_far (p := ⟨gb290, 2, none⟩) (Kd.R_far (p := ⟨gb290, 1, none⟩) (Kd.R_far (p := ⟨gb290, 0, none⟩) (Kd.R_types HO_268000.out BK290.out (by decide)) (fun _ hk => hk.2) (.slice Ao46 t282.length co46)) (fun _ hk => hk.2) (.slice Ao50 t285.length co50)) (fun _ hk => hk.2) (.bool t288)) (fun _ h_ => h_.1))) hb); have n1_ := Aside0.mk (Kd.R_below (by (with_reducible repeat (first | apply Kd.R_alloc | apply Kd.R_drewN | apply Kd.R_drew)); exact (Kd.R_mono (Kd.R_far (p := ⟨gb290, 2, none⟩) (Kd.R_far (p := ⟨gb290, 1, none⟩) (Kd.R_far (p := ⟨gb290, 0, none⟩) (Kd.R_types HO_268001.out BK290.out (by decide)) (fun _ hk => hk.2) (.slice Ao46 t282.length co46)) (fun _ hk => hk.2) (.slice Ao50 t285.length co50)) (fun _ hk => hk.2) (.bool t288)) (fun _ h_ => h_.1))) hb); have n2_ := Aside0.mk (Kd.R_below (by (with_reducible repeat (first | apply Kd.R_alloc | apply Kd.R_drewN | apply Kd.R_drew)); exact (Kd.R_mono (Kd.R_far (p := ⟨gb290, 2, none⟩) (Kd.R_far (p := ⟨gb290, 1, none⟩) (Kd.R_far (p := ⟨gb290, 0, none⟩) (Kd.R_types HO_277000.out BK290.out (by decide)) (fun _ hk => hk.2) (.slice Ao46 t282.length co46)) (fun _ hk => hk.2) (.slice Ao50 t285.length co50)) (fun _ hk => hk.2) (.bool t288)) (fun _ h_ => h_.1))) hb); have n3_ := Aside0.mk (Kd.R_below (by (with_reducible repeat (first | apply Kd.R_alloc | apply Kd.R_drewN | apply Kd.R_drew)); exact (Kd.R_mono (Kd.R_far (p := ⟨gb290, 2, none⟩) (Kd.R_far (p := ⟨gb290, 1, none⟩) (Kd.R_far (p := ⟨gb290, 0, none⟩) (Kd.R_types HO_277001.out BK290.out (by decide)) (fun _ hk => hk.2) (.slice Ao46 t282.length co46)) (fun _ hk => hk.2) (.slice Ao50 t285.length co50)) (fun _ hk => hk.2) (.bool t288)) (fun _ h_ => h_.1))) hb); have n4_ := Aside0.mk (Kd.R_below (by (with_reducible repeat (first | apply Kd.R_alloc | apply Kd.R_drewN | apply Kd.R_drew)); exact (Kd.R_mono (Kd.R_far (p := ⟨gb290, 2, none⟩) (Kd.R_far (p := ⟨gb290, 1, none⟩) (Kd.R_far (p := ⟨gb290, 0, none⟩) (Kd.R_types HO284.out BK290.out (by decide)) (fun _ hk => hk.2) (.slice Ao46 t282.length co46)) (fun _ hk => hk.2) (.slice Ao50 t285.length co50)) (fun _ hk => hk.2) (.bool t288)) (fun _ h_ => h_.1))) hb); have n5_ := Aside0.mk (Kd.R_below (by (with_reducible repeat (first | apply Kd.R_alloc | apply Kd.R_drewN | apply Kd.R_drew)); exact (Kd.R_mono (Kd.R_far (p := ⟨gb290, 2, none⟩) (Kd.R_far (p := ⟨gb290, 1, none⟩) (Kd.R_far (p := ⟨gb290, 0, none⟩) (Kd.R_types HO287.out BK290.out (by decide)) (fun _ hk => hk.2) (.slice Ao46 t282.length co46)) (fun _ hk => hk.2) (.slice Ao50 t285.length co50)) (fun _ hk => hk.2) (.bool t288)) (fun _ h_ => h_.1))) hb); have n6_ := Aside0.mk (blk_below (g := gb267) (o := .cells #[.slice Ao8 t259.length co8, .slice Ao10 t262.length co10, .bool t265] 43 (0, 0)) (by (with_reducible repeat (first | refine blk_drewN ?_ _ | refine blk_drew ?_ | refine blk_alloc ?_ _)); refine blk_far ?_ NB267_290.out _; (with_reducible repeat (first | refine blk_drewN ?_ _ | refine blk_drew ?_ | refine blk_alloc ?_ _)); refine blk_far ?_ NB267_290.out _; (with_reducible repeat (first | refine blk_drewN ?_ _ | refine blk_drew ?_ | refine blk_alloc ?_ _)); refine blk_far ?_ NB267_290.out _; (with_reducible repeat (first | refine blk_drewN ?_ _ | refine blk_drew ?_ | refine blk_alloc ?_ _)); exact BK267.out) hb); have n7_ := Aside0.mk (blk_below (g := gb276) (o := .cells #[.slice Ao13 t268.length co13, .slice Ao16 t271.length co16, .bool t274] 43 (0, 0)) (by (with_reducible repeat (first | refine blk_drewN ?_ _ | refine blk_drew ?_ | refine blk_alloc ?_ _)); refine blk_far ?_ NB276_290.out _; (with_reducible repeat (first | refine blk_drewN ?_ _ | refine blk_drew ?_ | refine blk_alloc ?_ _)); refine blk_far ?_ NB276_290.out _; (with_reducible repeat (first | refine blk_drewN ?_ _ | refine blk_drew ?_ | refine blk_alloc ?_ _)); refine blk_far ?_ NB276_290.out _; (with_reducible repeat (first | refine blk_drewN ?_ _ | refine blk_drew ?_ | refine blk_alloc ?_ _)); exact BK276.out) hb); have n8_ := Aside0.mk (blk_below (g := gb290) (o := .cells #[.slice Ao46 t282.length co46, .slice Ao50 t285.length co50, .bool t288] 43 (0, 0)) (by (with_reducible repeat (first | refine blk_drewN ?_ _ | refine blk_drew ?_ | refine blk_alloc ?_ _)); refine blk_put (cs := #[.slice Ao46 t282.length co46, .slice Ao50 t285.length co50, .bool false]) ?_ 2 _ rfl; (with_reducible repeat (first | refine blk_drewN ?_ _ | refine blk_drew ?_ | refine blk_alloc ?_ _)); refine blk_put (cs := #[.slice Ao46 t282.length co46, .slice none 0 0, .bool false]) ?_ 1 _ rfl; (with_reducible repeat (first | refine blk_drewN ?_ _ | refine blk_drew ?_ | refine blk_alloc ?_ _)); refine blk_put (cs := #[.slice none 0 0, .slice none 0 0, .bool false]) ?_ 0 _ rfl; (with_reducible repeat (first | refine blk_drewN ?_ _ | refine blk_drew ?_ | refine blk_alloc ?_ _)); exact BK290.out) hb); have n9_ := Aside0.mk (below_step (by repeat (first | (with_reducible first | exact HB.out | apply below_alloc | apply pw_below_drewN | apply below_drew1 | refine below_set ?_ GE267.out | refine below_set ?_ GE276.out | refine below_set ?_ GE290.out) | exact HB.out)) hb); clear HO_268000; clear HO_268001; clear HO_277000; clear HO_277001; clear HO284; clear HO287; clear BK267; clear BK276; clear BK290; clear HB; have HO_268000 := n0_; have HO_268001 := n1_; have HO_277000 := n2_; have HO_277001 := n3_; have HO284 := n4_; have HO287 := n5_; have BK267 := n6_; have BK276 := n7_; have BK290 := n8_; have HB := n9_; clear n0_ n1_ n2_ n3_ n4_ n5_ n6_ n7_ n8_ n9_; (try clear hb); (try clear hb2); (try clear hk); (try clear hi)))
                  go_meet
                  case rel => exact ⟨_, (true), (by first | rfl | (simp; done) | (simp [*]; done)), H', ⟨by have := HJ4.out; first | omega | exact Nat.le_refl _⟩, ⟨by (with_reducible repeat (first | apply Kd.R_alloc | apply Kd.R_drewN | apply Kd.R_drew)); exact HO_268000.out⟩, ⟨by (with_reducible repeat (first | apply Kd.R_alloc | apply Kd.R_drewN | apply Kd.R_drew)); exact HO_268001.out⟩, ⟨by (with_reducible repeat (first | apply Kd.R_alloc | apply Kd.R_drewN | apply Kd.R_drew)); exact HO_277000.out⟩, ⟨by (with_reducible repeat (first | apply Kd.R_alloc | apply Kd.R_drewN | apply Kd.R_drew)); exact HO_277001.out⟩, ⟨by (with_reducible repeat (first | apply Kd.R_alloc | apply Kd.R_drewN | apply Kd.R_drew)); exact Kd.R_mono HO284.out (fun _ hk => ⟨hk.1.2, hk.2⟩)⟩, ⟨by (with_reducible repeat (first | apply Kd.R_alloc | apply Kd.R_drewN | apply Kd.R_drew)); exact Kd.R_mono HO287.out (fun _ hk => ⟨hk.1.2, hk.2⟩)⟩, ⟨by (with_reducible repeat (first | refine blk_drewN ?_ _ | refine blk_drew ?_ | refine blk_alloc ?_ _)); exact BK267.out⟩, ⟨by (with_reducible repeat (first | refine blk_drewN ?_ _ | refine blk_drew ?_ | refine blk_alloc ?_ _)); exact BK276.out⟩, ⟨by (with_reducible repeat (first | refine blk_drewN ?_ _ | refine blk_drew ?_ | refine blk_alloc ?_ _)); exact BK290.out⟩, ⟨by repeat (first | (with_reducible first | exact HB.out | apply below_alloc | apply pw_below_drewN | apply below_drew1 | refine below_set ?_ GE267.out | refine below_set ?_ GE276.out | refine below_set ?_ GE290.out) | exact HB.out)⟩⟩
              case rest =>
                clear HC38
                try clear c1
                try clear c2
                try clear c2b0
                try clear c2b1
                try clear p2
                try clear c3
                try clear c4
                try clear c5
                try clear c6
                try clear c14
                try clear c18
                try clear c19
                try clear c21
                try clear c22
                try clear c23
                try clear c24
                try clear c25
                try clear c27
                try clear c30
                try clear c30b0
                try clear c31
                try clear c36
                try clear c36b0
                try clear c36b1
                try clear c39
                try clear c47
                try clear c48
                try clear c52
                try clear c53
                try clear c54
                try clear c56
                try clear c59
                try clear c60
                try clear c62
                try clear hcz15_0
                try clear hcz15_1
                try clear hcz15_2
                try clear hcz20_0
                try clear hcz20_1
                try clear hcz20_2
                try clear hcz21_0
                try clear hcz21_1
                try clear hcz21_2
                try clear hcz24_0
                try clear hcz24_1
                try clear hcz24_2
                try clear hcz25_0
                try clear hcz25_1
                try clear hcz25_2
                try clear hcz32_0
                try clear hcz32_1
                try clear hcz32_2
                try clear hcz34_0
                try clear hcz34_1
                try clear hcz34_2
                try clear hcz40_0
                try clear hcz40_1
                try clear hcz40_2
                try clear hcz42_0
                try clear hcz42_1
                try clear hcz42_2
                try clear hcz49_0
                try clear hcz49_1
                try clear hcz49_2
                try clear hcz55_0
                try clear hcz55_1
                try clear hcz55_2
                try clear hcz57_0
                try clear hcz57_1
                try clear hcz57_2
                try clear hcz61_0
                try clear hcz61_1
                try clear hcz61_2
                try clear hcz63_0
                try clear hcz63_1
                try clear hcz63_2
                try clear hcz9_0
                try clear hcz9_1
                try clear hcz9_2
                try clear hfz15_0
                try clear hfz15_1
                try clear hfz15_2
                try clear hfz20_0
                try clear hfz20_1
                try clear hfz20_2
                try clear hfz21_0
                try clear hfz21_1
                try clear hfz21_2
                try clear hfz24_0
                try clear hfz24_1
                try clear hfz24_2
                try clear hfz25_0
                try clear hfz25_1
                try clear hfz25_2
                try clear hfz32_0
                try clear hfz32_1
                try clear hfz32_2
                try clear hfz34_0
                try clear hfz34_1
                try clear hfz34_2
                try clear hfz40_0
                try clear hfz40_1
                try clear hfz40_2
                try clear hfz42_0
                try clear hfz42_1
                try clear hfz42_2
                try clear hfz49_0
                try clear hfz49_1
                try clear hfz49_2
                try clear hfz55_0
                try clear hfz55_1
                try clear hfz55_2
                try clear hfz57_0
                try clear hfz57_1
                try clear hfz57_2
                try clear hfz61_0
                try clear hfz61_1
                try clear hfz61_2
                try clear hfz63_0
                try clear hfz63_1
                try clear hfz63_2
                try clear hfz9_0
                try clear hfz9_1
                try clear hfz9_2
                try clear p2
                obtain ⟨kq, x57_37, rfl, HA, HJ37, HO_268000, HO_268001, HO_277000, HO_277001, HO_291000, HO_291001, BK267, BK276, BK290, HB⟩ := hcut
                have hl277000_37 := (Kd.R_reads' HO_277000.out).1
                rw [hl277000_37] at HO_277000
                (try simp only [hl277000_37])
                (try simp only [hl277000_37] at BK267)
                (try simp only [hl277000_37] at BK276)
                (try simp only [hl277000_37] at BK290)
                (try simp only [hl277000_37] at HO_268000)
                (try simp only [hl277000_37] at HO_268001)
                (try simp only [hl277000_37] at HO_277001)
                (try simp only [hl277000_37] at HO_291000)
                (try simp only [hl277000_37] at HO_291001)
                have hl277001_37 := (Kd.R_reads' HO_277001.out).1
                rw [hl277001_37] at HO_277001
                (try simp only [hl277001_37])
                (try simp only [hl277001_37] at BK267)
                (try simp only [hl277001_37] at BK276)
                (try simp only [hl277001_37] at BK290)
                (try simp only [hl277001_37] at HO_268000)
                (try simp only [hl277001_37] at HO_268001)
                (try simp only [hl277001_37] at HO_277000)
                (try simp only [hl277001_37] at HO_291000)
                (try simp only [hl277001_37] at HO_291001)
                cases kq with
                | zero => exact absurd HA.out (by simp [laws_FnExactReadSheet.j1])
                | succ kj37 =>
                  have H := HA.out
                  clear HA
                  simp only [laws_FnExactReadSheet.j1] at H
                  by_cases c65 : x57_37 = true
                  · subst c65
                    have H1 : (some false) = some r := by rw [if_pos rfl] at H; exact H
                    clear H
                    have H := H1
                    clear H1
                    obtain rfl := Option.some.inj H
                    go_wp2
                    go_ret
                    exact ⟨by first | rfl | (simp [errW_none, errW_some] <;> rfl) | (simp [*, errW_none, errW_some] <;> rfl), by repeat (first | (with_reducible first | exact HB.out | apply below_alloc | apply pw_below_drewN | apply below_drew1 | refine below_set ?_ GE267.out | refine below_set ?_ GE276.out | refine below_set ?_ GE290.out) | exact HB.out)⟩
                  · replace c65 := Bool.eq_false_iff.mpr c65
                    subst c65
                    have H1 : ((laws_heldSheet.f kj37 t279 t280 t274 1).bind fun t292 => (if t292 < 0 then (some false) else (if t292 = t278 then (some true) else (some false)))) = some r := by rw [if_neg (show ¬ (false = true) by decide)] at H; exact H
                    clear H
                    have H := H1
                    clear H1
                    replace H := Option.bind_eq_some_iff.mp H
                    obtain ⟨t292, A660, H⟩ := H
                    replace H : (if t292 < 0 then (some false) else (if t292 = t278 then (some true) else (some false))) = some r := H
                    have A66 := Aside0.mk A660
                    clear A660
                    by_cases c67 : t292 < 0
                    · rw [if_pos c67] at H
                      have c67b0 : decide (t292 < 0) = true := decide_eq_true c67
                      clear c67
                      obtain rfl := Option.some.inj H
                      have hnb68 := NB276_267.out
                      have hnc68 := NB267_276.out
                      have hnb69 := NB276_290.out
                      have hnc69 := NB290_276.out
                      have hcz70_0 : wc.cell? ⟨gb276, 0, none⟩ = some (.slice Ao13 t279.length co13) := (blk_cell BK276.out 0).trans rfl
                      have hcz70_1 : wc.cell? ⟨gb276, 1, none⟩ = some (.slice Ao16 t280.length co16) := (blk_cell BK276.out 1).trans rfl
                      have hcz70_2 : wc.cell? ⟨gb276, 2, none⟩ = some (.bool t274) := (blk_cell BK276.out 2).trans rfl
                      have hfz70_0 := blk_frozen BK276.out 0
                      have hfz70_1 := blk_frozen BK276.out 1
                      have hfz70_2 := blk_frozen BK276.out 2
                      go_wp2_with (first | ((with_reducible refine gate_callee (f := 25) rfl ?_); refine goesL_ (some 60) rfl rfl Tryd.func25 (by kernel_rfl) rfl #[.agg #[.slice Ao13 t279.length co13, .slice Ao16 t280.length co16, .bool t274], .int .i64 1] rfl (by (try simp only [List.map_toArray, List.map_cons, List.map_nil]); first | done | rfl | (simp only [List.length_drop, List.length_take]; rfl)) ?_; (with_reducible refine (laws_heldSheet.calls kj37 _ _ t279 _ _ t280 t274 1 t292 _ ?side1 ?side2 ?side3 ?side4 A66.out).mono ?_); (case side1 => repeat (first | exact (Kd.R_reads' HO_277000.out).2.2 | (with_reducible refine Kd.C_alloc ?_ _) | (with_reducible refine Kd.C_drewN ?_ _) | (with_reducible refine Kd.C_drew ?_))); (case side2 => exact (Kd.R_reads' HO_277000.out).2.1); (case side3 => repeat (first | exact (Kd.R_reads' HO_277001.out).2.2 | (with_reducible refine Kd.C_alloc ?_ _) | (with_reducible refine Kd.C_drewN ?_ _) | (with_reducible refine Kd.C_drew ?_))); (case side4 => exact (Kd.R_reads' HO_277001.out).2.1); rintro e w71 ⟨rfl, hb⟩; refine ⟨_, rfl, ?_⟩; have n0_ := Aside0.mk (Kd.R_below (by (with_reducible repeat (first | apply Kd.R_alloc | apply Kd.R_drewN | apply Kd.R_drew)); exact HO_268000.out) hb); have n1_ := Aside0.mk (Kd.R_below (by (with_reducible repeat (first | apply Kd.R_alloc | apply Kd.R_drewN | apply Kd.R_drew)); exact HO_268001.out) hb); have n2_ := Aside0.mk (Kd.R_below (by (with_reducible repeat (first | apply Kd.R_alloc | apply Kd.R_drewN | apply Kd.R_drew)); exact HO_277000.out) hb); have n3_ := Aside0.mk (Kd.R_below (by (with_reducible repeat (first | apply Kd.R_alloc | apply Kd.R_drewN | apply Kd.R_drew)); exact HO_277001.out) hb); have n4_ := Aside0.mk (Kd.R_below (by (with_reducible repeat (first | apply Kd.R_alloc | apply Kd.R_drewN | apply Kd.R_drew)); exact HO_291000.out) hb); have n5_ := Aside0.mk (Kd.R_below (by (with_reducible repeat (first | apply Kd.R_alloc | apply Kd.R_drewN | apply Kd.R_drew)); exact HO_291001.out) hb); have n6_ := Aside0.mk (blk_below (g := gb267) (o := .cells #[.slice Ao8 t259.length co8, .slice Ao10 t262.length co10, .bool t265] 43 (0, 0)) (by (with_reducible repeat (first | refine blk_drewN ?_ _ | refine blk_drew ?_ | refine blk_alloc ?_ _)); exact BK267.out) hb); have n7_ := Aside0.mk (blk_below (g := gb276) (o := .cells #[.slice Ao13 t279.length co13, .slice Ao16 t280.length co16, .bool t274] 43 (0, 0)) (by (with_reducible repeat (first | refine blk_drewN ?_ _ | refine blk_drew ?_ | refine blk_alloc ?_ _)); exact BK276.out) hb); have n8_ := Aside0.mk (blk_below (g := gb290) (o := .cells #[.slice Ao46 t282.length co46, .slice Ao50 t285.length co50, .bool t288] 43 (0, 0)) (by (with_reducible repeat (first | refine blk_drewN ?_ _ | refine blk_drew ?_ | refine blk_alloc ?_ _)); exact BK290.out) hb); have n9_ := Aside0.mk (below_step (by repeat (first | (with_reducible first | exact HB.out | apply below_alloc | apply pw_below_drewN | apply below_drew1 | refine below_set ?_ GE267.out | refine below_set ?_ GE276.out | refine below_set ?_ GE290.out) | exact HB.out)) hb); clear HO_268000; clear HO_268001; clear HO_277000; clear HO_277001; clear HO_291000; clear HO_291001; clear BK267; clear BK276; clear BK290; clear HB; have HO_268000 := n0_; have HO_268001 := n1_; have HO_277000 := n2_; have HO_277001 := n3_; have HO_291000 := n4_; have HO_291001 := n5_; have BK267 := n6_; have BK276 := n7_; have BK290 := n8_; have HB := n9_; clear n0_ n1_ n2_ n3_ n4_ n5_ n6_ n7_ n8_ n9_; (try clear hb); (try clear hb2); (try clear hk); (try clear hi)))
                      go_ret
                      exact ⟨by first | rfl | (simp [errW_none, errW_some] <;> rfl) | (simp [*, errW_none, errW_some] <;> rfl), by repeat (first | (with_reducible first | exact HB.out | apply below_alloc | apply pw_below_drewN | apply below_drew1 | refine below_set ?_ GE267.out | refine below_set ?_ GE276.out | refine below_set ?_ GE290.out) | exact HB.out)⟩
                    · rw [if_neg c67] at H
                      have c67b0 : decide (t292 < 0) = false := decide_eq_false c67
                      clear c67
                      by_cases c72 : t292 = t278
                      · rw [if_pos c72] at H
                        have c72b0 : (t292 == t278) = true := beq_iff_eq.mpr c72
                        have c72b1 : (t292 != t278) = false := bne_eq_false_iff_eq.mpr c72
                        clear c72
                        obtain rfl := Option.some.inj H
                        have hnb73 := NB276_267.out
                        have hnc73 := NB267_276.out
                        have hnb74 := NB276_290.out
                        have hnc74 := NB290_276.out
                        have hcz75_0 : wc.cell? ⟨gb276, 0, none⟩ = some (.slice Ao13 t279.length co13) := (blk_cell BK276.out 0).trans rfl
                        have hcz75_1 : wc.cell? ⟨gb276, 1, none⟩ = some (.slice Ao16 t280.length co16) := (blk_cell BK276.out 1).trans rfl
                        have hcz75_2 : wc.cell? ⟨gb276, 2, none⟩ = some (.bool t274) := (blk_cell BK276.out 2).trans rfl
                        have hfz75_0 := blk_frozen BK276.out 0
                        have hfz75_1 := blk_frozen BK276.out 1
                        have hfz75_2 := blk_frozen BK276.out 2
                        go_wp2_with (first | ((with_reducible refine gate_callee (f := 25) rfl ?_); refine goesL_ (some 60) rfl rfl Tryd.func25 (by kernel_rfl) rfl #[.agg #[.slice Ao13 t279.length co13, .slice Ao16 t280.length co16, .bool t274], .int .i64 1] rfl (by (try simp only [List.map_toArray, List.map_cons, List.map_nil]); first | done | rfl | (simp only [List.length_drop, List.length_take]; rfl)) ?_; (with_reducible refine (laws_heldSheet.calls kj37 _ _ t279 _ _ t280 t274 1 t292 _ ?side1 ?side2 ?side3 ?side4 A66.out).mono ?_); (case side1 => repeat (first | exact (Kd.R_reads' HO_277000.out).2.2 | (with_reducible refine Kd.C_alloc ?_ _) | (with_reducible refine Kd.C_drewN ?_ _) | (with_reducible refine Kd.C_drew ?_))); (case side2 => exact (Kd.R_reads' HO_277000.out).2.1); (case side3 => repeat (first | exact (Kd.R_reads' HO_277001.out).2.2 | (with_reducible refine Kd.C_alloc ?_ _) | (with_reducible refine Kd.C_drewN ?_ _) | (with_reducible refine Kd.C_drew ?_))); (case side4 => exact (Kd.R_reads' HO_277001.out).2.1); rintro e w76 ⟨rfl, hb⟩; refine ⟨_, rfl, ?_⟩; have n0_ := Aside0.mk (Kd.R_below (by (with_reducible repeat (first | apply Kd.R_alloc | apply Kd.R_drewN | apply Kd.R_drew)); exact HO_268000.out) hb); have n1_ := Aside0.mk (Kd.R_below (by (with_reducible repeat (first | apply Kd.R_alloc | apply Kd.R_drewN | apply Kd.R_drew)); exact HO_268001.out) hb); have n2_ := Aside0.mk (Kd.R_below (by (with_reducible repeat (first | apply Kd.R_alloc | apply Kd.R_drewN | apply Kd.R_drew)); exact HO_277000.out) hb); have n3_ := Aside0.mk (Kd.R_below (by (with_reducible repeat (first | apply Kd.R_alloc | apply Kd.R_drewN | apply Kd.R_drew)); exact HO_277001.out) hb); have n4_ := Aside0.mk (Kd.R_below (by (with_reducible repeat (first | apply Kd.R_alloc | apply Kd.R_drewN | apply Kd.R_drew)); exact HO_291000.out) hb); have n5_ := Aside0.mk (Kd.R_below (by (with_reducible repeat (first | apply Kd.R_alloc | apply Kd.R_drewN | apply Kd.R_drew)); exact HO_291001.out) hb); have n6_ := Aside0.mk (blk_below (g := gb267) (o := .cells #[.slice Ao8 t259.length co8, .slice Ao10 t262.length co10, .bool t265] 43 (0, 0)) (by (with_reducible repeat (first | refine blk_drewN ?_ _ | refine blk_drew ?_ | refine blk_alloc ?_ _)); exact BK267.out) hb); have n7_ := Aside0.mk (blk_below (g := gb276) (o := .cells #[.slice Ao13 t279.length co13, .slice Ao16 t280.length co16, .bool t274] 43 (0, 0)) (by (with_reducible repeat (first | refine blk_drewN ?_ _ | refine blk_drew ?_ | refine blk_alloc ?_ _)); exact BK276.out) hb); have n8_ := Aside0.mk (blk_below (g := gb290) (o := .cells #[.slice Ao46 t282.length co46, .slice Ao50 t285.length co50, .bool t288] 43 (0, 0)) (by (with_reducible repeat (first | refine blk_drewN ?_ _ | refine blk_drew ?_ | refine blk_alloc ?_ _)); exact BK290.out) hb); have n9_ := Aside0.mk (below_step (by repeat (first | (with_reducible first | exact HB.out | apply below_alloc | apply pw_below_drewN | apply below_drew1 | refine below_set ?_ GE267.out | refine below_set ?_ GE276.out | refine below_set ?_ GE290.out) | exact HB.out)) hb); clear HO_268000; clear HO_268001; clear HO_277000; clear HO_277001; clear HO_291000; clear HO_291001; clear BK267; clear BK276; clear BK290; clear HB; have HO_268000 := n0_; have HO_268001 := n1_; have HO_277000 := n2_; have HO_277001 := n3_; have HO_291000 := n4_; have HO_291001 := n5_; have BK267 := n6_; have BK276 := n7_; have BK290 := n8_; have HB := n9_; clear n0_ n1_ n2_ n3_ n4_ n5_ n6_ n7_ n8_ n9_; (try clear hb); (try clear hb2); (try clear hk); (try clear hi)))
                        go_ret
                        exact ⟨by first | rfl | (simp [errW_none, errW_some] <;> rfl) | (simp [*, errW_none, errW_some] <;> rfl), by repeat (first | (with_reducible first | exact HB.out | apply below_alloc | apply pw_below_drewN | apply below_drew1 | refine below_set ?_ GE267.out | refine below_set ?_ GE276.out | refine below_set ?_ GE290.out) | exact HB.out)⟩
                      · rw [if_neg c72] at H
                        have c72b0 : (t292 == t278) = false := beq_eq_false_iff_ne.mpr c72
                        have c72b1 : (t292 != t278) = true := bne_iff_ne.mpr c72
                        obtain rfl := Option.some.inj H
                        have hnb77 := NB276_267.out
                        have hnc77 := NB267_276.out
                        have hnb78 := NB276_290.out
                        have hnc78 := NB290_276.out
                        have hcz79_0 : wc.cell? ⟨gb276, 0, none⟩ = some (.slice Ao13 t279.length co13) := (blk_cell BK276.out 0).trans rfl
                        have hcz79_1 : wc.cell? ⟨gb276, 1, none⟩ = some (.slice Ao16 t280.length co16) := (blk_cell BK276.out 1).trans rfl
                        have hcz79_2 : wc.cell? ⟨gb276, 2, none⟩ = some (.bool t274) := (blk_cell BK276.out 2).trans rfl
                        have hfz79_0 := blk_frozen BK276.out 0
                        have hfz79_1 := blk_frozen BK276.out 1
                        have hfz79_2 := blk_frozen BK276.out 2
                        go_wp2_with (first | ((with_reducible refine gate_callee (f := 25) rfl ?_); refine goesL_ (some 60) rfl rfl Tryd.func25 (by kernel_rfl) rfl #[.agg #[.slice Ao13 t279.length co13, .slice Ao16 t280.length co16, .bool t274], .int .i64 1] rfl (by (try simp only [List.map_toArray, List.map_cons, List.map_nil]); first | done | rfl | (simp only [List.length_drop, List.length_take]; rfl)) ?_; (with_reducible refine (laws_heldSheet.calls kj37 _ _ t279 _ _ t280 t274 1 t292 _ ?side1 ?side2 ?side3 ?side4 A66.out).mono ?_); (case side1 => repeat (first | exact (Kd.R_reads' HO_277000.out).2.2 | (with_reducible refine Kd.C_alloc ?_ _) | (with_reducible refine Kd.C_drewN ?_ _) | (with_reducible refine Kd.C_drew ?_))); (case side2 => exact (Kd.R_reads' HO_277000.out).2.1); (case side3 => repeat (first | exact (Kd.R_reads' HO_277001.out).2.2 | (with_reducible refine Kd.C_alloc ?_ _) | (with_reducible refine Kd.C_drewN ?_ _) | (with_reducible refine Kd.C_drew ?_))); (case side4 => exact (Kd.R_reads' HO_277001.out).2.1); rintro e w80 ⟨rfl, hb⟩; refine ⟨_, rfl, ?_⟩; have n0_ := Aside0.mk (Kd.R_below (by (with_reducible repeat (first | apply Kd.R_alloc | apply Kd.R_drewN | apply Kd.R_drew)); exact HO_268000.out) hb); have n1_ := Aside0.mk (Kd.R_below (by (with_reducible repeat (first | apply Kd.R_alloc | apply Kd.R_drewN | apply Kd.R_drew)); exact HO_268001.out) hb); have n2_ := Aside0.mk (Kd.R_below (by (with_reducible repeat (first | apply Kd.R_alloc | apply Kd.R_drewN | apply Kd.R_drew)); exact HO_277000.out) hb); have n3_ := Aside0.mk (Kd.R_below (by (with_reducible repeat (first | apply Kd.R_alloc | apply Kd.R_drewN | apply Kd.R_drew)); exact HO_277001.out) hb); have n4_ := Aside0.mk (Kd.R_below (by (with_reducible repeat (first | apply Kd.R_alloc | apply Kd.R_drewN | apply Kd.R_drew)); exact HO_291000.out) hb); have n5_ := Aside0.mk (Kd.R_below (by (with_reducible repeat (first | apply Kd.R_alloc | apply Kd.R_drewN | apply Kd.R_drew)); exact HO_291001.out) hb); have n6_ := Aside0.mk (blk_below (g := gb267) (o := .cells #[.slice Ao8 t259.length co8, .slice Ao10 t262.length co10, .bool t265] 43 (0, 0)) (by (with_reducible repeat (first | refine blk_drewN ?_ _ | refine blk_drew ?_ | refine blk_alloc ?_ _)); exact BK267.out) hb); have n7_ := Aside0.mk (blk_below (g := gb276) (o := .cells #[.slice Ao13 t279.length co13, .slice Ao16 t280.length co16, .bool t274] 43 (0, 0)) (by (with_reducible repeat (first | refine blk_drewN ?_ _ | refine blk_drew ?_ | refine blk_alloc ?_ _)); exact BK276.out) hb); have n8_ := Aside0.mk (blk_below (g := gb290) (o := .cells #[.slice Ao46 t282.length co46, .slice Ao50 t285.length co50, .bool t288] 43 (0, 0)) (by (with_reducible repeat (first | refine blk_drewN ?_ _ | refine blk_drew ?_ | refine blk_alloc ?_ _)); exact BK290.out) hb); have n9_ := Aside0.mk (below_step (by repeat (first | (with_reducible first | exact HB.out | apply below_alloc | apply pw_below_drewN | apply below_drew1 | refine below_set ?_ GE267.out | refine below_set ?_ GE276.out | refine below_set ?_ GE290.out) | exact HB.out)) hb); clear HO_268000; clear HO_268001; clear HO_277000; clear HO_277001; clear HO_291000; clear HO_291001; clear BK267; clear BK276; clear BK290; clear HB; have HO_268000 := n0_; have HO_268001 := n1_; have HO_277000 := n2_; have HO_277001 := n3_; have HO_291000 := n4_; have HO_291001 := n5_; have BK267 := n6_; have BK276 := n7_; have BK290 := n8_; have HB := n9_; clear n0_ n1_ n2_ n3_ n4_ n5_ n6_ n7_ n8_ n9_; (try clear hb); (try clear hb2); (try clear hk); (try clear hi)))
                        go_ret
                        exact ⟨by first | rfl | (simp [errW_none, errW_some] <;> rfl) | (simp [*, errW_none, errW_some] <;> rfl), by repeat (first | (with_reducible first | exact HB.out | apply below_alloc | apply pw_below_drewN | apply below_drew1 | refine below_set ?_ GE267.out | refine below_set ?_ GE276.out | refine below_set ?_ GE290.out) | exact HB.out)⟩
            · rw [if_neg c36] at H
              have c36b0 : (t281 == t278) = false := beq_eq_false_iff_ne.mpr c36
              have c36b1 : (t281 != t278) = true := bne_iff_ne.mpr c36
              obtain rfl := Option.some.inj H
              have hnb81 := NB276_267.out
              have hnc81 := NB267_276.out
              have hcz82_0 : wc.cell? ⟨gb276, 0, none⟩ = some (.slice Ao13 t268.length co13) := (blk_cell BK276.out 0).trans rfl
              have hcz82_1 : wc.cell? ⟨gb276, 1, none⟩ = some (.slice Ao16 t271.length co16) := (blk_cell BK276.out 1).trans rfl
              have hcz82_2 : wc.cell? ⟨gb276, 2, none⟩ = some (.bool t274) := (blk_cell BK276.out 2).trans rfl
              have hfz82_0 := blk_frozen BK276.out 0
              have hfz82_1 := blk_frozen BK276.out 1
              have hfz82_2 := blk_frozen BK276.out 2
              go_wp2_with (first | ((with_reducible refine gate_callee (f := 24) rfl ?_); refine goesL_ (some 35) rfl rfl Tryd.func24 (by kernel_rfl) rfl #[.agg #[.slice Ao13 t268.length co13, .slice Ao16 t271.length co16, .bool t274], .int .i64 1] rfl (by (try simp only [List.map_toArray, List.map_cons, List.map_nil]); first | done | rfl | (simp only [List.length_drop, List.length_take]; rfl)) ?_; (with_reducible refine (laws_markSheet.calls kj4 (fun k_ => some k_ = (.slice Ao13 t268.length co13 : Value).ownBlock) (.slice Ao13 t268.length co13) t268 (fun k_ => some k_ = (.slice Ao16 t271.length co16 : Value).ownBlock) (.slice Ao16 t271.length co16) t271 t274 1 t278 t279 t280 w _ ?side1 ?side2 ?side3 A28.out).mono ?_); (case side1 => repeat (first | (with_reducible first | exact HB.out | apply below_alloc | apply pw_below_drewN | apply below_drew1 | refine below_set ?_ GE267.out | refine below_set ?_ GE276.out) | exact HB.out)); (case side2 => exact Kd.R_tight rfl HO_277000.out); (case side3 => exact Kd.R_tight rfl HO_277001.out); rintro e w83 ⟨rfl, hy0, hy1, hb, hkp⟩; refine ⟨_, rfl, ?_⟩; have n0_ := Aside0.mk (Kd.R_mono (ok' := fun k_ => some k_ ≠ (.slice Ao13 t268.length co13 : Value).ownBlock) (Kd.R_keptB ((Kd.R_apart' HO_268000.out (Kd.R_typed HO_277001.out) (by decide))) hkp (fun k_ hk_ hs_ => Or.elim hs_ (fun e_ => (hk_.1) e_) (fun e_ => (hk_.2) e_))) (fun k_ hk_ => hk_.1.1)); have n1_ := Aside0.mk (Kd.R_mono (ok' := fun k_ => some k_ ≠ (.slice Ao16 t271.length co16 : Value).ownBlock) (Kd.R_keptB ((Kd.R_apart' HO_268001.out (Kd.R_typed HO_277000.out) (by decide))) hkp (fun k_ hk_ hs_ => Or.elim hs_ (fun e_ => (hk_.2) e_) (fun e_ => (hk_.1) e_))) (fun k_ hk_ => hk_.1.1)); have n2_ := Aside0.mk (Kd.R_reok rfl hy0 (fun k_ e_ => HO_277000.out.1 k_ e_)); have n3_ := Aside0.mk (Kd.R_reok rfl hy1 (fun k_ e_ => HO_277001.out.1 k_ e_)); have n4_ := Aside0.mk (blk_kept (by (with_reducible repeat (first | refine blk_drewN ?_ _ | refine blk_drew ?_ | refine blk_alloc ?_ _)); exact BK267.out) hkp (fun hs_ => Or.elim hs_ (fun e_ => (fun e_ => (Kd.R_ne HO_277000.out BK267.out (by decide)) e_) e_) (fun e_ => (fun e_ => (Kd.R_ne HO_277001.out BK267.out (by decide)) e_) e_))); have n5_ := Aside0.mk (blk_kept (by (with_reducible repeat (first | refine blk_drewN ?_ _ | refine blk_drew ?_ | refine blk_alloc ?_ _)); exact BK276.out) hkp (fun hs_ => Or.elim hs_ (fun e_ => (fun e_ => (Kd.R_ne HO_277000.out BK276.out (by decide)) e_) e_) (fun e_ => (fun e_ => (Kd.R_ne HO_277001.out BK276.out (by decide)) e_) e_))); have n6_ := Aside0.mk (hb); clear HO_268000; clear HO_268001; clear HO_277000; clear HO_277001; clear BK267; clear BK276; clear HB; have HO_268000 := n0_; have HO_268001 := n1_; have HO_277000 := n2_; have HO_277001 := n3_; have BK267 := n4_; have BK276 := n5_; have HB := n6_; clear n0_ n1_ n2_ n3_ n4_ n5_ n6_; (try clear hb); (try clear hkp); (try clear hy0); (try clear hy1); have hcz84_0 : w83.cell? ⟨gb276, 0, none⟩ = some (.slice Ao13 t268.length co13) := (blk_cell BK276.out 0).trans rfl; have hcz84_1 : w83.cell? ⟨gb276, 1, none⟩ = some (.slice Ao16 t271.length co16) := (blk_cell BK276.out 1).trans rfl; have hcz84_2 : w83.cell? ⟨gb276, 2, none⟩ = some (.bool t274) := (blk_cell BK276.out 2).trans rfl; have hfz84_0 := blk_frozen BK276.out 0; have hfz84_1 := blk_frozen BK276.out 1; have hfz84_2 := blk_frozen BK276.out 2) | ((with_reducible refine gate_callee (f := 25) rfl ?_); refine goesL_ (some 38) rfl rfl Tryd.func25 (by kernel_rfl) rfl #[.agg #[.slice Ao13 t279.length co13, .slice Ao16 t280.length co16, .bool t274], .int .i64 1] rfl (by (try simp only [List.map_toArray, List.map_cons, List.map_nil]); first | done | (rw [show t279.length = t268.length from (Kd.R_reads' HO_277000.out).1.symm, show t280.length = t271.length from (Kd.R_reads' HO_277001.out).1.symm] <;> rfl) | rfl | (simp only [List.length_drop, List.length_take]; rfl)) ?_; (with_reducible refine (laws_heldSheet.calls kj4 _ _ t279 _ _ t280 t274 1 t281 _ ?side1 ?side2 ?side3 ?side4 A29.out).mono ?_); (case side1 => repeat (first | exact (Kd.R_reads' HO_277000.out).2.2 | (with_reducible refine Kd.C_alloc ?_ _) | (with_reducible refine Kd.C_drewN ?_ _) | (with_reducible refine Kd.C_drew ?_))); (case side2 => rw [show t279.length = t268.length from (Kd.R_reads' HO_277000.out).1.symm]; exact (Kd.R_reads' HO_277000.out).2.1); (case side3 => repeat (first | exact (Kd.R_reads' HO_277001.out).2.2 | (with_reducible refine Kd.C_alloc ?_ _) | (with_reducible refine Kd.C_drewN ?_ _) | (with_reducible refine Kd.C_drew ?_))); (case side4 => rw [show t280.length = t271.length from (Kd.R_reads' HO_277001.out).1.symm]; exact (Kd.R_reads' HO_277001.out).2.1); rintro e w85 ⟨rfl, hb⟩; refine ⟨_, rfl, ?_⟩; have n0_ := Aside0.mk (Kd.R_below (by (with_reducible repeat (first | apply Kd.R_alloc | apply Kd.R_drewN | apply Kd.R_drew)); exact HO_268000.out) hb); have n1_ := Aside0.mk (Kd.R_below (by (with_reducible repeat (first | apply Kd.R_alloc | apply Kd.R_drewN | apply Kd.R_drew)); exact HO_268001.out) hb); have n2_ := Aside0.mk (Kd.R_below (by (with_reducible repeat (first | apply Kd.R_alloc | apply Kd.R_drewN | apply Kd.R_drew)); exact HO_277000.out) hb); have n3_ := Aside0.mk (Kd.R_below (by (with_reducible repeat (first | apply Kd.R_alloc | apply Kd.R_drewN | apply Kd.R_drew)); exact HO_277001.out) hb); have n4_ := Aside0.mk (blk_below (g := gb267) (o := .cells #[.slice Ao8 t259.length co8, .slice Ao10 t262.length co10, .bool t265] 43 (0, 0)) (by (with_reducible repeat (first | refine blk_drewN ?_ _ | refine blk_drew ?_ | refine blk_alloc ?_ _)); exact BK267.out) hb); have n5_ := Aside0.mk (blk_below (g := gb276) (o := .cells #[.slice Ao13 t268.length co13, .slice Ao16 t271.length co16, .bool t274] 43 (0, 0)) (by (with_reducible repeat (first | refine blk_drewN ?_ _ | refine blk_drew ?_ | refine blk_alloc ?_ _)); exact BK276.out) hb); have n6_ := Aside0.mk (below_step (by repeat (first | (with_reducible first | exact HB.out | apply below_alloc | apply pw_below_drewN | apply below_drew1 | refine below_set ?_ GE267.out | refine below_set ?_ GE276.out) | exact HB.out)) hb); clear HO_268000; clear HO_268001; clear HO_277000; clear HO_277001; clear BK267; clear BK276; clear HB; have HO_268000 := n0_; have HO_268001 := n1_; have HO_277000 := n2_; have HO_277001 := n3_; have BK267 := n4_; have BK276 := n5_; have HB := n6_; clear n0_ n1_ n2_ n3_ n4_ n5_ n6_; (try clear hb); (try clear hb2); (try clear hk); (try clear hi)))
              go_ret
              exact ⟨by first | rfl | (simp [errW_none, errW_some] <;> rfl) | (simp [*, errW_none, errW_some] <;> rfl), by repeat (first | (with_reducible first | exact HB.out | apply below_alloc | apply pw_below_drewN | apply below_drew1 | refine below_set ?_ GE267.out | refine below_set ?_ GE276.out) | exact HB.out)⟩

/-- THE ONE PURE STATEMENT of laws_FnExactReadSheet: yours. -/
def laws_FnExactReadSheet.Pure : Prop := ∀ (a0 : ByteArray), a0.size ≤ 140737488351232 → ∃ k, laws_FnExactReadSheet.f k a0 = some true
theorem laws_FnExactReadSheet.walk (P : laws_FnExactReadSheet.Pure) (a0 : ByteArray) (w : World) (gl : GL w) (w0 : a0.size ≤ 140737488351232) :
    Calls Tryd.prog 6 #[.string a0] w fun e w' => e = .returned (.bool true) ∧ Below w.heap.size w w' := by
  obtain ⟨k, h⟩ := P a0 w0
  refine (laws_FnExactReadSheet.calls k a0 true w h gl).mono ?_
  rintro e w' ⟨rfl, hd⟩
  exact ⟨rfl, hd⟩

end Go.Proofs.YtifegijnfnjboaaDoor.F2
