/- Words, walks and plain laws that a claim of this seat needs, one text after the other (part 8). -/
import Derived.Test.YtelkklnfbfmecaaBC7
set_option linter.unusedVariables false
set_option linter.unusedSimpArgs false
section
namespace Go.Proofs.Ytelkklnfbfmecaa.MW
open B0 CD CF CU CV CP CB BE BR BK CS
open Go.RowKit YtelkklnfbfmecaaW.PrintWords YtelkklnfbfmecaaW.PrintLast YtelkklnfbfmecaaW.PrintMore
attribute [local go_sem] max2_int min2_int max_two min_two max_three min_three max_four min_four
attribute [local go_sem high] binOp_fge binOp_fle
mutual
def laws_FnCarried.j0 : Nat → List Int → Nat → Nat → Bool → Int → Int → List Nat → Int → Int → List Nat → Option (Bool)
  | 0, _, _, _, _, _, _, _, _, _, _ => none
  | k + 1, x1, x7, x8, x76, x108000, x108001, x108002, x124000, x124001, x124002 => if x76 = true then (some false) else (laws_FnCarried.l0 k x1 x7 x8 0 x108000 x108001 x108002 x124000 x124001 x124002)
def laws_FnCarried.l0 : Nat → List Int → Nat → Nat → Int → Int → Int → List Nat → Int → Int → List Nat → Option (Bool)
  | 0, _, _, _, _, _, _, _, _, _, _ => none
  | k + 1, x1, x7, x8, a6, a0, a1, a2, a4, a5, a3 => if a6 < (a2.length : Int) then (if 0 ≤ a6 then (if a6 < (a3.length : Int) then (if cok .f32 (rdOf (0 : Nat) a3 a6) .f64 = true then (if cok .f32 x7 .f64 = true then (if fok .sub .f64 (cvt .f32 x7 .f64) 4562254508917369340 = true then (if (FloatKind.f64.format.order (cvt .f32 (rdOf (0 : Nat) a3 a6) .f64) (fop .sub .f64 (cvt .f32 x7 .f64) 4562254508917369340) == some .lt) = true then (some false) else (if cok .f32 x8 .f64 = true then (if fok .add .f64 (cvt .f32 x8 .f64) 4562254508917369340 = true then (if (FloatKind.f64.format.order (cvt .f32 (rdOf (0 : Nat) a3 a6) .f64) (fop .add .f64 (cvt .f32 x8 .f64) 4562254508917369340) == some .gt) = true then (some false) else (laws_FnCarried.l0 k x1 x7 x8 (wrap64 (a6 + 1)) a0 a1 a2 a4 a5 a3)) else (none)) else (none))) else (none)) else (none)) else (none)) else (none)) else (none)) else ((B0.laws_r8At.f x1 40 7).bind fun a7 => ((B0.laws_r8At.f x1 41 7).bind fun a8 => ((CF.impl_FlatBasin.f k a0 a1 (floatOfInt .f32 (wrap64 (a7 - 3)))).bind fun bt128 => ((CF.impl_FlatBasin.f k a0 a1 (floatOfInt .f32 (wrap64 (a8 - 3)))).bind fun bt135 => ((CD.impl_CarryBasin.f k a0 a1 a2 bt128.1 bt128.2.1 bt128.2.2.1 bt135.1 bt135.2.1 bt135.2.2.1 1065353216).bind fun bt142 => ((BR.impl_RollBasin.f k a0 a1 a2 (wrap64 (a7 - 3)) (wrap64 (a8 - 3))).bind fun bt149 => (if bt128.2.2.2 = true then (if bt135.2.2.2 = true then (if bt142.2.2.2 = true then (laws_FnCarried.j2 k (!bt149.2.2.2) a0 a1 a2 bt142.1 bt142.2.1 bt142.2.2.1 bt149.1 bt149.2.1 bt149.2.2.1) else (laws_FnCarried.j2 k true a0 a1 a2 bt142.1 bt142.2.1 bt142.2.2.1 bt149.1 bt149.2.1 bt149.2.2.1)) else (laws_FnCarried.j2 k true a0 a1 a2 bt142.1 bt142.2.1 bt142.2.2.1 bt149.1 bt149.2.1 bt149.2.2.1)) else (laws_FnCarried.j2 k true a0 a1 a2 bt142.1 bt142.2.1 bt142.2.2.1 bt149.1 bt149.2.1 bt149.2.2.1))))))))
def laws_FnCarried.j2 : Nat → Bool → Int → Int → List Nat → Int → Int → List Nat → Int → Int → List Nat → Option (Bool)
  | 0, _, _, _, _, _, _, _, _, _, _ => none
  | k + 1, x159, x108000, x108001, x108002, x149000, x149001, x149002, x156000, x156001, x156002 => if x159 = true then (some false) else (laws_FnCarried.l1 k 0 x108000 x108001 x108002 x149000 x149001 x149002 x156000 x156001 x156002)
def laws_FnCarried.l1 : Nat → Int → Int → Int → List Nat → Int → Int → List Nat → Int → Int → List Nat → Option (Bool)
  | 0, _, _, _, _, _, _, _, _, _, _ => none
  | k + 1, a9, a1, a2, a0, a5, a6, a3, a7, a8, a4 => if a9 < (a0.length : Int) then (if 0 ≤ a9 then (if a9 < (a3.length : Int) then (if a9 < (a4.length : Int) then (if (FloatKind.f32.format.order (rdOf (0 : Nat) a3 a9) (rdOf (0 : Nat) a4 a9) != some .eq) = true then (some false) else (laws_FnCarried.l1 k (wrap64 (a9 + 1)) a1 a2 a0 a5 a6 a3 a7 a8 a4)) else (none)) else (none)) else (none)) else ((CS.impl_SpreadBasin.f k a1 a2 a0 1040187392 3).bind fun bt158 => ((B0.impl_TotalInBasin.f k a1 a2 a0).bind fun bt165 => ((B0.impl_TotalInBasin.f k bt158.1 bt158.2.1 bt158.2.2.1).bind fun bt167 => ((B0.impl_SquaresInBasin.f k a1 a2 a0).bind fun bt169 => ((B0.impl_SquaresInBasin.f k bt158.1 bt158.2.1 bt158.2.2.1).bind fun bt171 => ((CS.impl_RunBasin.f k a1 a2 a0 1048576000 1031798784 4 2).bind fun bt173 => ((CS.impl_StepBasin.f k a1 a2 a0 1048576000 1031798784 4).bind fun bt183 => ((CS.impl_StepBasin.f k bt183.1 bt183.2.1 bt183.2.2.1 1048576000 1031798784 4).bind fun bt190 => (if bt158.2.2.2 = true then (if bt165.2 = true then (if bt167.2 = true then (if bt169.2 = true then (if bt171.2 = true then (if bt173.2.2.2.2 = true then (if bt183.2.2.2 = true then (if bt190.2.2.2 = true then (if cok .f32 bt165.1 .f64 = true then (if cok .f32 bt167.1 .f64 = true then ((B0.laws_r8Gap.f (cvt .f32 bt165.1 .f64) (cvt .f32 bt167.1 .f64)).bind fun aa => (if (FloatKind.f64.format.order aa 4576918229304087675 == some .lt) = true then (if cok .f32 bt171.1 .f64 = true then (if cok .f32 bt169.1 .f64 = true then (if fok .add .f64 (cvt .f32 bt169.1 .f64) 4576918229304087675 = true then (if (FloatKind.f64.format.order (cvt .f32 bt171.1 .f64) (fop .add .f64 (cvt .f32 bt169.1 .f64) 4576918229304087675) == some .lt) = true then ((B0.impl_SameBasin.f k bt190.1 bt190.2.1 bt190.2.2.1 bt173.1 bt173.2.1 bt173.2.2.1).bind fun ab => (if ab = true then (some ((bt173.2.2.2.1.length : Int) == 2)) else (some false))) else (some false)) else (none)) else (none)) else (none)) else (some false))) else (none)) else (none)) else (some false)) else (some false)) else (some false)) else (some false)) else (some false)) else (some false)) else (some false)) else (some false))))))))))
end
def laws_FnCarried.f (k : Nat) (l0 : List Int) (l1 : List Int) : Option (Bool) := (laws_r8Long.f l0 l1).bind fun t101 => (if t101 = true then (some true) else ((B0.spec_R8Basin.f k l0).bind fun bt102 => ((BK.spec_R8Like.f k l1 bt102.1 bt102.2.1 bt102.2.2).bind fun bt108 => ((B0.impl_RangeInBasin.f k bt102.1 bt102.2.1 bt102.2.2).bind fun bt114 => ((CD.impl_CarryBasin.f k bt102.1 bt102.2.1 bt102.2.2 bt108.1 bt108.2.1 bt108.2.2 bt108.1 bt108.2.1 bt108.2.2 1056964608).bind fun bt117 => (if bt114.2.2 = true then (if bt117.2.2.2 = true then (laws_FnCarried.j0 k l1 bt114.1 bt114.2.1 ((bt117.2.2.1.length : Int) != (bt102.2.2.length : Int)) bt102.1 bt102.2.1 bt102.2.2 bt117.1 bt117.2.1 bt117.2.2.1) else (laws_FnCarried.j0 k l1 bt114.1 bt114.2.1 true bt102.1 bt102.2.1 bt102.2.2 bt117.1 bt117.2.1 bt117.2.2.1)) else (laws_FnCarried.j0 k l1 bt114.1 bt114.2.1 true bt102.1 bt102.2.1 bt102.2.2 bt117.1 bt117.2.1 bt117.2.2.1)))))))
theorem FnCarried_j0_no {a0 : Nat} {a1 : List Int} {a2 : Nat} {a3 : Nat} {a5 : Int} {a6 : Int} {a7 : List Nat} {a8 : Int} {a9 : Int} {a10 : List Nat} : laws_FnCarried.j0 a0 a1 a2 a3 true a5 a6 a7 a8 a9 a10 ≠ some true := by
  cases a0 <;> simp [laws_FnCarried.j0]
theorem FnCarried_j2_no {a0 : Nat} {a2 : Int} {a3 : Int} {a4 : List Nat} {a5 : Int} {a6 : Int} {a7 : List Nat} {a8 : Int} {a9 : Int} {a10 : List Nat} : laws_FnCarried.j2 a0 true a2 a3 a4 a5 a6 a7 a8 a9 a10 ≠ some true := by
  cases a0 <;> simp [laws_FnCarried.j2]
theorem AS {p : Prop} (h : p) : Aside0 p := ⟨h⟩
set_option maxHeartbeats 8000000 in
set_option maxRecDepth 100000 in
theorem laws_FnCarried.calls (k : Nat) (A0 : Option Addr) (c0 : Nat) (l0 : List Int) (A1 : Option Addr) (c1 : Nat) (l1 : List Int) (w : World) (hr0 : Kd.C (Kd.int .u8) w A0 l0.length l0) (hc0 : l0.length ≤ c0) (hr1 : Kd.C (Kd.int .u8) w A1 l1.length l1) (hc1 : l1.length ≤ c1) (h : laws_FnCarried.f k l0 l1 = some true) :
  Calls Try.prog 4 #[.slice A0 l0.length c0, .slice A1 l1.length c1] w fun e w' => e = .returned (.bool true) ∧ Below w.heap.size w w' := by
 have hu26 := Try.underlying26; have jM := AS hr0; have jL := AS hc0; clear hr0 hc0; have gU := AS hr1; have gT := AS hc1; clear hr1 hc1; have HB := AS (Below.refl w.heap.size w); have H : ((laws_r8Long.f l0 l1).bind fun lJ => (if lJ = true then (some true) else ((B0.spec_R8Basin.f k l0).bind fun bt102 => ((BK.spec_R8Like.f k l1 bt102.1 bt102.2.1 bt102.2.2).bind fun bt108 => ((B0.impl_RangeInBasin.f k bt102.1 bt102.2.1 bt102.2.2).bind fun bt114 => ((CD.impl_CarryBasin.f k bt102.1 bt102.2.1 bt102.2.2 bt108.1 bt108.2.1 bt108.2.2 bt108.1 bt108.2.1 bt108.2.2 1056964608).bind fun bt117 => (if bt114.2.2 = true then (if bt117.2.2.2 = true then (laws_FnCarried.j0 k l1 bt114.1 bt114.2.1 ((bt117.2.2.1.length : Int) != (bt102.2.2.length : Int)) bt102.1 bt102.2.1 bt102.2.2 bt117.1 bt117.2.1 bt117.2.2.1) else (laws_FnCarried.j0 k l1 bt114.1 bt114.2.1 true bt102.1 bt102.2.1 bt102.2.2 bt117.1 bt117.2.1 bt117.2.2.1)) else (laws_FnCarried.j0 k l1 bt114.1 bt114.2.1 true bt102.1 bt102.2.1 bt102.2.2 bt117.1 bt117.2.1 bt117.2.2.1)))))))) = some true := h; clear h; replace H := OB H; obtain ⟨lJ, A3, H⟩ := H; (try dsimp only at H); by_cases c4 : lJ = true
 ·subst c4
  have H1 : (some true) = some true := rfl; clear H; have H := H1; clear H1; clear H; go_enter Try.func4, Try.ntmps4; go_wp2_with (first | (go_at_call 5; (with_reducible refine (laws_r8Long.calls _ _ l0 _ _ l1 true _ ?s1 ?s2 ?s3 ?s4 A3.out).mono ?_); (case s1 => exact CS jM.out); (case s2 => exact jL.out); (case s3 => exact CS gU.out); (case s4 => exact gT.out); rintro e w' ⟨rfl, ⟨nd, rfl⟩⟩; (try first | exact ⟨rfl, _, World.drewN_drewN _ _ _⟩ | exact ⟨rfl, _, Eq.trans (World.drewN_drewN _ _ _) (congrArg (World.drewN _) (Nat.add_assoc _ _ _))⟩))); (repeat (go_quiet (first | (go_at_call 5; (with_reducible refine (laws_r8Long.calls _ _ l0 _ _ l1 true _ ?s1 ?s2 ?s3 ?s4 A3.out).mono ?_); (case s1 => exact CS jM.out); (case s2 => exact jL.out); (case s3 => exact CS gU.out); (case s4 => exact gT.out); rintro e w' ⟨rfl, ⟨nd, rfl⟩⟩; (try first | exact ⟨rfl, _, World.drewN_drewN _ _ _⟩ | exact ⟨rfl, _, Eq.trans (World.drewN_drewN _ _ _) (congrArg (World.drewN _) (Nat.add_assoc _ _ _))⟩))); try go_wp2_with (first | (go_at_call 5; (with_reducible refine (laws_r8Long.calls _ _ l0 _ _ l1 true _ ?s1 ?s2 ?s3 ?s4 A3.out).mono ?_); (case s1 => exact CS jM.out); (case s2 => exact jL.out); (case s3 => exact CS gU.out); (case s4 => exact gT.out); rintro e w' ⟨rfl, ⟨nd, rfl⟩⟩; (try first | exact ⟨rfl, _, World.drewN_drewN _ _ _⟩ | exact ⟨rfl, _, Eq.trans (World.drewN_drewN _ _ _) (congrArg (World.drewN _) (Nat.add_assoc _ _ _))⟩))))); go_ret; exact ⟨by first | rfl | (simp [errW_none, errW_some] <;> rfl) | (simp [*, errW_none, errW_some] <;> rfl), BW HB⟩
 replace c4 := Bool.eq_false_iff.mpr c4
 subst c4; rw [if_neg (show ¬ (false = true) by decide)] at H; replace H := OB H; obtain ⟨⟨ap, aq, ak⟩, A5, H⟩ := H; (try dsimp only at H); replace H := OB H; obtain ⟨⟨bI, bJ, aX⟩, A6, H⟩ := H; (try dsimp only at H); replace H := OB H; obtain ⟨⟨bM, bN, k1⟩, A7, H⟩ := H; (try dsimp only at H); replace H := OB H; obtain ⟨⟨dn, dp, aC, jH⟩, A8, H⟩ := H; (try dsimp only at H); have n7 := AS H; clear H; go_enter Try.func4, Try.ntmps4; (go_upto_region 7 with (first | (go_at_call 5; (with_reducible refine (laws_r8Long.calls _ _ l0 _ _ l1 false _ ?s1 ?s2 ?s3 ?s4 A3.out).mono ?_); (case s1 => exact CS jM.out); (case s2 => exact jL.out); (case s3 => exact CS gU.out); (case s4 => exact gT.out); rintro e w' ⟨rfl, ⟨nd, rfl⟩⟩; (try first | exact ⟨rfl, _, World.drewN_drewN _ _ _⟩ | exact ⟨rfl, _, Eq.trans (World.drewN_drewN _ _ _) (congrArg (World.drewN _) (Nat.add_assoc _ _ _))⟩)) | (go_at_call 6; (with_reducible refine (B0.spec_R8Basin.calls k _ _ l0 ap aq ak _ ?s1 ?s2 A5.out).mono ?_); (case s1 => exact CS jM.out); (case s2 => exact jL.out); rintro e pD ⟨my, rfl, ho0, hb⟩; have aj := RN ho0 HB; replace HB := BB HB hb; (try clear hb); (try clear ho0)) | ((with_reducible refine gate_dst (N := 5) rfl ?_); (try (refine gate_guard (by rfl) ?_; dsimp only)); refine boxM 5 #[.int .i64 0, .int .i64 0, .slice none 0 0] 26 ?_; intro fo hg pE hbox hb; have a3 := AS (hbox); have k8 := BG HB hg; replace aj := RB aj hb; replace HB := BB HB hb; clear hb hbox hg; obtain ⟨dr, ds, dt, dJ, dK, dL⟩ := CZ3 a3; obtain ⟨bG, bH, i7⟩ := Kd.R_slice aj.out; subst i7) | (go_at_call 7; (with_reducible refine (BK.spec_R8Like.calls k _ _ l1 ap aq _ _ ak bI bJ aX _ ?s1 ?s2 ?s3 ?s4 A6.out).mono ?_); (case s1 => exact Kd.C_below gU.out (BW HB)); (case s2 => exact gT.out); (case s3 => exact (RC (RF3T aj a3 (.int .i64 ap) (.int .i64 aq) (.slice bG ak.length bH)))); (case s4 => exact (Kd.R_reads' aj.out).2.1); rintro e pF ⟨mz, rfl, ho0, hb⟩; replace aj := RFB aj a3 (.int .i64 ap) (.int .i64 aq) (.slice bG ak.length bH) hb; have aD := RN ho0 HB; replace a3 := KPB a3 (.int .i64 ap) (.int .i64 aq) (.slice bG ak.length bH) hb; replace HB := BB HB hb; (try clear hb); (try clear ho0)) | ((with_reducible refine gate_dst (N := 6) rfl ?_); (try (refine gate_guard (by rfl) ?_; dsimp only)); refine boxM 6 #[.int .i64 0, .int .i64 0, .slice none 0 0] 26 ?_; intro fp hg pG hbox hb; have a4 := AS (hbox); have k9 := BG HB hg; have aH := KN a3 hg; have aJ := KM a3 hg; replace aj := RB aj hb; replace aD := RB aD hb; replace a3 := KB a3 hb; replace HB := BB HB hb; clear hb hbox hg; have kF := aJ.out; have kR := aH.out; obtain ⟨du, dv, dw, dM, dN, dO⟩ := CZ3 a4; obtain ⟨bl, bm, i8⟩ := Kd.R_slice aD.out; subst i8; obtain ⟨dx, dy, dz, dP, dQ, dR⟩ := CZ3 a3) | (go_at_call 18; (with_reducible refine (B0.impl_RangeInBasin.calls k ap aq _ _ ak bM bN k1 _ ?s1 ?s2 A7.out).mono ?_); (case s1 => exact (RC (RF3T aj a4 (.int .i64 bI) (.int .i64 bJ) (.slice bl aX.length bm)))); (case s2 => exact (Kd.R_reads' aj.out).2.1); rintro e pH ⟨rfl, hb⟩; replace aj := RFB aj a4 (.int .i64 bI) (.int .i64 bJ) (.slice bl aX.length bm) hb; replace aD := RFB aD a4 (.int .i64 bI) (.int .i64 bJ) (.slice bl aX.length bm) hb; replace a4 := KPB a4 (.int .i64 bI) (.int .i64 bJ) (.slice bl aX.length bm) hb; replace a3 := KFB a3 hb; replace HB := BB HB hb; (try clear hb); obtain ⟨dA, dB, dC, dS, dT, dU⟩ := CZ3 a3; obtain ⟨dD, dE, dF, dV, dW, dX⟩ := CZ3 a4) | (go_at_call 23; (with_reducible refine (CD.impl_CarryBasin.calls k ap aq (fun k_ => some k_ = (.slice bG ak.length bH : Value).ownBlock) _ _ ak bI bJ (fun k_ => some k_ = (.slice bl aX.length bm : Value).ownBlock) _ _ aX bI bJ (fun k_ => some k_ = (.slice bl aX.length bm : Value).ownBlock) _ _ aX 1056964608 dn dp aC jH _ ?s1 ?s2 ?s3 A8.out).mono ?_); (case s1 => exact Kd.R_V (Kd.R_tight rfl (Kd.R_types (Kd.R_types (aj.out) a3.out (by decide)) a4.out (by decide)))); (case s2 => exact Kd.R_V (Kd.R_tight rfl (Kd.R_types (Kd.R_types (aD.out) a3.out (by decide)) a4.out (by decide)))); (case s3 => exact Kd.R_V (Kd.R_tight rfl (Kd.R_types (Kd.R_types (aD.out) a3.out (by decide)) a4.out (by decide)))); rintro e pI ⟨mA, rfl, ho0, hb⟩; have dl := RN ho0 HB; replace aj := RB aj hb; replace aD := RB aD hb; replace a3 := KB a3 hb; replace a4 := KB a4 hb; replace HB := BB HB hb; (try clear hb); (try clear ho0)) | ((with_reducible refine gate_dst (N := 10) rfl ?_); (try (refine gate_guard (by rfl) ?_; dsimp only)); refine boxM 10 #[.int .i64 0, .int .i64 0, .slice none 0 0] 26 ?_; intro fq hg pJ hbox hb; have a5 := AS (hbox); have ka := BG HB hg; have aI := KN a3 hg; have aK := KM a3 hg; have b6 := KN a4 hg; have b7 := KM a4 hg; replace aj := RB aj hb; replace aD := RB aD hb; replace dl := RB dl hb; replace a3 := KB a3 hb; replace a4 := KB a4 hb; replace HB := BB HB hb; clear hb hbox hg; have kG := aK.out; have kS := aI.out; have kH := b7.out; have kT := b6.out; obtain ⟨dG, dH, dI, dY, dZ, e0⟩ := CZ3 a5; obtain ⟨ek, el, i9⟩ := Kd.R_slice dl.out; subst i9))); (repeat (go_quiet (first | (go_at_call 5; (with_reducible refine (laws_r8Long.calls _ _ l0 _ _ l1 false _ ?s1 ?s2 ?s3 ?s4 A3.out).mono ?_); (case s1 => exact CS jM.out); (case s2 => exact jL.out); (case s3 => exact CS gU.out); (case s4 => exact gT.out); rintro e w' ⟨rfl, ⟨nd, rfl⟩⟩; (try first | exact ⟨rfl, _, World.drewN_drewN _ _ _⟩ | exact ⟨rfl, _, Eq.trans (World.drewN_drewN _ _ _) (congrArg (World.drewN _) (Nat.add_assoc _ _ _))⟩)) | (go_at_call 6; (with_reducible refine (B0.spec_R8Basin.calls k _ _ l0 ap aq ak _ ?s1 ?s2 A5.out).mono ?_); (case s1 => exact CS jM.out); (case s2 => exact jL.out); rintro e pD ⟨my, rfl, ho0, hb⟩; have aj := RN ho0 HB; replace HB := BB HB hb; (try clear hb); (try clear ho0)) | ((with_reducible refine gate_dst (N := 5) rfl ?_); (try (refine gate_guard (by rfl) ?_; dsimp only)); refine boxM 5 #[.int .i64 0, .int .i64 0, .slice none 0 0] 26 ?_; intro fo hg pE hbox hb; have a3 := AS (hbox); have k8 := BG HB hg; replace aj := RB aj hb; replace HB := BB HB hb; clear hb hbox hg; obtain ⟨dr, ds, dt, dJ, dK, dL⟩ := CZ3 a3; obtain ⟨bG, bH, i7⟩ := Kd.R_slice aj.out; subst i7) | (go_at_call 7; (with_reducible refine (BK.spec_R8Like.calls k _ _ l1 ap aq _ _ ak bI bJ aX _ ?s1 ?s2 ?s3 ?s4 A6.out).mono ?_); (case s1 => exact Kd.C_below gU.out (BW HB)); (case s2 => exact gT.out); (case s3 => exact (RC (RF3T aj a3 (.int .i64 ap) (.int .i64 aq) (.slice bG ak.length bH)))); (case s4 => exact (Kd.R_reads' aj.out).2.1); rintro e pF ⟨mz, rfl, ho0, hb⟩; replace aj := RFB aj a3 (.int .i64 ap) (.int .i64 aq) (.slice bG ak.length bH) hb; have aD := RN ho0 HB; replace a3 := KPB a3 (.int .i64 ap) (.int .i64 aq) (.slice bG ak.length bH) hb; replace HB := BB HB hb; (try clear hb); (try clear ho0)) | ((with_reducible refine gate_dst (N := 6) rfl ?_); (try (refine gate_guard (by rfl) ?_; dsimp only)); refine boxM 6 #[.int .i64 0, .int .i64 0, .slice none 0 0] 26 ?_; intro fp hg pG hbox hb; have a4 := AS (hbox); have k9 := BG HB hg; have aH := KN a3 hg; have aJ := KM a3 hg; replace aj := RB aj hb; replace aD := RB aD hb; replace a3 := KB a3 hb; replace HB := BB HB hb; clear hb hbox hg; have kF := aJ.out; have kR := aH.out; obtain ⟨du, dv, dw, dM, dN, dO⟩ := CZ3 a4; obtain ⟨bl, bm, i8⟩ := Kd.R_slice aD.out; subst i8; obtain ⟨dx, dy, dz, dP, dQ, dR⟩ := CZ3 a3) | (go_at_call 18; (with_reducible refine (B0.impl_RangeInBasin.calls k ap aq _ _ ak bM bN k1 _ ?s1 ?s2 A7.out).mono ?_); (case s1 => exact (RC (RF3T aj a4 (.int .i64 bI) (.int .i64 bJ) (.slice bl aX.length bm)))); (case s2 => exact (Kd.R_reads' aj.out).2.1); rintro e pH ⟨rfl, hb⟩; replace aj := RFB aj a4 (.int .i64 bI) (.int .i64 bJ) (.slice bl aX.length bm) hb; replace aD := RFB aD a4 (.int .i64 bI) (.int .i64 bJ) (.slice bl aX.length bm) hb; replace a4 := KPB a4 (.int .i64 bI) (.int .i64 bJ) (.slice bl aX.length bm) hb; replace a3 := KFB a3 hb; replace HB := BB HB hb; (try clear hb); obtain ⟨dA, dB, dC, dS, dT, dU⟩ := CZ3 a3; obtain ⟨dD, dE, dF, dV, dW, dX⟩ := CZ3 a4) | (go_at_call 23; (with_reducible refine (CD.impl_CarryBasin.calls k ap aq (fun k_ => some k_ = (.slice bG ak.length bH : Value).ownBlock) _ _ ak bI bJ (fun k_ => some k_ = (.slice bl aX.length bm : Value).ownBlock) _ _ aX bI bJ (fun k_ => some k_ = (.slice bl aX.length bm : Value).ownBlock) _ _ aX 1056964608 dn dp aC jH _ ?s1 ?s2 ?s3 A8.out).mono ?_); (case s1 => exact Kd.R_V (Kd.R_tight rfl (Kd.R_types (Kd.R_types (aj.out) a3.out (by decide)) a4.out (by decide)))); (case s2 => exact Kd.R_V (Kd.R_tight rfl (Kd.R_types (Kd.R_types (aD.out) a3.out (by decide)) a4.out (by decide)))); (case s3 => exact Kd.R_V (Kd.R_tight rfl (Kd.R_types (Kd.R_types (aD.out) a3.out (by decide)) a4.out (by decide)))); rintro e pI ⟨mA, rfl, ho0, hb⟩; have dl := RN ho0 HB; replace aj := RB aj hb; replace aD := RB aD hb; replace a3 := KB a3 hb; replace a4 := KB a4 hb; replace HB := BB HB hb; (try clear hb); (try clear ho0)) | ((with_reducible refine gate_dst (N := 10) rfl ?_); (try (refine gate_guard (by rfl) ?_; dsimp only)); refine boxM 10 #[.int .i64 0, .int .i64 0, .slice none 0 0] 26 ?_; intro fq hg pJ hbox hb; have a5 := AS (hbox); have ka := BG HB hg; have aI := KN a3 hg; have aK := KM a3 hg; have b6 := KN a4 hg; have b7 := KM a4 hg; replace aj := RB aj hb; replace aD := RB aD hb; replace dl := RB dl hb; replace a3 := KB a3 hb; replace a4 := KB a4 hb; replace HB := BB HB hb; clear hb hbox hg; have kG := aK.out; have kS := aI.out; have kH := b7.out; have kT := b6.out; obtain ⟨dG, dH, dI, dY, dZ, e0⟩ := CZ3 a5; obtain ⟨ek, el, i9⟩ := Kd.R_slice dl.out; subst i9)); go_upto_region 7 with (first | (go_at_call 5; (with_reducible refine (laws_r8Long.calls _ _ l0 _ _ l1 false _ ?s1 ?s2 ?s3 ?s4 A3.out).mono ?_); (case s1 => exact CS jM.out); (case s2 => exact jL.out); (case s3 => exact CS gU.out); (case s4 => exact gT.out); rintro e w' ⟨rfl, ⟨nd, rfl⟩⟩; (try first | exact ⟨rfl, _, World.drewN_drewN _ _ _⟩ | exact ⟨rfl, _, Eq.trans (World.drewN_drewN _ _ _) (congrArg (World.drewN _) (Nat.add_assoc _ _ _))⟩)) | (go_at_call 6; (with_reducible refine (B0.spec_R8Basin.calls k _ _ l0 ap aq ak _ ?s1 ?s2 A5.out).mono ?_); (case s1 => exact CS jM.out); (case s2 => exact jL.out); rintro e pD ⟨my, rfl, ho0, hb⟩; have aj := RN ho0 HB; replace HB := BB HB hb; (try clear hb); (try clear ho0)) | ((with_reducible refine gate_dst (N := 5) rfl ?_); (try (refine gate_guard (by rfl) ?_; dsimp only)); refine boxM 5 #[.int .i64 0, .int .i64 0, .slice none 0 0] 26 ?_; intro fo hg pE hbox hb; have a3 := AS (hbox); have k8 := BG HB hg; replace aj := RB aj hb; replace HB := BB HB hb; clear hb hbox hg; obtain ⟨dr, ds, dt, dJ, dK, dL⟩ := CZ3 a3; obtain ⟨bG, bH, i7⟩ := Kd.R_slice aj.out; subst i7) | (go_at_call 7; (with_reducible refine (BK.spec_R8Like.calls k _ _ l1 ap aq _ _ ak bI bJ aX _ ?s1 ?s2 ?s3 ?s4 A6.out).mono ?_); (case s1 => exact Kd.C_below gU.out (BW HB)); (case s2 => exact gT.out); (case s3 => exact (RC (RF3T aj a3 (.int .i64 ap) (.int .i64 aq) (.slice bG ak.length bH)))); (case s4 => exact (Kd.R_reads' aj.out).2.1); rintro e pF ⟨mz, rfl, ho0, hb⟩; replace aj := RFB aj a3 (.int .i64 ap) (.int .i64 aq) (.slice bG ak.length bH) hb; have aD := RN ho0 HB; replace a3 := KPB a3 (.int .i64 ap) (.int .i64 aq) (.slice bG ak.length bH) hb; replace HB := BB HB hb; (try clear hb); (try clear ho0)) | ((with_reducible refine gate_dst (N := 6) rfl ?_); (try (refine gate_guard (by rfl) ?_; dsimp only)); refine boxM 6 #[.int .i64 0, .int .i64 0, .slice none 0 0] 26 ?_; intro fp hg pG hbox hb; have a4 := AS (hbox); have k9 := BG HB hg; have aH := KN a3 hg; have aJ := KM a3 hg; replace aj := RB aj hb; replace aD := RB aD hb; replace a3 := KB a3 hb; replace HB := BB HB hb; clear hb hbox hg; have kF := aJ.out; have kR := aH.out; obtain ⟨du, dv, dw, dM, dN, dO⟩ := CZ3 a4; obtain ⟨bl, bm, i8⟩ := Kd.R_slice aD.out; subst i8; obtain ⟨dx, dy, dz, dP, dQ, dR⟩ := CZ3 a3) | (go_at_call 18; (with_reducible refine (B0.impl_RangeInBasin.calls k ap aq _ _ ak bM bN k1 _ ?s1 ?s2 A7.out).mono ?_); (case s1 => exact (RC (RF3T aj a4 (.int .i64 bI) (.int .i64 bJ) (.slice bl aX.length bm)))); (case s2 => exact (Kd.R_reads' aj.out).2.1); rintro e pH ⟨rfl, hb⟩; replace aj := RFB aj a4 (.int .i64 bI) (.int .i64 bJ) (.slice bl aX.length bm) hb; replace aD := RFB aD a4 (.int .i64 bI) (.int .i64 bJ) (.slice bl aX.length bm) hb; replace a4 := KPB a4 (.int .i64 bI) (.int .i64 bJ) (.slice bl aX.length bm) hb; replace a3 := KFB a3 hb; replace HB := BB HB hb; (try clear hb); obtain ⟨dA, dB, dC, dS, dT, dU⟩ := CZ3 a3; obtain ⟨dD, dE, dF, dV, dW, dX⟩ := CZ3 a4) | (go_at_call 23; (with_reducible refine (CD.impl_CarryBasin.calls k ap aq (fun k_ => some k_ = (.slice bG ak.length bH : Value).ownBlock) _ _ ak bI bJ (fun k_ => some k_ = (.slice bl aX.length bm : Value).ownBlock) _ _ aX bI bJ (fun k_ => some k_ = (.slice bl aX.length bm : Value).ownBlock) _ _ aX 1056964608 dn dp aC jH _ ?s1 ?s2 ?s3 A8.out).mono ?_); (case s1 => exact Kd.R_V (Kd.R_tight rfl (Kd.R_types (Kd.R_types (aj.out) a3.out (by decide)) a4.out (by decide)))); (case s2 => exact Kd.R_V (Kd.R_tight rfl (Kd.R_types (Kd.R_types (aD.out) a3.out (by decide)) a4.out (by decide)))); (case s3 => exact Kd.R_V (Kd.R_tight rfl (Kd.R_types (Kd.R_types (aD.out) a3.out (by decide)) a4.out (by decide)))); rintro e pI ⟨mA, rfl, ho0, hb⟩; have dl := RN ho0 HB; replace aj := RB aj hb; replace aD := RB aD hb; replace a3 := KB a3 hb; replace a4 := KB a4 hb; replace HB := BB HB hb; (try clear hb); (try clear ho0)) | ((with_reducible refine gate_dst (N := 10) rfl ?_); (try (refine gate_guard (by rfl) ?_; dsimp only)); refine boxM 10 #[.int .i64 0, .int .i64 0, .slice none 0 0] 26 ?_; intro fq hg pJ hbox hb; have a5 := AS (hbox); have ka := BG HB hg; have aI := KN a3 hg; have aK := KM a3 hg; have b6 := KN a4 hg; have b7 := KM a4 hg; replace aj := RB aj hb; replace aD := RB aD hb; replace dl := RB dl hb; replace a3 := KB a3 hb; replace a4 := KB a4 hb; replace HB := BB HB hb; clear hb hbox hg; have kG := aK.out; have kS := aI.out; have kH := b7.out; have kT := b6.out; obtain ⟨dG, dH, dI, dY, dZ, e0⟩ := CZ3 a5; obtain ⟨ek, el, i9⟩ := Kd.R_slice dl.out; subst i9)))); (try simp only [Act.put, List.setIfInBounds_toArray, List.set_cons_zero, List.set_cons_succ]); go_cut [76] (fun qi wc => ∃ (kq : Nat) (hM : Bool), qi = .bool hM ∧ Aside0 (laws_FnCarried.j0 kq l1 bM bN hM ap aq ak dn dp aC = some true) ∧ Aside0 (kq ≤ k) ∧ Aside0 (Kd.R (Kd.float .f32) 32 wc w.heap.size (fun _ => True) (.slice bG ak.length bH) ak) ∧ Aside0 (Kd.R (Kd.float .f32) 32 wc w.heap.size (fun _ => True) (.slice bl aX.length bm) aX) ∧ Aside0 (Kd.R (Kd.float .f32) 32 wc w.heap.size (fun _ => True) (.slice ek aC.length el) aC) ∧ Aside0 (wc.heap[fo]? = some (.cells #[.int .i64 ap, .int .i64 aq, (.slice bG ak.length bH)] 26 (0, 0))) ∧ Aside0 (wc.heap[fp]? = some (.cells #[.int .i64 bI, .int .i64 bJ, (.slice bl aX.length bm)] 26 (0, 0))) ∧ Aside0 (wc.heap[fq]? = some (.cells #[.int .i64 dn, .int .i64 dp, (.slice ek aC.length el)] 26 (0, 0))) ∧ Aside0 (Below w.heap.size w wc))
 case first =>
  have H := n7.out; clear n7; by_cases kj : k1 = true
  ·subst kj
   have H1 : (if jH = true then (laws_FnCarried.j0 k l1 bM bN ((aC.length : Int) != (ak.length : Int)) ap aq ak dn dp aC) else (laws_FnCarried.j0 k l1 bM bN true ap aq ak dn dp aC)) = some true := (by rw [if_pos rfl] at H; exact H); clear H; have H := H1; clear H1; by_cases kk : jH = true
   ·subst kk
    have H1 : (laws_FnCarried.j0 k l1 bM bN ((aC.length : Int) != (ak.length : Int)) ap aq ak dn dp aC) = some true := (by rw [if_pos rfl] at H; exact H); clear H; have H := H1; clear H1; have H' := AS H; clear H; have pb := aK.out; have pp := aI.out; have pc := b7.out; have pq := b6.out; obtain ⟨en, eo, ep, eP, eQ, eR⟩ := CZ3 a5; have pd := aH.out; have pr := aJ.out; obtain ⟨er, es, et, eS, eT, eU⟩ := CZ3 a3; go_wp2; (repeat (go_quiet (fail); try go_wp2)); go_meet
    case rel => exact ⟨_, (((aC.length : Int) != (ak.length : Int))), (by first | rfl | (simp; done) | (simp [*]; done)), H', ⟨by first | omega | exact Nat.le_refl _⟩, ⟨by (with_reducible repeat (first | apply Kd.R_alloc | apply Kd.R_drewN | apply Kd.R_drew)); exact (RF3T aj a5 (.int .i64 dn) (.int .i64 dp) (.slice ek aC.length el))⟩, ⟨by (with_reducible repeat (first | apply Kd.R_alloc | apply Kd.R_drewN | apply Kd.R_drew)); exact (RF3T aD a5 (.int .i64 dn) (.int .i64 dp) (.slice ek aC.length el))⟩, ⟨by (with_reducible repeat (first | apply Kd.R_alloc | apply Kd.R_drewN | apply Kd.R_drew)); exact (RF3T dl a5 (.int .i64 dn) (.int .i64 dp) (.slice ek aC.length el))⟩, ⟨KF a3⟩, ⟨KF a4⟩, ⟨KP3 a5⟩, ⟨BW HB⟩⟩
   replace kk := Bool.eq_false_iff.mpr kk
   subst kk; have H1 : (laws_FnCarried.j0 k l1 bM bN true ap aq ak dn dp aC) = some true := (by rw [if_neg (show ¬ (false = true) by decide)] at H; exact H); clear H; have H := H1; clear H1; exact (FnCarried_j0_no H).elim
  replace kj := Bool.eq_false_iff.mpr kj
  subst kj; have H1 : (laws_FnCarried.j0 k l1 bM bN true ap aq ak dn dp aC) = some true := (by rw [if_neg (show ¬ (false = true) by decide)] at H; exact H); clear H; have H := H1; clear H1; exact (FnCarried_j0_no H).elim
 case rest =>
  clear n7; (try clear c1); (try clear c2); (try clear p2); (try clear c3); (try clear c4); (try clear nn); (try clear nC); (try clear nD); (try clear kj); (try clear kk); (try clear nE); (try clear nF); (try clear nG); (try clear dr ds dt du dv dw dx dy dz dA dB dC dD dE dF dG dH dI en eo ep er es et dJ dK dL dM dN dO dP dQ dR dS dT dU dV dW dX dY dZ e0 eP eQ eR eS eT eU); obtain ⟨kq, hM, rfl, HA, lN, a0, a2, a1, a3, a4, a5, HB⟩ := hcut; cases kq with
  | zero => exact absurd HA.out (by simp [laws_FnCarried.j0])
  | succ oV =>
   have H := HA.out; clear HA; simp only [laws_FnCarried.j0] at H; by_cases lC : hM = true
   ·subst lC
    have H1 : (some false) = some true := (by rw [if_pos rfl] at H; exact H); clear H; have H := H1; clear H1; exact absurd (Option.some.inj H) (by decide)
   replace lC := Bool.eq_false_iff.mpr lC
   subst lC; have H1 : (laws_FnCarried.l0 oV l1 bM bN 0 ap aq ak dn dp aC) = some true := (by rw [if_neg (show ¬ (false = true) by decide)] at H; exact H); clear H; have H := H1; clear H1; have H' := AS H; clear H; go_wp2; (repeat (go_quiet (fail); try go_wp2)); go_loopg [12] oV (fun kq qg w' => ∃ (ar : Int), qg = .int .i64 ar ∧ Aside0 (laws_FnCarried.l0 kq l1 bM bN ar ap aq ak dn dp aC = some true) ∧ Aside0 (kq ≤ oV) ∧ Aside0 (Kd.R (Kd.float .f32) 32 w' w.heap.size (fun _ => True) (.slice bG ak.length bH) ak) ∧ Aside0 (Kd.R (Kd.float .f32) 32 w' w.heap.size (fun _ => True) (.slice bl aX.length bm) aX) ∧ Aside0 (Kd.R (Kd.float .f32) 32 w' w.heap.size (fun _ => True) (.slice ek aC.length el) aC) ∧ Aside0 (w'.heap[fo]? = some (.cells #[.int .i64 ap, .int .i64 aq, (.slice bG ak.length bH)] 26 (0, 0))) ∧ Aside0 (w'.heap[fp]? = some (.cells #[.int .i64 bI, .int .i64 bJ, (.slice bl aX.length bm)] 26 (0, 0))) ∧ Aside0 (w'.heap[fq]? = some (.cells #[.int .i64 dn, .int .i64 dp, (.slice ek aC.length el)] 26 (0, 0))) ∧ Aside0 (Below w.heap.size w w'))
   case atStart => exact ⟨(0), (by first | rfl | (simp; done) | (simp [*]; done)), H', ⟨Nat.le_refl _⟩, ⟨RS a0.out⟩, ⟨RS a2.out⟩, ⟨RS a1.out⟩, ⟨KS a3.out⟩, ⟨KS a4.out⟩, ⟨KS a5.out⟩, ⟨BW HB⟩⟩
   case round =>
    clear H'; (try clear c1); (try clear c2); (try clear p2); (try clear c3); (try clear c4); (try clear nn); (try clear nC); (try clear nD); (try clear kj); (try clear kk); (try clear nE); (try clear nF); (try clear nG); (try clear lC); (try clear dr ds dt du dv dw dx dy dz dA dB dC dD dE dF dG dH dI en eo ep er es et dJ dK dL dM dN dO dP dQ dR dS dT dU dV dW dX dY dZ e0 eP eQ eR eS eT eU); (try clear p2); obtain ⟨ar, rfl, HA, lO, a0, a2, a1, a3, a4, a5, HB⟩ := hrel; cases gk with
    | zero => exact absurd HA.out (by simp [laws_FnCarried.l0])
    | succ k2 =>
     have H := HA.out; clear HA; simp only [laws_FnCarried.l0] at H; by_cases kl : ar < (ak.length : Int)
     ·rw [if_pos kl] at H
      have i0 : decide (ar < (ak.length : Int)) = true := decide_eq_true kl; clear kl; by_cases lK : 0 ≤ ar
      ·rw [if_pos lK] at H
       have km : decide (0 ≤ ar) = true := decide_eq_true lK; clear lK; by_cases lL : ar < (aC.length : Int)
       ·rw [if_pos lL] at H
        have kn : decide (ar < (aC.length : Int)) = true := decide_eq_true lL; clear lL; by_cases lD : cok .f32 (rdOf (0 : Nat) aC ar) .f64 = true
        ·rw [if_pos lD] at H
         have ko := eq_true lD; have kp : decide (cok .f32 (rdOf (0 : Nat) aC ar) .f64 = true) = true := decide_eq_true lD; clear lD; by_cases lE : cok .f32 bM .f64 = true
         ·rw [if_pos lE] at H
          have kr := eq_true lE; have ks : decide (cok .f32 bM .f64 = true) = true := decide_eq_true lE; clear lE; by_cases lF : fok .sub .f64 (cvt .f32 bM .f64) 4562254508917369340 = true
          ·rw [if_pos lF] at H
           have kt := eq_true lF; have ku : decide (fok .sub .f64 (cvt .f32 bM .f64) 4562254508917369340 = true) = true := decide_eq_true lF; clear lF; by_cases hR : (FloatKind.f64.format.order (cvt .f32 (rdOf (0 : Nat) aC ar) .f64) (fop .sub .f64 (cvt .f32 bM .f64) 4562254508917369340) == some .lt) = true
           ·rw [if_pos hR] at H
            have i1 : (FloatKind.f64.format.order (cvt .f32 (rdOf (0 : Nat) aC ar) .f64) (fop .sub .f64 (cvt .f32 bM .f64) 4562254508917369340) == some .lt) = true := hR; (try (have i2 : decide (FloatKind.f64.format.order (cvt .f32 (rdOf (0 : Nat) aC ar) .f64) (fop .sub .f64 (cvt .f32 bM .f64) 4562254508917369340) = some .lt) = true := by simpa using hR)); (try (have i3 : (FloatKind.f64.format.order (cvt .f32 (rdOf (0 : Nat) aC ar) .f64) (fop .sub .f64 (cvt .f32 bM .f64) 4562254508917369340) == some .lt) = true := by simpa using hR)); clear hR; have fi := AS (Option.some.inj H); clear H; have pe := aH.out; have ps := aJ.out; have pf := aI.out; have pt := aK.out; obtain ⟨gY, gZ, h0, hl, hm, hp⟩ := CZ3 a3; have pg := b7.out; have pu := b6.out; obtain ⟨h1, h2, h3, hq, hs, ht⟩ := CZ3 a5; have p124 : 0 ≤ (ar : Int) := of_decide_eq_true (by first | (with_reducible assumption) | assumption); have q124 : ar < (aC.length : Int) := of_decide_eq_true (by first | (with_reducible assumption) | assumption); obtain ⟨ad124, e124, fg⟩ := Kd.at_float (Kd.R_reads' a1.out).2.2 ar p124 q124; cases e124; replace p124 := eq_true p124; replace q124 := eq_true q124; go_wp2; (repeat (go_quiet (fail); try go_wp2)); go_ret; exact ⟨by first | (refine Eq.trans ?_ (congrArg (fun b => Ending.returned (Value.bool b)) fi.out); rfl) | (rw [fi.out]) | (have h_ := fi.out; simp at h_; simp [h_]; done) | (have h_ := fi.out; simp at h_; subst h_; rfl) | (simp [fi.out]; done) | rfl | (simp [errW_none, errW_some] <;> rfl) | (simp [*, errW_none, errW_some] <;> rfl), BW HB⟩
           rw [if_neg hR] at H
           have i1 : (FloatKind.f64.format.order (cvt .f32 (rdOf (0 : Nat) aC ar) .f64) (fop .sub .f64 (cvt .f32 bM .f64) 4562254508917369340) == some .lt) = false := (by simpa using hR); (try (have i2 : decide (FloatKind.f64.format.order (cvt .f32 (rdOf (0 : Nat) aC ar) .f64) (fop .sub .f64 (cvt .f32 bM .f64) 4562254508917369340) = some .lt) = false := by simpa using hR)); (try (have i3 : (FloatKind.f64.format.order (cvt .f32 (rdOf (0 : Nat) aC ar) .f64) (fop .sub .f64 (cvt .f32 bM .f64) 4562254508917369340) == some .lt) = false := by simpa using hR)); (try (have p9 : ¬ (FloatKind.f64.format.order (cvt .f32 (rdOf (0 : Nat) aC ar) .f64) (fop .sub .f64 (cvt .f32 bM .f64) 4562254508917369340) = some .lt) := by simpa using hR)); clear hR; have kv := eq_true (of_decide_eq_true (by first | (with_reducible assumption) | assumption) : cok .f32 (rdOf (0 : Nat) aC ar) .f64 = true); by_cases lG : cok .f32 bN .f64 = true
           ·rw [if_pos lG] at H
            have kw := eq_true lG; have kx : decide (cok .f32 bN .f64 = true) = true := decide_eq_true lG; clear lG; by_cases lH : fok .add .f64 (cvt .f32 bN .f64) 4562254508917369340 = true
            ·rw [if_pos lH] at H
             have ky := eq_true lH; have kz : decide (fok .add .f64 (cvt .f32 bN .f64) 4562254508917369340 = true) = true := decide_eq_true lH; clear lH; by_cases hS : (FloatKind.f64.format.order (cvt .f32 (rdOf (0 : Nat) aC ar) .f64) (fop .add .f64 (cvt .f32 bN .f64) 4562254508917369340) == some .gt) = true
             ·rw [if_pos hS] at H
              have i4 : (FloatKind.f64.format.order (cvt .f32 (rdOf (0 : Nat) aC ar) .f64) (fop .add .f64 (cvt .f32 bN .f64) 4562254508917369340) == some .gt) = true := hS; (try (have i5 : decide (FloatKind.f64.format.order (cvt .f32 (rdOf (0 : Nat) aC ar) .f64) (fop .add .f64 (cvt .f32 bN .f64) 4562254508917369340) = some .gt) = true := by simpa using hS)); (try (have i6 : (FloatKind.f64.format.order (cvt .f32 (rdOf (0 : Nat) aC ar) .f64) (fop .add .f64 (cvt .f32 bN .f64) 4562254508917369340) == some .gt) = true := by simpa using hS)); clear hS; have fi := AS (Option.some.inj H); clear H; have ph := aH.out; have pv := aJ.out; have pi := aI.out; have pw := aK.out; obtain ⟨h4, h5, h6, hv, hx, hy⟩ := CZ3 a3; have pj := b7.out; have px := b6.out; obtain ⟨h7, h8, h9, hz, hA, hB⟩ := CZ3 a5; have p124 : 0 ≤ (ar : Int) := of_decide_eq_true (by first | (with_reducible assumption) | assumption); have q124 : ar < (aC.length : Int) := of_decide_eq_true (by first | (with_reducible assumption) | assumption); obtain ⟨ad124, e124, fg⟩ := Kd.at_float (Kd.R_reads' a1.out).2.2 ar p124 q124; cases e124; replace p124 := eq_true p124; replace q124 := eq_true q124; have p125 : 0 ≤ (ar : Int) := of_decide_eq_true (by first | (with_reducible assumption) | assumption); have q125 : ar < (aC.length : Int) := of_decide_eq_true (by first | (with_reducible assumption) | assumption); obtain ⟨ad125, e125, fs⟩ := Kd.at_float (Kd.R_reads' a1.out).2.2 ar p125 q125; obtain rfl : ad124 = ad125 := (by injection e125); replace p125 := eq_true p125; replace q125 := eq_true q125; go_wp2; (repeat (go_quiet (fail); try go_wp2)); go_ret; exact ⟨by first | (refine Eq.trans ?_ (congrArg (fun b => Ending.returned (Value.bool b)) fi.out); rfl) | (rw [fi.out]) | (have h_ := fi.out; simp at h_; simp [h_]; done) | (have h_ := fi.out; simp at h_; subst h_; rfl) | (simp [fi.out]; done) | rfl | (simp [errW_none, errW_some] <;> rfl) | (simp [*, errW_none, errW_some] <;> rfl), BW HB⟩
             rw [if_neg hS] at H
             have i4 : (FloatKind.f64.format.order (cvt .f32 (rdOf (0 : Nat) aC ar) .f64) (fop .add .f64 (cvt .f32 bN .f64) 4562254508917369340) == some .gt) = false := (by simpa using hS); (try (have i5 : decide (FloatKind.f64.format.order (cvt .f32 (rdOf (0 : Nat) aC ar) .f64) (fop .add .f64 (cvt .f32 bN .f64) 4562254508917369340) = some .gt) = false := by simpa using hS)); (try (have i6 : (FloatKind.f64.format.order (cvt .f32 (rdOf (0 : Nat) aC ar) .f64) (fop .add .f64 (cvt .f32 bN .f64) 4562254508917369340) == some .gt) = false := by simpa using hS)); (try (have pa : ¬ (FloatKind.f64.format.order (cvt .f32 (rdOf (0 : Nat) aC ar) .f64) (fop .add .f64 (cvt .f32 bN .f64) 4562254508917369340) = some .gt) := by simpa using hS)); clear hS; have H' := AS H; clear H; have pk := aH.out; have py := aJ.out; have pl := aI.out; have pz := aK.out; obtain ⟨ha, hc, hd, hC, hD, hE⟩ := CZ3 a3; have pm := b7.out; have pA := b6.out; obtain ⟨he, hf, hh, hF, hG, hH⟩ := CZ3 a5; have p124 : 0 ≤ (ar : Int) := of_decide_eq_true (by first | (with_reducible assumption) | assumption); have q124 : ar < (aC.length : Int) := of_decide_eq_true (by first | (with_reducible assumption) | assumption); obtain ⟨ad124, e124, fg⟩ := Kd.at_float (Kd.R_reads' a1.out).2.2 ar p124 q124; cases e124; replace p124 := eq_true p124; replace q124 := eq_true q124; have p125 : 0 ≤ (ar : Int) := of_decide_eq_true (by first | (with_reducible assumption) | assumption); have q125 : ar < (aC.length : Int) := of_decide_eq_true (by first | (with_reducible assumption) | assumption); obtain ⟨ad125, e125, fs⟩ := Kd.at_float (Kd.R_reads' a1.out).2.2 ar p125 q125; obtain rfl : ad124 = ad125 := (by injection e125); replace p125 := eq_true p125; replace q125 := eq_true q125; go_wp2; (repeat (go_quiet (fail); try go_wp2)); go_roundg k2
             case measure => have := lN.out; have := lO.out; omega
             case rel => exact ⟨(wrap64 (ar + 1)), (by first | rfl | (simp; done) | (simp [*]; done)), H', ⟨by have := lN.out; have := lO.out; omega⟩, ⟨RS a0.out⟩, ⟨RS a2.out⟩, ⟨RS a1.out⟩, ⟨KS a3.out⟩, ⟨KS a4.out⟩, ⟨KS a5.out⟩, ⟨BW HB⟩⟩
            rw [if_neg lH] at H
            exact absurd H (by simp)
           rw [if_neg lG] at H
           exact absurd H (by simp)
          rw [if_neg lF] at H
          exact absurd H (by simp)
         rw [if_neg lE] at H
         exact absurd H (by simp)
        rw [if_neg lD] at H
        exact absurd H (by simp)
       rw [if_neg lL] at H
       exact absurd H (by simp)
      rw [if_neg lK] at H
      exact absurd H (by simp)
     rw [if_neg kl] at H
     have i0 : decide (ar < (ak.length : Int)) = false := decide_eq_false kl; clear kl; replace H := OB H; obtain ⟨ft, n1, H⟩ := H; (try dsimp only at H); replace H := OB H; obtain ⟨fu, n2, H⟩ := H; (try dsimp only at H); replace H := OB H; obtain ⟨⟨bO, bP, bi, k3⟩, n3, H⟩ := H; (try dsimp only at H); replace H := OB H; obtain ⟨⟨bj, bk, b5, k5⟩, n4, H⟩ := H; (try dsimp only at H); replace H := OB H; obtain ⟨⟨b1, b2, aE, jI⟩, n5, H⟩ := H; (try dsimp only at H); replace H := OB H; obtain ⟨⟨bQ, bR, b3, hT⟩, n6, H⟩ := H; (try dsimp only at H); have lq := AS H; clear H; have pn := aH.out; have pB := aJ.out; have po := aI.out; have pC := aK.out; obtain ⟨hi, hj, hk, hI, hJ, hK⟩ := CZ3 a3; (go_upto_region 20 with (first | (go_at_call 11; (with_reducible refine (B0.laws_r8At.calls _ _ l1 40 7 ft _ ?s1 ?s2 n1.out).mono ?_); (case s1 => exact CS (Kd.C_below gU.out HB.out)); (case s2 => exact gT.out); rintro e pK ⟨rfl, hb⟩; replace a0 := RB a0 hb; replace a2 := RB a2 hb; replace a1 := RB a1 hb; replace a3 := KB a3 hb; replace a4 := KB a4 hb; replace a5 := KB a5 hb; replace HB := BB HB hb; (try clear hb)) | (go_at_call 11; (with_reducible refine (B0.laws_r8At.calls _ _ l1 41 7 fu _ ?s1 ?s2 n2.out).mono ?_); (case s1 => exact CS (Kd.C_below gU.out HB.out)); (case s2 => exact gT.out); rintro e pL ⟨rfl, hb⟩; replace a0 := RB a0 hb; replace a2 := RB a2 hb; replace a1 := RB a1 hb; replace a3 := KB a3 hb; replace a4 := KB a4 hb; replace a5 := KB a5 hb; replace HB := BB HB hb; (try clear hb); obtain ⟨eu, ev, ew, eV, eW, eX⟩ := CZ3 a3) | (go_at_call 24; (with_reducible refine (CF.impl_FlatBasin.calls k2 ap aq (floatOfInt .f32 (wrap64 (ft - 3))) bO bP bi k3 _ n3.out).mono ?_); rintro e pM ⟨mB, rfl, ho0, hb⟩; have ai := RN ho0 HB; replace a0 := RB a0 hb; replace a2 := RB a2 hb; replace a1 := RB a1 hb; replace a3 := KB a3 hb; replace a4 := KB a4 hb; replace a5 := KB a5 hb; replace HB := BB HB hb; (try clear hb); (try clear ho0)) | ((with_reducible refine gate_dst (N := 15) rfl ?_); (try (refine gate_guard (by rfl) ?_; dsimp only)); refine boxM 15 #[.int .i64 0, .int .i64 0, .slice none 0 0] 26 ?_; intro gV hg pN hbox hb; have a6 := AS (hbox); have kb := BG HB hg; have b8 := KN a3 hg; have bc := KM a3 hg; have bX := KN a4 hg; have cj := KM a4 hg; have cd := KN a5 hg; have ck := KM a5 hg; replace a0 := RB a0 hb; replace a2 := RB a2 hb; replace a1 := RB a1 hb; replace ai := RB ai hb; replace a3 := KB a3 hb; replace a4 := KB a4 hb; replace a5 := KB a5 hb; replace HB := BB HB hb; clear hb hbox hg; have kI := bc.out; have kU := b8.out; have kJ := cj.out; have kV := bX.out; have kK := ck.out; have kW := cd.out; obtain ⟨ex, ey, ez, eY, eZ, f0⟩ := CZ3 a6; obtain ⟨bK, bL, ia⟩ := Kd.R_slice ai.out; subst ia; obtain ⟨eA, eB, eC, f1, f2, f3⟩ := CZ3 a3) | (go_at_call 24; (with_reducible refine (CF.impl_FlatBasin.calls k2 ap aq (floatOfInt .f32 (wrap64 (fu - 3))) bj bk b5 k5 _ n4.out).mono ?_); rintro e pO ⟨mC, rfl, ho0, hb⟩; replace a0 := RFB a0 a6 (.int .i64 bO) (.int .i64 bP) (.slice bK bi.length bL) hb; replace a2 := RFB a2 a6 (.int .i64 bO) (.int .i64 bP) (.slice bK bi.length bL) hb; replace a1 := RFB a1 a6 (.int .i64 bO) (.int .i64 bP) (.slice bK bi.length bL) hb; replace ai := RFB ai a6 (.int .i64 bO) (.int .i64 bP) (.slice bK bi.length bL) hb; have am := RN ho0 HB; replace a6 := KPB a6 (.int .i64 bO) (.int .i64 bP) (.slice bK bi.length bL) hb; replace a3 := KFB a3 hb; replace a4 := KFB a4 hb; replace a5 := KFB a5 hb; replace HB := BB HB hb; (try clear hb); (try clear ho0)) | ((with_reducible refine gate_dst (N := 17) rfl ?_); (try (refine gate_guard (by rfl) ?_; dsimp only)); refine boxM 17 #[.int .i64 0, .int .i64 0, .slice none 0 0] 26 ?_; intro dk hg hL hbox hb; have ab := AS (hbox); have kc := BG HB hg; have b9 := KN a3 hg; have bd := KM a3 hg; have bY := KN a4 hg; have cq := KM a4 hg; have ce := KN a5 hg; have cr := KM a5 hg; have cl := KN a6 hg; have cs := KM a6 hg; replace a0 := RB a0 hb; replace a2 := RB a2 hb; replace a1 := RB a1 hb; replace ai := RB ai hb; replace am := RB am hb; replace a3 := KB a3 hb; replace a4 := KB a4 hb; replace a5 := KB a5 hb; replace a6 := KB a6 hb; replace HB := BB HB hb; clear hb hbox hg; have kL := bd.out; have kX := b9.out; have kM := cq.out; have kY := bY.out; have kN := cr.out; have kZ := ce.out; have kO := cs.out; have l2 := cl.out; obtain ⟨eD, eE, eF, f4, f5, f6⟩ := CZ3 ab; obtain ⟨bg, bh, ib⟩ := Kd.R_slice am.out; subst ib) | ((with_reducible refine gate_store (t := 26) (p := 17) rfl ?_); (try (rw [drewN_self hL]; generalize hq_ : World.drewN hL _ = hL; have l5 := AS (Kd.R_at hq_ a0.out); have l6 := AS (Kd.R_at hq_ a2.out); have l7 := AS (Kd.R_at hq_ a1.out); have l8 := AS (Kd.R_at hq_ ai.out); have l9 := AS (Kd.R_at hq_ am.out); have la := AS (blk_at hq_ a3.out); have lb := AS (blk_at hq_ a4.out); have lc := AS (blk_at hq_ a5.out); have ld := AS (blk_at hq_ a6.out); have lf := AS (blk_at hq_ ab.out); have dq := AS (below_at hq_ HB.out); clear hq_ a0 a2 a1 ai am a3 a4 a5 a6 ab HB; have a0 := l5; have a2 := l6; have a1 := l7; have ai := l8; have am := l9; have a3 := la; have a4 := lb; have a5 := lc; have a6 := ld; have ab := lf; have HB := dq; clear l5 l6 l7 l8 l9 la lb lc ld lf dq)); refine store_event (t := 26) (p := 17) (v := ?jK) (w1 := (((hL.setCell ⟨dk, 0, none⟩ (.int .i64 bj)).setCell ⟨dk, 1, none⟩ (.int .i64 bk)).setCell ⟨dk, 2, none⟩ (.slice bg b5.length bh))) ?hg ?ho ?hn ?hr ?_; (case ho => rfl); (case hg => rfl); (case hn => rfl); (case hr => first | (go_simp; done) | (go_simp; rfl)); intro n0 hw; replace a0 := RFW a0 ab (.int .i64 bj) (.int .i64 bk) (.slice bg b5.length bh) hw; replace a2 := RFW a2 ab (.int .i64 bj) (.int .i64 bk) (.slice bg b5.length bh) hw; replace a1 := RFW a1 ab (.int .i64 bj) (.int .i64 bk) (.slice bg b5.length bh) hw; replace ai := RFW ai ab (.int .i64 bj) (.int .i64 bk) (.slice bg b5.length bh) hw; replace am := RFW am ab (.int .i64 bj) (.int .i64 bk) (.slice bg b5.length bh) hw; replace a3 := KFW a3 hw; replace a4 := KFW a4 hw; replace a5 := KFW a5 hw; replace a6 := KFW a6 hw; replace ab := KPW ab (.int .i64 bj) (.int .i64 bk) (.slice bg b5.length bh) hw; have dq : Aside0 (Below w.heap.size w n0) := ⟨(by rw [hw]; exact (BW HB))⟩; replace HB := dq; clear hw; clear dq; obtain ⟨eG, eH, eI, f7, f8, f9⟩ := CZ3 a3; obtain ⟨eJ, eK, eL, fa, fb, fc⟩ := CZ3 a6; obtain ⟨eM, eN, eO, fd, fe, ff⟩ := CZ3 ab) | (go_at_call 23; (with_reducible refine (CD.impl_CarryBasin.calls k2 ap aq (fun k_ => some k_ = (.slice bG ak.length bH : Value).ownBlock) _ _ ak bO bP (fun k_ => some k_ = (.slice bK bi.length bL : Value).ownBlock) _ _ bi bj bk (fun k_ => some k_ = (.slice bg b5.length bh : Value).ownBlock) _ _ b5 1065353216 b1 b2 aE jI _ ?s1 ?s2 ?s3 n5.out).mono ?_); (case s1 => exact Kd.R_V (Kd.R_tight rfl (Kd.R_types (Kd.R_types (Kd.R_types (Kd.R_types (Kd.R_types (a0.out) a3.out (by decide)) a4.out (by decide)) a5.out (by decide)) a6.out (by decide)) ab.out (by decide)))); (case s2 => exact Kd.R_V (Kd.R_tight rfl (Kd.R_types (Kd.R_types (Kd.R_types (Kd.R_types (Kd.R_types (ai.out) a3.out (by decide)) a4.out (by decide)) a5.out (by decide)) a6.out (by decide)) ab.out (by decide)))); (case s3 => exact Kd.R_V (Kd.R_tight rfl (Kd.R_types (Kd.R_types (Kd.R_types (Kd.R_types (Kd.R_types (am.out) a3.out (by decide)) a4.out (by decide)) a5.out (by decide)) a6.out (by decide)) ab.out (by decide)))); rintro e pP ⟨mD, rfl, ho0, hb⟩; have b4 := RN ho0 HB; replace a0 := RB a0 hb; replace a2 := RB a2 hb; replace a1 := RB a1 hb; replace ai := RB ai hb; replace am := RB am hb; replace a3 := KB a3 hb; replace a4 := KB a4 hb; replace a5 := KB a5 hb; replace a6 := KB a6 hb; replace ab := KB ab hb; replace HB := BB HB hb; (try clear hb); (try clear ho0)) | ((with_reducible refine gate_dst (N := 19) rfl ?_); (try (refine gate_guard (by rfl) ?_; dsimp only)); refine boxM 19 #[.int .i64 0, .int .i64 0, .slice none 0 0] 26 ?_; intro gW hg pQ hbox hb; have ac := AS (hbox); have kd := BG HB hg; have ba := KN a3 hg; have be := KM a3 hg; have bn := KN a4 hg; have bv := KM a4 hg; have bp := KN a5 hg; have bw := KM a5 hg; have br := KN a6 hg; have bx := KM a6 hg; have bt := KN ab hg; have bz := KM ab hg; replace a0 := RB a0 hb; replace a2 := RB a2 hb; replace a1 := RB a1 hb; replace ai := RB ai hb; replace am := RB am hb; replace b4 := RB b4 hb; replace a3 := KB a3 hb; replace a4 := KB a4 hb; replace a5 := KB a5 hb; replace a6 := KB a6 hb; replace ab := KB ab hb; replace HB := BB HB hb; clear hb hbox hg; have kP := be.out; have l3 := ba.out; have kQ := bv.out; have l4 := bn.out; have ic := bw.out; have iY := bp.out; have ie := bx.out; have iZ := br.out; have ig := bz.out; have j1 := bt.out; obtain ⟨e2, e3, e4, eb, ec, ed⟩ := CZ3 ac; obtain ⟨aL, aM, fv⟩ := Kd.R_slice b4.out; subst fv; obtain ⟨e5, e6, e7, ee, ef, eg⟩ := CZ3 a3) | (go_at_call 12; (with_reducible refine (BR.impl_RollBasin.calls k2 ap aq _ _ ak (wrap64 (ft - 3)) (wrap64 (fu - 3)) bQ bR b3 hT _ ?s1 ?s2 n6.out).mono ?_); (case s1 => exact (RC (RF3T a0 ac (.int .i64 b1) (.int .i64 b2) (.slice aL aE.length aM)))); (case s2 => exact (Kd.R_reads' a0.out).2.1); rintro e mK ⟨mE, rfl, ho0, hb⟩; replace a0 := RFB a0 ac (.int .i64 b1) (.int .i64 b2) (.slice aL aE.length aM) hb; replace a2 := RFB a2 ac (.int .i64 b1) (.int .i64 b2) (.slice aL aE.length aM) hb; replace a1 := RFB a1 ac (.int .i64 b1) (.int .i64 b2) (.slice aL aE.length aM) hb; replace ai := RFB ai ac (.int .i64 b1) (.int .i64 b2) (.slice aL aE.length aM) hb; replace am := RFB am ac (.int .i64 b1) (.int .i64 b2) (.slice aL aE.length aM) hb; replace b4 := RFB b4 ac (.int .i64 b1) (.int .i64 b2) (.slice aL aE.length aM) hb; have dm := RN ho0 HB; replace ac := KPB ac (.int .i64 b1) (.int .i64 b2) (.slice aL aE.length aM) hb; replace a3 := KFB a3 hb; replace a4 := KFB a4 hb; replace a5 := KFB a5 hb; replace a6 := KFB a6 hb; replace ab := KFB ab hb; replace HB := BB HB hb; (try clear hb); (try clear ho0)) | ((with_reducible refine gate_dst (N := 21) rfl ?_); (try (refine gate_guard (by rfl) ?_; dsimp only)); refine boxM 21 #[.int .i64 0, .int .i64 0, .slice none 0 0] 26 ?_; intro gX hg mL hbox hb; have ae := AS (hbox); have ke := BG HB hg; have bb := KN a3 hg; have bf := KM a3 hg; have bo := KN a4 hg; have bB := KM a4 hg; have bq := KN a5 hg; have bC := KM a5 hg; have bs := KN a6 hg; have bD := KM a6 hg; have bu := KN ab hg; have bE := KM ab hg; have bA := KN ac hg; have bF := KM ac hg; replace a0 := RB a0 hb; replace a2 := RB a2 hb; replace a1 := RB a1 hb; replace ai := RB ai hb; replace am := RB am hb; replace b4 := RB b4 hb; replace dm := RB dm hb; replace a3 := KB a3 hb; replace a4 := KB a4 hb; replace a5 := KB a5 hb; replace a6 := KB a6 hb; replace ab := KB ab hb; replace ac := KB ac hb; replace HB := BB HB hb; clear hb hbox hg; have ih := bf.out; have j3 := bb.out; have ii := bB.out; have j4 := bo.out; have ij := bC.out; have j5 := bq.out; have ik := bD.out; have j6 := bs.out; have il := bE.out; have j7 := bu.out; have im := bF.out; have j8 := bA.out; obtain ⟨e8, e9, ea, eh, ei, ej⟩ := CZ3 ae; obtain ⟨bS, dj, fw⟩ := Kd.R_slice dm.out; subst fw))); (repeat (go_quiet (first | (go_at_call 11; (with_reducible refine (B0.laws_r8At.calls _ _ l1 40 7 ft _ ?s1 ?s2 n1.out).mono ?_); (case s1 => exact CS (Kd.C_below gU.out HB.out)); (case s2 => exact gT.out); rintro e pK ⟨rfl, hb⟩; replace a0 := RB a0 hb; replace a2 := RB a2 hb; replace a1 := RB a1 hb; replace a3 := KB a3 hb; replace a4 := KB a4 hb; replace a5 := KB a5 hb; replace HB := BB HB hb; (try clear hb)) | (go_at_call 11; (with_reducible refine (B0.laws_r8At.calls _ _ l1 41 7 fu _ ?s1 ?s2 n2.out).mono ?_); (case s1 => exact CS (Kd.C_below gU.out HB.out)); (case s2 => exact gT.out); rintro e pL ⟨rfl, hb⟩; replace a0 := RB a0 hb; replace a2 := RB a2 hb; replace a1 := RB a1 hb; replace a3 := KB a3 hb; replace a4 := KB a4 hb; replace a5 := KB a5 hb; replace HB := BB HB hb; (try clear hb); obtain ⟨eu, ev, ew, eV, eW, eX⟩ := CZ3 a3) | (go_at_call 24; (with_reducible refine (CF.impl_FlatBasin.calls k2 ap aq (floatOfInt .f32 (wrap64 (ft - 3))) bO bP bi k3 _ n3.out).mono ?_); rintro e pM ⟨mB, rfl, ho0, hb⟩; have ai := RN ho0 HB; replace a0 := RB a0 hb; replace a2 := RB a2 hb; replace a1 := RB a1 hb; replace a3 := KB a3 hb; replace a4 := KB a4 hb; replace a5 := KB a5 hb; replace HB := BB HB hb; (try clear hb); (try clear ho0)) | ((with_reducible refine gate_dst (N := 15) rfl ?_); (try (refine gate_guard (by rfl) ?_; dsimp only)); refine boxM 15 #[.int .i64 0, .int .i64 0, .slice none 0 0] 26 ?_; intro gV hg pN hbox hb; have a6 := AS (hbox); have kb := BG HB hg; have b8 := KN a3 hg; have bc := KM a3 hg; have bX := KN a4 hg; have cj := KM a4 hg; have cd := KN a5 hg; have ck := KM a5 hg; replace a0 := RB a0 hb; replace a2 := RB a2 hb; replace a1 := RB a1 hb; replace ai := RB ai hb; replace a3 := KB a3 hb; replace a4 := KB a4 hb; replace a5 := KB a5 hb; replace HB := BB HB hb; clear hb hbox hg; have kI := bc.out; have kU := b8.out; have kJ := cj.out; have kV := bX.out; have kK := ck.out; have kW := cd.out; obtain ⟨ex, ey, ez, eY, eZ, f0⟩ := CZ3 a6; obtain ⟨bK, bL, ia⟩ := Kd.R_slice ai.out; subst ia; obtain ⟨eA, eB, eC, f1, f2, f3⟩ := CZ3 a3) | (go_at_call 24; (with_reducible refine (CF.impl_FlatBasin.calls k2 ap aq (floatOfInt .f32 (wrap64 (fu - 3))) bj bk b5 k5 _ n4.out).mono ?_); rintro e pO ⟨mC, rfl, ho0, hb⟩; replace a0 := RFB a0 a6 (.int .i64 bO) (.int .i64 bP) (.slice bK bi.length bL) hb; replace a2 := RFB a2 a6 (.int .i64 bO) (.int .i64 bP) (.slice bK bi.length bL) hb; replace a1 := RFB a1 a6 (.int .i64 bO) (.int .i64 bP) (.slice bK bi.length bL) hb; replace ai := RFB ai a6 (.int .i64 bO) (.int .i64 bP) (.slice bK bi.length bL) hb; have am := RN ho0 HB; replace a6 := KPB a6 (.int .i64 bO) (.int .i64 bP) (.slice bK bi.length bL) hb; replace a3 := KFB a3 hb; replace a4 := KFB a4 hb; replace a5 := KFB a5 hb; replace HB := BB HB hb; (try clear hb); (try clear ho0)) | ((with_reducible refine gate_dst (N := 17) rfl ?_); (try (refine gate_guard (by rfl) ?_; dsimp only)); refine boxM 17 #[.int .i64 0, .int .i64 0, .slice none 0 0] 26 ?_; intro dk hg hL hbox hb; have ab := AS (hbox); have kc := BG HB hg; have b9 := KN a3 hg; have bd := KM a3 hg; have bY := KN a4 hg; have cq := KM a4 hg; have ce := KN a5 hg; have cr := KM a5 hg; have cl := KN a6 hg; have cs := KM a6 hg; replace a0 := RB a0 hb; replace a2 := RB a2 hb; replace a1 := RB a1 hb; replace ai := RB ai hb; replace am := RB am hb; replace a3 := KB a3 hb; replace a4 := KB a4 hb; replace a5 := KB a5 hb; replace a6 := KB a6 hb; replace HB := BB HB hb; clear hb hbox hg; have kL := bd.out; have kX := b9.out; have kM := cq.out; have kY := bY.out; have kN := cr.out; have kZ := ce.out; have kO := cs.out; have l2 := cl.out; obtain ⟨eD, eE, eF, f4, f5, f6⟩ := CZ3 ab; obtain ⟨bg, bh, ib⟩ := Kd.R_slice am.out; subst ib) | ((with_reducible refine gate_store (t := 26) (p := 17) rfl ?_); (try (rw [drewN_self hL]; generalize hq_ : World.drewN hL _ = hL; have l5 := AS (Kd.R_at hq_ a0.out); have l6 := AS (Kd.R_at hq_ a2.out); have l7 := AS (Kd.R_at hq_ a1.out); have l8 := AS (Kd.R_at hq_ ai.out); have l9 := AS (Kd.R_at hq_ am.out); have la := AS (blk_at hq_ a3.out); have lb := AS (blk_at hq_ a4.out); have lc := AS (blk_at hq_ a5.out); have ld := AS (blk_at hq_ a6.out); have lf := AS (blk_at hq_ ab.out); have dq := AS (below_at hq_ HB.out); clear hq_ a0 a2 a1 ai am a3 a4 a5 a6 ab HB; have a0 := l5; have a2 := l6; have a1 := l7; have ai := l8; have am := l9; have a3 := la; have a4 := lb; have a5 := lc; have a6 := ld; have ab := lf; have HB := dq; clear l5 l6 l7 l8 l9 la lb lc ld lf dq)); refine store_event (t := 26) (p := 17) (v := ?jK) (w1 := (((hL.setCell ⟨dk, 0, none⟩ (.int .i64 bj)).setCell ⟨dk, 1, none⟩ (.int .i64 bk)).setCell ⟨dk, 2, none⟩ (.slice bg b5.length bh))) ?hg ?ho ?hn ?hr ?_; (case ho => rfl); (case hg => rfl); (case hn => rfl); (case hr => first | (go_simp; done) | (go_simp; rfl)); intro n0 hw; replace a0 := RFW a0 ab (.int .i64 bj) (.int .i64 bk) (.slice bg b5.length bh) hw; replace a2 := RFW a2 ab (.int .i64 bj) (.int .i64 bk) (.slice bg b5.length bh) hw; replace a1 := RFW a1 ab (.int .i64 bj) (.int .i64 bk) (.slice bg b5.length bh) hw; replace ai := RFW ai ab (.int .i64 bj) (.int .i64 bk) (.slice bg b5.length bh) hw; replace am := RFW am ab (.int .i64 bj) (.int .i64 bk) (.slice bg b5.length bh) hw; replace a3 := KFW a3 hw; replace a4 := KFW a4 hw; replace a5 := KFW a5 hw; replace a6 := KFW a6 hw; replace ab := KPW ab (.int .i64 bj) (.int .i64 bk) (.slice bg b5.length bh) hw; have dq : Aside0 (Below w.heap.size w n0) := ⟨(by rw [hw]; exact (BW HB))⟩; replace HB := dq; clear hw; clear dq; obtain ⟨eG, eH, eI, f7, f8, f9⟩ := CZ3 a3; obtain ⟨eJ, eK, eL, fa, fb, fc⟩ := CZ3 a6; obtain ⟨eM, eN, eO, fd, fe, ff⟩ := CZ3 ab) | (go_at_call 23; (with_reducible refine (CD.impl_CarryBasin.calls k2 ap aq (fun k_ => some k_ = (.slice bG ak.length bH : Value).ownBlock) _ _ ak bO bP (fun k_ => some k_ = (.slice bK bi.length bL : Value).ownBlock) _ _ bi bj bk (fun k_ => some k_ = (.slice bg b5.length bh : Value).ownBlock) _ _ b5 1065353216 b1 b2 aE jI _ ?s1 ?s2 ?s3 n5.out).mono ?_); (case s1 => exact Kd.R_V (Kd.R_tight rfl (Kd.R_types (Kd.R_types (Kd.R_types (Kd.R_types (Kd.R_types (a0.out) a3.out (by decide)) a4.out (by decide)) a5.out (by decide)) a6.out (by decide)) ab.out (by decide)))); (case s2 => exact Kd.R_V (Kd.R_tight rfl (Kd.R_types (Kd.R_types (Kd.R_types (Kd.R_types (Kd.R_types (ai.out) a3.out (by decide)) a4.out (by decide)) a5.out (by decide)) a6.out (by decide)) ab.out (by decide)))); (case s3 => exact Kd.R_V (Kd.R_tight rfl (Kd.R_types (Kd.R_types (Kd.R_types (Kd.R_types (Kd.R_types (am.out) a3.out (by decide)) a4.out (by decide)) a5.out (by decide)) a6.out (by decide)) ab.out (by decide)))); rintro e pP ⟨mD, rfl, ho0, hb⟩; have b4 := RN ho0 HB; replace a0 := RB a0 hb; replace a2 := RB a2 hb; replace a1 := RB a1 hb; replace ai := RB ai hb; replace am := RB am hb; replace a3 := KB a3 hb; replace a4 := KB a4 hb; replace a5 := KB a5 hb; replace a6 := KB a6 hb; replace ab := KB ab hb; replace HB := BB HB hb; (try clear hb); (try clear ho0)) | ((with_reducible refine gate_dst (N := 19) rfl ?_); (try (refine gate_guard (by rfl) ?_; dsimp only)); refine boxM 19 #[.int .i64 0, .int .i64 0, .slice none 0 0] 26 ?_; intro gW hg pQ hbox hb; have ac := AS (hbox); have kd := BG HB hg; have ba := KN a3 hg; have be := KM a3 hg; have bn := KN a4 hg; have bv := KM a4 hg; have bp := KN a5 hg; have bw := KM a5 hg; have br := KN a6 hg; have bx := KM a6 hg; have bt := KN ab hg; have bz := KM ab hg; replace a0 := RB a0 hb; replace a2 := RB a2 hb; replace a1 := RB a1 hb; replace ai := RB ai hb; replace am := RB am hb; replace b4 := RB b4 hb; replace a3 := KB a3 hb; replace a4 := KB a4 hb; replace a5 := KB a5 hb; replace a6 := KB a6 hb; replace ab := KB ab hb; replace HB := BB HB hb; clear hb hbox hg; have kP := be.out; have l3 := ba.out; have kQ := bv.out; have l4 := bn.out; have ic := bw.out; have iY := bp.out; have ie := bx.out; have iZ := br.out; have ig := bz.out; have j1 := bt.out; obtain ⟨e2, e3, e4, eb, ec, ed⟩ := CZ3 ac; obtain ⟨aL, aM, fv⟩ := Kd.R_slice b4.out; subst fv; obtain ⟨e5, e6, e7, ee, ef, eg⟩ := CZ3 a3) | (go_at_call 12; (with_reducible refine (BR.impl_RollBasin.calls k2 ap aq _ _ ak (wrap64 (ft - 3)) (wrap64 (fu - 3)) bQ bR b3 hT _ ?s1 ?s2 n6.out).mono ?_); (case s1 => exact (RC (RF3T a0 ac (.int .i64 b1) (.int .i64 b2) (.slice aL aE.length aM)))); (case s2 => exact (Kd.R_reads' a0.out).2.1); rintro e mK ⟨mE, rfl, ho0, hb⟩; replace a0 := RFB a0 ac (.int .i64 b1) (.int .i64 b2) (.slice aL aE.length aM) hb; replace a2 := RFB a2 ac (.int .i64 b1) (.int .i64 b2) (.slice aL aE.length aM) hb; replace a1 := RFB a1 ac (.int .i64 b1) (.int .i64 b2) (.slice aL aE.length aM) hb; replace ai := RFB ai ac (.int .i64 b1) (.int .i64 b2) (.slice aL aE.length aM) hb; replace am := RFB am ac (.int .i64 b1) (.int .i64 b2) (.slice aL aE.length aM) hb; replace b4 := RFB b4 ac (.int .i64 b1) (.int .i64 b2) (.slice aL aE.length aM) hb; have dm := RN ho0 HB; replace ac := KPB ac (.int .i64 b1) (.int .i64 b2) (.slice aL aE.length aM) hb; replace a3 := KFB a3 hb; replace a4 := KFB a4 hb; replace a5 := KFB a5 hb; replace a6 := KFB a6 hb; replace ab := KFB ab hb; replace HB := BB HB hb; (try clear hb); (try clear ho0)) | ((with_reducible refine gate_dst (N := 21) rfl ?_); (try (refine gate_guard (by rfl) ?_; dsimp only)); refine boxM 21 #[.int .i64 0, .int .i64 0, .slice none 0 0] 26 ?_; intro gX hg mL hbox hb; have ae := AS (hbox); have ke := BG HB hg; have bb := KN a3 hg; have bf := KM a3 hg; have bo := KN a4 hg; have bB := KM a4 hg; have bq := KN a5 hg; have bC := KM a5 hg; have bs := KN a6 hg; have bD := KM a6 hg; have bu := KN ab hg; have bE := KM ab hg; have bA := KN ac hg; have bF := KM ac hg; replace a0 := RB a0 hb; replace a2 := RB a2 hb; replace a1 := RB a1 hb; replace ai := RB ai hb; replace am := RB am hb; replace b4 := RB b4 hb; replace dm := RB dm hb; replace a3 := KB a3 hb; replace a4 := KB a4 hb; replace a5 := KB a5 hb; replace a6 := KB a6 hb; replace ab := KB ab hb; replace ac := KB ac hb; replace HB := BB HB hb; clear hb hbox hg; have ih := bf.out; have j3 := bb.out; have ii := bB.out; have j4 := bo.out; have ij := bC.out; have j5 := bq.out; have ik := bD.out; have j6 := bs.out; have il := bE.out; have j7 := bu.out; have im := bF.out; have j8 := bA.out; obtain ⟨e8, e9, ea, eh, ei, ej⟩ := CZ3 ae; obtain ⟨bS, dj, fw⟩ := Kd.R_slice dm.out; subst fw)); go_upto_region 20 with (first | (go_at_call 11; (with_reducible refine (B0.laws_r8At.calls _ _ l1 40 7 ft _ ?s1 ?s2 n1.out).mono ?_); (case s1 => exact CS (Kd.C_below gU.out HB.out)); (case s2 => exact gT.out); rintro e pK ⟨rfl, hb⟩; replace a0 := RB a0 hb; replace a2 := RB a2 hb; replace a1 := RB a1 hb; replace a3 := KB a3 hb; replace a4 := KB a4 hb; replace a5 := KB a5 hb; replace HB := BB HB hb; (try clear hb)) | (go_at_call 11; (with_reducible refine (B0.laws_r8At.calls _ _ l1 41 7 fu _ ?s1 ?s2 n2.out).mono ?_); (case s1 => exact CS (Kd.C_below gU.out HB.out)); (case s2 => exact gT.out); rintro e pL ⟨rfl, hb⟩; replace a0 := RB a0 hb; replace a2 := RB a2 hb; replace a1 := RB a1 hb; replace a3 := KB a3 hb; replace a4 := KB a4 hb; replace a5 := KB a5 hb; replace HB := BB HB hb; (try clear hb); obtain ⟨eu, ev, ew, eV, eW, eX⟩ := CZ3 a3) | (go_at_call 24; (with_reducible refine (CF.impl_FlatBasin.calls k2 ap aq (floatOfInt .f32 (wrap64 (ft - 3))) bO bP bi k3 _ n3.out).mono ?_); rintro e pM ⟨mB, rfl, ho0, hb⟩; have ai := RN ho0 HB; replace a0 := RB a0 hb; replace a2 := RB a2 hb; replace a1 := RB a1 hb; replace a3 := KB a3 hb; replace a4 := KB a4 hb; replace a5 := KB a5 hb; replace HB := BB HB hb; (try clear hb); (try clear ho0)) | ((with_reducible refine gate_dst (N := 15) rfl ?_); (try (refine gate_guard (by rfl) ?_; dsimp only)); refine boxM 15 #[.int .i64 0, .int .i64 0, .slice none 0 0] 26 ?_; intro gV hg pN hbox hb; have a6 := AS (hbox); have kb := BG HB hg; have b8 := KN a3 hg; have bc := KM a3 hg; have bX := KN a4 hg; have cj := KM a4 hg; have cd := KN a5 hg; have ck := KM a5 hg; replace a0 := RB a0 hb; replace a2 := RB a2 hb; replace a1 := RB a1 hb; replace ai := RB ai hb; replace a3 := KB a3 hb; replace a4 := KB a4 hb; replace a5 := KB a5 hb; replace HB := BB HB hb; clear hb hbox hg; have kI := bc.out; have kU := b8.out; have kJ := cj.out; have kV := bX.out; have kK := ck.out; have kW := cd.out; obtain ⟨ex, ey, ez, eY, eZ, f0⟩ := CZ3 a6; obtain ⟨bK, bL, ia⟩ := Kd.R_slice ai.out; subst ia; obtain ⟨eA, eB, eC, f1, f2, f3⟩ := CZ3 a3) | (go_at_call 24; (with_reducible refine (CF.impl_FlatBasin.calls k2 ap aq (floatOfInt .f32 (wrap64 (fu - 3))) bj bk b5 k5 _ n4.out).mono ?_); rintro e pO ⟨mC, rfl, ho0, hb⟩; replace a0 := RFB a0 a6 (.int .i64 bO) (.int .i64 bP) (.slice bK bi.length bL) hb; replace a2 := RFB a2 a6 (.int .i64 bO) (.int .i64 bP) (.slice bK bi.length bL) hb; replace a1 := RFB a1 a6 (.int .i64 bO) (.int .i64 bP) (.slice bK bi.length bL) hb; replace ai := RFB ai a6 (.int .i64 bO) (.int .i64 bP) (.slice bK bi.length bL) hb; have am := RN ho0 HB; replace a6 := KPB a6 (.int .i64 bO) (.int .i64 bP) (.slice bK bi.length bL) hb; replace a3 := KFB a3 hb; replace a4 := KFB a4 hb; replace a5 := KFB a5 hb; replace HB := BB HB hb; (try clear hb); (try clear ho0)) | ((with_reducible refine gate_dst (N := 17) rfl ?_); (try (refine gate_guard (by rfl) ?_; dsimp only)); refine boxM 17 #[.int .i64 0, .int .i64 0, .slice none 0 0] 26 ?_; intro dk hg hL hbox hb; have ab := AS (hbox); have kc := BG HB hg; have b9 := KN a3 hg; have bd := KM a3 hg; have bY := KN a4 hg; have cq := KM a4 hg; have ce := KN a5 hg; have cr := KM a5 hg; have cl := KN a6 hg; have cs := KM a6 hg; replace a0 := RB a0 hb; replace a2 := RB a2 hb; replace a1 := RB a1 hb; replace ai := RB ai hb; replace am := RB am hb; replace a3 := KB a3 hb; replace a4 := KB a4 hb; replace a5 := KB a5 hb; replace a6 := KB a6 hb; replace HB := BB HB hb; clear hb hbox hg; have kL := bd.out; have kX := b9.out; have kM := cq.out; have kY := bY.out; have kN := cr.out; have kZ := ce.out; have kO := cs.out; have l2 := cl.out; obtain ⟨eD, eE, eF, f4, f5, f6⟩ := CZ3 ab; obtain ⟨bg, bh, ib⟩ := Kd.R_slice am.out; subst ib) | ((with_reducible refine gate_store (t := 26) (p := 17) rfl ?_); (try (rw [drewN_self hL]; generalize hq_ : World.drewN hL _ = hL; have l5 := AS (Kd.R_at hq_ a0.out); have l6 := AS (Kd.R_at hq_ a2.out); have l7 := AS (Kd.R_at hq_ a1.out); have l8 := AS (Kd.R_at hq_ ai.out); have l9 := AS (Kd.R_at hq_ am.out); have la := AS (blk_at hq_ a3.out); have lb := AS (blk_at hq_ a4.out); have lc := AS (blk_at hq_ a5.out); have ld := AS (blk_at hq_ a6.out); have lf := AS (blk_at hq_ ab.out); have dq := AS (below_at hq_ HB.out); clear hq_ a0 a2 a1 ai am a3 a4 a5 a6 ab HB; have a0 := l5; have a2 := l6; have a1 := l7; have ai := l8; have am := l9; have a3 := la; have a4 := lb; have a5 := lc; have a6 := ld; have ab := lf; have HB := dq; clear l5 l6 l7 l8 l9 la lb lc ld lf dq)); refine store_event (t := 26) (p := 17) (v := ?jK) (w1 := (((hL.setCell ⟨dk, 0, none⟩ (.int .i64 bj)).setCell ⟨dk, 1, none⟩ (.int .i64 bk)).setCell ⟨dk, 2, none⟩ (.slice bg b5.length bh))) ?hg ?ho ?hn ?hr ?_; (case ho => rfl); (case hg => rfl); (case hn => rfl); (case hr => first | (go_simp; done) | (go_simp; rfl)); intro n0 hw; replace a0 := RFW a0 ab (.int .i64 bj) (.int .i64 bk) (.slice bg b5.length bh) hw; replace a2 := RFW a2 ab (.int .i64 bj) (.int .i64 bk) (.slice bg b5.length bh) hw; replace a1 := RFW a1 ab (.int .i64 bj) (.int .i64 bk) (.slice bg b5.length bh) hw; replace ai := RFW ai ab (.int .i64 bj) (.int .i64 bk) (.slice bg b5.length bh) hw; replace am := RFW am ab (.int .i64 bj) (.int .i64 bk) (.slice bg b5.length bh) hw; replace a3 := KFW a3 hw; replace a4 := KFW a4 hw; replace a5 := KFW a5 hw; replace a6 := KFW a6 hw; replace ab := KPW ab (.int .i64 bj) (.int .i64 bk) (.slice bg b5.length bh) hw; have dq : Aside0 (Below w.heap.size w n0) := ⟨(by rw [hw]; exact (BW HB))⟩; replace HB := dq; clear hw; clear dq; obtain ⟨eG, eH, eI, f7, f8, f9⟩ := CZ3 a3; obtain ⟨eJ, eK, eL, fa, fb, fc⟩ := CZ3 a6; obtain ⟨eM, eN, eO, fd, fe, ff⟩ := CZ3 ab) | (go_at_call 23; (with_reducible refine (CD.impl_CarryBasin.calls k2 ap aq (fun k_ => some k_ = (.slice bG ak.length bH : Value).ownBlock) _ _ ak bO bP (fun k_ => some k_ = (.slice bK bi.length bL : Value).ownBlock) _ _ bi bj bk (fun k_ => some k_ = (.slice bg b5.length bh : Value).ownBlock) _ _ b5 1065353216 b1 b2 aE jI _ ?s1 ?s2 ?s3 n5.out).mono ?_); (case s1 => exact Kd.R_V (Kd.R_tight rfl (Kd.R_types (Kd.R_types (Kd.R_types (Kd.R_types (Kd.R_types (a0.out) a3.out (by decide)) a4.out (by decide)) a5.out (by decide)) a6.out (by decide)) ab.out (by decide)))); (case s2 => exact Kd.R_V (Kd.R_tight rfl (Kd.R_types (Kd.R_types (Kd.R_types (Kd.R_types (Kd.R_types (ai.out) a3.out (by decide)) a4.out (by decide)) a5.out (by decide)) a6.out (by decide)) ab.out (by decide)))); (case s3 => exact Kd.R_V (Kd.R_tight rfl (Kd.R_types (Kd.R_types (Kd.R_types (Kd.R_types (Kd.R_types (am.out) a3.out (by decide)) a4.out (by decide)) a5.out (by decide)) a6.out (by decide)) ab.out (by decide)))); rintro e pP ⟨mD, rfl, ho0, hb⟩; have b4 := RN ho0 HB; replace a0 := RB a0 hb; replace a2 := RB a2 hb; replace a1 := RB a1 hb; replace ai := RB ai hb; replace am := RB am hb; replace a3 := KB a3 hb; replace a4 := KB a4 hb; replace a5 := KB a5 hb; replace a6 := KB a6 hb; replace ab := KB ab hb; replace HB := BB HB hb; (try clear hb); (try clear ho0)) | ((with_reducible refine gate_dst (N := 19) rfl ?_); (try (refine gate_guard (by rfl) ?_; dsimp only)); refine boxM 19 #[.int .i64 0, .int .i64 0, .slice none 0 0] 26 ?_; intro gW hg pQ hbox hb; have ac := AS (hbox); have kd := BG HB hg; have ba := KN a3 hg; have be := KM a3 hg; have bn := KN a4 hg; have bv := KM a4 hg; have bp := KN a5 hg; have bw := KM a5 hg; have br := KN a6 hg; have bx := KM a6 hg; have bt := KN ab hg; have bz := KM ab hg; replace a0 := RB a0 hb; replace a2 := RB a2 hb; replace a1 := RB a1 hb; replace ai := RB ai hb; replace am := RB am hb; replace b4 := RB b4 hb; replace a3 := KB a3 hb; replace a4 := KB a4 hb; replace a5 := KB a5 hb; replace a6 := KB a6 hb; replace ab := KB ab hb; replace HB := BB HB hb; clear hb hbox hg; have kP := be.out; have l3 := ba.out; have kQ := bv.out; have l4 := bn.out; have ic := bw.out; have iY := bp.out; have ie := bx.out; have iZ := br.out; have ig := bz.out; have j1 := bt.out; obtain ⟨e2, e3, e4, eb, ec, ed⟩ := CZ3 ac; obtain ⟨aL, aM, fv⟩ := Kd.R_slice b4.out; subst fv; obtain ⟨e5, e6, e7, ee, ef, eg⟩ := CZ3 a3) | (go_at_call 12; (with_reducible refine (BR.impl_RollBasin.calls k2 ap aq _ _ ak (wrap64 (ft - 3)) (wrap64 (fu - 3)) bQ bR b3 hT _ ?s1 ?s2 n6.out).mono ?_); (case s1 => exact (RC (RF3T a0 ac (.int .i64 b1) (.int .i64 b2) (.slice aL aE.length aM)))); (case s2 => exact (Kd.R_reads' a0.out).2.1); rintro e mK ⟨mE, rfl, ho0, hb⟩; replace a0 := RFB a0 ac (.int .i64 b1) (.int .i64 b2) (.slice aL aE.length aM) hb; replace a2 := RFB a2 ac (.int .i64 b1) (.int .i64 b2) (.slice aL aE.length aM) hb; replace a1 := RFB a1 ac (.int .i64 b1) (.int .i64 b2) (.slice aL aE.length aM) hb; replace ai := RFB ai ac (.int .i64 b1) (.int .i64 b2) (.slice aL aE.length aM) hb; replace am := RFB am ac (.int .i64 b1) (.int .i64 b2) (.slice aL aE.length aM) hb; replace b4 := RFB b4 ac (.int .i64 b1) (.int .i64 b2) (.slice aL aE.length aM) hb; have dm := RN ho0 HB; replace ac := KPB ac (.int .i64 b1) (.int .i64 b2) (.slice aL aE.length aM) hb; replace a3 := KFB a3 hb; replace a4 := KFB a4 hb; replace a5 := KFB a5 hb; replace a6 := KFB a6 hb; replace ab := KFB ab hb; replace HB := BB HB hb; (try clear hb); (try clear ho0)) | ((with_reducible refine gate_dst (N := 21) rfl ?_); (try (refine gate_guard (by rfl) ?_; dsimp only)); refine boxM 21 #[.int .i64 0, .int .i64 0, .slice none 0 0] 26 ?_; intro gX hg mL hbox hb; have ae := AS (hbox); have ke := BG HB hg; have bb := KN a3 hg; have bf := KM a3 hg; have bo := KN a4 hg; have bB := KM a4 hg; have bq := KN a5 hg; have bC := KM a5 hg; have bs := KN a6 hg; have bD := KM a6 hg; have bu := KN ab hg; have bE := KM ab hg; have bA := KN ac hg; have bF := KM ac hg; replace a0 := RB a0 hb; replace a2 := RB a2 hb; replace a1 := RB a1 hb; replace ai := RB ai hb; replace am := RB am hb; replace b4 := RB b4 hb; replace dm := RB dm hb; replace a3 := KB a3 hb; replace a4 := KB a4 hb; replace a5 := KB a5 hb; replace a6 := KB a6 hb; replace ab := KB ab hb; replace ac := KB ac hb; replace HB := BB HB hb; clear hb hbox hg; have ih := bf.out; have j3 := bb.out; have ii := bB.out; have j4 := bo.out; have ij := bC.out; have j5 := bq.out; have ik := bD.out; have j6 := bs.out; have il := bE.out; have j7 := bu.out; have im := bF.out; have j8 := bA.out; obtain ⟨e8, e9, ea, eh, ei, ej⟩ := CZ3 ae; obtain ⟨bS, dj, fw⟩ := Kd.R_slice dm.out; subst fw)))); (try simp only [Act.put, List.setIfInBounds_toArray, List.set_cons_zero, List.set_cons_succ]); go_cut [159] (fun p7 wc => ∃ (kq : Nat) (fh : Bool), p7 = .bool fh ∧ Aside0 (laws_FnCarried.j2 kq fh ap aq ak b1 b2 aE bQ bR b3 = some true) ∧ Aside0 (kq ≤ k2) ∧ Aside0 (Kd.R (Kd.float .f32) 32 wc w.heap.size (fun _ => True) (.slice bG ak.length bH) ak) ∧ Aside0 (Kd.R (Kd.float .f32) 32 wc w.heap.size (fun _ => True) (.slice bl aX.length bm) aX) ∧ Aside0 (Kd.R (Kd.float .f32) 32 wc w.heap.size (fun _ => True) (.slice ek aC.length el) aC) ∧ Aside0 (Kd.R (Kd.float .f32) 32 wc w.heap.size (fun _ => True) (.slice bK bi.length bL) bi) ∧ Aside0 (Kd.R (Kd.float .f32) 32 wc w.heap.size (fun _ => True) (.slice bg b5.length bh) b5) ∧ Aside0 (Kd.R (Kd.float .f32) 32 wc w.heap.size (fun _ => True) (.slice aL aE.length aM) aE) ∧ Aside0 (Kd.R (Kd.float .f32) 32 wc w.heap.size (fun _ => True) (.slice bS b3.length dj) b3) ∧ Aside0 (wc.heap[fo]? = some (.cells #[.int .i64 ap, .int .i64 aq, (.slice bG ak.length bH)] 26 (0, 0))) ∧ Aside0 (wc.heap[fp]? = some (.cells #[.int .i64 bI, .int .i64 bJ, (.slice bl aX.length bm)] 26 (0, 0))) ∧ Aside0 (wc.heap[fq]? = some (.cells #[.int .i64 dn, .int .i64 dp, (.slice ek aC.length el)] 26 (0, 0))) ∧ Aside0 (wc.heap[gV]? = some (.cells #[.int .i64 bO, .int .i64 bP, (.slice bK bi.length bL)] 26 (0, 0))) ∧ Aside0 (wc.heap[dk]? = some (.cells #[.int .i64 bj, .int .i64 bk, (.slice bg b5.length bh)] 26 (0, 0))) ∧ Aside0 (wc.heap[gW]? = some (.cells #[.int .i64 b1, .int .i64 b2, (.slice aL aE.length aM)] 26 (0, 0))) ∧ Aside0 (wc.heap[gX]? = some (.cells #[.int .i64 bQ, .int .i64 bR, (.slice bS b3.length dj)] 26 (0, 0))) ∧ Aside0 (Below w.heap.size w wc))
     case first =>
      have H := lq.out; clear lq; by_cases hN : k3 = true
      ·subst hN
       rw [if_pos rfl] at H; by_cases hO : k5 = true
       ·subst hO
        have H1 : (if jI = true then (laws_FnCarried.j2 k2 (!hT) ap aq ak b1 b2 aE bQ bR b3) else (laws_FnCarried.j2 k2 true ap aq ak b1 b2 aE bQ bR b3)) = some true := (by rw [if_pos rfl] at H; exact H); clear H; have H := H1; clear H1; by_cases hP : jI = true
        ·subst hP
         have H1 : (laws_FnCarried.j2 k2 (!hT) ap aq ak b1 b2 aE bQ bR b3) = some true := (by rw [if_pos rfl] at H; exact H); clear H; have H := H1; clear H1; have H' := AS H; clear H; go_wp2; (repeat (go_quiet (fail); try go_wp2)); go_meet
         case rel => exact ⟨_, (!hT), (by first | rfl | (simp; done) | (simp [*]; done)), H', ⟨by have := lN.out; have := lO.out; first | omega | exact Nat.le_refl _⟩, ⟨by (with_reducible repeat (first | apply Kd.R_alloc | apply Kd.R_drewN | apply Kd.R_drew)); exact (RF3T a0 ae (.int .i64 bQ) (.int .i64 bR) (.slice bS b3.length dj))⟩, ⟨by (with_reducible repeat (first | apply Kd.R_alloc | apply Kd.R_drewN | apply Kd.R_drew)); exact (RF3T a2 ae (.int .i64 bQ) (.int .i64 bR) (.slice bS b3.length dj))⟩, ⟨by (with_reducible repeat (first | apply Kd.R_alloc | apply Kd.R_drewN | apply Kd.R_drew)); exact (RF3T a1 ae (.int .i64 bQ) (.int .i64 bR) (.slice bS b3.length dj))⟩, ⟨by (with_reducible repeat (first | apply Kd.R_alloc | apply Kd.R_drewN | apply Kd.R_drew)); exact (RF3T ai ae (.int .i64 bQ) (.int .i64 bR) (.slice bS b3.length dj))⟩, ⟨by (with_reducible repeat (first | apply Kd.R_alloc | apply Kd.R_drewN | apply Kd.R_drew)); exact (RF3T am ae (.int .i64 bQ) (.int .i64 bR) (.slice bS b3.length dj))⟩, ⟨by (with_reducible repeat (first | apply Kd.R_alloc | apply Kd.R_drewN | apply Kd.R_drew)); exact (RF3T b4 ae (.int .i64 bQ) (.int .i64 bR) (.slice bS b3.length dj))⟩, ⟨by (with_reducible repeat (first | apply Kd.R_alloc | apply Kd.R_drewN | apply Kd.R_drew)); exact (RF3T dm ae (.int .i64 bQ) (.int .i64 bR) (.slice bS b3.length dj))⟩, ⟨KF a3⟩, ⟨KF a4⟩, ⟨KF a5⟩, ⟨KF a6⟩, ⟨KF ab⟩, ⟨KF ac⟩, ⟨KP3 ae⟩, ⟨BW HB⟩⟩
        replace hP := Bool.eq_false_iff.mpr hP
        subst hP; have H1 : (laws_FnCarried.j2 k2 true ap aq ak b1 b2 aE bQ bR b3) = some true := (by rw [if_neg (show ¬ (false = true) by decide)] at H; exact H); clear H; have H := H1; clear H1; exact (FnCarried_j2_no H).elim
       replace hO := Bool.eq_false_iff.mpr hO
       subst hO; have H1 : (laws_FnCarried.j2 k2 true ap aq ak b1 b2 aE bQ bR b3) = some true := (by rw [if_neg (show ¬ (false = true) by decide)] at H; exact H); clear H; have H := H1; clear H1; exact (FnCarried_j2_no H).elim
      replace hN := Bool.eq_false_iff.mpr hN
      subst hN; have H1 : (laws_FnCarried.j2 k2 true ap aq ak b1 b2 aE bQ bR b3) = some true := (by rw [if_neg (show ¬ (false = true) by decide)] at H; exact H); clear H; have H := H1; clear H1; exact (FnCarried_j2_no H).elim
     case rest =>
      clear lq; (try clear c1); (try clear p1); (try clear q1); (try clear qf); (try clear c2); (try clear p2); (try clear c3); (try clear c4); (try clear c5); (try clear c6); (try clear p6); (try clear c7); (try clear c8); (try clear c9); (try clear pR); (try clear pS); (try clear p12); (try clear q12); (try clear oU); (try clear nn); (try clear nC); (try clear nD); (try clear kj); (try clear kk); (try clear nE); (try clear nF); (try clear nG); (try clear lC); (try clear kl); (try clear i0); (try clear lK); (try clear km); (try clear lL); (try clear kn); (try clear lD); (try clear ko); (try clear kp); (try clear lE); (try clear kr); (try clear ks); (try clear lF); (try clear kt); (try clear ku); (try clear hR); (try clear i1); (try clear i2); (try clear i3); (try clear pT); (try clear pU); (try clear pV); (try clear pW); (try clear kv); (try clear lG); (try clear kw); (try clear kx); (try clear lH); (try clear ky); (try clear kz); (try clear hS); (try clear i4); (try clear i5); (try clear i6); (try clear pX); (try clear pY); (try clear pZ); (try clear q0); (try clear q2); (try clear q3); (try clear p64); (try clear q4); (try clear q5); (try clear q6); (try clear q7); (try clear q8); (try clear q9); (try clear qa); (try clear qb); (try clear qc); (try clear qd); (try clear qe); (try clear n8); (try clear n9); (try clear na); (try clear nb); (try clear nc); (try clear nf); (try clear ng); (try clear nh); (try clear ni); (try clear hN); (try clear hO); (try clear hP); (try clear e2 e3 e4 e5 e6 e7 e8 e9 ea dr ds dt du dv dw dx dy dz dA dB dC dD dE dF dG dH dI en eo ep er es et gY gZ h0 h1 h2 h3 h4 h5 h6 h7 h8 h9 ha hc hd he hf hh hi hj hk eu ev ew ex ey ez eA eB eC eD eE eF eG eH eI eJ eK eL eM eN eO eb ec ed ee ef eg eh ei ej dJ dK dL dM dN dO dP dQ dR dS dT dU dV dW dX dY dZ e0 eP eQ eR eS eT eU hl hm hp hq hs ht hv hx hy hz hA hB hC hD hE hF hG hH hI hJ hK eV eW eX eY eZ f0 f1 f2 f3 f4 f5 f6 f7 f8 f9 fa fb fc fd fe ff); (try clear fg); (try clear fs); (try clear p124); (try clear p125); (try clear p2); (try clear q124); (try clear q125); obtain ⟨kq, fh, rfl, HA, lM, a0, a2, a1, a9, aa, a7, a8, a3, a4, a5, a6, ab, ac, ae, HB⟩ := hcut; cases kq with
      | zero => exact absurd HA.out (by simp [laws_FnCarried.j2])
      | succ lI =>
       have H := HA.out; clear HA; simp only [laws_FnCarried.j2] at H; by_cases hU : fh = true
       ·subst hU
        have H1 : (some false) = some true := (by rw [if_pos rfl] at H; exact H); clear H; have H := H1; clear H1; exact absurd (Option.some.inj H) (by decide)
       replace hU := Bool.eq_false_iff.mpr hU
       subst hU; have H1 : (laws_FnCarried.l1 lI 0 ap aq ak b1 b2 aE bQ bR b3) = some true := (by rw [if_neg (show ¬ (false = true) by decide)] at H; exact H); clear H; have H := H1; clear H1; have H' := AS H; clear H; go_wp2; (repeat (go_quiet (fail); try go_wp2)); go_loopg [23] lI (fun kq qh w' => ∃ (az : Int), qh = .int .i64 az ∧ Aside0 (laws_FnCarried.l1 kq az ap aq ak b1 b2 aE bQ bR b3 = some true) ∧ Aside0 (kq ≤ lI) ∧ Aside0 (Kd.R (Kd.float .f32) 32 w' w.heap.size (fun _ => True) (.slice bG ak.length bH) ak) ∧ Aside0 (Kd.R (Kd.float .f32) 32 w' w.heap.size (fun _ => True) (.slice bl aX.length bm) aX) ∧ Aside0 (Kd.R (Kd.float .f32) 32 w' w.heap.size (fun _ => True) (.slice ek aC.length el) aC) ∧ Aside0 (Kd.R (Kd.float .f32) 32 w' w.heap.size (fun _ => True) (.slice bK bi.length bL) bi) ∧ Aside0 (Kd.R (Kd.float .f32) 32 w' w.heap.size (fun _ => True) (.slice bg b5.length bh) b5) ∧ Aside0 (Kd.R (Kd.float .f32) 32 w' w.heap.size (fun _ => True) (.slice aL aE.length aM) aE) ∧ Aside0 (Kd.R (Kd.float .f32) 32 w' w.heap.size (fun _ => True) (.slice bS b3.length dj) b3) ∧ Aside0 (w'.heap[fo]? = some (.cells #[.int .i64 ap, .int .i64 aq, (.slice bG ak.length bH)] 26 (0, 0))) ∧ Aside0 (w'.heap[fp]? = some (.cells #[.int .i64 bI, .int .i64 bJ, (.slice bl aX.length bm)] 26 (0, 0))) ∧ Aside0 (w'.heap[fq]? = some (.cells #[.int .i64 dn, .int .i64 dp, (.slice ek aC.length el)] 26 (0, 0))) ∧ Aside0 (w'.heap[gV]? = some (.cells #[.int .i64 bO, .int .i64 bP, (.slice bK bi.length bL)] 26 (0, 0))) ∧ Aside0 (w'.heap[dk]? = some (.cells #[.int .i64 bj, .int .i64 bk, (.slice bg b5.length bh)] 26 (0, 0))) ∧ Aside0 (w'.heap[gW]? = some (.cells #[.int .i64 b1, .int .i64 b2, (.slice aL aE.length aM)] 26 (0, 0))) ∧ Aside0 (w'.heap[gX]? = some (.cells #[.int .i64 bQ, .int .i64 bR, (.slice bS b3.length dj)] 26 (0, 0))) ∧ Aside0 (Below w.heap.size w w'))
       case atStart => exact ⟨(0), (by first | rfl | (simp; done) | (simp [*]; done)), H', ⟨Nat.le_refl _⟩, ⟨RS a0.out⟩, ⟨RS a2.out⟩, ⟨RS a1.out⟩, ⟨RS a9.out⟩, ⟨RS aa.out⟩, ⟨RS a7.out⟩, ⟨RS a8.out⟩, ⟨KS a3.out⟩, ⟨KS a4.out⟩, ⟨KS a5.out⟩, ⟨KS a6.out⟩, ⟨KS ab.out⟩, ⟨KS ac.out⟩, ⟨KS ae.out⟩, ⟨BW HB⟩⟩
       case round =>
        clear H'; (try clear c1); (try clear p1); (try clear q1); (try clear qf); (try clear c2); (try clear p2); (try clear c3); (try clear c4); (try clear c5); (try clear c6); (try clear p6); (try clear c7); (try clear c8); (try clear c9); (try clear pR); (try clear pS); (try clear p12); (try clear q12); (try clear oU); (try clear nn); (try clear nC); (try clear nD); (try clear kj); (try clear kk); (try clear nE); (try clear nF); (try clear nG); (try clear lC); (try clear kl); (try clear i0); (try clear lK); (try clear km); (try clear lL); (try clear kn); (try clear lD); (try clear ko); (try clear kp); (try clear lE); (try clear kr); (try clear ks); (try clear lF); (try clear kt); (try clear ku); (try clear hR); (try clear i1); (try clear i2); (try clear i3); (try clear pT); (try clear pU); (try clear pV); (try clear pW); (try clear kv); (try clear lG); (try clear kw); (try clear kx); (try clear lH); (try clear ky); (try clear kz); (try clear hS); (try clear i4); (try clear i5); (try clear i6); (try clear pX); (try clear pY); (try clear pZ); (try clear q0); (try clear q2); (try clear q3); (try clear p64); (try clear q4); (try clear q5); (try clear q6); (try clear q7); (try clear q8); (try clear q9); (try clear qa); (try clear qb); (try clear qc); (try clear qd); (try clear qe); (try clear n8); (try clear n9); (try clear na); (try clear nb); (try clear nc); (try clear nf); (try clear ng); (try clear nh); (try clear ni); (try clear hN); (try clear hO); (try clear hP); (try clear hU); (try clear e2 e3 e4 e5 e6 e7 e8 e9 ea dr ds dt du dv dw dx dy dz dA dB dC dD dE dF dG dH dI en eo ep er es et gY gZ h0 h1 h2 h3 h4 h5 h6 h7 h8 h9 ha hc hd he hf hh hi hj hk eu ev ew ex ey ez eA eB eC eD eE eF eG eH eI eJ eK eL eM eN eO eb ec ed ee ef eg eh ei ej dJ dK dL dM dN dO dP dQ dR dS dT dU dV dW dX dY dZ e0 eP eQ eR eS eT eU hl hm hp hq hs ht hv hx hy hz hA hB hC hD hE hF hG hH hI hJ hK eV eW eX eY eZ f0 f1 f2 f3 f4 f5 f6 f7 f8 f9 fa fb fc fd fe ff); (try clear fg); (try clear fs); (try clear p1); (try clear p12); (try clear p124); (try clear p125); (try clear p2); (try clear p6); (try clear p64); (try clear q1); (try clear q12); (try clear q124); (try clear q125); obtain ⟨az, rfl, HA, p8, a0, a2, a1, a9, aa, a7, a8, a3, a4, a5, a6, ab, ac, ae, HB⟩ := hrel; cases gk with
        | zero => exact absurd HA.out (by simp [laws_FnCarried.l1])
        | succ k4 =>
         have H := HA.out; clear HA; simp only [laws_FnCarried.l1] at H; by_cases hQ : az < (ak.length : Int)
         ·rw [if_pos hQ] at H
          have lr : decide (az < (ak.length : Int)) = true := decide_eq_true hQ; clear hQ; by_cases jN : 0 ≤ az
          ·rw [if_pos jN] at H
           have nj : decide (0 ≤ az) = true := decide_eq_true jN; clear jN; by_cases jO : az < (aE.length : Int)
           ·rw [if_pos jO] at H
            have nk : decide (az < (aE.length : Int)) = true := decide_eq_true jO; clear jO; by_cases jP : az < (b3.length : Int)
            ·rw [if_pos jP] at H
             have nl : decide (az < (b3.length : Int)) = true := decide_eq_true jP; clear jP; by_cases fj : (FloatKind.f32.format.order (rdOf (0 : Nat) aE az) (rdOf (0 : Nat) b3 az) != some .eq) = true
             ·rw [if_pos fj] at H
              have ls : (FloatKind.f32.format.order (rdOf (0 : Nat) aE az) (rdOf (0 : Nat) b3 az) != some .eq) = true := fj; (try (have lu : decide (FloatKind.f32.format.order (rdOf (0 : Nat) aE az) (rdOf (0 : Nat) b3 az) = some .eq) = false := by simpa using fj)); (try (have lv : (FloatKind.f32.format.order (rdOf (0 : Nat) aE az) (rdOf (0 : Nat) b3 az) == some .eq) = false := by simpa using fj)); (try (have nm : ¬ (FloatKind.f32.format.order (rdOf (0 : Nat) aE az) (rdOf (0 : Nat) b3 az) = some .eq) := by simpa using fj)); clear fj; have fi := AS (Option.some.inj H); clear H; have nH := aH.out; have oi := aJ.out; have nI := aI.out; have oj := aK.out; have nJ := b8.out; have ok := bc.out; have nK := b9.out; have ol := bd.out; have nL := ba.out; have om := be.out; have nM := bb.out; have oo := bf.out; obtain ⟨lP, lQ, lR, ma, mb, mc⟩ := CZ3 a3; have nN := bv.out; have op := bn.out; have nO := bw.out; have oq := bp.out; have nP := bx.out; have os := br.out; have nQ := bz.out; have ot := bt.out; have nR := bA.out; have ou := bF.out; obtain ⟨lS, lT, lU, md, mf, mg⟩ := CZ3 ac; have p156 : 0 ≤ (az : Int) := of_decide_eq_true (by first | (with_reducible assumption) | assumption); have q156 : az < (aE.length : Int) := of_decide_eq_true (by first | (with_reducible assumption) | assumption); obtain ⟨ad156, e156, jZ⟩ := Kd.at_float (Kd.R_reads' a7.out).2.2 az p156 q156; cases e156; replace p156 := eq_true p156; replace q156 := eq_true q156; have nS := bB.out; have ov := bo.out; have nT := bC.out; have ow := bq.out; have nU := bD.out; have ox := bs.out; have nV := bE.out; have oy := bu.out; obtain ⟨lV, lW, lX, mh, mi, mj⟩ := CZ3 ae; have p157 : 0 ≤ (az : Int) := of_decide_eq_true (by first | (with_reducible assumption) | assumption); have q157 : az < (b3.length : Int) := of_decide_eq_true (by first | (with_reducible assumption) | assumption); obtain ⟨ad157, e157, k0⟩ := Kd.at_float (Kd.R_reads' a8.out).2.2 az p157 q157; cases e157; replace p157 := eq_true p157; replace q157 := eq_true q157; go_wp2; (repeat (go_quiet (fail); try go_wp2)); go_ret; exact ⟨by first | (refine Eq.trans ?_ (congrArg (fun b => Ending.returned (Value.bool b)) fi.out); rfl) | (rw [fi.out]) | (have h_ := fi.out; simp at h_; simp [h_]; done) | (have h_ := fi.out; simp at h_; subst h_; rfl) | (simp [fi.out]; done) | rfl | (simp [errW_none, errW_some] <;> rfl) | (simp [*, errW_none, errW_some] <;> rfl), BW HB⟩
             rw [if_neg fj] at H
             have ls : (FloatKind.f32.format.order (rdOf (0 : Nat) aE az) (rdOf (0 : Nat) b3 az) != some .eq) = false := (by simpa using fj); (try (have lu : decide (FloatKind.f32.format.order (rdOf (0 : Nat) aE az) (rdOf (0 : Nat) b3 az) = some .eq) = true := by simpa using fj)); (try (have lv : (FloatKind.f32.format.order (rdOf (0 : Nat) aE az) (rdOf (0 : Nat) b3 az) == some .eq) = true := by simpa using fj)); clear fj; have H' := AS H; clear H; have nW := aH.out; have oz := aJ.out; have nX := aI.out; have oA := aK.out; have nY := b8.out; have oB := bc.out; have nZ := b9.out; have oC := bd.out; have o0 := ba.out; have oD := be.out; have o1 := bb.out; have oE := bf.out; obtain ⟨lY, lZ, m0, ml, mm, mn⟩ := CZ3 a3; have o2 := bv.out; have oF := bn.out; have o3 := bw.out; have oG := bp.out; have o4 := bx.out; have oH := br.out; have o5 := bz.out; have oI := bt.out; have o6 := bA.out; have oJ := bF.out; obtain ⟨m1, m2, m3, mo, mp, mq⟩ := CZ3 ac; have p156 : 0 ≤ (az : Int) := of_decide_eq_true (by first | (with_reducible assumption) | assumption); have q156 : az < (aE.length : Int) := of_decide_eq_true (by first | (with_reducible assumption) | assumption); obtain ⟨ad156, e156, jZ⟩ := Kd.at_float (Kd.R_reads' a7.out).2.2 az p156 q156; cases e156; replace p156 := eq_true p156; replace q156 := eq_true q156; have o7 := bB.out; have oK := bo.out; have o8 := bC.out; have oL := bq.out; have o9 := bD.out; have oM := bs.out; have oa := bE.out; have oN := bu.out; obtain ⟨m4, m5, m6, mr, ms, mt⟩ := CZ3 ae; have p157 : 0 ≤ (az : Int) := of_decide_eq_true (by first | (with_reducible assumption) | assumption); have q157 : az < (b3.length : Int) := of_decide_eq_true (by first | (with_reducible assumption) | assumption); obtain ⟨ad157, e157, k0⟩ := Kd.at_float (Kd.R_reads' a8.out).2.2 az p157 q157; cases e157; replace p157 := eq_true p157; replace q157 := eq_true q157; go_wp2; (repeat (go_quiet (fail); try go_wp2)); go_roundg k4
             case measure => have := lN.out; have := lO.out; have := lM.out; have := p8.out; omega
             case rel => exact ⟨(wrap64 (az + 1)), (by first | rfl | (simp; done) | (simp [*]; done)), H', ⟨by have := lN.out; have := lO.out; have := lM.out; have := p8.out; omega⟩, ⟨RS a0.out⟩, ⟨RS a2.out⟩, ⟨RS a1.out⟩, ⟨RS a9.out⟩, ⟨RS aa.out⟩, ⟨RS a7.out⟩, ⟨RS a8.out⟩, ⟨KS a3.out⟩, ⟨KS a4.out⟩, ⟨KS a5.out⟩, ⟨KS a6.out⟩, ⟨KS ab.out⟩, ⟨KS ac.out⟩, ⟨KS ae.out⟩, ⟨BW HB⟩⟩
            rw [if_neg jP] at H
            exact absurd H (by simp)
           rw [if_neg jO] at H
           exact absurd H (by simp)
          rw [if_neg jN] at H
          exact absurd H (by simp)
         rw [if_neg hQ] at H
         have lr : decide (az < (ak.length : Int)) = false := decide_eq_false hQ; clear hQ; replace H := OB H; obtain ⟨⟨aY, aZ, b0, oW⟩, lg, H⟩ := H; (try dsimp only at H); replace H := OB H; obtain ⟨⟨gR, oX⟩, lh, H⟩ := H; (try dsimp only at H); replace H := OB H; obtain ⟨⟨gS, oY⟩, li, H⟩ := H; (try dsimp only at H); replace H := OB H; obtain ⟨⟨e1, oZ⟩, lj, H⟩ := H; (try dsimp only at H); replace H := OB H; obtain ⟨⟨em, p0⟩, lk, H⟩ := H; (try dsimp only at H); replace H := OB H; obtain ⟨⟨aU, aV, aW, jJ, p3⟩, ll, H⟩ := H; (try dsimp only at H); replace H := OB H; obtain ⟨⟨aN, aO, aP, p4⟩, lm, H⟩ := H; (try dsimp only at H); replace H := OB H; obtain ⟨⟨aQ, aR, aS, p5⟩, ln, H⟩ := H; (try dsimp only at H); by_cases jQ : oW = true
         ·subst jQ
          rw [if_pos rfl] at H; by_cases jR : oX = true
          ·subst jR
           rw [if_pos rfl] at H; by_cases jS : oY = true
           ·subst jS
            rw [if_pos rfl] at H; by_cases jT : oZ = true
            ·subst jT
             rw [if_pos rfl] at H; by_cases jU : p0 = true
             ·subst jU
              rw [if_pos rfl] at H; by_cases jV : p3 = true
              ·subst jV
               rw [if_pos rfl] at H; by_cases jW : p4 = true
               ·subst jW
                rw [if_pos rfl] at H; by_cases jX : p5 = true
                ·subst jX
                 rw [if_pos rfl] at H; by_cases hV : cok .f32 gR .f64 = true
                 ·rw [if_pos hV] at H
                  have np := eq_true hV; have nq : decide (cok .f32 gR .f64 = true) = true := decide_eq_true hV; clear hV; by_cases hW : cok .f32 gS .f64 = true
                  ·rw [if_pos hW] at H
                   have nr := eq_true hW; have ns : decide (cok .f32 gS .f64 = true) = true := decide_eq_true hW; clear hW; replace H := OB H; obtain ⟨fn, lo, H⟩ := H; (try dsimp only at H); by_cases fk : (FloatKind.f64.format.order fn 4576918229304087675 == some .lt) = true
                   ·rw [if_pos fk] at H
                    have lw : (FloatKind.f64.format.order fn 4576918229304087675 == some .lt) = true := fk; (try (have lx : decide (FloatKind.f64.format.order fn 4576918229304087675 = some .lt) = true := by simpa using fk)); (try (have ly : (FloatKind.f64.format.order fn 4576918229304087675 == some .lt) = true := by simpa using fk)); clear fk; by_cases hX : cok .f32 em .f64 = true
                    ·rw [if_pos hX] at H
                     have nv := eq_true hX; have nw : decide (cok .f32 em .f64 = true) = true := decide_eq_true hX; clear hX; by_cases hY : cok .f32 e1 .f64 = true
                     ·rw [if_pos hY] at H
                      have nx := eq_true hY; have ny : decide (cok .f32 e1 .f64 = true) = true := decide_eq_true hY; clear hY; by_cases hZ : fok .add .f64 (cvt .f32 e1 .f64) 4576918229304087675 = true
                      ·rw [if_pos hZ] at H
                       have nz := eq_true hZ; have nA : decide (fok .add .f64 (cvt .f32 e1 .f64) 4576918229304087675 = true) = true := decide_eq_true hZ; clear hZ; by_cases fm : (FloatKind.f64.format.order (cvt .f32 em .f64) (fop .add .f64 (cvt .f32 e1 .f64) 4576918229304087675) == some .lt) = true
                       ·rw [if_pos fm] at H
                        have lz : (FloatKind.f64.format.order (cvt .f32 em .f64) (fop .add .f64 (cvt .f32 e1 .f64) 4576918229304087675) == some .lt) = true := fm; (try (have lA : decide (FloatKind.f64.format.order (cvt .f32 em .f64) (fop .add .f64 (cvt .f32 e1 .f64) 4576918229304087675) = some .lt) = true := by simpa using fm)); (try (have lB : (FloatKind.f64.format.order (cvt .f32 em .f64) (fop .add .f64 (cvt .f32 e1 .f64) 4576918229304087675) == some .lt) = true := by simpa using fm)); clear fm; replace H := OC H; obtain ⟨mx, k6, H⟩ := H; replace H : (if mx = true then (some ((jJ.length : Int) == 2)) else (some false)) = some true := H; have lp := AS k6; clear k6; by_cases jY : mx = true
                        ·subst jY
                         have H1 : (some ((jJ.length : Int) == 2)) = some true := (by rw [if_pos rfl] at H; exact H); clear H; have H := H1; clear H1; have fi := AS (Option.some.inj H); clear H; have ob := aH.out; have oO := aJ.out; have oc := aI.out; have oP := aK.out; have od := b8.out; have oQ := bc.out; have oe := b9.out; have oR := bd.out; have og := ba.out; have oS := be.out; have oh := bb.out; have oT := bf.out; obtain ⟨m7, m8, m9, mu, mv, mw⟩ := CZ3 a3; go_wp2_with (first | (go_at_call 25; (with_reducible refine (CS.impl_SpreadBasin.calls k4 ap aq _ _ ak 1040187392 3 aY aZ b0 true _ ?s1 ?s2 lg.out).mono ?_); (case s1 => exact CS (Kd.R_reads' a0.out).2.2); (case s2 => exact (Kd.R_reads' a0.out).2.1); rintro e mM ⟨mF, rfl, ho0, hb⟩; have af := RN ho0 HB; replace a0 := RB a0 hb; replace a2 := RB a2 hb; replace a1 := RB a1 hb; replace a9 := RB a9 hb; replace aa := RB aa hb; replace a7 := RB a7 hb; replace a8 := RB a8 hb; replace a3 := KB a3 hb; replace a4 := KB a4 hb; replace a5 := KB a5 hb; replace a6 := KB a6 hb; replace ab := KB ab hb; replace ac := KB ac hb; replace ae := KB ae hb; replace HB := BB HB hb; (try clear hb); (try clear ho0)) | ((with_reducible refine gate_dst (N := 24) rfl ?_); (try (refine gate_guard (by rfl) ?_; dsimp only)); refine boxM 24 #[.int .i64 0, .int .i64 0, .slice none 0 0] 26 ?_; intro kB hg mN hbox hb; have ad := AS (hbox); have kf := BG HB hg; have bT := KN a3 hg; have cF := KM a3 hg; have bZ := KN a4 hg; have cG := KM a4 hg; have cf := KN a5 hg; have cH := KM a5 hg; have cm := KN a6 hg; have cI := KM a6 hg; have ct := KN ab hg; have cJ := KM ab hg; have cx := KN ac hg; have cK := KM ac hg; have cB := KN ae hg; have cL := KM ae hg; replace a0 := RB a0 hb; replace a2 := RB a2 hb; replace a1 := RB a1 hb; replace a9 := RB a9 hb; replace aa := RB aa hb; replace a7 := RB a7 hb; replace a8 := RB a8 hb; replace af := RB af hb; replace a3 := KB a3 hb; replace a4 := KB a4 hb; replace a5 := KB a5 hb; replace a6 := KB a6 hb; replace ab := KB ab hb; replace ac := KB ac hb; replace ae := KB ae hb; replace HB := BB HB hb; clear hb hbox hg; have io := cF.out; have j9 := bT.out; have ip := cG.out; have ja := bZ.out; have iq := cH.out; have jb := cf.out; have ir := cI.out; have jc := cm.out; have it := cJ.out; have jd := ct.out; have iu := cK.out; have je := cx.out; have iv := cL.out; have jf := cB.out; obtain ⟨fC, fD, fE, gc, gf, gg⟩ := CZ3 ad; obtain ⟨aF, aG, fx⟩ := Kd.R_slice af.out; subst fx; obtain ⟨fF, fG, fH, gh, gi, gj⟩ := CZ3 a3) | (go_at_call 10; (with_reducible refine (B0.impl_TotalInBasin.calls k4 ap aq _ _ ak gR true _ ?s1 ?s2 lh.out).mono ?_); (case s1 => exact (RC (RF3T a0 ad (.int .i64 aY) (.int .i64 aZ) (.slice aF b0.length aG)))); (case s2 => exact (Kd.R_reads' a0.out).2.1); rintro e mO ⟨rfl, hb⟩; replace a0 := RFB a0 ad (.int .i64 aY) (.int .i64 aZ) (.slice aF b0.length aG) hb; replace a2 := RFB a2 ad (.int .i64 aY) (.int .i64 aZ) (.slice aF b0.length aG) hb; replace a1 := RFB a1 ad (.int .i64 aY) (.int .i64 aZ) (.slice aF b0.length aG) hb; replace a9 := RFB a9 ad (.int .i64 aY) (.int .i64 aZ) (.slice aF b0.length aG) hb; replace aa := RFB aa ad (.int .i64 aY) (.int .i64 aZ) (.slice aF b0.length aG) hb; replace a7 := RFB a7 ad (.int .i64 aY) (.int .i64 aZ) (.slice aF b0.length aG) hb; replace a8 := RFB a8 ad (.int .i64 aY) (.int .i64 aZ) (.slice aF b0.length aG) hb; replace af := RFB af ad (.int .i64 aY) (.int .i64 aZ) (.slice aF b0.length aG) hb; replace ad := KPB ad (.int .i64 aY) (.int .i64 aZ) (.slice aF b0.length aG) hb; replace a3 := KFB a3 hb; replace a4 := KFB a4 hb; replace a5 := KFB a5 hb; replace a6 := KFB a6 hb; replace ab := KFB ab hb; replace ac := KFB ac hb; replace ae := KFB ae hb; replace HB := BB HB hb; (try clear hb); obtain ⟨fI, fJ, fK, gl, gm, gn⟩ := CZ3 ad) | (go_at_call 10; (with_reducible refine (B0.impl_TotalInBasin.calls k4 aY aZ _ _ b0 gS true _ ?s1 ?s2 li.out).mono ?_); (case s1 => exact CS (Kd.R_reads' af.out).2.2); (case s2 => exact (Kd.R_reads' af.out).2.1); rintro e mP ⟨rfl, hb⟩; replace a0 := RB a0 hb; replace a2 := RB a2 hb; replace a1 := RB a1 hb; replace a9 := RB a9 hb; replace aa := RB aa hb; replace a7 := RB a7 hb; replace a8 := RB a8 hb; replace af := RB af hb; replace a3 := KB a3 hb; replace a4 := KB a4 hb; replace a5 := KB a5 hb; replace a6 := KB a6 hb; replace ab := KB ab hb; replace ac := KB ac hb; replace ae := KB ae hb; replace ad := KB ad hb; replace HB := BB HB hb; (try clear hb); obtain ⟨fL, fM, fN, gp, gq, gr⟩ := CZ3 a3) | (go_at_call 19; (with_reducible refine (B0.impl_SquaresInBasin.calls k4 ap aq _ _ ak e1 true _ ?s1 ?s2 lj.out).mono ?_); (case s1 => exact CS (Kd.R_reads' a0.out).2.2); (case s2 => exact (Kd.R_reads' a0.out).2.1); rintro e mQ ⟨rfl, hb⟩; replace a0 := RB a0 hb; replace a2 := RB a2 hb; replace a1 := RB a1 hb; replace a9 := RB a9 hb; replace aa := RB aa hb; replace a7 := RB a7 hb; replace a8 := RB a8 hb; replace af := RB af hb; replace a3 := KB a3 hb; replace a4 := KB a4 hb; replace a5 := KB a5 hb; replace a6 := KB a6 hb; replace ab := KB ab hb; replace ac := KB ac hb; replace ae := KB ae hb; replace ad := KB ad hb; replace HB := BB HB hb; (try clear hb); obtain ⟨fO, fP, fQ, gs, gu, gv⟩ := CZ3 ad) | (go_at_call 19; (with_reducible refine (B0.impl_SquaresInBasin.calls k4 aY aZ _ _ b0 em true _ ?s1 ?s2 lk.out).mono ?_); (case s1 => exact CS (Kd.R_reads' af.out).2.2); (case s2 => exact (Kd.R_reads' af.out).2.1); rintro e mR ⟨rfl, hb⟩; replace a0 := RB a0 hb; replace a2 := RB a2 hb; replace a1 := RB a1 hb; replace a9 := RB a9 hb; replace aa := RB aa hb; replace a7 := RB a7 hb; replace a8 := RB a8 hb; replace af := RB af hb; replace a3 := KB a3 hb; replace a4 := KB a4 hb; replace a5 := KB a5 hb; replace a6 := KB a6 hb; replace ab := KB ab hb; replace ac := KB ac hb; replace ae := KB ae hb; replace ad := KB ad hb; replace HB := BB HB hb; (try clear hb); obtain ⟨fR, fS, fT, gw, gx, gy⟩ := CZ3 a3) | (go_at_call 26; (with_reducible refine (CS.impl_RunBasin.calls k4 ap aq _ _ ak 1048576000 1031798784 4 2 aU aV aW jJ true _ ?s1 ?s2 ll.out).mono ?_); (case s1 => exact CS (Kd.R_reads' a0.out).2.2); (case s2 => exact (Kd.R_reads' a0.out).2.1); rintro e mS ⟨mG, mH, rfl, ho0, ho1, hb⟩; replace a0 := AS (Kd.R_mono (Kd.R_told (Kd.R_told (Kd.R_old (RS a0.out) hb) (Kd.R_base ho0)) (Kd.R_base ho1)) (fun _ _ => trivial)); replace a2 := AS (Kd.R_mono (Kd.R_told (Kd.R_told (Kd.R_old (RS a2.out) hb) (Kd.R_base ho0)) (Kd.R_base ho1)) (fun _ _ => trivial)); replace a1 := AS (Kd.R_mono (Kd.R_told (Kd.R_told (Kd.R_old (RS a1.out) hb) (Kd.R_base ho0)) (Kd.R_base ho1)) (fun _ _ => trivial)); replace a9 := AS (Kd.R_mono (Kd.R_told (Kd.R_told (Kd.R_old (RS a9.out) hb) (Kd.R_base ho0)) (Kd.R_base ho1)) (fun _ _ => trivial)); replace aa := AS (Kd.R_mono (Kd.R_told (Kd.R_told (Kd.R_old (RS aa.out) hb) (Kd.R_base ho0)) (Kd.R_base ho1)) (fun _ _ => trivial)); replace a7 := AS (Kd.R_mono (Kd.R_told (Kd.R_told (Kd.R_old (RS a7.out) hb) (Kd.R_base ho0)) (Kd.R_base ho1)) (fun _ _ => trivial)); replace a8 := AS (Kd.R_mono (Kd.R_told (Kd.R_told (Kd.R_old (RS a8.out) hb) (Kd.R_base ho0)) (Kd.R_base ho1)) (fun _ _ => trivial)); replace af := AS (Kd.R_mono (Kd.R_told (Kd.R_told (Kd.R_old (RS af.out) hb) (Kd.R_base ho0)) (Kd.R_base ho1)) (fun _ _ => trivial)); have an := RN ho0 HB; have ao := AS (Kd.R_lower ho1 (below_size (BW HB))); replace a3 := KB a3 hb; replace a4 := KB a4 hb; replace a5 := KB a5 hb; replace a6 := KB a6 hb; replace ab := KB ab hb; replace ac := KB ac hb; replace ae := KB ae hb; replace ad := KB ad hb; replace HB := BB HB hb; (try clear hb); (try clear ho0); (try clear ho1)) | ((with_reducible refine gate_dst (N := 34) rfl ?_); (try (refine gate_guard (by rfl) ?_; dsimp only)); refine boxM 34 #[.int .i64 0, .int .i64 0, .slice none 0 0] 26 ?_; intro kC hg mT hbox hb; have ag := AS (hbox); have kg := BG HB hg; have bU := KN a3 hg; have cP := KM a3 hg; have ca := KN a4 hg; have cQ := KM a4 hg; have cg := KN a5 hg; have cR := KM a5 hg; have cn := KN a6 hg; have cS := KM a6 hg; have cu := KN ab hg; have cT := KM ab hg; have cy := KN ac hg; have cU := KM ac hg; have cC := KN ae hg; have cV := KM ae hg; have cM := KN ad hg; have cW := KM ad hg; replace a0 := RB a0 hb; replace a2 := RB a2 hb; replace a1 := RB a1 hb; replace a9 := RB a9 hb; replace aa := RB aa hb; replace a7 := RB a7 hb; replace a8 := RB a8 hb; replace af := RB af hb; replace an := RB an hb; replace ao := RB ao hb; replace a3 := KB a3 hb; replace a4 := KB a4 hb; replace a5 := KB a5 hb; replace a6 := KB a6 hb; replace ab := KB ab hb; replace ac := KB ac hb; replace ae := KB ae hb; replace ad := KB ad hb; replace HB := BB HB hb; clear hb hbox hg; have iw := cP.out; have jg := bU.out; have iy := cQ.out; have jh := ca.out; have iz := cR.out; have ji := cg.out; have iA := cS.out; have jj := cn.out; have iB := cT.out; have jk := cu.out; have iC := cU.out; have jl := cy.out; have iD := cV.out; have jm := cC.out; have iE := cW.out; have jn := cM.out; obtain ⟨fU, fV, fW, gz, gA, gB⟩ := CZ3 ag; obtain ⟨aA, aB, fy⟩ := Kd.R_slice an.out; subst fy; obtain ⟨fX, fY, fZ, gC, gD, gE⟩ := CZ3 a3) | (go_at_call 27; (with_reducible refine (CS.impl_StepBasin.calls k4 ap aq _ _ ak 1048576000 1031798784 4 aN aO aP true _ ?s1 ?s2 lm.out).mono ?_); (case s1 => exact (RC (RF3T a0 ag (.int .i64 aU) (.int .i64 aV) (.slice aA aW.length aB)))); (case s2 => exact (Kd.R_reads' a0.out).2.1); rintro e mU ⟨mI, rfl, ho0, hb⟩; replace a0 := RFB a0 ag (.int .i64 aU) (.int .i64 aV) (.slice aA aW.length aB) hb; replace a2 := RFB a2 ag (.int .i64 aU) (.int .i64 aV) (.slice aA aW.length aB) hb; replace a1 := RFB a1 ag (.int .i64 aU) (.int .i64 aV) (.slice aA aW.length aB) hb; replace a9 := RFB a9 ag (.int .i64 aU) (.int .i64 aV) (.slice aA aW.length aB) hb; replace aa := RFB aa ag (.int .i64 aU) (.int .i64 aV) (.slice aA aW.length aB) hb; replace a7 := RFB a7 ag (.int .i64 aU) (.int .i64 aV) (.slice aA aW.length aB) hb; replace a8 := RFB a8 ag (.int .i64 aU) (.int .i64 aV) (.slice aA aW.length aB) hb; replace af := RFB af ag (.int .i64 aU) (.int .i64 aV) (.slice aA aW.length aB) hb; replace an := RFB an ag (.int .i64 aU) (.int .i64 aV) (.slice aA aW.length aB) hb; replace ao := RFB ao ag (.int .i64 aU) (.int .i64 aV) (.slice aA aW.length aB) hb; have aw := RN ho0 HB; replace ag := KPB ag (.int .i64 aU) (.int .i64 aV) (.slice aA aW.length aB) hb; replace a3 := KFB a3 hb; replace a4 := KFB a4 hb; replace a5 := KFB a5 hb; replace a6 := KFB a6 hb; replace ab := KFB ab hb; replace ac := KFB ac hb; replace ae := KFB ae hb; replace ad := KFB ad hb; replace HB := BB HB hb; (try clear hb); (try clear ho0)) | ((with_reducible refine gate_dst (N := 37) rfl ?_); (try (refine gate_guard (by rfl) ?_; dsimp only)); refine boxM 37 #[.int .i64 0, .int .i64 0, .slice none 0 0] 26 ?_; intro kD hg mV hbox hb; have ah := AS (hbox); have kh := BG HB hg; have bV := KN a3 hg; have cZ := KM a3 hg; have cb := KN a4 hg; have d0 := KM a4 hg; have ch := KN a5 hg; have d1 := KM a5 hg; have co := KN a6 hg; have d2 := KM a6 hg; have cv := KN ab hg; have d3 := KM ab hg; have cz := KN ac hg; have d4 := KM ac hg; have cD := KN ae hg; have d5 := KM ae hg; have cN := KN ad hg; have d6 := KM ad hg; have cX := KN ag hg; have d7 := KM ag hg; replace a0 := RB a0 hb; replace a2 := RB a2 hb; replace a1 := RB a1 hb; replace a9 := RB a9 hb; replace aa := RB aa hb; replace a7 := RB a7 hb; replace a8 := RB a8 hb; replace af := RB af hb; replace an := RB an hb; replace ao := RB ao hb; replace aw := RB aw hb; replace a3 := KB a3 hb; replace a4 := KB a4 hb; replace a5 := KB a5 hb; replace a6 := KB a6 hb; replace ab := KB ab hb; replace ac := KB ac hb; replace ae := KB ae hb; replace ad := KB ad hb; replace ag := KB ag hb; replace HB := BB HB hb; clear hb hbox hg; have iF := cZ.out; have jo := bV.out; have iG := d0.out; have jp := cb.out; have iH := d1.out; have jq := ch.out; have iI := d2.out; have jr := co.out; have iJ := d3.out; have js := cv.out; have iK := d4.out; have jt := cz.out; have iL := d5.out; have ju := cD.out; have iM := d6.out; have jv := cN.out; have iN := d7.out; have jw := cX.out; obtain ⟨g0, g1, g2, gF, gG, gH⟩ := CZ3 ah; obtain ⟨au, ax, fz⟩ := Kd.R_slice aw.out; subst fz) | (go_at_call 27; (with_reducible refine (CS.impl_StepBasin.calls k4 aN aO _ _ aP 1048576000 1031798784 4 aQ aR aS true _ ?s1 ?s2 ln.out).mono ?_); (case s1 => exact (RC (RF3T aw ah (.int .i64 aN) (.int .i64 aO) (.slice au aP.length ax)))); (case s2 => exact (Kd.R_reads' aw.out).2.1); rintro e mW ⟨mJ, rfl, ho0, hb⟩; replace a0 := RFB a0 ah (.int .i64 aN) (.int .i64 aO) (.slice au aP.length ax) hb; replace a2 := RFB a2 ah (.int .i64 aN) (.int .i64 aO) (.slice au aP.length ax) hb; replace a1 := RFB a1 ah (.int .i64 aN) (.int .i64 aO) (.slice au aP.length ax) hb; replace a9 := RFB a9 ah (.int .i64 aN) (.int .i64 aO) (.slice au aP.length ax) hb; replace aa := RFB aa ah (.int .i64 aN) (.int .i64 aO) (.slice au aP.length ax) hb; replace a7 := RFB a7 ah (.int .i64 aN) (.int .i64 aO) (.slice au aP.length ax) hb; replace a8 := RFB a8 ah (.int .i64 aN) (.int .i64 aO) (.slice au aP.length ax) hb; replace af := RFB af ah (.int .i64 aN) (.int .i64 aO) (.slice au aP.length ax) hb; replace an := RFB an ah (.int .i64 aN) (.int .i64 aO) (.slice au aP.length ax) hb; replace ao := RFB ao ah (.int .i64 aN) (.int .i64 aO) (.slice au aP.length ax) hb; replace aw := RFB aw ah (.int .i64 aN) (.int .i64 aO) (.slice au aP.length ax) hb; have aT := RN ho0 HB; replace ah := KPB ah (.int .i64 aN) (.int .i64 aO) (.slice au aP.length ax) hb; replace a3 := KFB a3 hb; replace a4 := KFB a4 hb; replace a5 := KFB a5 hb; replace a6 := KFB a6 hb; replace ab := KFB ab hb; replace ac := KFB ac hb; replace ae := KFB ae hb; replace ad := KFB ad hb; replace ag := KFB ag hb; replace HB := BB HB hb; (try clear hb); (try clear ho0)) | ((with_reducible refine gate_dst (N := 39) rfl ?_); (try (refine gate_guard (by rfl) ?_; dsimp only)); refine boxM 39 #[.int .i64 0, .int .i64 0, .slice none 0 0] 26 ?_; intro kE hg mX hbox hb; have al := AS (hbox); have ki := BG HB hg; have bW := KN a3 hg; have d9 := KM a3 hg; have cc := KN a4 hg; have da := KM a4 hg; have ci := KN a5 hg; have db := KM a5 hg; have cp := KN a6 hg; have dc := KM a6 hg; have cw := KN ab hg; have dd := KM ab hg; have cA := KN ac hg; have de := KM ac hg; have cE := KN ae hg; have df := KM ae hg; have cO := KN ad hg; have dg := KM ad hg; have cY := KN ag hg; have dh := KM ag hg; have d8 := KN ah hg; have di := KM ah hg; replace a0 := RB a0 hb; replace a2 := RB a2 hb; replace a1 := RB a1 hb; replace a9 := RB a9 hb; replace aa := RB aa hb; replace a7 := RB a7 hb; replace a8 := RB a8 hb; replace af := RB af hb; replace an := RB an hb; replace ao := RB ao hb; replace aw := RB aw hb; replace aT := RB aT hb; replace a3 := KB a3 hb; replace a4 := KB a4 hb; replace a5 := KB a5 hb; replace a6 := KB a6 hb; replace ab := KB ab hb; replace ac := KB ac hb; replace ae := KB ae hb; replace ad := KB ad hb; replace ag := KB ag hb; replace ah := KB ah hb; replace HB := BB HB hb; clear hb hbox hg; have iO := d9.out; have jx := bW.out; have iP := da.out; have jy := cc.out; have iQ := db.out; have jz := ci.out; have iR := dc.out; have jA := cp.out; have iS := dd.out; have jB := cw.out; have iT := de.out; have jC := cA.out; have iU := df.out; have jD := cE.out; have iV := dg.out; have jE := cO.out; have iW := dh.out; have jF := cY.out; have iX := di.out; have jG := d8.out; obtain ⟨g3, g4, g5, gI, gJ, gK⟩ := CZ3 al; obtain ⟨av, ay, fA⟩ := Kd.R_slice aT.out; subst fA) | (go_at_call 14; (with_reducible refine (B0.laws_r8Gap.calls (cvt .f32 gR .f64) (cvt .f32 gS .f64) fn _ lo.out).mono ?_); rintro e mY ⟨rfl, hb⟩; replace a0 := RFB a0 al (.int .i64 aQ) (.int .i64 aR) (.slice av aS.length ay) hb; replace a2 := RFB a2 al (.int .i64 aQ) (.int .i64 aR) (.slice av aS.length ay) hb; replace a1 := RFB a1 al (.int .i64 aQ) (.int .i64 aR) (.slice av aS.length ay) hb; replace a9 := RFB a9 al (.int .i64 aQ) (.int .i64 aR) (.slice av aS.length ay) hb; replace aa := RFB aa al (.int .i64 aQ) (.int .i64 aR) (.slice av aS.length ay) hb; replace a7 := RFB a7 al (.int .i64 aQ) (.int .i64 aR) (.slice av aS.length ay) hb; replace a8 := RFB a8 al (.int .i64 aQ) (.int .i64 aR) (.slice av aS.length ay) hb; replace af := RFB af al (.int .i64 aQ) (.int .i64 aR) (.slice av aS.length ay) hb; replace an := RFB an al (.int .i64 aQ) (.int .i64 aR) (.slice av aS.length ay) hb; replace ao := RFB ao al (.int .i64 aQ) (.int .i64 aR) (.slice av aS.length ay) hb; replace aw := RFB aw al (.int .i64 aQ) (.int .i64 aR) (.slice av aS.length ay) hb; replace aT := RFB aT al (.int .i64 aQ) (.int .i64 aR) (.slice av aS.length ay) hb; replace al := KPB al (.int .i64 aQ) (.int .i64 aR) (.slice av aS.length ay) hb; replace a3 := KFB a3 hb; replace a4 := KFB a4 hb; replace a5 := KFB a5 hb; replace a6 := KFB a6 hb; replace ab := KFB ab hb; replace ac := KFB ac hb; replace ae := KFB ae hb; replace ad := KFB ad hb; replace ag := KFB ag hb; replace ah := KFB ah hb; replace HB := BB HB hb; (try clear hb); obtain ⟨g6, g7, g8, gL, gM, gN⟩ := CZ3 al; obtain ⟨g9, ga, gb, gO, gP, gQ⟩ := CZ3 ag) | (go_at_call 15; (with_reducible refine (B0.impl_SameBasin.calls k4 aQ aR _ _ aS aU aV _ _ aW true _ ?s1 ?s2 ?s3 ?s4 lp.out).mono ?_); (case s1 => exact CS (Kd.R_reads' aT.out).2.2); (case s2 => exact (Kd.R_reads' aT.out).2.1); (case s3 => exact CS (Kd.R_reads' an.out).2.2); (case s4 => exact (Kd.R_reads' an.out).2.1); rintro e mZ ⟨rfl, hb⟩; replace a0 := RB a0 hb; replace a2 := RB a2 hb; replace a1 := RB a1 hb; replace a9 := RB a9 hb; replace aa := RB aa hb; replace a7 := RB a7 hb; replace a8 := RB a8 hb; replace af := RB af hb; replace an := RB an hb; replace ao := RB ao hb; replace aw := RB aw hb; replace aT := RB aT hb; replace a3 := KB a3 hb; replace a4 := KB a4 hb; replace a5 := KB a5 hb; replace a6 := KB a6 hb; replace ab := KB ab hb; replace ac := KB ac hb; replace ae := KB ae hb; replace ad := KB ad hb; replace ag := KB ag hb; replace ah := KB ah hb; replace al := KB al hb; replace HB := BB HB hb; (try clear hb); obtain ⟨k7, kA, fB⟩ := Kd.R_slice ao.out; subst fB)); (repeat (go_quiet (first | (go_at_call 25; (with_reducible refine (CS.impl_SpreadBasin.calls k4 ap aq _ _ ak 1040187392 3 aY aZ b0 true _ ?s1 ?s2 lg.out).mono ?_); (case s1 => exact CS (Kd.R_reads' a0.out).2.2); (case s2 => exact (Kd.R_reads' a0.out).2.1); rintro e mM ⟨mF, rfl, ho0, hb⟩; have af := RN ho0 HB; replace a0 := RB a0 hb; replace a2 := RB a2 hb; replace a1 := RB a1 hb; replace a9 := RB a9 hb; replace aa := RB aa hb; replace a7 := RB a7 hb; replace a8 := RB a8 hb; replace a3 := KB a3 hb; replace a4 := KB a4 hb; replace a5 := KB a5 hb; replace a6 := KB a6 hb; replace ab := KB ab hb; replace ac := KB ac hb; replace ae := KB ae hb; replace HB := BB HB hb; (try clear hb); (try clear ho0)) | ((with_reducible refine gate_dst (N := 24) rfl ?_); (try (refine gate_guard (by rfl) ?_; dsimp only)); refine boxM 24 #[.int .i64 0, .int .i64 0, .slice none 0 0] 26 ?_; intro kB hg mN hbox hb; have ad := AS (hbox); have kf := BG HB hg; have bT := KN a3 hg; have cF := KM a3 hg; have bZ := KN a4 hg; have cG := KM a4 hg; have cf := KN a5 hg; have cH := KM a5 hg; have cm := KN a6 hg; have cI := KM a6 hg; have ct := KN ab hg; have cJ := KM ab hg; have cx := KN ac hg; have cK := KM ac hg; have cB := KN ae hg; have cL := KM ae hg; replace a0 := RB a0 hb; replace a2 := RB a2 hb; replace a1 := RB a1 hb; replace a9 := RB a9 hb; replace aa := RB aa hb; replace a7 := RB a7 hb; replace a8 := RB a8 hb; replace af := RB af hb; replace a3 := KB a3 hb; replace a4 := KB a4 hb; replace a5 := KB a5 hb; replace a6 := KB a6 hb; replace ab := KB ab hb; replace ac := KB ac hb; replace ae := KB ae hb; replace HB := BB HB hb; clear hb hbox hg; have io := cF.out; have j9 := bT.out; have ip := cG.out; have ja := bZ.out; have iq := cH.out; have jb := cf.out; have ir := cI.out; have jc := cm.out; have it := cJ.out; have jd := ct.out; have iu := cK.out; have je := cx.out; have iv := cL.out; have jf := cB.out; obtain ⟨fC, fD, fE, gc, gf, gg⟩ := CZ3 ad; obtain ⟨aF, aG, fx⟩ := Kd.R_slice af.out; subst fx; obtain ⟨fF, fG, fH, gh, gi, gj⟩ := CZ3 a3) | (go_at_call 10; (with_reducible refine (B0.impl_TotalInBasin.calls k4 ap aq _ _ ak gR true _ ?s1 ?s2 lh.out).mono ?_); (case s1 => exact (RC (RF3T a0 ad (.int .i64 aY) (.int .i64 aZ) (.slice aF b0.length aG)))); (case s2 => exact (Kd.R_reads' a0.out).2.1); rintro e mO ⟨rfl, hb⟩; replace a0 := RFB a0 ad (.int .i64 aY) (.int .i64 aZ) (.slice aF b0.length aG) hb; replace a2 := RFB a2 ad (.int .i64 aY) (.int .i64 aZ) (.slice aF b0.length aG) hb; replace a1 := RFB a1 ad (.int .i64 aY) (.int .i64 aZ) (.slice aF b0.length aG) hb; replace a9 := RFB a9 ad (.int .i64 aY) (.int .i64 aZ) (.slice aF b0.length aG) hb; replace aa := RFB aa ad (.int .i64 aY) (.int .i64 aZ) (.slice aF b0.length aG) hb; replace a7 := RFB a7 ad (.int .i64 aY) (.int .i64 aZ) (.slice aF b0.length aG) hb; replace a8 := RFB a8 ad (.int .i64 aY) (.int .i64 aZ) (.slice aF b0.length aG) hb; replace af := RFB af ad (.int .i64 aY) (.int .i64 aZ) (.slice aF b0.length aG) hb; replace ad := KPB ad (.int .i64 aY) (.int .i64 aZ) (.slice aF b0.length aG) hb; replace a3 := KFB a3 hb; replace a4 := KFB a4 hb; replace a5 := KFB a5 hb; replace a6 := KFB a6 hb; replace ab := KFB ab hb; replace ac := KFB ac hb; replace ae := KFB ae hb; replace HB := BB HB hb; (try clear hb); obtain ⟨fI, fJ, fK, gl, gm, gn⟩ := CZ3 ad) | (go_at_call 10; (with_reducible refine (B0.impl_TotalInBasin.calls k4 aY aZ _ _ b0 gS true _ ?s1 ?s2 li.out).mono ?_); (case s1 => exact CS (Kd.R_reads' af.out).2.2); (case s2 => exact (Kd.R_reads' af.out).2.1); rintro e mP ⟨rfl, hb⟩; replace a0 := RB a0 hb; replace a2 := RB a2 hb; replace a1 := RB a1 hb; replace a9 := RB a9 hb; replace aa := RB aa hb; replace a7 := RB a7 hb; replace a8 := RB a8 hb; replace af := RB af hb; replace a3 := KB a3 hb; replace a4 := KB a4 hb; replace a5 := KB a5 hb; replace a6 := KB a6 hb; replace ab := KB ab hb; replace ac := KB ac hb; replace ae := KB ae hb; replace ad := KB ad hb; replace HB := BB HB hb; (try clear hb); obtain ⟨fL, fM, fN, gp, gq, gr⟩ := CZ3 a3) | (go_at_call 19; (with_reducible refine (B0.impl_SquaresInBasin.calls k4 ap aq _ _ ak e1 true _ ?s1 ?s2 lj.out).mono ?_); (case s1 => exact CS (Kd.R_reads' a0.out).2.2); (case s2 => exact (Kd.R_reads' a0.out).2.1); rintro e mQ ⟨rfl, hb⟩; replace a0 := RB a0 hb; replace a2 := RB a2 hb; replace a1 := RB a1 hb; replace a9 := RB a9 hb; replace aa := RB aa hb; replace a7 := RB a7 hb; replace a8 := RB a8 hb; replace af := RB af hb; replace a3 := KB a3 hb; replace a4 := KB a4 hb; replace a5 := KB a5 hb; replace a6 := KB a6 hb; replace ab := KB ab hb; replace ac := KB ac hb; replace ae := KB ae hb; replace ad := KB ad hb; replace HB := BB HB hb; (try clear hb); obtain ⟨fO, fP, fQ, gs, gu, gv⟩ := CZ3 ad) | (go_at_call 19; (with_reducible refine (B0.impl_SquaresInBasin.calls k4 aY aZ _ _ b0 em true _ ?s1 ?s2 lk.out).mono ?_); (case s1 => exact CS (Kd.R_reads' af.out).2.2); (case s2 => exact (Kd.R_reads' af.out).2.1); rintro e mR ⟨rfl, hb⟩; replace a0 := RB a0 hb; replace a2 := RB a2 hb; replace a1 := RB a1 hb; replace a9 := RB a9 hb; replace aa := RB aa hb; replace a7 := RB a7 hb; replace a8 := RB a8 hb; replace af := RB af hb; replace a3 := KB a3 hb; replace a4 := KB a4 hb; replace a5 := KB a5 hb; replace a6 := KB a6 hb; replace ab := KB ab hb; replace ac := KB ac hb; replace ae := KB ae hb; replace ad := KB ad hb; replace HB := BB HB hb; (try clear hb); obtain ⟨fR, fS, fT, gw, gx, gy⟩ := CZ3 a3) | (go_at_call 26; (with_reducible refine (CS.impl_RunBasin.calls k4 ap aq _ _ ak 1048576000 1031798784 4 2 aU aV aW jJ true _ ?s1 ?s2 ll.out).mono ?_); (case s1 => exact CS (Kd.R_reads' a0.out).2.2); (case s2 => exact (Kd.R_reads' a0.out).2.1); rintro e mS ⟨mG, mH, rfl, ho0, ho1, hb⟩; replace a0 := AS (Kd.R_mono (Kd.R_told (Kd.R_told (Kd.R_old (RS a0.out) hb) (Kd.R_base ho0)) (Kd.R_base ho1)) (fun _ _ => trivial)); replace a2 := AS (Kd.R_mono (Kd.R_told (Kd.R_told (Kd.R_old (RS a2.out) hb) (Kd.R_base ho0)) (Kd.R_base ho1)) (fun _ _ => trivial)); replace a1 := AS (Kd.R_mono (Kd.R_told (Kd.R_told (Kd.R_old (RS a1.out) hb) (Kd.R_base ho0)) (Kd.R_base ho1)) (fun _ _ => trivial)); replace a9 := AS (Kd.R_mono (Kd.R_told (Kd.R_told (Kd.R_old (RS a9.out) hb) (Kd.R_base ho0)) (Kd.R_base ho1)) (fun _ _ => trivial)); replace aa := AS (Kd.R_mono (Kd.R_told (Kd.R_told (Kd.R_old (RS aa.out) hb) (Kd.R_base ho0)) (Kd.R_base ho1)) (fun _ _ => trivial)); replace a7 := AS (Kd.R_mono (Kd.R_told (Kd.R_told (Kd.R_old (RS a7.out) hb) (Kd.R_base ho0)) (Kd.R_base ho1)) (fun _ _ => trivial)); replace a8 := AS (Kd.R_mono (Kd.R_told (Kd.R_told (Kd.R_old (RS a8.out) hb) (Kd.R_base ho0)) (Kd.R_base ho1)) (fun _ _ => trivial)); replace af := AS (Kd.R_mono (Kd.R_told (Kd.R_told (Kd.R_old (RS af.out) hb) (Kd.R_base ho0)) (Kd.R_base ho1)) (fun _ _ => trivial)); have an := RN ho0 HB; have ao := AS (Kd.R_lower ho1 (below_size (BW HB))); replace a3 := KB a3 hb; replace a4 := KB a4 hb; replace a5 := KB a5 hb; replace a6 := KB a6 hb; replace ab := KB ab hb; replace ac := KB ac hb; replace ae := KB ae hb; replace ad := KB ad hb; replace HB := BB HB hb; (try clear hb); (try clear ho0); (try clear ho1)) | ((with_reducible refine gate_dst (N := 34) rfl ?_); (try (refine gate_guard (by rfl) ?_; dsimp only)); refine boxM 34 #[.int .i64 0, .int .i64 0, .slice none 0 0] 26 ?_; intro kC hg mT hbox hb; have ag := AS (hbox); have kg := BG HB hg; have bU := KN a3 hg; have cP := KM a3 hg; have ca := KN a4 hg; have cQ := KM a4 hg; have cg := KN a5 hg; have cR := KM a5 hg; have cn := KN a6 hg; have cS := KM a6 hg; have cu := KN ab hg; have cT := KM ab hg; have cy := KN ac hg; have cU := KM ac hg; have cC := KN ae hg; have cV := KM ae hg; have cM := KN ad hg; have cW := KM ad hg; replace a0 := RB a0 hb; replace a2 := RB a2 hb; replace a1 := RB a1 hb; replace a9 := RB a9 hb; replace aa := RB aa hb; replace a7 := RB a7 hb; replace a8 := RB a8 hb; replace af := RB af hb; replace an := RB an hb; replace ao := RB ao hb; replace a3 := KB a3 hb; replace a4 := KB a4 hb; replace a5 := KB a5 hb; replace a6 := KB a6 hb; replace ab := KB ab hb; replace ac := KB ac hb; replace ae := KB ae hb; replace ad := KB ad hb; replace HB := BB HB hb; clear hb hbox hg; have iw := cP.out; have jg := bU.out; have iy := cQ.out; have jh := ca.out; have iz := cR.out; have ji := cg.out; have iA := cS.out; have jj := cn.out; have iB := cT.out; have jk := cu.out; have iC := cU.out; have jl := cy.out; have iD := cV.out; have jm := cC.out; have iE := cW.out; have jn := cM.out; obtain ⟨fU, fV, fW, gz, gA, gB⟩ := CZ3 ag; obtain ⟨aA, aB, fy⟩ := Kd.R_slice an.out; subst fy; obtain ⟨fX, fY, fZ, gC, gD, gE⟩ := CZ3 a3) | (go_at_call 27; (with_reducible refine (CS.impl_StepBasin.calls k4 ap aq _ _ ak 1048576000 1031798784 4 aN aO aP true _ ?s1 ?s2 lm.out).mono ?_); (case s1 => exact (RC (RF3T a0 ag (.int .i64 aU) (.int .i64 aV) (.slice aA aW.length aB)))); (case s2 => exact (Kd.R_reads' a0.out).2.1); rintro e mU ⟨mI, rfl, ho0, hb⟩; replace a0 := RFB a0 ag (.int .i64 aU) (.int .i64 aV) (.slice aA aW.length aB) hb; replace a2 := RFB a2 ag (.int .i64 aU) (.int .i64 aV) (.slice aA aW.length aB) hb; replace a1 := RFB a1 ag (.int .i64 aU) (.int .i64 aV) (.slice aA aW.length aB) hb; replace a9 := RFB a9 ag (.int .i64 aU) (.int .i64 aV) (.slice aA aW.length aB) hb; replace aa := RFB aa ag (.int .i64 aU) (.int .i64 aV) (.slice aA aW.length aB) hb; replace a7 := RFB a7 ag (.int .i64 aU) (.int .i64 aV) (.slice aA aW.length aB) hb; replace a8 := RFB a8 ag (.int .i64 aU) (.int .i64 aV) (.slice aA aW.length aB) hb; replace af := RFB af ag (.int .i64 aU) (.int .i64 aV) (.slice aA aW.length aB) hb; replace an := RFB an ag (.int .i64 aU) (.int .i64 aV) (.slice aA aW.length aB) hb; replace ao := RFB ao ag (.int .i64 aU) (.int .i64 aV) (.slice aA aW.length aB) hb; have aw := RN ho0 HB; replace ag := KPB ag (.int .i64 aU) (.int .i64 aV) (.slice aA aW.length aB) hb; replace a3 := KFB a3 hb; replace a4 := KFB a4 hb; replace a5 := KFB a5 hb; replace a6 := KFB a6 hb; replace ab := KFB ab hb; replace ac := KFB ac hb; replace ae := KFB ae hb; replace ad := KFB ad hb; replace HB := BB HB hb; (try clear hb); (try clear ho0)) | ((with_reducible refine gate_dst (N := 37) rfl ?_); (try (refine gate_guard (by rfl) ?_; dsimp only)); refine boxM 37 #[.int .i64 0, .int .i64 0, .slice none 0 0] 26 ?_; intro kD hg mV hbox hb; have ah := AS (hbox); have kh := BG HB hg; have bV := KN a3 hg; have cZ := KM a3 hg; have cb := KN a4 hg; have d0 := KM a4 hg; have ch := KN a5 hg; have d1 := KM a5 hg; have co := KN a6 hg; have d2 := KM a6 hg; have cv := KN ab hg; have d3 := KM ab hg; have cz := KN ac hg; have d4 := KM ac hg; have cD := KN ae hg; have d5 := KM ae hg; have cN := KN ad hg; have d6 := KM ad hg; have cX := KN ag hg; have d7 := KM ag hg; replace a0 := RB a0 hb; replace a2 := RB a2 hb; replace a1 := RB a1 hb; replace a9 := RB a9 hb; replace aa := RB aa hb; replace a7 := RB a7 hb; replace a8 := RB a8 hb; replace af := RB af hb; replace an := RB an hb; replace ao := RB ao hb; replace aw := RB aw hb; replace a3 := KB a3 hb; replace a4 := KB a4 hb; replace a5 := KB a5 hb; replace a6 := KB a6 hb; replace ab := KB ab hb; replace ac := KB ac hb; replace ae := KB ae hb; replace ad := KB ad hb; replace ag := KB ag hb; replace HB := BB HB hb; clear hb hbox hg; have iF := cZ.out; have jo := bV.out; have iG := d0.out; have jp := cb.out; have iH := d1.out; have jq := ch.out; have iI := d2.out; have jr := co.out; have iJ := d3.out; have js := cv.out; have iK := d4.out; have jt := cz.out; have iL := d5.out; have ju := cD.out; have iM := d6.out; have jv := cN.out; have iN := d7.out; have jw := cX.out; obtain ⟨g0, g1, g2, gF, gG, gH⟩ := CZ3 ah; obtain ⟨au, ax, fz⟩ := Kd.R_slice aw.out; subst fz) | (go_at_call 27; (with_reducible refine (CS.impl_StepBasin.calls k4 aN aO _ _ aP 1048576000 1031798784 4 aQ aR aS true _ ?s1 ?s2 ln.out).mono ?_); (case s1 => exact (RC (RF3T aw ah (.int .i64 aN) (.int .i64 aO) (.slice au aP.length ax)))); (case s2 => exact (Kd.R_reads' aw.out).2.1); rintro e mW ⟨mJ, rfl, ho0, hb⟩; replace a0 := RFB a0 ah (.int .i64 aN) (.int .i64 aO) (.slice au aP.length ax) hb; replace a2 := RFB a2 ah (.int .i64 aN) (.int .i64 aO) (.slice au aP.length ax) hb; replace a1 := RFB a1 ah (.int .i64 aN) (.int .i64 aO) (.slice au aP.length ax) hb; replace a9 := RFB a9 ah (.int .i64 aN) (.int .i64 aO) (.slice au aP.length ax) hb; replace aa := RFB aa ah (.int .i64 aN) (.int .i64 aO) (.slice au aP.length ax) hb; replace a7 := RFB a7 ah (.int .i64 aN) (.int .i64 aO) (.slice au aP.length ax) hb; replace a8 := RFB a8 ah (.int .i64 aN) (.int .i64 aO) (.slice au aP.length ax) hb; replace af := RFB af ah (.int .i64 aN) (.int .i64 aO) (.slice au aP.length ax) hb; replace an := RFB an ah (.int .i64 aN) (.int .i64 aO) (.slice au aP.length ax) hb; replace ao := RFB ao ah (.int .i64 aN) (.int .i64 aO) (.slice au aP.length ax) hb; replace aw := RFB aw ah (.int .i64 aN) (.int .i64 aO) (.slice au aP.length ax) hb; have aT := RN ho0 HB; replace ah := KPB ah (.int .i64 aN) (.int .i64 aO) (.slice au aP.length ax) hb; replace a3 := KFB a3 hb; replace a4 := KFB a4 hb; replace a5 := KFB a5 hb; replace a6 := KFB a6 hb; replace ab := KFB ab hb; replace ac := KFB ac hb; replace ae := KFB ae hb; replace ad := KFB ad hb; replace ag := KFB ag hb; replace HB := BB HB hb; (try clear hb); (try clear ho0)) | ((with_reducible refine gate_dst (N := 39) rfl ?_); (try (refine gate_guard (by rfl) ?_; dsimp only)); refine boxM 39 #[.int .i64 0, .int .i64 0, .slice none 0 0] 26 ?_; intro kE hg mX hbox hb; have al := AS (hbox); have ki := BG HB hg; have bW := KN a3 hg; have d9 := KM a3 hg; have cc := KN a4 hg; have da := KM a4 hg; have ci := KN a5 hg; have db := KM a5 hg; have cp := KN a6 hg; have dc := KM a6 hg; have cw := KN ab hg; have dd := KM ab hg; have cA := KN ac hg; have de := KM ac hg; have cE := KN ae hg; have df := KM ae hg; have cO := KN ad hg; have dg := KM ad hg; have cY := KN ag hg; have dh := KM ag hg; have d8 := KN ah hg; have di := KM ah hg; replace a0 := RB a0 hb; replace a2 := RB a2 hb; replace a1 := RB a1 hb; replace a9 := RB a9 hb; replace aa := RB aa hb; replace a7 := RB a7 hb; replace a8 := RB a8 hb; replace af := RB af hb; replace an := RB an hb; replace ao := RB ao hb; replace aw := RB aw hb; replace aT := RB aT hb; replace a3 := KB a3 hb; replace a4 := KB a4 hb; replace a5 := KB a5 hb; replace a6 := KB a6 hb; replace ab := KB ab hb; replace ac := KB ac hb; replace ae := KB ae hb; replace ad := KB ad hb; replace ag := KB ag hb; replace ah := KB ah hb; replace HB := BB HB hb; clear hb hbox hg; have iO := d9.out; have jx := bW.out; have iP := da.out; have jy := cc.out; have iQ := db.out; have jz := ci.out; have iR := dc.out; have jA := cp.out; have iS := dd.out; have jB := cw.out; have iT := de.out; have jC := cA.out; have iU := df.out; have jD := cE.out; have iV := dg.out; have jE := cO.out; have iW := dh.out; have jF := cY.out; have iX := di.out; have jG := d8.out; obtain ⟨g3, g4, g5, gI, gJ, gK⟩ := CZ3 al; obtain ⟨av, ay, fA⟩ := Kd.R_slice aT.out; subst fA) | (go_at_call 14; (with_reducible refine (B0.laws_r8Gap.calls (cvt .f32 gR .f64) (cvt .f32 gS .f64) fn _ lo.out).mono ?_); rintro e mY ⟨rfl, hb⟩; replace a0 := RFB a0 al (.int .i64 aQ) (.int .i64 aR) (.slice av aS.length ay) hb; replace a2 := RFB a2 al (.int .i64 aQ) (.int .i64 aR) (.slice av aS.length ay) hb; replace a1 := RFB a1 al (.int .i64 aQ) (.int .i64 aR) (.slice av aS.length ay) hb; replace a9 := RFB a9 al (.int .i64 aQ) (.int .i64 aR) (.slice av aS.length ay) hb; replace aa := RFB aa al (.int .i64 aQ) (.int .i64 aR) (.slice av aS.length ay) hb; replace a7 := RFB a7 al (.int .i64 aQ) (.int .i64 aR) (.slice av aS.length ay) hb; replace a8 := RFB a8 al (.int .i64 aQ) (.int .i64 aR) (.slice av aS.length ay) hb; replace af := RFB af al (.int .i64 aQ) (.int .i64 aR) (.slice av aS.length ay) hb; replace an := RFB an al (.int .i64 aQ) (.int .i64 aR) (.slice av aS.length ay) hb; replace ao := RFB ao al (.int .i64 aQ) (.int .i64 aR) (.slice av aS.length ay) hb; replace aw := RFB aw al (.int .i64 aQ) (.int .i64 aR) (.slice av aS.length ay) hb; replace aT := RFB aT al (.int .i64 aQ) (.int .i64 aR) (.slice av aS.length ay) hb; replace al := KPB al (.int .i64 aQ) (.int .i64 aR) (.slice av aS.length ay) hb; replace a3 := KFB a3 hb; replace a4 := KFB a4 hb; replace a5 := KFB a5 hb; replace a6 := KFB a6 hb; replace ab := KFB ab hb; replace ac := KFB ac hb; replace ae := KFB ae hb; replace ad := KFB ad hb; replace ag := KFB ag hb; replace ah := KFB ah hb; replace HB := BB HB hb; (try clear hb); obtain ⟨g6, g7, g8, gL, gM, gN⟩ := CZ3 al; obtain ⟨g9, ga, gb, gO, gP, gQ⟩ := CZ3 ag) | (go_at_call 15; (with_reducible refine (B0.impl_SameBasin.calls k4 aQ aR _ _ aS aU aV _ _ aW true _ ?s1 ?s2 ?s3 ?s4 lp.out).mono ?_); (case s1 => exact CS (Kd.R_reads' aT.out).2.2); (case s2 => exact (Kd.R_reads' aT.out).2.1); (case s3 => exact CS (Kd.R_reads' an.out).2.2); (case s4 => exact (Kd.R_reads' an.out).2.1); rintro e mZ ⟨rfl, hb⟩; replace a0 := RB a0 hb; replace a2 := RB a2 hb; replace a1 := RB a1 hb; replace a9 := RB a9 hb; replace aa := RB aa hb; replace a7 := RB a7 hb; replace a8 := RB a8 hb; replace af := RB af hb; replace an := RB an hb; replace ao := RB ao hb; replace aw := RB aw hb; replace aT := RB aT hb; replace a3 := KB a3 hb; replace a4 := KB a4 hb; replace a5 := KB a5 hb; replace a6 := KB a6 hb; replace ab := KB ab hb; replace ac := KB ac hb; replace ae := KB ae hb; replace ad := KB ad hb; replace ag := KB ag hb; replace ah := KB ah hb; replace al := KB al hb; replace HB := BB HB hb; (try clear hb); obtain ⟨k7, kA, fB⟩ := Kd.R_slice ao.out; subst fB)); try go_wp2_with (first | (go_at_call 25; (with_reducible refine (CS.impl_SpreadBasin.calls k4 ap aq _ _ ak 1040187392 3 aY aZ b0 true _ ?s1 ?s2 lg.out).mono ?_); (case s1 => exact CS (Kd.R_reads' a0.out).2.2); (case s2 => exact (Kd.R_reads' a0.out).2.1); rintro e mM ⟨mF, rfl, ho0, hb⟩; have af := RN ho0 HB; replace a0 := RB a0 hb; replace a2 := RB a2 hb; replace a1 := RB a1 hb; replace a9 := RB a9 hb; replace aa := RB aa hb; replace a7 := RB a7 hb; replace a8 := RB a8 hb; replace a3 := KB a3 hb; replace a4 := KB a4 hb; replace a5 := KB a5 hb; replace a6 := KB a6 hb; replace ab := KB ab hb; replace ac := KB ac hb; replace ae := KB ae hb; replace HB := BB HB hb; (try clear hb); (try clear ho0)) | ((with_reducible refine gate_dst (N := 24) rfl ?_); (try (refine gate_guard (by rfl) ?_; dsimp only)); refine boxM 24 #[.int .i64 0, .int .i64 0, .slice none 0 0] 26 ?_; intro kB hg mN hbox hb; have ad := AS (hbox); have kf := BG HB hg; have bT := KN a3 hg; have cF := KM a3 hg; have bZ := KN a4 hg; have cG := KM a4 hg; have cf := KN a5 hg; have cH := KM a5 hg; have cm := KN a6 hg; have cI := KM a6 hg; have ct := KN ab hg; have cJ := KM ab hg; have cx := KN ac hg; have cK := KM ac hg; have cB := KN ae hg; have cL := KM ae hg; replace a0 := RB a0 hb; replace a2 := RB a2 hb; replace a1 := RB a1 hb; replace a9 := RB a9 hb; replace aa := RB aa hb; replace a7 := RB a7 hb; replace a8 := RB a8 hb; replace af := RB af hb; replace a3 := KB a3 hb; replace a4 := KB a4 hb; replace a5 := KB a5 hb; replace a6 := KB a6 hb; replace ab := KB ab hb; replace ac := KB ac hb; replace ae := KB ae hb; replace HB := BB HB hb; clear hb hbox hg; have io := cF.out; have j9 := bT.out; have ip := cG.out; have ja := bZ.out; have iq := cH.out; have jb := cf.out; have ir := cI.out; have jc := cm.out; have it := cJ.out; have jd := ct.out; have iu := cK.out; have je := cx.out; have iv := cL.out; have jf := cB.out; obtain ⟨fC, fD, fE, gc, gf, gg⟩ := CZ3 ad; obtain ⟨aF, aG, fx⟩ := Kd.R_slice af.out; subst fx; obtain ⟨fF, fG, fH, gh, gi, gj⟩ := CZ3 a3) | (go_at_call 10; (with_reducible refine (B0.impl_TotalInBasin.calls k4 ap aq _ _ ak gR true _ ?s1 ?s2 lh.out).mono ?_); (case s1 => exact (RC (RF3T a0 ad (.int .i64 aY) (.int .i64 aZ) (.slice aF b0.length aG)))); (case s2 => exact (Kd.R_reads' a0.out).2.1); rintro e mO ⟨rfl, hb⟩; replace a0 := RFB a0 ad (.int .i64 aY) (.int .i64 aZ) (.slice aF b0.length aG) hb; replace a2 := RFB a2 ad (.int .i64 aY) (.int .i64 aZ) (.slice aF b0.length aG) hb; replace a1 := RFB a1 ad (.int .i64 aY) (.int .i64 aZ) (.slice aF b0.length aG) hb; replace a9 := RFB a9 ad (.int .i64 aY) (.int .i64 aZ) (.slice aF b0.length aG) hb; replace aa := RFB aa ad (.int .i64 aY) (.int .i64 aZ) (.slice aF b0.length aG) hb; replace a7 := RFB a7 ad (.int .i64 aY) (.int .i64 aZ) (.slice aF b0.length aG) hb; replace a8 := RFB a8 ad (.int .i64 aY) (.int .i64 aZ) (.slice aF b0.length aG) hb; replace af := RFB af ad (.int .i64 aY) (.int .i64 aZ) (.slice aF b0.length aG) hb; replace ad := KPB ad (.int .i64 aY) (.int .i64 aZ) (.slice aF b0.length aG) hb; replace a3 := KFB a3 hb; replace a4 := KFB a4 hb; replace a5 := KFB a5 hb; replace a6 := KFB a6 hb; replace ab := KFB ab hb; replace ac := KFB ac hb; replace ae := KFB ae hb; replace HB := BB HB hb; (try clear hb); obtain ⟨fI, fJ, fK, gl, gm, gn⟩ := CZ3 ad) | (go_at_call 10; (with_reducible refine (B0.impl_TotalInBasin.calls k4 aY aZ _ _ b0 gS true _ ?s1 ?s2 li.out).mono ?_); (case s1 => exact CS (Kd.R_reads' af.out).2.2); (case s2 => exact (Kd.R_reads' af.out).2.1); rintro e mP ⟨rfl, hb⟩; replace a0 := RB a0 hb; replace a2 := RB a2 hb; replace a1 := RB a1 hb; replace a9 := RB a9 hb; replace aa := RB aa hb; replace a7 := RB a7 hb; replace a8 := RB a8 hb; replace af := RB af hb; replace a3 := KB a3 hb; replace a4 := KB a4 hb; replace a5 := KB a5 hb; replace a6 := KB a6 hb; replace ab := KB ab hb; replace ac := KB ac hb; replace ae := KB ae hb; replace ad := KB ad hb; replace HB := BB HB hb; (try clear hb); obtain ⟨fL, fM, fN, gp, gq, gr⟩ := CZ3 a3) | (go_at_call 19; (with_reducible refine (B0.impl_SquaresInBasin.calls k4 ap aq _ _ ak e1 true _ ?s1 ?s2 lj.out).mono ?_); (case s1 => exact CS (Kd.R_reads' a0.out).2.2); (case s2 => exact (Kd.R_reads' a0.out).2.1); rintro e mQ ⟨rfl, hb⟩; replace a0 := RB a0 hb; replace a2 := RB a2 hb; replace a1 := RB a1 hb; replace a9 := RB a9 hb; replace aa := RB aa hb; replace a7 := RB a7 hb; replace a8 := RB a8 hb; replace af := RB af hb; replace a3 := KB a3 hb; replace a4 := KB a4 hb; replace a5 := KB a5 hb; replace a6 := KB a6 hb; replace ab := KB ab hb; replace ac := KB ac hb; replace ae := KB ae hb; replace ad := KB ad hb; replace HB := BB HB hb; (try clear hb); obtain ⟨fO, fP, fQ, gs, gu, gv⟩ := CZ3 ad) | (go_at_call 19; (with_reducible refine (B0.impl_SquaresInBasin.calls k4 aY aZ _ _ b0 em true _ ?s1 ?s2 lk.out).mono ?_); (case s1 => exact CS (Kd.R_reads' af.out).2.2); (case s2 => exact (Kd.R_reads' af.out).2.1); rintro e mR ⟨rfl, hb⟩; replace a0 := RB a0 hb; replace a2 := RB a2 hb; replace a1 := RB a1 hb; replace a9 := RB a9 hb; replace aa := RB aa hb; replace a7 := RB a7 hb; replace a8 := RB a8 hb; replace af := RB af hb; replace a3 := KB a3 hb; replace a4 := KB a4 hb; replace a5 := KB a5 hb; replace a6 := KB a6 hb; replace ab := KB ab hb; replace ac := KB ac hb; replace ae := KB ae hb; replace ad := KB ad hb; replace HB := BB HB hb; (try clear hb); obtain ⟨fR, fS, fT, gw, gx, gy⟩ := CZ3 a3) | (go_at_call 26; (with_reducible refine (CS.impl_RunBasin.calls k4 ap aq _ _ ak 1048576000 1031798784 4 2 aU aV aW jJ true _ ?s1 ?s2 ll.out).mono ?_); (case s1 => exact CS (Kd.R_reads' a0.out).2.2); (case s2 => exact (Kd.R_reads' a0.out).2.1); rintro e mS ⟨mG, mH, rfl, ho0, ho1, hb⟩; replace a0 := AS (Kd.R_mono (Kd.R_told (Kd.R_told (Kd.R_old (RS a0.out) hb) (Kd.R_base ho0)) (Kd.R_base ho1)) (fun _ _ => trivial)); replace a2 := AS (Kd.R_mono (Kd.R_told (Kd.R_told (Kd.R_old (RS a2.out) hb) (Kd.R_base ho0)) (Kd.R_base ho1)) (fun _ _ => trivial)); replace a1 := AS (Kd.R_mono (Kd.R_told (Kd.R_told (Kd.R_old (RS a1.out) hb) (Kd.R_base ho0)) (Kd.R_base ho1)) (fun _ _ => trivial)); replace a9 := AS (Kd.R_mono (Kd.R_told (Kd.R_told (Kd.R_old (RS a9.out) hb) (Kd.R_base ho0)) (Kd.R_base ho1)) (fun _ _ => trivial)); replace aa := AS (Kd.R_mono (Kd.R_told (Kd.R_told (Kd.R_old (RS aa.out) hb) (Kd.R_base ho0)) (Kd.R_base ho1)) (fun _ _ => trivial)); replace a7 := AS (Kd.R_mono (Kd.R_told (Kd.R_told (Kd.R_old (RS a7.out) hb) (Kd.R_base ho0)) (Kd.R_base ho1)) (fun _ _ => trivial)); replace a8 := AS (Kd.R_mono (Kd.R_told (Kd.R_told (Kd.R_old (RS a8.out) hb) (Kd.R_base ho0)) (Kd.R_base ho1)) (fun _ _ => trivial)); replace af := AS (Kd.R_mono (Kd.R_told (Kd.R_told (Kd.R_old (RS af.out) hb) (Kd.R_base ho0)) (Kd.R_base ho1)) (fun _ _ => trivial)); have an := RN ho0 HB; have ao := AS (Kd.R_lower ho1 (below_size (BW HB))); replace a3 := KB a3 hb; replace a4 := KB a4 hb; replace a5 := KB a5 hb; replace a6 := KB a6 hb; replace ab := KB ab hb; replace ac := KB ac hb; replace ae := KB ae hb; replace ad := KB ad hb; replace HB := BB HB hb; (try clear hb); (try clear ho0); (try clear ho1)) | ((with_reducible refine gate_dst (N := 34) rfl ?_); (try (refine gate_guard (by rfl) ?_; dsimp only)); refine boxM 34 #[.int .i64 0, .int .i64 0, .slice none 0 0] 26 ?_; intro kC hg mT hbox hb; have ag := AS (hbox); have kg := BG HB hg; have bU := KN a3 hg; have cP := KM a3 hg; have ca := KN a4 hg; have cQ := KM a4 hg; have cg := KN a5 hg; have cR := KM a5 hg; have cn := KN a6 hg; have cS := KM a6 hg; have cu := KN ab hg; have cT := KM ab hg; have cy := KN ac hg; have cU := KM ac hg; have cC := KN ae hg; have cV := KM ae hg; have cM := KN ad hg; have cW := KM ad hg; replace a0 := RB a0 hb; replace a2 := RB a2 hb; replace a1 := RB a1 hb; replace a9 := RB a9 hb; replace aa := RB aa hb; replace a7 := RB a7 hb; replace a8 := RB a8 hb; replace af := RB af hb; replace an := RB an hb; replace ao := RB ao hb; replace a3 := KB a3 hb; replace a4 := KB a4 hb; replace a5 := KB a5 hb; replace a6 := KB a6 hb; replace ab := KB ab hb; replace ac := KB ac hb; replace ae := KB ae hb; replace ad := KB ad hb; replace HB := BB HB hb; clear hb hbox hg; have iw := cP.out; have jg := bU.out; have iy := cQ.out; have jh := ca.out; have iz := cR.out; have ji := cg.out; have iA := cS.out; have jj := cn.out; have iB := cT.out; have jk := cu.out; have iC := cU.out; have jl := cy.out; have iD := cV.out; have jm := cC.out; have iE := cW.out; have jn := cM.out; obtain ⟨fU, fV, fW, gz, gA, gB⟩ := CZ3 ag; obtain ⟨aA, aB, fy⟩ := Kd.R_slice an.out; subst fy; obtain ⟨fX, fY, fZ, gC, gD, gE⟩ := CZ3 a3) | (go_at_call 27; (with_reducible refine (CS.impl_StepBasin.calls k4 ap aq _ _ ak 1048576000 1031798784 4 aN aO aP true _ ?s1 ?s2 lm.out).mono ?_); (case s1 => exact (RC (RF3T a0 ag (.int .i64 aU) (.int .i64 aV) (.slice aA aW.length aB)))); (case s2 => exact (Kd.R_reads' a0.out).2.1); rintro e mU ⟨mI, rfl, ho0, hb⟩; replace a0 := RFB a0 ag (.int .i64 aU) (.int .i64 aV) (.slice aA aW.length aB) hb; replace a2 := RFB a2 ag (.int .i64 aU) (.int .i64 aV) (.slice aA aW.length aB) hb; replace a1 := RFB a1 ag (.int .i64 aU) (.int .i64 aV) (.slice aA aW.length aB) hb; replace a9 := RFB a9 ag (.int .i64 aU) (.int .i64 aV) (.slice aA aW.length aB) hb; replace aa := RFB aa ag (.int .i64 aU) (.int .i64 aV) (.slice aA aW.length aB) hb; replace a7 := RFB a7 ag (.int .i64 aU) (.int .i64 aV) (.slice aA aW.length aB) hb; replace a8 := RFB a8 ag (.int .i64 aU) (.int .i64 aV) (.slice aA aW.length aB) hb; replace af := RFB af ag (.int .i64 aU) (.int .i64 aV) (.slice aA aW.length aB) hb; replace an := RFB an ag (.int .i64 aU) (.int .i64 aV) (.slice aA aW.length aB) hb; replace ao := RFB ao ag (.int .i64 aU) (.int .i64 aV) (.slice aA aW.length aB) hb; have aw := RN ho0 HB; replace ag := KPB ag (.int .i64 aU) (.int .i64 aV) (.slice aA aW.length aB) hb; replace a3 := KFB a3 hb; replace a4 := KFB a4 hb; replace a5 := KFB a5 hb; replace a6 := KFB a6 hb; replace ab := KFB ab hb; replace ac := KFB ac hb; replace ae := KFB ae hb; replace ad := KFB ad hb; replace HB := BB HB hb; (try clear hb); (try clear ho0)) | ((with_reducible refine gate_dst (N := 37) rfl ?_); (try (refine gate_guard (by rfl) ?_; dsimp only)); refine boxM 37 #[.int .i64 0, .int .i64 0, .slice none 0 0] 26 ?_; intro kD hg mV hbox hb; have ah := AS (hbox); have kh := BG HB hg; have bV := KN a3 hg; have cZ := KM a3 hg; have cb := KN a4 hg; have d0 := KM a4 hg; have ch := KN a5 hg; have d1 := KM a5 hg; have co := KN a6 hg; have d2 := KM a6 hg; have cv := KN ab hg; have d3 := KM ab hg; have cz := KN ac hg; have d4 := KM ac hg; have cD := KN ae hg; have d5 := KM ae hg; have cN := KN ad hg; have d6 := KM ad hg; have cX := KN ag hg; have d7 := KM ag hg; replace a0 := RB a0 hb; replace a2 := RB a2 hb; replace a1 := RB a1 hb; replace a9 := RB a9 hb; replace aa := RB aa hb; replace a7 := RB a7 hb; replace a8 := RB a8 hb; replace af := RB af hb; replace an := RB an hb; replace ao := RB ao hb; replace aw := RB aw hb; replace a3 := KB a3 hb; replace a4 := KB a4 hb; replace a5 := KB a5 hb; replace a6 := KB a6 hb; replace ab := KB ab hb; replace ac := KB ac hb; replace ae := KB ae hb; replace ad := KB ad hb; replace ag := KB ag hb; replace HB := BB HB hb; clear hb hbox hg; have iF := cZ.out; have jo := bV.out; have iG := d0.out; have jp := cb.out; have iH := d1.out; have jq := ch.out; have iI := d2.out; have jr := co.out; have iJ := d3.out; have js := cv.out; have iK := d4.out; have jt := cz.out; have iL := d5.out; have ju := cD.out; have iM := d6.out; have jv := cN.out; have iN := d7.out; have jw := cX.out; obtain ⟨g0, g1, g2, gF, gG, gH⟩ := CZ3 ah; obtain ⟨au, ax, fz⟩ := Kd.R_slice aw.out; subst fz) | (go_at_call 27; (with_reducible refine (CS.impl_StepBasin.calls k4 aN aO _ _ aP 1048576000 1031798784 4 aQ aR aS true _ ?s1 ?s2 ln.out).mono ?_); (case s1 => exact (RC (RF3T aw ah (.int .i64 aN) (.int .i64 aO) (.slice au aP.length ax)))); (case s2 => exact (Kd.R_reads' aw.out).2.1); rintro e mW ⟨mJ, rfl, ho0, hb⟩; replace a0 := RFB a0 ah (.int .i64 aN) (.int .i64 aO) (.slice au aP.length ax) hb; replace a2 := RFB a2 ah (.int .i64 aN) (.int .i64 aO) (.slice au aP.length ax) hb; replace a1 := RFB a1 ah (.int .i64 aN) (.int .i64 aO) (.slice au aP.length ax) hb; replace a9 := RFB a9 ah (.int .i64 aN) (.int .i64 aO) (.slice au aP.length ax) hb; replace aa := RFB aa ah (.int .i64 aN) (.int .i64 aO) (.slice au aP.length ax) hb; replace a7 := RFB a7 ah (.int .i64 aN) (.int .i64 aO) (.slice au aP.length ax) hb; replace a8 := RFB a8 ah (.int .i64 aN) (.int .i64 aO) (.slice au aP.length ax) hb; replace af := RFB af ah (.int .i64 aN) (.int .i64 aO) (.slice au aP.length ax) hb; replace an := RFB an ah (.int .i64 aN) (.int .i64 aO) (.slice au aP.length ax) hb; replace ao := RFB ao ah (.int .i64 aN) (.int .i64 aO) (.slice au aP.length ax) hb; replace aw := RFB aw ah (.int .i64 aN) (.int .i64 aO) (.slice au aP.length ax) hb; have aT := RN ho0 HB; replace ah := KPB ah (.int .i64 aN) (.int .i64 aO) (.slice au aP.length ax) hb; replace a3 := KFB a3 hb; replace a4 := KFB a4 hb; replace a5 := KFB a5 hb; replace a6 := KFB a6 hb; replace ab := KFB ab hb; replace ac := KFB ac hb; replace ae := KFB ae hb; replace ad := KFB ad hb; replace ag := KFB ag hb; replace HB := BB HB hb; (try clear hb); (try clear ho0)) | ((with_reducible refine gate_dst (N := 39) rfl ?_); (try (refine gate_guard (by rfl) ?_; dsimp only)); refine boxM 39 #[.int .i64 0, .int .i64 0, .slice none 0 0] 26 ?_; intro kE hg mX hbox hb; have al := AS (hbox); have ki := BG HB hg; have bW := KN a3 hg; have d9 := KM a3 hg; have cc := KN a4 hg; have da := KM a4 hg; have ci := KN a5 hg; have db := KM a5 hg; have cp := KN a6 hg; have dc := KM a6 hg; have cw := KN ab hg; have dd := KM ab hg; have cA := KN ac hg; have de := KM ac hg; have cE := KN ae hg; have df := KM ae hg; have cO := KN ad hg; have dg := KM ad hg; have cY := KN ag hg; have dh := KM ag hg; have d8 := KN ah hg; have di := KM ah hg; replace a0 := RB a0 hb; replace a2 := RB a2 hb; replace a1 := RB a1 hb; replace a9 := RB a9 hb; replace aa := RB aa hb; replace a7 := RB a7 hb; replace a8 := RB a8 hb; replace af := RB af hb; replace an := RB an hb; replace ao := RB ao hb; replace aw := RB aw hb; replace aT := RB aT hb; replace a3 := KB a3 hb; replace a4 := KB a4 hb; replace a5 := KB a5 hb; replace a6 := KB a6 hb; replace ab := KB ab hb; replace ac := KB ac hb; replace ae := KB ae hb; replace ad := KB ad hb; replace ag := KB ag hb; replace ah := KB ah hb; replace HB := BB HB hb; clear hb hbox hg; have iO := d9.out; have jx := bW.out; have iP := da.out; have jy := cc.out; have iQ := db.out; have jz := ci.out; have iR := dc.out; have jA := cp.out; have iS := dd.out; have jB := cw.out; have iT := de.out; have jC := cA.out; have iU := df.out; have jD := cE.out; have iV := dg.out; have jE := cO.out; have iW := dh.out; have jF := cY.out; have iX := di.out; have jG := d8.out; obtain ⟨g3, g4, g5, gI, gJ, gK⟩ := CZ3 al; obtain ⟨av, ay, fA⟩ := Kd.R_slice aT.out; subst fA) | (go_at_call 14; (with_reducible refine (B0.laws_r8Gap.calls (cvt .f32 gR .f64) (cvt .f32 gS .f64) fn _ lo.out).mono ?_); rintro e mY ⟨rfl, hb⟩; replace a0 := RFB a0 al (.int .i64 aQ) (.int .i64 aR) (.slice av aS.length ay) hb; replace a2 := RFB a2 al (.int .i64 aQ) (.int .i64 aR) (.slice av aS.length ay) hb; replace a1 := RFB a1 al (.int .i64 aQ) (.int .i64 aR) (.slice av aS.length ay) hb; replace a9 := RFB a9 al (.int .i64 aQ) (.int .i64 aR) (.slice av aS.length ay) hb; replace aa := RFB aa al (.int .i64 aQ) (.int .i64 aR) (.slice av aS.length ay) hb; replace a7 := RFB a7 al (.int .i64 aQ) (.int .i64 aR) (.slice av aS.length ay) hb; replace a8 := RFB a8 al (.int .i64 aQ) (.int .i64 aR) (.slice av aS.length ay) hb; replace af := RFB af al (.int .i64 aQ) (.int .i64 aR) (.slice av aS.length ay) hb; replace an := RFB an al (.int .i64 aQ) (.int .i64 aR) (.slice av aS.length ay) hb; replace ao := RFB ao al (.int .i64 aQ) (.int .i64 aR) (.slice av aS.length ay) hb; replace aw := RFB aw al (.int .i64 aQ) (.int .i64 aR) (.slice av aS.length ay) hb; replace aT := RFB aT al (.int .i64 aQ) (.int .i64 aR) (.slice av aS.length ay) hb; replace al := KPB al (.int .i64 aQ) (.int .i64 aR) (.slice av aS.length ay) hb; replace a3 := KFB a3 hb; replace a4 := KFB a4 hb; replace a5 := KFB a5 hb; replace a6 := KFB a6 hb; replace ab := KFB ab hb; replace ac := KFB ac hb; replace ae := KFB ae hb; replace ad := KFB ad hb; replace ag := KFB ag hb; replace ah := KFB ah hb; replace HB := BB HB hb; (try clear hb); obtain ⟨g6, g7, g8, gL, gM, gN⟩ := CZ3 al; obtain ⟨g9, ga, gb, gO, gP, gQ⟩ := CZ3 ag) | (go_at_call 15; (with_reducible refine (B0.impl_SameBasin.calls k4 aQ aR _ _ aS aU aV _ _ aW true _ ?s1 ?s2 ?s3 ?s4 lp.out).mono ?_); (case s1 => exact CS (Kd.R_reads' aT.out).2.2); (case s2 => exact (Kd.R_reads' aT.out).2.1); (case s3 => exact CS (Kd.R_reads' an.out).2.2); (case s4 => exact (Kd.R_reads' an.out).2.1); rintro e mZ ⟨rfl, hb⟩; replace a0 := RB a0 hb; replace a2 := RB a2 hb; replace a1 := RB a1 hb; replace a9 := RB a9 hb; replace aa := RB aa hb; replace a7 := RB a7 hb; replace a8 := RB a8 hb; replace af := RB af hb; replace an := RB an hb; replace ao := RB ao hb; replace aw := RB aw hb; replace aT := RB aT hb; replace a3 := KB a3 hb; replace a4 := KB a4 hb; replace a5 := KB a5 hb; replace a6 := KB a6 hb; replace ab := KB ab hb; replace ac := KB ac hb; replace ae := KB ae hb; replace ad := KB ad hb; replace ag := KB ag hb; replace ah := KB ah hb; replace al := KB al hb; replace HB := BB HB hb; (try clear hb); obtain ⟨k7, kA, fB⟩ := Kd.R_slice ao.out; subst fB)))); go_ret; exact ⟨by first | (refine Eq.trans ?_ (congrArg (fun b => Ending.returned (Value.bool b)) fi.out); rfl) | (rw [fi.out]) | (have h_ := fi.out; simp at h_; simp [h_]; done) | (have h_ := fi.out; simp at h_; subst h_; rfl) | (simp [fi.out]; done) | rfl | (simp [errW_none, errW_some] <;> rfl) | (simp [*, errW_none, errW_some] <;> rfl), BW HB⟩
                        replace jY := Bool.eq_false_iff.mpr jY
                        subst jY; have H1 : (some false) = some true := (by rw [if_neg (show ¬ (false = true) by decide)] at H; exact H); clear H; have H := H1; clear H1; exact absurd (Option.some.inj H) (by decide)
                       rw [if_neg fm] at H
                       have lz : (FloatKind.f64.format.order (cvt .f32 em .f64) (fop .add .f64 (cvt .f32 e1 .f64) 4576918229304087675) == some .lt) = false := (by simpa using fm); (try (have lA : decide (FloatKind.f64.format.order (cvt .f32 em .f64) (fop .add .f64 (cvt .f32 e1 .f64) 4576918229304087675) = some .lt) = false := by simpa using fm)); (try (have lB : (FloatKind.f64.format.order (cvt .f32 em .f64) (fop .add .f64 (cvt .f32 e1 .f64) 4576918229304087675) == some .lt) = false := by simpa using fm)); (try (have nB : ¬ (FloatKind.f64.format.order (cvt .f32 em .f64) (fop .add .f64 (cvt .f32 e1 .f64) 4576918229304087675) = some .lt) := by simpa using fm)); clear fm; exact absurd (Option.some.inj H) (by decide)
                      rw [if_neg hZ] at H
                      exact absurd H (by simp)
                     rw [if_neg hY] at H
                     exact absurd H (by simp)
                    rw [if_neg hX] at H
                    exact absurd H (by simp)
                   rw [if_neg fk] at H
                   have lw : (FloatKind.f64.format.order fn 4576918229304087675 == some .lt) = false := (by simpa using fk); (try (have lx : decide (FloatKind.f64.format.order fn 4576918229304087675 = some .lt) = false := by simpa using fk)); (try (have ly : (FloatKind.f64.format.order fn 4576918229304087675 == some .lt) = false := by simpa using fk)); (try (have nu : ¬ (FloatKind.f64.format.order fn 4576918229304087675 = some .lt) := by simpa using fk)); clear fk; exact absurd (Option.some.inj H) (by decide)
                  rw [if_neg hW] at H
                  exact absurd H (by simp)
                 rw [if_neg hV] at H
                 exact absurd H (by simp)
                replace jX := Bool.eq_false_iff.mpr jX
                subst jX; have H1 : (some false) = some true := (by rw [if_neg (show ¬ (false = true) by decide)] at H; exact H); clear H; have H := H1; clear H1; exact absurd (Option.some.inj H) (by decide)
               replace jW := Bool.eq_false_iff.mpr jW
               subst jW; have H1 : (some false) = some true := (by rw [if_neg (show ¬ (false = true) by decide)] at H; exact H); clear H; have H := H1; clear H1; exact absurd (Option.some.inj H) (by decide)
              replace jV := Bool.eq_false_iff.mpr jV
              subst jV; have H1 : (some false) = some true := (by rw [if_neg (show ¬ (false = true) by decide)] at H; exact H); clear H; have H := H1; clear H1; exact absurd (Option.some.inj H) (by decide)
             replace jU := Bool.eq_false_iff.mpr jU
             subst jU; have H1 : (some false) = some true := (by rw [if_neg (show ¬ (false = true) by decide)] at H; exact H); clear H; have H := H1; clear H1; exact absurd (Option.some.inj H) (by decide)
            replace jT := Bool.eq_false_iff.mpr jT
            subst jT; have H1 : (some false) = some true := (by rw [if_neg (show ¬ (false = true) by decide)] at H; exact H); clear H; have H := H1; clear H1; exact absurd (Option.some.inj H) (by decide)
           replace jS := Bool.eq_false_iff.mpr jS
           subst jS; have H1 : (some false) = some true := (by rw [if_neg (show ¬ (false = true) by decide)] at H; exact H); clear H; have H := H1; clear H1; exact absurd (Option.some.inj H) (by decide)
          replace jR := Bool.eq_false_iff.mpr jR
          subst jR; have H1 : (some false) = some true := (by rw [if_neg (show ¬ (false = true) by decide)] at H; exact H); clear H; have H := H1; clear H1; exact absurd (Option.some.inj H) (by decide)
         replace jQ := Bool.eq_false_iff.mpr jQ
         subst jQ; have H1 : (some false) = some true := (by rw [if_neg (show ¬ (false = true) by decide)] at H; exact H); clear H; have H := H1; clear H1; exact absurd (Option.some.inj H) (by decide)
end Go.Proofs.Ytelkklnfbfmecaa.MW
end
section
namespace Go.Proofs.Ytelkklnfbfmecaa
namespace FR
theorem two_ne : (2 : Rat) ≠ 0 := by decide
theorem pw_pos (e : Int) : (0 : Rat) < (2 : Rat) ^ e := Rat.zpow_pos (by decide)
theorem pw_add (a b : Int) : (2 : Rat) ^ (a + b) = (2 : Rat) ^ a * (2 : Rat) ^ b := Rat.zpow_add two_ne a b
theorem pw_nat (n : Nat) : (2 : Rat) ^ (n : Int) = ((2 ^ n : Nat) : Rat) := by
  rw [Rat.zpow_natCast]
  induction n with
  | zero => rfl
  | succ n ih => rw [Rat.pow_succ, ih, Nat.pow_succ, Rat.natCast_mul]; rfl
theorem pw_mono {a b : Int} (h : a ≤ b) : (2 : Rat) ^ a ≤ (2 : Rat) ^ b := by
  obtain ⟨n, rfl⟩ : ∃ n : Nat, b = a + n := ⟨(b - a).toNat, by omega⟩
  rw [pw_add, pw_nat]
  have h1 : (1 : Rat) ≤ ((2 ^ n : Nat) : Rat) := by
    have : 1 ≤ 2 ^ n := Nat.one_le_two_pow
    exact_mod_cast this
  have := Rat.mul_le_mul_of_nonneg_left h1 (Rat.le_of_lt (pw_pos a))
  rwa [Rat.mul_one] at this
theorem pw_lt {a b : Int} (h : (2 : Rat) ^ a < (2 : Rat) ^ b) : a < b := by
  apply Classical.byContradiction
  intro hn
  have := pw_mono (a := b) (b := a) (by omega)
  exact absurd h (Rat.not_lt.2 this)
open Ieee
def sv (s : Bool) (m : Nat) (e : Int) : Rat := (if s = true then -(m : Rat) else (m : Rat)) * (2 : Rat) ^ e
def Fv (f : Format) (x : Nat) (v : Rat) : Prop := ∃ s m e, f.read x = .number s m e ∧ sv s m e = v
theorem sv_zero (s : Bool) (e : Int) : sv s 0 e = 0 := by
  unfold sv
  cases s <;> simp <;> grind
theorem sv_up (s : Bool) (m k : Nat) (e : Int) : sv s (m * 2 ^ k) e = sv s m (e + k) := by
  unfold sv
  rw [pw_add, pw_nat]
  cases s <;> simp [Rat.natCast_mul] <;> grind
theorem cut_near (neg : Bool) (n d : Nat) : 2 * (Toward.even.cut neg n d * 2 ^ d) ≤ 2 * n + 2 ^ d ∧ 2 * n ≤ 2 * (Toward.even.cut neg n d * 2 ^ d) + 2 ^ d := by
 unfold Toward.cut
 by_cases hd : d ≤ n.log2 + 2
 ·have hm : min d (n.log2 + 2) = d := Nat.min_eq_left hd
  simp only [hm, Nat.shiftLeft_eq, Nat.one_mul]
  have hp : 0 < 2 ^ d := Nat.two_pow_pos d
  have h1 := Nat.div_add_mod n (2 ^ d)
  have h2 := Nat.mod_lt n hp
  generalize 2 ^ d = g at *
  generalize n / g = q at *
  generalize n % g = r at *
  subst h1
  have e1 : q * g = g * q := Nat.mul_comm _ _
  have e2 : (q + 1) * g = g * q + g := by rw [Nat.add_mul, e1]; omega
  cases hc : (decide (g < 2 * r) || g == 2 * r && q % 2 == 1) with
  | true =>
   simp at hc
   show 2 * ((q + 1) * g) ≤ _ ∧ _ ≤ 2 * ((q + 1) * g) + g
   rw [e2]
   omega
  | false =>
   simp at hc
   show 2 * ((q + 0) * g) ≤ _ ∧ _ ≤ 2 * ((q + 0) * g) + g
   rw [Nat.add_zero, e1]
   omega
 have hm : min d (n.log2 + 2) = n.log2 + 2 := Nat.min_eq_right (by omega)
 have hn : 2 * n < 2 ^ (n.log2 + 2) := by
  have := @Nat.lt_log2_self n
  rw [Nat.pow_succ]
  omega
 have hle : 2 ^ (n.log2 + 2) ≤ 2 ^ d := Nat.pow_le_pow_right (by decide) (by omega)
 simp only [hm, Nat.shiftLeft_eq, Nat.one_mul]
 have q0 : n / 2 ^ (n.log2 + 2) = 0 := Nat.div_eq_of_lt (by omega)
 have r0 : n % 2 ^ (n.log2 + 2) = n := Nat.mod_eq_of_lt (by omega)
 rw [q0, r0]
 have : (decide (2 ^ (n.log2 + 2) < 2 * n) || 2 ^ (n.log2 + 2) == 2 * n && 0 % 2 == 1) = false := by
  simp
  omega
 rw [this]
 show 2 * ((0 + 0) * 2 ^ d) ≤ _ ∧ _ ≤ 2 * ((0 + 0) * 2 ^ d) + _
 rw [Nat.add_zero, Nat.zero_mul]
 omega
theorem cut_whole (neg : Bool) (n d : Nat) (h : 2 ^ d ∣ n) : Toward.even.cut neg n d * 2 ^ d = n := by
  obtain ⟨q, rfl⟩ := h
  by_cases hq : q = 0
  · subst hq
    have := cut_near neg (2 ^ d * 0) d
    rw [Nat.mul_zero] at this ⊢
    have h2 := this.1
    have hp : 0 < 2 ^ d := Nat.two_pow_pos d
    cases hc : Toward.even.cut neg 0 d with
    | zero => simp
    | succ c =>
      rw [hc, Nat.add_mul, Nat.one_mul] at h2
      exfalso
      omega
  · have hl : d ≤ (2 ^ d * q).log2 := by
      have : 2 ^ d ≤ 2 ^ d * q := Nat.le_mul_of_pos_right _ (by omega)
      exact (Nat.le_log2 (by have := Nat.two_pow_pos d; omega)).2 this
    unfold Toward.cut
    have hm : min d ((2 ^ d * q).log2 + 2) = d := Nat.min_eq_left (by omega)
    have hp : 0 < 2 ^ d := Nat.two_pow_pos d
    simp only [hm, Nat.shiftLeft_eq, Nat.one_mul]
    rw [Nat.mul_div_cancel_left _ hp, Nat.mul_mod_right]
    have : (decide (2 ^ d < 2 * 0) || 2 ^ d == 2 * 0 && q % 2 == 1) = false := by
      have h1 : decide (2 ^ d < 2 * 0) = false := by simp
      have h2 : (2 ^ d == 2 * 0) = false := by
        rw [beq_eq_false_iff_ne]
        omega
      rw [h1, h2]
      rfl
    rw [this]
    show (q + 0) * 2 ^ d = _
    rw [Nat.add_zero, Nat.mul_comm]
def Good (f : Format) : Prop := f = single ∨ f = double
def top (f : Format) : Int := 2 ^ (f.exponentBits - 1) - 1
theorem read_word {f : Format} (hf : Good f) (neg : Bool) (r : Nat) (h : r < f.infRung) : f.read (f.word neg r) = if r < f.binade then .number neg r f.leastPlace else .number neg (f.binade + r % f.binade) (f.leastPlace + (r / f.binade - 1 : Nat)) := by
  have hs : f.infRung ≤ f.signWeight := by rcases hf with rfl | rfl <;> decide
  have hp : 0 < f.signWeight := by rcases hf with rfl | rfl <;> decide
  have e1 : (f.word neg r) / f.signWeight % 2 = if neg = true then 1 else 0 := by
    unfold Format.word
    cases neg with
    | true => rw [if_pos rfl, Nat.add_div_left _ hp, Nat.div_eq_of_lt (by omega)]; rfl
    | false => rw [if_neg (by simp), Nat.div_eq_of_lt (by omega)]; rfl
  have e2 : (f.word neg r) % f.signWeight = r := by
    unfold Format.word
    cases neg with
    | true => rw [if_pos rfl, Nat.add_mod_left, Nat.mod_eq_of_lt (by omega)]
    | false => rw [if_neg (by simp), Nat.mod_eq_of_lt (by omega)]
  unfold Format.read
  simp only [e1, e2]
  have e3 : ((if neg = true then 1 else 0) == 1) = neg := by cases neg <;> rfl
  rw [e3, if_pos h]
theorem binade_pos {f : Format} (hf : Good f) : 0 < f.binade := by rcases hf with rfl | rfl <;> decide
theorem read_rung {f : Format} (hf : Good f) (neg : Bool) (L K : Nat) (hK : K ≤ 2 * f.binade) (hL : L = 0 ∨ f.binade ≤ K) (h : L * f.binade + K < f.infRung) : Fv f (f.word neg (L * f.binade + K)) (sv neg K (f.leastPlace + (L : Int))) := by
 have hb := binade_pos hf
 unfold Fv
 rw [read_word hf neg _ h]
 by_cases h1 : L * f.binade + K < f.binade
 ·rw [if_pos h1]
  have hL0 : L = 0 := by
   rcases hL with h | h
   ·exact h
   omega
  subst hL0
  refine ⟨_, _, _, rfl, ?_⟩
  simp
 rw [if_neg h1]
 refine ⟨_, _, _, rfl, ?_⟩
 have key : ∀ q t : Nat, q * f.binade + t = L * f.binade + K → t < f.binade → 1 ≤ q → sv neg (f.binade + t) (f.leastPlace + ((q - 1 : Nat) : Int)) = sv neg K (f.leastPlace + (L : Int)) := by
  intro q t he ht hq
  by_cases hqL : q = L + 2
  ·subst hqL
   have : (L + 2) * f.binade = L * f.binade + 2 * f.binade := by rw [Nat.add_mul]
   obtain rfl : t = 0 := by omega
   obtain rfl : K = f.binade * 2 ^ 1 := by omega
   rw [sv_up]
   congr 1
   omega
  by_cases hqL : q = L + 1
  ·subst hqL
   have : (L + 1) * f.binade = L * f.binade + f.binade := by rw [Nat.add_mul]; omega
   obtain rfl : K = f.binade + t := by omega
   congr 1
  exfalso
  have hlt : q < L + 1 ∨ L + 3 ≤ q := by omega
  rcases hlt with h | h
  ·have : q * f.binade ≤ L * f.binade := Nat.mul_le_mul_right _ (by omega)
   rcases hL with h0 | h0
   ·omega
   omega
  have : (L + 3) * f.binade ≤ q * f.binade := Nat.mul_le_mul_right _ h
  rw [Nat.add_mul] at this
  omega
 refine key _ _ ?_ (Nat.mod_lt _ hb) ?_
 ·have := Nat.div_add_mod (L * f.binade + K) f.binade
  rw [Nat.mul_comm] at this
  exact this
 exact (Nat.le_div_iff_mul_le hb).2 (by omega)
def hu (f : Format) (J : Int) : Rat := (2 : Rat) ^ (max (J - 1 - f.fractionBits) f.leastPlace - 1)
theorem neg_inj {a b : Rat} (h : -a = -b) : a = b := by grind
def Nr (h a b : Rat) : Prop := a ≤ b + h ∧ b ≤ a + h
theorem Nr.mono {h k a b : Rat} (hn : Nr h a b) (hk : h ≤ k) : Nr k a b := by unfold Nr at *; grind
theorem mul_ne {a b : Rat} (ha : a ≠ 0) (hb : b ≠ 0) : a * b ≠ 0 := fun h => (Rat.mul_eq_zero.1 h).elim ha hb
theorem mul_cancel {a b c : Rat} (hc : c ≠ 0) (h : a * c = b * c) : a = b := by
  have : a * c / c = b * c / c := by rw [h]
  rwa [Rat.mul_div_cancel hc, Rat.mul_div_cancel hc] at this
theorem sv_diff (s : Bool) {m n : Nat} {e : Int} {b : Nat} (h1 : 2 * m ≤ 2 * n + b) (h2 : 2 * n ≤ 2 * m + b) : Nr ((b : Rat) * (2 : Rat) ^ (e - 1)) (sv s m e) (sv s n e) := by
  have hp := pw_pos (e - 1)
  have he : (2 : Rat) ^ e = 2 * (2 : Rat) ^ (e - 1) := by
    have : e = 1 + (e - 1) := by omega
    rw [this, pw_add]
    have : (1 : Int) + (e - 1) - 1 = e - 1 := by omega
    rw [this]
    rfl
  have g1 : 2 * (m : Rat) ≤ 2 * (n : Rat) + b := by exact_mod_cast h1
  have g2 : 2 * (n : Rat) ≤ 2 * (m : Rat) + b := by exact_mod_cast h2
  have k1 := Rat.mul_le_mul_of_nonneg_right g1 (Rat.le_of_lt hp)
  have k2 := Rat.mul_le_mul_of_nonneg_right g2 (Rat.le_of_lt hp)
  unfold sv Nr
  rw [he]
  clear h1 h2 g1 g2 he
  cases s <;> simp <;> grind
theorem near_val {f : Format} (hf : Good f) (s : Bool) (m : Nat) (e J : Int) (h : m ≠ 0 → (m.log2 : Int) + e < J) (hJ : J ≤ top f) :
  ∃ v, Fv f (f.nearest s m e) v ∧ Nr (hu f J) v (sv s m e) ∧ ((∃ (z : Nat) (t : Int), sv s m e = sv s z t ∧ z < 2 * f.binade ∧ f.leastPlace ≤ t) → v = sv s m e) := by
 have hb := binade_pos hf
 have hbp : f.binade = 2 ^ f.fractionBits := rfl
 by_cases hm : m = 0
 ·subst hm
  have : f.nearest s 0 e = f.word s (0 * f.binade + 0) := by unfold Format.nearest; simp
  rw [this]
  refine ⟨_, read_rung hf s 0 0 (by omega) (.inl rfl) (by rcases hf with rfl | rfl <;> decide), ?_, ?_⟩
  ·rw [sv_zero, sv_zero]
   have := Rat.le_of_lt (pw_pos (max (J - 1 - f.fractionBits) f.leastPlace - 1))
   have hz : (0 : Rat) ≤ 0 + hu f J := by rw [Rat.zero_add]; exact this
   exact ⟨hz, hz⟩
  intro _
  rw [sv_zero, sv_zero]
 have hlg := h hm
 have hlow : 2 ^ m.log2 ≤ m := (Nat.le_log2 hm).1 (Nat.le_refl _)
 have hhigh : m < 2 ^ (m.log2 + 1) := Nat.lt_log2_self
 unfold Format.nearest
 rw [if_neg hm]
 simp only []
 have hlastdef : ∃ last : Int, last = max (e + m.log2 - f.fractionBits) f.leastPlace := ⟨_, rfl⟩
 obtain ⟨last, hlast⟩ := hlastdef
 rw [← hlast, Nat.shiftLeft_eq]
 obtain ⟨a, ha⟩ : ∃ a : Nat, a = (e - last).toNat := ⟨_, rfl⟩
 obtain ⟨d, hd⟩ : ∃ d : Nat, d = (last - e).toNat := ⟨_, rfl⟩
 obtain ⟨L, hL⟩ : ∃ L : Nat, L = (last - f.leastPlace).toNat := ⟨_, rfl⟩
 rw [← ha, ← hd, ← hL]
 have hll : last = f.leastPlace + (L : Int) := by omega
 have he : e = last + (a : Int) - d := by omega
 obtain ⟨n, hn⟩ : ∃ n : Nat, n = m * 2 ^ a := ⟨_, rfl⟩
 rw [← hn]
 have hc := cut_near s n d
 have up : n < 2 ^ (f.fractionBits + 1) * 2 ^ d := by
  have : n < 2 ^ (m.log2 + 1) * 2 ^ a := by rw [hn]; exact Nat.mul_lt_mul_of_pos_right hhigh (Nat.two_pow_pos a)
  rw [← Nat.pow_add] at this ⊢
  exact Nat.lt_of_lt_of_le this (Nat.pow_le_pow_right (by decide) (by omega))
 have low : 0 < L → 2 ^ f.fractionBits * 2 ^ d ≤ n := by
  intro h0
  have : 2 ^ m.log2 * 2 ^ a ≤ n := by rw [hn]; exact Nat.mul_le_mul_right _ hlow
  rw [← Nat.pow_add] at this ⊢
  exact Nat.le_trans (Nat.pow_le_pow_right (by decide) (by omega)) this
 have hd0 : 0 < 2 ^ d := Nat.two_pow_pos d
 obtain ⟨c, hcd⟩ : ∃ c, c = Toward.even.cut s n d := ⟨_, rfl⟩
 rw [← hcd] at hc ⊢
 have hK : c ≤ 2 * f.binade := by
  rw [hbp]
  rw [Nat.pow_succ] at up
  apply Classical.byContradiction
  intro hn2
  have : (2 * 2 ^ f.fractionBits + 1) * 2 ^ d ≤ c * 2 ^ d := Nat.mul_le_mul_right _ (by omega)
  rw [Nat.add_mul] at this
  have e5 : 2 ^ f.fractionBits * 2 * 2 ^ d = 2 * 2 ^ f.fractionBits * 2 ^ d := by rw [Nat.mul_comm (2 ^ f.fractionBits) 2]
  omega
 have hLK : L = 0 ∨ f.binade ≤ c := by
  by_cases h0 : L = 0
  ·exact .inl h0
  right
  have := low (by omega)
  rw [hbp]
  apply Classical.byContradiction
  intro hn2
  have h6 : (c + 1) * 2 ^ d ≤ 2 ^ f.fractionBits * 2 ^ d := Nat.mul_le_mul_right _ (by omega)
  rw [Nat.add_mul] at h6
  omega
 have hlt : L * f.binade + c < f.infRung := by
  have h7 : (L : Int) + 2 < 2 ^ f.exponentBits - 1 := by
   rcases hf with rfl | rfl
   ·have : Format.leastPlace single = -149 := by decide
    have : single.fractionBits = 23 := rfl
    have : top single = 127 := by decide
    have : (2 : Int) ^ single.exponentBits = 256 := by decide
    omega
   have : Format.leastPlace double = -1074 := by decide
   have : double.fractionBits = 52 := rfl
   have : top double = 1023 := by decide
   have : (2 : Int) ^ double.exponentBits = 2048 := by decide
   omega
  have h8 : L + 3 ≤ 2 ^ f.exponentBits - 1 := by
   have : ((2 ^ f.exponentBits : Nat) : Int) = 2 ^ f.exponentBits := by push_cast; rfl
   omega
  have h9 : (L + 3) * f.binade ≤ f.infRung := Nat.mul_le_mul_right _ h8
  rw [Nat.add_mul] at h9
  omega
 have hmin : min (L * f.binade + c) f.infRung = L * f.binade + c := Nat.min_eq_left (by omega)
 rw [hmin]
 refine ⟨_, read_rung hf s L c hK hLK hlt, ?_⟩
 rw [← hll]
 have e1 : sv s c last = sv s (c * 2 ^ d) (last - d) := by rw [sv_up]; congr 1; omega
 have e2 : sv s m e = sv s n (last - d) := by rw [hn, sv_up]; congr 1; omega
 refine ⟨?_, ?_⟩
 ·have hh := sv_diff s (e := last - d) hc.1 hc.2
  rw [e1, e2]
  have : ((2 ^ d : Nat) : Rat) * (2 : Rat) ^ (last - d - 1) = (2 : Rat) ^ (last - 1) := by
   rw [← pw_nat, ← pw_add]
   congr 1
   omega
  rw [this] at hh
  have h3 : (2 : Rat) ^ (last - 1) ≤ hu f J := pw_mono (by omega)
  exact Nr.mono hh h3
 rintro ⟨z, t, hz, hz2, ht⟩
 rw [e1, e2]
 have : 2 ^ d ∣ n := by
  by_cases hd0 : d = 0
  ·subst hd0; exact ⟨n, by simp⟩
  have hz3 : sv s n (last - d) = sv s z t := by rw [← e2]; exact hz
  have hlt2 : last ≤ t := by
   have hz0 : z ≠ 0 := by
    rintro rfl
    rw [sv_zero] at hz
    unfold sv at hz
    have hp := pw_pos e
    have hm' : (m : Rat) ≠ 0 := by exact_mod_cast hm
    have hne : (m : Rat) * (2 : Rat) ^ e ≠ 0 := mul_ne hm' (Rat.ne_of_gt hp)
    cases s with
    | true =>
     have hz : -(m : Rat) * (2 : Rat) ^ e = 0 := hz
     rw [Rat.neg_mul] at hz
     exact hne (neg_inj (hz.trans (by rfl)))
    | false => exact hne hz
   have habs : (m : Rat) * (2 : Rat) ^ e = (z : Rat) * (2 : Rat) ^ t := by
    unfold sv at hz
    cases s <;> simp at hz <;> grind
   have k1 : (2 : Rat) ^ ((m.log2 : Int) + e) ≤ (m : Rat) * (2 : Rat) ^ e := by
    rw [pw_add, pw_nat]
    exact Rat.mul_le_mul_of_nonneg_right (by exact_mod_cast hlow) (Rat.le_of_lt (pw_pos e))
   have k2 : (z : Rat) * (2 : Rat) ^ t < (2 : Rat) ^ ((f.fractionBits : Int) + 1 + t) := by
    have : (2 : Rat) ^ ((f.fractionBits : Int) + 1 + t) = ((2 ^ (f.fractionBits + 1) : Nat) : Rat) * (2 : Rat) ^ t := by
     rw [pw_add, ← pw_nat]
     congr 2
    rw [this]
    have hz4 : z < 2 ^ (f.fractionBits + 1) := by rw [Nat.pow_succ, Nat.mul_comm, ← hbp]; exact hz2
    exact Rat.mul_lt_mul_of_pos_right (by exact_mod_cast hz4) (pw_pos t)
   have := pw_lt (Std.lt_of_le_of_lt (habs ▸ k1) k2)
   omega
  have : n = z * 2 ^ (t - last + d).toNat := by
   obtain ⟨u, hu⟩ : ∃ u : Nat, u = (t - last + d).toNat := ⟨_, rfl⟩
   rw [← hu]
   have ht2 : t = last - d + (u : Int) := by omega
   rw [ht2, ← sv_up] at hz3
   unfold sv at hz3
   have hp := pw_pos (last - d)
   have : (n : Rat) = ((z * 2 ^ u : Nat) : Rat) := by
    have hz4 : (n : Rat) * (2 : Rat) ^ (last - d) = ((z * 2 ^ u : Nat) : Rat) * (2 : Rat) ^ (last - d) := by
     cases s with
     | true =>
      have hz3 : -(n : Rat) * (2 : Rat) ^ (last - d) = -((z * 2 ^ u : Nat) : Rat) * (2 : Rat) ^ (last - d) := hz3
      rw [Rat.neg_mul, Rat.neg_mul] at hz3
      exact neg_inj hz3
     | false => exact hz3
    exact mul_cancel (Rat.ne_of_gt hp) hz4
   exact_mod_cast this
  rw [this]
  refine Nat.dvd_trans ?_ (Nat.dvd_mul_left _ _)
  exact Nat.pow_dvd_pow 2 (by omega)
 rw [hcd, cut_whole s n d this]
def Bd (J : Int) (v : Rat) : Prop := -(2 : Rat) ^ J < v ∧ v < (2 : Rat) ^ J
def Rep (f : Format) (v : Rat) : Prop := ∃ (n t : Int), v = (n : Rat) * (2 : Rat) ^ t ∧ n.natAbs < 2 * f.binade ∧ f.leastPlace ≤ t
theorem sv_bd {s : Bool} {m : Nat} {e J : Int} (h : Bd J (sv s m e)) (hm : m ≠ 0) : (m.log2 : Int) + e < J := by
  have hp := pw_pos e
  have hlow : 2 ^ m.log2 ≤ m := (Nat.le_log2 hm).1 (Nat.le_refl _)
  have k1 : (2 : Rat) ^ ((m.log2 : Int) + e) ≤ (m : Rat) * (2 : Rat) ^ e := by
    rw [pw_add, pw_nat]
    exact Rat.mul_le_mul_of_nonneg_right (by exact_mod_cast hlow) (Rat.le_of_lt (pw_pos e))
  have k2 : (m : Rat) * (2 : Rat) ^ e < (2 : Rat) ^ J := by
    unfold Bd sv at h
    cases s with
    | true =>
      have h1 := h.1
      simp at h1
      rw [Rat.neg_mul] at h1
      exact Rat.neg_lt_neg_iff.1 h1
    | false => exact h.2
  exact pw_lt (Std.lt_of_le_of_lt k1 k2)
theorem int_nat (n : Int) : (n : Rat) = if n < 0 then -(n.natAbs : Rat) else (n.natAbs : Rat) := by
  by_cases h : n < 0
  · rw [if_pos h]
    have : n = -(n.natAbs : Int) := by omega
    have h2 : (n : Rat) = ((-(n.natAbs : Int) : Int) : Rat) := by rw [← this]
    rw [h2]
    rfl
  · rw [if_neg h]
    have : n = (n.natAbs : Int) := by omega
    have h2 : (n : Rat) = (((n.natAbs : Int) : Int) : Rat) := by rw [← this]
    rw [h2]
    rfl
theorem near {f : Format} (hf : Good f) {s : Bool} {m : Nat} {e J : Int} (h : Bd J (sv s m e)) (hJ : J ≤ top f) :
    ∃ v, Fv f (f.nearest s m e) v ∧ Nr (hu f J) v (sv s m e) ∧ (Rep f (sv s m e) → v = sv s m e) := by
  obtain ⟨v, h1, h2, h3⟩ := near_val hf s m e J (sv_bd h) hJ
  refine ⟨v, h1, h2, fun hr => h3 ?_⟩
  obtain ⟨n, t, hn, hb, ht⟩ := hr
  refine ⟨n.natAbs, t, ?_, hb, ht⟩
  have hp := pw_pos e
  have hq := pw_pos t
  rw [hn, int_nat]
  have hm0 : (0 : Rat) ≤ (m : Rat) := by exact_mod_cast Nat.zero_le m
  have hn0 : (0 : Rat) ≤ (n.natAbs : Rat) := by exact_mod_cast Nat.zero_le _
  have a1 := Rat.mul_nonneg hm0 (Rat.le_of_lt hp)
  have a2 := Rat.mul_nonneg hn0 (Rat.le_of_lt hq)
  rw [int_nat] at hn
  unfold sv at hn ⊢
  clear h1 h2 h3 h hb ht hm0 hn0 hp hq
  cases s with
  | true =>
    simp only [if_true] at hn ⊢
    split at hn
    · rename_i hneg
      rw [if_pos hneg]
    · rename_i hneg
      rw [if_neg hneg]
      rw [Rat.neg_mul] at hn ⊢
      grind
  | false =>
    simp only [Bool.false_eq_true, if_false] at hn ⊢
    split at hn
    · rename_i hneg
      rw [if_pos hneg]
      rw [Rat.neg_mul] at hn ⊢
      grind
    · rename_i hneg
      rw [if_neg hneg]
theorem sv_opp (s : Bool) (m : Nat) (e : Int) : sv (!s) m e = -sv s m e := by
  unfold sv
  cases s <;> simp <;> grind
theorem signed_val (s : Bool) (m up : Nat) (e : Int) : ((signed s m up : Int) : Rat) * (2 : Rat) ^ e = sv s m (e + up) := by
  rw [← sv_up]
  unfold signed sv
  rw [Nat.shiftLeft_eq]
  cases s with
  | true =>
    simp only [if_true]
    congr 1
  | false =>
    simp only [Bool.false_eq_true, if_false]
    congr 1
theorem total_val (s : Bool) (z : Int) (e : Int) (hs : z ≠ 0 → s = decide (z < 0)) : sv s z.natAbs e = (z : Rat) * (2 : Rat) ^ e := by
  by_cases h : z = 0
  · subst h
    show sv s 0 e = _
    rw [sv_zero]
    have : ((0 : Int) : Rat) = 0 := rfl
    rw [this, Rat.zero_mul]
  · rw [hs h, int_nat]
    unfold sv
    by_cases hz : z < 0 <;> simp [hz]
theorem sum_val {f : Format} (hf : Good f) {d e : Datum} {s t : Bool} {m n : Nat} {i j : Int} {a b : Rat} (hd : d = .number s m i) (he : e = .number t n j) (ha : sv s m i = a) (hb : sv t n j = b) {J : Int} (h : Bd J (a + b)) (hJ : J ≤ top f) :
    ∃ r c, (d.sum e).map f.write = some r ∧ Fv f r c ∧ Nr (hu f J) c (a + b) ∧ (Rep f (a + b) → c = a + b) := by
  subst hd he
  have key : sv (if signed s m (i - min i j).toNat + signed t n (j - min i j).toNat = 0 then s && t else decide (signed s m (i - min i j).toNat + signed t n (j - min i j).toNat < 0)) (signed s m (i - min i j).toNat + signed t n (j - min i j).toNat).natAbs (min i j) = a + b := by
    rw [total_val _ _ _ (fun h => by rw [if_neg h])]
    rw [Rat.intCast_add, Rat.add_mul, signed_val, signed_val]
    rw [show min i j + ((i - min i j).toNat : Int) = i by omega, show min i j + ((j - min i j).toNat : Int) = j by omega, ha, hb]
  rw [← key] at h ⊢
  obtain ⟨v, h1, h2, h3⟩ := near hf h hJ
  exact ⟨_, v, rfl, h1, h2, h3⟩
theorem add_val {f : Format} (hf : Good f) {x y : Nat} {a b : Rat} (hx : Fv f x a) (hy : Fv f y b) {J : Int} (h : Bd J (a + b)) (hJ : J ≤ top f) :
    ∃ r c, f.add x y = some r ∧ Fv f r c ∧ Nr (hu f J) c (a + b) ∧ (Rep f (a + b) → c = a + b) := by
  obtain ⟨s, m, i, hx, ha⟩ := hx
  obtain ⟨t, n, j, hy, hb⟩ := hy
  exact sum_val hf hx hy ha hb h hJ
theorem sub_val {f : Format} (hf : Good f) {x y : Nat} {a b : Rat} (hx : Fv f x a) (hy : Fv f y b) {J : Int} (h : Bd J (a - b)) (hJ : J ≤ top f) :
    ∃ r c, f.sub x y = some r ∧ Fv f r c ∧ Nr (hu f J) c (a - b) ∧ (Rep f (a - b) → c = a - b) := by
  obtain ⟨s, m, i, hx, ha⟩ := hx
  obtain ⟨t, n, j, hy, hb⟩ := hy
  have hy2 : (f.read y).opposite = .number (!t) n j := by rw [hy]; rfl
  rw [Rat.sub_eq_add_neg] at h ⊢
  exact sum_val hf hx hy2 ha ((sv_opp _ _ _).trans (by rw [hb])) h hJ
theorem sv_mul (s t : Bool) (m n : Nat) (i j : Int) : sv (s ^^ t) (m * n) (i + j) = sv s m i * sv t n j := by
  unfold sv
  rw [pw_add, Rat.natCast_mul]
  cases s <;> cases t <;> simp <;> grind
theorem mul_val {f : Format} (hf : Good f) {x y : Nat} {a b : Rat} (hx : Fv f x a) (hy : Fv f y b) {J : Int} (h : Bd J (a * b)) (hJ : J ≤ top f) :
    ∃ r c, f.mul x y = some r ∧ Fv f r c ∧ Nr (hu f J) c (a * b) ∧ (Rep f (a * b) → c = a * b) := by
  obtain ⟨s, m, i, hx, ha⟩ := hx
  obtain ⟨t, n, j, hy, hb⟩ := hy
  rw [← ha, ← hb, ← sv_mul] at h ⊢
  obtain ⟨v, h1, h2, h3⟩ := near hf h hJ
  refine ⟨_, v, ?_, h1, h2, h3⟩
  unfold Format.mul
  rw [hx, hy]
  rfl
def cmp (a b : Rat) : Ordering := if a < b then .lt else if a = b then .eq else .gt
theorem order_val {f : Format} {x y : Nat} {a b : Rat} (hx : Fv f x a) (hy : Fv f y b) : f.order x y = some (cmp a b) := by
  obtain ⟨s, m, i, hx, ha⟩ := hx
  obtain ⟨t, n, j, hy, hb⟩ := hy
  unfold Format.order
  rw [hx, hy]
  show some (compare (signed s m (i - min i j).toNat) (signed t n (j - min i j).toNat)) = _
  have ea : ((signed s m (i - min i j).toNat : Int) : Rat) * (2 : Rat) ^ (min i j) = a := by
    rw [signed_val, show min i j + ((i - min i j).toNat : Int) = i by omega, ha]
  have eb : ((signed t n (j - min i j).toNat : Int) : Rat) * (2 : Rat) ^ (min i j) = b := by
    rw [signed_val, show min i j + ((j - min i j).toNat : Int) = j by omega, hb]
  have hp := pw_pos (min i j)
  generalize signed s m (i - min i j).toNat = p at *
  generalize signed t n (j - min i j).toNat = q at *
  subst ea eb
  unfold cmp
  by_cases h1 : p < q
  · have : (p : Rat) * (2 : Rat) ^ min i j < (q : Rat) * (2 : Rat) ^ min i j := Rat.mul_lt_mul_of_pos_right (by exact_mod_cast h1) hp
    rw [if_pos this]
    rw [Int.compare_eq_lt.2 h1]
  · by_cases h2 : p = q
    · subst h2
      rw [if_neg (Rat.lt_irrefl), if_pos rfl]
      rw [Int.compare_eq_eq.2 rfl]
    · have h3 : q < p := by omega
      have : (q : Rat) * (2 : Rat) ^ min i j < (p : Rat) * (2 : Rat) ^ min i j := Rat.mul_lt_mul_of_pos_right (by exact_mod_cast h3) hp
      rw [if_neg (by grind), if_neg (by grind)]
      rw [Int.compare_eq_gt.2 h3]
theorem int_val {f : Format} (hf : Good f) (n : Int) (h : n.natAbs < 2 * f.binade) : Fv f (f.nearest (decide (n < 0)) n.natAbs 0) (n : Rat) := by
  have hv : sv (decide (n < 0)) n.natAbs 0 = (n : Rat) := by
    rw [total_val _ _ _ (fun _ => rfl), Rat.zpow_zero, Rat.mul_one]
  obtain ⟨v, h1, -, h3⟩ := near_val hf (decide (n < 0)) n.natAbs 0 (f.fractionBits + 1) (by
    intro h0
    have : n.natAbs < 2 ^ (f.fractionBits + 1) := by rw [Nat.pow_succ, Nat.mul_comm]; exact h
    have := (Nat.log2_lt h0).2 this
    omega) (by rcases hf with rfl | rfl <;> decide)
  rw [hv] at h3
  have hl : f.leastPlace ≤ 0 := by rcases hf with rfl | rfl <;> decide
  have : v = (n : Rat) := h3 ⟨n.natAbs, 0, hv.symm, h, hl⟩
  rwa [this] at h1
theorem abs_eq {ε X W : Rat} (he : ε = 1 ∨ ε = -1) (hX : 0 ≤ W) (hW : 0 ≤ X) (h : X = ε * W ∨ -X = ε * W) : X = W := by
  rcases he with rfl | rfl <;> rcases h with h | h <;> grind
theorem quo_gap {Q R n : Nat} {P q ε w : Rat} (hn : 0 < n) (hR : R < n) (hP : 0 < P) (he : ε = 1 ∨ ε = -1) (hq : q * n = ε * ((Q * n + R : Nat) : Rat) * (2 * P)) (hw : w = ε * ((2 * Q + (R != 0).toNat : Nat) : Rat) * P) : Nr P w q ∧ (R = 0 → w = q) := by
 have hn' : (0 : Rat) < (n : Rat) := by exact_mod_cast hn
 have hR' : (R : Rat) ≤ (n : Rat) := by exact_mod_cast Nat.le_of_lt hR
 have hR0 : (0 : Rat) ≤ (R : Rat) := by exact_mod_cast Nat.zero_le R
 have b1 := Rat.mul_nonneg (Rat.le_of_lt hP) hR0
 have b2 := Rat.mul_le_mul_of_nonneg_left hR' (Rat.le_of_lt hP)
 rw [Rat.natCast_add, Rat.natCast_mul] at hq hw
 have e1 : w * n = ε * (2 * (P * (Q : Rat) * n) + (((R != 0).toNat : Nat) : Rat) * (P * n)) := by rw [hw]; grind
 have e2 : q * n = ε * (2 * (P * (Q : Rat) * n) + 2 * (P * R)) := by rw [hq]; grind
 have hs : (((R != 0).toNat : Nat) : Rat) = 1 ∨ ((((R != 0).toNat : Nat) : Rat) = 0 ∧ R = 0) := by
  by_cases h : R = 0
  ·subst h
   exact .inr ⟨rfl, rfl⟩
  left
  have : (R != 0) = true := by simp [h]
  rw [this]
  rfl
 have hz : R = 0 → (R : Rat) = 0 := by rintro rfl; rfl
 have hz2 : R = 0 → (((R != 0).toNat : Nat) : Rat) = 0 := by rintro rfl; rfl
 generalize hA : P * (Q : Rat) * n = A at *
 generalize hB : P * (R : Rat) = B at *
 generalize hC : P * (n : Rat) = C at *
 generalize (((R != 0).toNat : Nat) : Rat) = σ at *
 have e3 : (q + P) * n = q * n + C := by rw [Rat.add_mul, hC]
 have e4 : (w + P) * n = w * n + C := by rw [Rat.add_mul, hC]
 refine ⟨⟨?_, ?_⟩, ?_⟩
 ·refine Rat.le_of_mul_le_mul_right ?_ hn'
  rw [e3, e1, e2]
  clear hq hw e1 e2 e3 e4 hz hz2 hA hC
  rcases hs with hs | ⟨hs, h0⟩
  ·subst hs
   rcases he with rfl | rfl <;> grind
  subst hs
  have : B = 0 := by rw [← hB, h0]; exact Rat.mul_zero _
  rcases he with rfl | rfl <;> grind
 ·refine Rat.le_of_mul_le_mul_right ?_ hn'
  rw [e4, e1, e2]
  clear hq hw e1 e2 e3 e4 hz hz2 hA hC
  rcases hs with hs | ⟨hs, h0⟩
  ·subst hs
   rcases he with rfl | rfl <;> grind
  subst hs
  have : B = 0 := by rw [← hB, h0]; exact Rat.mul_zero _
  rcases he with rfl | rfl <;> grind
 intro h0
 have hB0 : B = 0 := by rw [← hB, hz h0]; exact Rat.mul_zero _
 refine mul_cancel (Rat.ne_of_gt hn') ?_
 rw [e1, e2, hz2 h0, hB0]
 grind
theorem quo_val {f : Format} (hf : Good f) {x y : Nat} {a b q : Rat} (hx : Fv f x a) (hy : Fv f y b) (hb : b ≠ 0) (hq : q * b = a) {J : Int} (h : Bd J q) (hJ : J ≤ top f) :
  ∃ r c, f.div x y = some r ∧ Fv f r c ∧ Nr (2 * hu f J) c q ∧ (Rep f q → c = q) := by
 obtain ⟨s, m, i, hx, ha⟩ := hx
 obtain ⟨t, n, j, hy, hbb⟩ := hy
 have hn0 : n ≠ 0 := by
  rintro rfl
  rw [sv_zero] at hbb
  exact hb hbb.symm
 unfold Format.div
 rw [hx, hy]
 show ∃ r c, (Datum.quotient (f.fractionBits + 2) (.number s m i) (.number t n j)).map f.write = some r ∧ _
 unfold Datum.quotient
 simp only [hn0, if_false]
 obtain ⟨more, hmore⟩ : ∃ more, more = f.fractionBits + 2 + n.log2 - m.log2 := ⟨_, rfl⟩
 rw [← hmore, Nat.shiftLeft_eq]
 obtain ⟨Q, hQ⟩ : ∃ Q, Q = m * 2 ^ more / n := ⟨_, rfl⟩
 obtain ⟨R, hR⟩ : ∃ R, R = m * 2 ^ more % n := ⟨_, rfl⟩
 rw [← hQ, ← hR]
 have hnp : 0 < n := Nat.pos_of_ne_zero hn0
 have hdm : m * 2 ^ more = Q * n + R := by
  have := Nat.div_add_mod (m * 2 ^ more) n
  rw [← hQ, ← hR, Nat.mul_comm] at this
  exact this.symm
 have hRn : R < n := by rw [hR]; exact Nat.mod_lt _ hnp
 obtain ⟨p, hp⟩ : ∃ p : Int, p = i - j - more - 1 := ⟨_, rfl⟩
 rw [← hp]
 have hPp := pw_pos p
 obtain ⟨ε, hε⟩ : ∃ ε : Rat, ε = if (s ^^ t) = true then -1 else 1 := ⟨_, rfl⟩
 have he : ε = 1 ∨ ε = -1 := by rw [hε]; split <;> grind
 have hw : sv (s ^^ t) (2 * Q + (R != 0).toNat) p = ε * ((2 * Q + (R != 0).toNat : Nat) : Rat) * (2 : Rat) ^ p := by
  unfold sv
  rw [hε]
  split <;> grind
 have h2p : (2 : Rat) ^ (p + 1) = 2 * (2 : Rat) ^ p := by rw [pw_add]; rw [Rat.mul_comm]; rfl
 have hqn : q * n = ε * ((Q * n + R : Nat) : Rat) * (2 * (2 : Rat) ^ p) := by
  rw [← hdm, Rat.natCast_mul, ← pw_nat, ← h2p]
  have hpj := pw_pos j
  refine mul_cancel (Rat.ne_of_gt hpj) ?_
  have e5 : ε * ((m : Rat) * (2 : Rat) ^ (more : Int)) * (2 : Rat) ^ (p + 1) * (2 : Rat) ^ j = ε * (m : Rat) * (2 : Rat) ^ i := by
   have : (2 : Rat) ^ i = (2 : Rat) ^ (more : Int) * (2 : Rat) ^ (p + 1) * (2 : Rat) ^ j := by
    rw [← pw_add, ← pw_add]
    congr 1
    omega
   rw [this]
   grind
  rw [e5]
  rw [← ha, ← hbb] at hq
  unfold sv at hq
  rw [hε]
  clear hw e5 he
  cases s <;> cases t <;> simp at hq ⊢ <;> grind
 obtain ⟨hgap, hex⟩ := quo_gap hnp hRn hPp he hqn hw
 by_cases hm : m = 0
 ·subst hm
  have hq0 : q = 0 := by
   rw [sv_zero] at ha
   subst ha
   exact (Rat.mul_eq_zero.1 hq).resolve_right hb
  have hR0 : R = 0 := by rw [hR, Nat.zero_mul, Nat.zero_mod]
  have hwq := hex hR0
  rw [← hwq] at h ⊢
  obtain ⟨v, h1, h2, h3⟩ := near hf h hJ
  refine ⟨_, v, rfl, h1, h2.mono ?_, h3⟩
  have := pw_pos (max (J - 1 - f.fractionBits) f.leastPlace - 1)
  show hu f J ≤ 2 * hu f J
  have : (0 : Rat) < hu f J := this
  grind
 have hlow : 2 ^ m.log2 ≤ m := (Nat.le_log2 hm).1 (Nat.le_refl _)
 have hnhigh : n < 2 ^ (n.log2 + 1) := Nat.lt_log2_self
 have hQb : 2 ^ (f.fractionBits + 1) ≤ Q := by
  rw [hQ]
  refine (Nat.le_div_iff_mul_le hnp).2 ?_
  have k1 : 2 ^ (f.fractionBits + 1) * n ≤ 2 ^ (f.fractionBits + 1) * 2 ^ (n.log2 + 1) := Nat.mul_le_mul_left _ (by omega)
  have k2 : 2 ^ m.log2 * 2 ^ more ≤ m * 2 ^ more := Nat.mul_le_mul_right _ hlow
  rw [← Nat.pow_add] at k1 k2
  have k3 : 2 ^ (f.fractionBits + 1 + (n.log2 + 1)) ≤ 2 ^ (m.log2 + more) := Nat.pow_le_pow_right (by decide) (by omega)
  omega
 have hBw : Bd J (sv (s ^^ t) (2 * Q + (R != 0).toNat) p) := by
  have habs : ((Q * n : Nat) : Rat) * (2 : Rat) ^ (p + 1) < (2 : Rat) ^ J * n := by
   have hn' : (0 : Rat) < (n : Rat) := by exact_mod_cast hnp
   have g1 := Rat.mul_lt_mul_of_pos_right h.1 hn'
   have g2 := Rat.mul_lt_mul_of_pos_right h.2 hn'
   rw [hqn] at g1 g2
   have hR0 : (0 : Rat) ≤ (R : Rat) := by exact_mod_cast Nat.zero_le R
   have g3 := Rat.mul_nonneg hR0 (Rat.le_of_lt hPp)
   rw [h2p]
   rw [Rat.natCast_add] at g1 g2
   clear hw hqn hgap hex hε
   rcases he with rfl | rfl <;> grind
  have hQlt : (Q : Rat) * (2 : Rat) ^ (p + 1) < (2 : Rat) ^ J := by
   have hn' : (0 : Rat) < (n : Rat) := by exact_mod_cast hnp
   refine Rat.lt_of_mul_lt_mul_right (c := (n : Rat)) ?_ (Rat.le_of_lt hn')
   rw [Rat.natCast_mul] at habs
   grind
  have hexp : (f.fractionBits : Int) + 1 + (p + 1) < J := by
   refine pw_lt (Std.lt_of_le_of_lt ?_ hQlt)
   rw [pw_add, show ((f.fractionBits : Int) + 1) = ((f.fractionBits + 1 : Nat) : Int) by omega, pw_nat]
   exact Rat.mul_le_mul_of_nonneg_right (by exact_mod_cast hQb) (Rat.le_of_lt (pw_pos _))
  obtain ⟨u, hu⟩ : ∃ u : Nat, J = (u : Int) + (p + 1) := ⟨(J - (p + 1)).toNat, by omega⟩
  have hQu : Q + 1 ≤ 2 ^ u := by
   have : (Q : Rat) < ((2 ^ u : Nat) : Rat) := by
    rw [hu, pw_add (u : Int) (p + 1), pw_nat] at hQlt
    exact Rat.lt_of_mul_lt_mul_right hQlt (Rat.le_of_lt (pw_pos _))
   have : Q < 2 ^ u := by exact_mod_cast this
   omega
  have hlt : ((2 * Q + (R != 0).toNat : Nat) : Rat) * (2 : Rat) ^ p < (2 : Rat) ^ J := by
   rw [hu, pw_add, pw_nat, h2p]
   have k1 : 2 * Q + (R != 0).toNat < 2 ^ u * 2 := by
    have : (R != 0).toNat ≤ 1 := by cases (R != 0) <;> decide
    omega
   have k2 : ((2 * Q + (R != 0).toNat : Nat) : Rat) < ((2 ^ u * 2 : Nat) : Rat) := by exact_mod_cast k1
   have := Rat.mul_lt_mul_of_pos_right k2 hPp
   have k3 : ((2 ^ u * 2 : Nat) : Rat) = ((2 ^ u : Nat) : Rat) * 2 := by rw [Rat.natCast_mul]; rfl
   rw [k3, Rat.mul_assoc] at this
   exact this
  have hge : (0 : Rat) ≤ ((2 * Q + (R != 0).toNat : Nat) : Rat) * (2 : Rat) ^ p := Rat.mul_nonneg (by exact_mod_cast Nat.zero_le _) (Rat.le_of_lt hPp)
  rw [hw]
  have hJp := pw_pos J
  unfold Bd
  clear hw hqn hgap hex hε hQlt habs
  generalize ((2 * Q + (R != 0).toNat : Nat) : Rat) = W at *
  rcases he with rfl | rfl <;> grind
 obtain ⟨v, h1, h2, h3⟩ := near hf hBw hJ
 have htiny : (2 : Rat) ^ p ≤ hu f J := by
  have hexp : (f.fractionBits : Int) + 2 + p < J := by
   have hne : 2 * Q + (R != 0).toNat ≠ 0 := by have := Nat.two_pow_pos (f.fractionBits + 1); omega
   have := sv_bd hBw hne
   have h8 : f.fractionBits + 2 ≤ (2 * Q + (R != 0).toNat).log2 := (Nat.le_log2 hne).2 (by rw [Nat.pow_succ]; omega)
   omega
  exact pw_mono (by omega)
 refine ⟨_, v, rfl, h1, ?_, ?_⟩
 ·unfold Nr at *
  generalize sv (s ^^ t) (2 * Q + (R != 0).toNat) p = w at *
  clear hw hqn
  grind
 intro hrep
 have hR0 : R = 0 := by
  obtain ⟨z, t', hz, hzb, htl⟩ := hrep
  have hbin : f.binade = 2 ^ f.fractionBits := rfl
  have hzn : (z.natAbs : Rat) * n * (2 : Rat) ^ t' = ((Q * n + R : Nat) : Rat) * (2 : Rat) ^ (p + 1) := by
   rw [hz] at hqn
   rw [h2p]
   have hge : (0 : Rat) ≤ ((Q * n + R : Nat) : Rat) * (2 * (2 : Rat) ^ p) := Rat.mul_nonneg (by exact_mod_cast Nat.zero_le _) (by grind)
   have hge2 : (0 : Rat) ≤ (z.natAbs : Rat) * n * (2 : Rat) ^ t' := Rat.mul_nonneg (Rat.mul_nonneg (by exact_mod_cast Nat.zero_le _) (by exact_mod_cast Nat.zero_le _)) (Rat.le_of_lt (pw_pos _))
   rw [int_nat] at hqn
   have e7 : ε * ((Q * n + R : Nat) : Rat) * (2 * (2 : Rat) ^ p) = ε * (((Q * n + R : Nat) : Rat) * (2 * (2 : Rat) ^ p)) := Rat.mul_assoc _ _ _
   rw [e7] at hqn
   have e8 : ∀ c : Rat, c * (2 : Rat) ^ t' * n = c * n * (2 : Rat) ^ t' := fun c => by grind
   rw [e8] at hqn
   have e9 : (-(z.natAbs : Rat)) * n * (2 : Rat) ^ t' = -((z.natAbs : Rat) * n * (2 : Rat) ^ t') := by grind
   revert hge hge2 hqn
   generalize ((Q * n + R : Nat) : Rat) * (2 * (2 : Rat) ^ p) = W
   split
   ·rw [e9]
    generalize (z.natAbs : Rat) * n * (2 : Rat) ^ t' = X
    intro g1 g2 g3
    exact abs_eq he g2 g3 (.inr g1)
   generalize (z.natAbs : Rat) * n * (2 : Rat) ^ t' = X
   intro g1 g2 g3
   exact abs_eq he g2 g3 (.inl g1)
  have hu1 : p + 1 < t' := by
   have k1 : (2 : Rat) ^ ((f.fractionBits : Int) + 1 + (p + 1)) * n ≤ ((Q * n + R : Nat) : Rat) * (2 : Rat) ^ (p + 1) := by
    rw [pw_add, show ((f.fractionBits : Int) + 1) = ((f.fractionBits + 1 : Nat) : Int) by omega, pw_nat]
    have : 2 ^ (f.fractionBits + 1) * n ≤ Q * n + R := by
     have := Nat.mul_le_mul_right n hQb
     omega
    have k2 : ((2 ^ (f.fractionBits + 1) * n : Nat) : Rat) ≤ ((Q * n + R : Nat) : Rat) := by exact_mod_cast this
    have := Rat.mul_le_mul_of_nonneg_right k2 (Rat.le_of_lt (pw_pos (p + 1)))
    rw [Rat.natCast_mul] at this
    grind
   have k3 : (z.natAbs : Rat) * n * (2 : Rat) ^ t' < (2 : Rat) ^ ((f.fractionBits : Int) + 1 + t') * n := by
    rw [pw_add, show ((f.fractionBits : Int) + 1) = ((f.fractionBits + 1 : Nat) : Int) by omega, pw_nat]
    have hzb2 : z.natAbs < 2 ^ (f.fractionBits + 1) := by rw [Nat.pow_succ, Nat.mul_comm, ← hbin]; exact hzb
    have k2 : (z.natAbs : Rat) < ((2 ^ (f.fractionBits + 1) : Nat) : Rat) := by exact_mod_cast hzb2
    have hn' : (0 : Rat) < (n : Rat) := by exact_mod_cast hnp
    have k4 := Rat.mul_lt_mul_of_pos_right (Rat.mul_lt_mul_of_pos_right k2 hn') (pw_pos t')
    grind
   have hn' : (0 : Rat) < (n : Rat) := by exact_mod_cast hnp
   rw [hzn] at k3
   have := pw_lt (Rat.lt_of_mul_lt_mul_right (Std.lt_of_le_of_lt k1 k3) (Rat.le_of_lt hn'))
   omega
  obtain ⟨u, hu⟩ : ∃ u : Nat, t' = (u : Int) + (p + 1) := ⟨(t' - (p + 1)).toNat, by omega⟩
  have hdiv : z.natAbs * n * 2 ^ u = Q * n + R := by
   rw [hu, pw_add, pw_nat, ← Rat.mul_assoc] at hzn
   have := mul_cancel (Rat.ne_of_gt (pw_pos (p + 1))) hzn
   exact_mod_cast this
  have hmod : (Q * n + R) % n = 0 := by
   rw [← hdiv, Nat.mul_right_comm]
   exact Nat.mul_mod_left _ _
  rw [Nat.mul_comm, Nat.mul_add_mod, Nat.mod_eq_of_lt hRn] at hmod
  exact hmod
 have hwq := hex hR0
 rw [← hwq]
 rw [← hwq] at hrep
 exact h3 hrep
open Go
theorem good (k : FloatKind) : Good k.format := by
  cases k
  · exact .inl rfl
  · exact .inr rfl
def Fk (k : FloatKind) (x : Nat) (v : Rat) : Prop := Fv k.format x v
theorem read_bounds {f : Format} (hf : Good f) {x : Nat} {s : Bool} {m : Nat} {e : Int} (h : f.read x = .number s m e) : m < 2 * f.binade ∧ f.leastPlace ≤ e ∧ e ≤ f.leastPlace + 2 ^ f.exponentBits - 3 := by
  have hb := binade_pos hf
  unfold Format.read at h
  simp only [] at h
  split at h
  · cases h
    refine ⟨by omega, by omega, ?_⟩
    rcases hf with rfl | rfl <;> decide
  · split at h
    · rename_i h1 h2
      cases h
      refine ⟨by have := Nat.mod_lt (x % f.signWeight) hb; omega, by omega, ?_⟩
      have : x % f.signWeight / f.binade < 2 ^ f.exponentBits - 1 := (Nat.div_lt_iff_lt_mul hb).2 h2
      have h3 : 3 ≤ 2 ^ f.exponentBits := by rcases hf with rfl | rfl <;> decide
      have h4 : ((2 ^ f.exponentBits : Nat) : Int) = 2 ^ f.exponentBits := by push_cast; rfl
      omega
    · split at h <;> cases h
theorem Fv.rep {f : Format} (hf : Good f) {x : Nat} {v : Rat} (h : Fv f x v) : Rep f v := by
  obtain ⟨s, m, e, h1, h2⟩ := h
  have := read_bounds hf h1
  refine ⟨if s = true then -(m : Int) else m, e, ?_, ?_, this.2.1⟩
  · rw [← h2]
    unfold sv
    cases s <;> simp <;> rfl
  · cases s <;> simp <;> exact this.1
theorem rep_wide {v : Rat} (h : Rep single v) : Rep double v := by
  obtain ⟨n, t, h1, h2, h3⟩ := h
  have a1 : single.leastPlace = -149 := by decide
  have a2 : double.leastPlace = -1074 := by decide
  have a3 : single.binade = 8388608 := by decide
  have a4 : double.binade = 4503599627370496 := by decide
  exact ⟨n, t, h1, by omega, by omega⟩
theorem fin_single {x : Nat} {v : Rat} (h : Fv single x v) : Bd 128 v := by
  obtain ⟨s, m, e, h1, h2⟩ := h
  have hb := read_bounds (.inl rfl) h1
  have a1 : single.leastPlace = -149 := by decide
  have a2 : (2 : Int) ^ single.exponentBits = 256 := by decide
  have a3 : single.binade = 8388608 := by decide
  have hm : (m : Rat) < ((2 ^ 24 : Nat) : Rat) := by
    have : m < 2 ^ 24 := by omega
    exact_mod_cast this
  have k1 := Rat.mul_lt_mul_of_pos_right hm (pw_pos e)
  have k2 : ((2 ^ 24 : Nat) : Rat) * (2 : Rat) ^ e ≤ (2 : Rat) ^ (128 : Int) := by
    rw [← pw_nat, ← pw_add]
    exact pw_mono (by omega)
  have k3 := Rat.mul_nonneg (show (0 : Rat) ≤ (m : Rat) by exact_mod_cast Nat.zero_le m) (Rat.le_of_lt (pw_pos e))
  have k4 := pw_pos 128
  rw [← h2]
  unfold Bd sv
  generalize (2 : Rat) ^ (128 : Int) = T at *
  cases s with
  | true =>
    simp only [if_true]
    rw [Rat.neg_mul]
    constructor <;> grind
  | false =>
    simp only [Bool.false_eq_true, if_false]
    constructor <;> grind
theorem not_inf {f : Format} {x : Nat} {v : Rat} (h : Fv f x v) : (f.read x).isInfinity = false := by
  obtain ⟨s, m, e, h1, -⟩ := h
  rw [h1]
  rfl
theorem wide_val {x : Nat} {v : Rat} (h : Fk .f32 x v) : ∃ r, floatToFloatBits .f32 x .f64 = some r ∧ Fk .f64 r v := by
  have hrep := rep_wide (Fv.rep (.inl rfl) h)
  have hbd := fin_single h
  obtain ⟨s, m, e, h1, h2⟩ := h
  rw [← h2] at hbd
  obtain ⟨c, g1, -, g3⟩ := near (f := double) (.inr rfl) hbd (by decide)
  rw [h2] at g3
  obtain rfl := g3 hrep
  refine ⟨_, ?_, g1⟩
  unfold floatToFloatBits
  rw [if_neg (by decide)]
  unfold FloatKind.decode
  rw [h1]
  simp only []
  have : (FloatKind.f64.format.read (FloatKind.encode .f64 (.number s m e))).isInfinity = false := not_inf g1
  rw [if_neg (by rw [this]; decide)]
  rfl
theorem narrow_val {x : Nat} {v : Rat} (h : Fk .f64 x v) {J : Int} (hb : Bd J v) (hJ : J ≤ 127) : ∃ r c, floatToFloatBits .f64 x .f32 = some r ∧ Fk .f32 r c ∧ Nr (hu single J) c v ∧ (Rep single v → c = v) := by
  obtain ⟨s, m, e, h1, h2⟩ := h
  rw [← h2] at hb ⊢
  obtain ⟨c, g1, g2, g3⟩ := near (f := single) (.inl rfl) hb (by rw [show top single = 127 by decide]; exact hJ)
  refine ⟨_, c, ?_, g1, g2, g3⟩
  unfold floatToFloatBits
  rw [if_neg (by decide)]
  unfold FloatKind.decode
  rw [h1]
  simp only []
  have : (FloatKind.f32.format.read (FloatKind.encode .f32 (.number s m e))).isInfinity = false := not_inf g1
  rw [if_neg (by rw [this]; decide)]
  rfl
theorem int_k {k : FloatKind} (n : Int) (h : n.natAbs < 2 * k.format.binade) : Fk k (floatOfInt k n) (n : Rat) := int_val (good k) n h
end FR
end Go.Proofs.Ytelkklnfbfmecaa
end
section
namespace Go.Proofs.Ytelkklnfbfmecaa
open YtelkklnfbfmecaaW.PrintWords YtelkklnfbfmecaaW.PrintLast
namespace PU
open FR
def U (x : Nat) (n : Int) : Prop := Fk .f32 x ((n : Rat) * (2 : Rat) ^ (-6 : Int))
theorem U_rep {n : Int} (h : n.natAbs < 16777216) : Rep Ieee.single ((n : Rat) * (2 : Rat) ^ (-6 : Int)) := by
  have a1 : Ieee.single.leastPlace = -149 := by decide
  have a3 : Ieee.single.binade = 8388608 := by decide
  exact ⟨n, -6, rfl, by omega, by omega⟩
theorem U_bd {n : Int} (h : n.natAbs < 16777216) : Bd 18 ((n : Rat) * (2 : Rat) ^ (-6 : Int)) := by
  have hp := pw_pos (-6)
  obtain ⟨M, hM, hM2⟩ : ∃ M : Nat, M = 2 ^ 24 ∧ M = 16777216 := ⟨2 ^ 24, rfl, by decide⟩
  have e : (2 : Rat) ^ (18 : Int) = (M : Rat) * (2 : Rat) ^ (-6 : Int) := by
    rw [show (18 : Int) = ((24 : Nat) : Int) + (-6) by decide, pw_add, pw_nat, hM]
  have h1 : (n : Rat) < (M : Rat) := by
    have : n < (M : Int) := by omega
    exact_mod_cast this
  have h2 : -(M : Rat) < (n : Rat) := by
    have h3 : -n < (M : Int) := by omega
    have h4 : ((-n : Int) : Rat) < (M : Rat) := by exact_mod_cast h3
    rw [Rat.intCast_neg] at h4
    exact Rat.neg_lt_iff.1 h4
  have k1 := Rat.mul_lt_mul_of_pos_right h1 hp
  have k2 := Rat.mul_lt_mul_of_pos_right h2 hp
  unfold Bd
  rw [e]
  constructor
  · rw [← Rat.neg_mul]
    exact k2
  · exact k1
theorem fok_of {op : BinOp} {k : FloatKind} {x y r : Nat} (h : floatBits op k x y = some r) : fok op k x y = true ∧ fop op k x y = r := by
  unfold fok fop
  rw [h]
  exact ⟨rfl, rfl⟩
theorem U_add {x y : Nat} {n m : Int} (hx : U x n) (hy : U y m) (h : (n + m).natAbs < 16777216) : fok .add .f32 x y = true ∧ U (fop .add .f32 x y) (n + m) := by
  have e : (n : Rat) * (2 : Rat) ^ (-6 : Int) + (m : Rat) * (2 : Rat) ^ (-6 : Int) = ((n + m : Int) : Rat) * (2 : Rat) ^ (-6 : Int) := by rw [Rat.intCast_add, Rat.add_mul]
  obtain ⟨r, c, h1, h2, -, h4⟩ := add_val (.inl rfl) hx hy (J := 18) (by rw [e]; exact U_bd h) (by decide)
  rw [e] at h4
  have := h4 (U_rep h)
  subst this
  obtain ⟨g1, g2⟩ := fok_of (op := .add) (k := .f32) h1
  rw [g2]
  exact ⟨g1, h2⟩
theorem U_sq {x y : Nat} {n m : Int} (hx : U x (16 * n)) (hy : U y (16 * m)) (h : (4 * (n * m)).natAbs < 16777216) : fok .mul .f32 x y = true ∧ U (fop .mul .f32 x y) (4 * (n * m)) := by
  have e : ((16 * n : Int) : Rat) * (2 : Rat) ^ (-6 : Int) * (((16 * m : Int) : Rat) * (2 : Rat) ^ (-6 : Int)) = ((4 * (n * m) : Int) : Rat) * (2 : Rat) ^ (-6 : Int) := by
    have e64 : (2 : Rat) ^ (-6 : Int) * 64 = 1 := by
      have : (64 : Rat) = (2 : Rat) ^ (6 : Int) := by rfl
      rw [this, ← pw_add]
      rfl
    simp only [Rat.intCast_mul]
    have a16 : ((16 : Int) : Rat) = 16 := rfl
    have a4 : ((4 : Int) : Rat) = 4 := rfl
    rw [a16, a4]
    generalize (2 : Rat) ^ (-6 : Int) = p at *
    have : 16 * (n : Rat) * p * (16 * (m : Rat) * p) = 4 * ((n : Rat) * m) * p * (p * 64) := by grind
    rw [this, e64, Rat.mul_one]
  obtain ⟨r, c, h1, h2, -, h4⟩ := mul_val (.inl rfl) hx hy (J := 18) (by rw [e]; exact U_bd h) (by decide)
  rw [e] at h4
  have := h4 (U_rep h)
  subst this
  obtain ⟨g1, g2⟩ := fok_of (op := .mul) (k := .f32) h1
  rw [g2]
  exact ⟨g1, h2⟩
theorem U_zero : U 0 0 := ⟨false, 0, -149, by decide, by rw [sv_zero]; show (0 : Rat) = (0 : Rat) * _; rw [Rat.zero_mul]⟩
theorem U_quo {y : Nat} {n : Int} {j : Nat} (hj : j ≤ 6) (hy : Fk .f32 y ((2 : Rat) ^ (j : Int))) (h : n.natAbs < 262144) : fok .quo .f32 (floatOfInt .f32 n) y = true ∧ U (fop .quo .f32 (floatOfInt .f32 n) y) (n * 2 ^ (6 - j)) := by
  have hx : Fk .f32 (floatOfInt .f32 n) (n : Rat) := int_k n (by rw [show FloatKind.f32.format.binade = 8388608 by decide]; omega)
  have e : ((n * 2 ^ (6 - j) : Int) : Rat) * (2 : Rat) ^ (-6 : Int) * (2 : Rat) ^ (j : Int) = (n : Rat) := by
    have : ((2 ^ (6 - j) : Int) : Rat) = (2 : Rat) ^ (((6 - j : Nat)) : Int) := by
      rw [pw_nat]
      push_cast
      rfl
    rw [Rat.intCast_mul, this, Rat.mul_assoc, Rat.mul_assoc, ← Rat.mul_assoc, ← pw_add, Rat.mul_assoc, ← pw_add, show (((6 - j : Nat)) : Int) + (-6 + (j : Int)) = 0 by omega]
    exact Rat.mul_one _
  have hb : (n * 2 ^ (6 - j)).natAbs < 16777216 := by
    rw [Int.natAbs_mul, Int.natAbs_pow]
    have : (2 : Int).natAbs ^ (6 - j) ≤ 2 ^ 6 := Nat.pow_le_pow_right (by decide) (by omega)
    have := Nat.mul_le_mul (Nat.le_of_lt h) this
    have : n.natAbs * (2 : Int).natAbs ^ (6 - j) ≤ 262143 * 2 ^ 6 := Nat.mul_le_mul (by omega) (by assumption)
    omega
  obtain ⟨r, c, h1, h2, -, h4⟩ := quo_val (.inl rfl) hx hy (q := ((n * 2 ^ (6 - j) : Int) : Rat) * (2 : Rat) ^ (-6 : Int)) (Rat.ne_of_gt (pw_pos _)) e (J := 18) (U_bd hb) (by decide)
  have := h4 (U_rep hb)
  subst this
  obtain ⟨g1, g2⟩ := fok_of (op := .quo) (k := .f32) h1
  rw [g2]
  exact ⟨g1, h2⟩
theorem cmp_int {n m : Int} : FR.cmp ((n : Rat) * (2 : Rat) ^ (-6 : Int)) ((m : Rat) * (2 : Rat) ^ (-6 : Int)) = if n < m then .lt else if n = m then .eq else .gt := by
  have hp := pw_pos (-6)
  unfold FR.cmp
  by_cases h1 : n < m
  · have : (n : Rat) * (2 : Rat) ^ (-6 : Int) < (m : Rat) * (2 : Rat) ^ (-6 : Int) := Rat.mul_lt_mul_of_pos_right (by exact_mod_cast h1) hp
    rw [if_pos this, if_pos h1]
  · have hle : (m : Rat) * (2 : Rat) ^ (-6 : Int) ≤ (n : Rat) * (2 : Rat) ^ (-6 : Int) := Rat.mul_le_mul_of_nonneg_right (by exact_mod_cast (by omega : m ≤ n)) (Rat.le_of_lt hp)
    rw [if_neg (Rat.not_lt.2 hle), if_neg h1]
    by_cases h2 : n = m
    · rw [if_pos h2, if_pos (by rw [h2])]
    · rw [if_neg h2, if_neg]
      intro he
      have := mul_cancel (Rat.ne_of_gt hp) he
      exact h2 (by exact_mod_cast this)
theorem U_order {x y : Nat} {n m : Int} (hx : U x n) (hy : U y m) : FloatKind.f32.format.order x y = some (if n < m then .lt else if n = m then .eq else .gt) := by
  rw [← cmp_int]
  exact order_val hx hy
end PU
end Go.Proofs.Ytelkklnfbfmecaa
end
