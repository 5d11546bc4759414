/- Words, walks and plain laws that a claim of this seat needs, one text after the other (part 6). -/
import Derived.Test.YtcgaccdiomcglaaBN5
set_option linter.unusedVariables false
set_option linter.unusedSimpArgs false
section
set_option linter.unusedVariables false
set_option linter.unusedSimpArgs false
namespace Go.Proofs.Ytcgaccdiomcglaa
open Go.RowKit Go.Proofs.YtcgaccdiomcglaaW.PrintWords Go.Proofs.YtcgaccdiomcglaaW.PrintLast Ieee
namespace QA
open FR PU XL
theorem all2 {P : Nat → Prop} (h0 : P 0) (h1 : P 1) : ∀ i : Nat, i < 2 → P i
  | 0, _ => h0
  | 1, _ => h1
  | n + 2, h => absurd h (by omega)
theorem all3 {P : Nat → Prop} (h0 : P 0) (h1 : P 1) (h2 : P 2) : ∀ i : Nat, i < 3 → P i
  | 0, _ => h0
  | 1, _ => h1
  | 2, _ => h2
  | n + 3, h => absurd h (by omega)
theorem all4 {P : Nat → Prop} (h0 : P 0) (h1 : P 1) (h2 : P 2) (h3 : P 3) : ∀ i : Nat, i < 4 → P i
  | 0, _ => h0
  | 1, _ => h1
  | 2, _ => h2
  | 3, _ => h3
  | n + 4, h => absurd h (by omega)
theorem Wt.finw {w : S0.S46} {t : Int} {u v : Rat} (h : Wt w t u v) : FinC w.f0 ∧ Fin w.f1 := ⟨h.fin, ⟨_, U_half h.spin⟩⟩
theorem Wt.sp {w : S0.S46} {t : Int} {u v : Rat} (h : Wt w t u v) : U w.f1 (32 * t) ∧ -16 ≤ t ∧ t ≤ 16 := ⟨h.spin, h.tb⟩
def Sums (k : Nat) (M : List S0.S46) (t : Int) (u v : Rat) : Prop :=
  ∃ x z, N0.impl_TotalSpin.f k M = some (x, true) ∧ U x (32 * t) ∧ N0.impl_ImpulseOf.f k M = some (z, true) ∧ Ap z.1 u (6 / 1000) ∧ Ap z.2 v (6 / 1000)
theorem Ap.mono {x : Nat} {v e f : Rat} (h : Ap x v e) (hf : e ≤ f) : Ap x v f := by
  obtain ⟨c, c1, c2, c3⟩ := h
  exact ⟨c, c1, by grind, by grind⟩
theorem sums_mk {k : Nat} {M : List S0.S46} {T : Nat → Int} {u v : Nat → Rat} {t : Int} {a b : Rat} (hk : 60 ≤ k) (hf : FinW M) (hM : M.length ≤ 4) (h : ∀ i : Nat, i < M.length → Wt (S0.rd_T46 M (i : Int)) (T i) (u i) (v i))
    (et : SumI T M.length = t) (ea : SumQ u M.length = a) (eb : SumQ v M.length = b) : Sums k M t a b := by
  obtain ⟨⟨x, y⟩, e1, e2, e3⟩ := tot_of hf hM (fun i hi => (h i hi).sp) hk
  obtain ⟨⟨z, y'⟩, f1, f2, f3, f4⟩ := imp_of hf hM h hk
  have e2' : y = true := e2
  have f2' : y' = true := f2
  subst e2' f2'
  rw [et] at e3
  rw [ea] at f3
  rw [eb] at f4
  have m := le_rat hM
  rw [show ((4 : Nat) : Rat) = 4 from rfl] at m
  exact ⟨x, z, e1, e3, f1, f3.mono (by grind), f4.mono (by grind)⟩
theorem sums2 {k : Nat} (hk : 60 ≤ k) {a b : S0.S46} {ta tb : Int} {ua ub va vb : Rat} (ha : Wt a ta ua va) (hb : Wt b tb ub vb) : Sums k [a, b] (ta + tb) (ua + ub) (va + vb) := by
  refine sums_mk (T := fun i => [ta, tb].getD i 0) (u := fun i => [ua, ub].getD i 0) (v := fun i => [va, vb].getD i 0) hk ?_ (by simp) (all2 ha hb) ?_ ?_ ?_
  · intro w hw
    simp only [List.mem_cons, List.not_mem_nil, or_false] at hw
    rcases hw with rfl | rfl
    · exact ha.finw
    · exact hb.finw
  · show 0 + ta + tb = _; omega
  · show 0 + ua + ub = _; grind
  · show 0 + va + vb = _; grind
theorem sums3 {k : Nat} (hk : 60 ≤ k) {a b c : S0.S46} {ta tb tc : Int} {ua ub uc va vb vc : Rat} (ha : Wt a ta ua va) (hb : Wt b tb ub vb) (hc : Wt c tc uc vc) : Sums k [a, b, c] (ta + tb + tc) (ua + ub + uc) (va + vb + vc) := by
  refine sums_mk (T := fun i => [ta, tb, tc].getD i 0) (u := fun i => [ua, ub, uc].getD i 0) (v := fun i => [va, vb, vc].getD i 0) hk ?_ (by simp) (all3 ha hb hc) ?_ ?_ ?_
  · intro w hw
    simp only [List.mem_cons, List.not_mem_nil, or_false] at hw
    rcases hw with rfl | rfl | rfl
    · exact ha.finw
    · exact hb.finw
    · exact hc.finw
  · show 0 + ta + tb + tc = _; omega
  · show 0 + ua + ub + uc = _; grind
  · show 0 + va + vb + vc = _; grind
theorem sums4 {k : Nat} (hk : 60 ≤ k) {a b c d : S0.S46} {ta tb tc td : Int} {ua ub uc ud va vb vc vd : Rat} (ha : Wt a ta ua va) (hb : Wt b tb ub vb) (hc : Wt c tc uc vc) (hd : Wt d td ud vd) : Sums k [a, b, c, d] (ta + tb + tc + td) (ua + ub + uc + ud) (va + vb + vc + vd) := by
  refine sums_mk (T := fun i => [ta, tb, tc, td].getD i 0) (u := fun i => [ua, ub, uc, ud].getD i 0) (v := fun i => [va, vb, vc, vd].getD i 0) hk ?_ (by simp) (all4 ha hb hc hd) ?_ ?_ ?_
  · intro w hw
    simp only [List.mem_cons, List.not_mem_nil, or_false] at hw
    rcases hw with rfl | rfl | rfl | rfl
    · exact ha.finw
    · exact hb.finw
    · exact hc.finw
    · exact hd.finw
  · show 0 + ta + tb + tc + td = _; omega
  · show 0 + ua + ub + uc + ud = _; grind
  · show 0 + va + vb + vc + vd = _; grind
theorem hv_add (a b : Int) : hv (a + b) = hv a + hv b := by
  unfold hv
  rw [Rat.intCast_add]
  grind
theorem kept_of {l M : List S0.S46} {X Y S : Nat → Int} (h : OkW l X Y S) {p q : Nat} (hp : p < q) (hq : q < 4) (hM : Merged l X Y S p q M) {k : Nat} (hk : 60 ≤ k) :
    ∃ (t : Int) (a b a' b' : Rat), Sums k l t a b ∧ Sums k M t a' b' ∧ M.length ≤ 3 ∧ (-256 ≤ a ∧ a ≤ 256) ∧ (-256 ≤ b ∧ b ≤ 256) ∧ (M.length = 3 → a' = a ∧ b' = b) := by
  obtain ⟨w0, w1, w2, w3, rfl⟩ : ∃ w0 w1 w2 w3, l = [w0, w1, w2, w3] := by
    match l, h.len with
    | [a, b, c, d], _ => exact ⟨a, b, c, d, rfl⟩
  have W0 : Wt w0 (S 0) (hv (X 0 * S 0)) (hv (Y 0 * S 0)) := wt_of h 0 (by decide)
  have W1 : Wt w1 (S 1) (hv (X 1 * S 1)) (hv (Y 1 * S 1)) := wt_of h 1 (by decide)
  have W2 : Wt w2 (S 2) (hv (X 2 * S 2)) (hv (Y 2 * S 2)) := wt_of h 2 (by decide)
  have W3 : Wt w3 (S 3) (hv (X 3 * S 3)) (hv (Y 3 * S 3)) := wt_of h 3 (by decide)
  have L := sums4 hk W0 W1 W2 W3
  have u0 := W0.ub
  have u1 := W1.ub
  have u2 := W2.ub
  have u3 := W3.ub
  have v0 := W0.vb
  have v1 := W1.vb
  have v2 := W2.vb
  have v3 := W3.vb
  have two : ∀ {a b : S0.S46} {ta tb : Int} {ua ub va vb : Rat}, Wt a ta ua va → Wt b tb ub vb → ta + tb = S 0 + S 1 + S 2 + S 3 → M = [a, b] → ∃ (t : Int) (a b a' b' : Rat), Sums k [w0, w1, w2, w3] t a b ∧ Sums k M t a' b' ∧ M.length ≤ 3 ∧ (-256 ≤ a ∧ a ≤ 256) ∧ (-256 ≤ b ∧ b ≤ 256) ∧ (M.length = 3 → a' = a ∧ b' = b) := by
    intro a b ta tb ua ub va vb ha hb e eM
    subst eM
    have := sums2 hk ha hb
    rw [e] at this
    exact ⟨_, _, _, _, _, L, this, by simp, by constructor <;> grind, by constructor <;> grind, fun h => absurd h (by simp)⟩
  have three : ∀ {a b c : S0.S46} {ta tb tc : Int} {ua ub uc va vb vc : Rat}, Wt a ta ua va → Wt b tb ub vb → Wt c tc uc vc → ta + tb + tc = S 0 + S 1 + S 2 + S 3 → ua + ub + uc = hv (X 0 * S 0) + hv (X 1 * S 1) + hv (X 2 * S 2) + hv (X 3 * S 3) → va + vb + vc = hv (Y 0 * S 0) + hv (Y 1 * S 1) + hv (Y 2 * S 2) + hv (Y 3 * S 3) → M = [a, b, c] → ∃ (t : Int) (a b a' b' : Rat), Sums k [w0, w1, w2, w3] t a b ∧ Sums k M t a' b' ∧ M.length ≤ 3 ∧ (-256 ≤ a ∧ a ≤ 256) ∧ (-256 ≤ b ∧ b ≤ 256) ∧ (M.length = 3 → a' = a ∧ b' = b) := by
    intro a b c ta tb tc ua ub uc va vb vc ha hb hc e eu ev eM
    subst eM
    have := sums3 hk ha hb hc
    rw [e, eu, ev] at this
    exact ⟨_, _, _, _, _, L, this, by simp, by constructor <;> grind, by constructor <;> grind, fun _ => ⟨rfl, rfl⟩⟩
  have cs : (p = 0 ∧ q = 1) ∨ (p = 0 ∧ q = 2) ∨ (p = 0 ∧ q = 3) ∨ (p = 1 ∧ q = 2) ∨ (p = 1 ∧ q = 3) ∨ (p = 2 ∧ q = 3) := by omega
  rcases hM with ⟨hs, eM⟩ | ⟨m, eM, Wm⟩
  · rcases cs with ⟨rfl, rfl⟩ | ⟨rfl, rfl⟩ | ⟨rfl, rfl⟩ | ⟨rfl, rfl⟩ | ⟨rfl, rfl⟩ | ⟨rfl, rfl⟩
    · exact two W2 W3 (by omega) eM
    · exact two W1 W3 (by omega) eM
    · exact two W1 W2 (by omega) eM
    · exact two W0 W3 (by omega) eM
    · exact two W0 W2 (by omega) eM
    · exact two W0 W1 (by omega) eM
  · rw [hv_add, hv_add] at Wm
    rcases cs with ⟨rfl, rfl⟩ | ⟨rfl, rfl⟩ | ⟨rfl, rfl⟩ | ⟨rfl, rfl⟩ | ⟨rfl, rfl⟩ | ⟨rfl, rfl⟩
    · exact three Wm W2 W3 (by omega) (by grind) (by grind) eM
    · exact three Wm W1 W3 (by omega) (by grind) (by grind) eM
    · exact three Wm W1 W2 (by omega) (by grind) (by grind) eM
    · exact three W0 Wm W3 (by omega) (by grind) (by grind) eM
    · exact three W0 Wm W2 (by omega) (by grind) (by grind) eM
    · exact three W0 W1 Wm (by omega) (by grind) (by grind) eM
theorem hd0 : hu double 0 ≤ 1 / 1000000000 := by decide +kernel
theorem hd1 : hu double 1 ≤ 1 / 1000000000 := by decide +kernel
theorem small_long {x y : Nat} (hx : B (13 / 1000) x) (hy : B (13 / 1000) y) : Ret (S0.impl_LongOf.f (x, y)) (fun r => ∃ v, Fk .f32 r v ∧ v ≤ 3 / 100) := by
  obtain ⟨a, a1, a2, a3⟩ := hx
  obtain ⟨b, b1, b2, b3⟩ := hy
  obtain ⟨w1, w2⟩ := wide a1
  obtain ⟨u1, u2⟩ := wide b1
  obtain ⟨ra, za, ga⟩ := sq_grid a1
  obtain ⟨rb, zb, gb⟩ := sq_grid b1
  have s1 := sq_bd a2 a3
  have s2 := sq_bd b2 b3
  obtain ⟨r1, c1, d1, d2, -, d4⟩ := mul_val (f := double) (.inr rfl) w2 w2 (J := 0) (by unfold Bd; rw [p0]; constructor <;> grind) (by decide)
  have := d4 ra
  subst this
  obtain ⟨r2, c2, f1, f2, -, f4⟩ := mul_val (f := double) (.inr rfl) u2 u2 (J := 0) (by unfold Bd; rw [p0]; constructor <;> grind) (by decide)
  have := f4 rb
  subst this
  obtain ⟨r3, c3, g1, g2, g3, -⟩ := sum_pos d2 f2 ga gb (by grind)
  obtain ⟨r3', c3', h1, h2, h3, -⟩ := add_val (f := double) (.inr rfl) d2 f2 (J := 0) (by unfold Bd; rw [p0]; constructor <;> grind) (by decide)
  have er : r3' = r3 := Option.some.inj ((show floatBits .add .f64 r1 r2 = some r3' from h1).symm.trans g1)
  subst er
  have ec := Fv.one g2 h2
  subst ec
  have z0 := hd0
  unfold Nr at h3
  obtain ⟨i1, i2⟩ := fok_of (op := .mul) (k := .f64) d1
  obtain ⟨j1, j2⟩ := fok_of (op := .mul) (k := .f64) f1
  obtain ⟨k1, k2⟩ := fok_of (op := .add) (k := .f64) g1
  obtain ⟨r4, c4, l1, l2, l3, -, l5, -⟩ := root_val (f := double) (.inr rfl) g2 g3 (J := 1) (by rw [show (2 : Rat) ^ (1 : Int) * (2 : Rat) ^ (1 : Int) = 4 by decide +kernel]; grind) (by decide)
  have q := l5 (1 / 50) (by decide +kernel) (by grind)
  have z1 := hd1
  obtain ⟨r5, c5, m1, m2, m3, -⟩ := narrow_val (x := r4) (v := c4) l2 (J := 1) (by unfold Bd; rw [p1]; constructor <;> grind) (by decide)
  have z2 := hs1
  unfold Nr at m3
  unfold S0.impl_LongOf.f S0.impl_power.f S0.impl_wide.f
  dsimp only
  rw [if_pos w1, if_pos u1]
  simp only [Option.bind_some]
  rw [if_pos i1, if_pos j1, i2, j2, if_pos k1, k2]
  simp only [Option.bind_some]
  unfold XR.Sqrt.f
  rw [show FloatKind.f64.format.sqrt r3' = some r4 from l1]
  simp only [Option.bind_some]
  unfold cok cvt
  rw [m1]
  exact ⟨_, rfl, c5, m2, by grind⟩
theorem sub_near {x y : Nat} {v : Rat} (hx : Ap x v (6 / 1000)) (hy : Ap y v (6 / 1000)) : fok .sub .f32 x y = true ∧ B (13 / 1000) (fop .sub .f32 x y) := by
  obtain ⟨c, c1, c2, c3⟩ := hx
  obtain ⟨d, d1, d2, d3⟩ := hy
  obtain ⟨r, z, g1, g2, g3, -⟩ := sub_val (f := single) (.inl rfl) c1 d1 (J := 0) (by unfold Bd; rw [p0]; constructor <;> grind) (by decide)
  have := hs0
  unfold Nr at g3
  obtain ⟨i1, i2⟩ := fok_of (op := .sub) (k := .f32) g1
  rw [i2]
  exact ⟨i1, z, g2, by grind, by grind⟩
theorem four64 : Fk .f64 4616189618054758400 (4 : Rat) := ⟨false, 4503599627370496, -50, by decide, by decide +kernel⟩
theorem forty64 : Fk .f64 4630826316843712512 (40 : Rat) := ⟨false, 5629499534213120, -47, by decide, by decide +kernel⟩
theorem Ap.B {x : Nat} {v e M : Rat} (h : Ap x v e) (h1 : -M ≤ v - e) (h2 : v + e ≤ M) : QA.B M x := by
  obtain ⟨c, c1, c2, c3⟩ := h
  exact ⟨c, c1, by grind, by grind⟩
theorem apart_ok {u v : Nat × Nat} {a b : Rat} (u1 : Ap u.1 a (6 / 1000)) (v1 : Ap v.1 a (6 / 1000)) (u2 : Ap u.2 b (6 / 1000)) (v2 : Ap v.2 b (6 / 1000)) (a1 : -256 ≤ a ∧ a ≤ 256) (b1 : -256 ≤ b ∧ b ≤ 256) :
    ∃ t, N0.laws_r8Apart.f u v = some t ∧ ∃ s, S0.impl_LongOf.f u = some s ∧ cok .f32 s .f64 = true ∧ fok .mul .f64 (cvt .f32 s .f64) 4616189618054758400 = true ∧ fok .add .f64 4607182418800017408 (fop .mul .f64 (cvt .f32 s .f64) 4616189618054758400) = true ∧
      fok .add .f64 (fop .add .f64 4607182418800017408 (fop .mul .f64 (cvt .f32 s .f64) 4616189618054758400)) 4630826316843712512 = true ∧ fok .mul .f64 4562254508917369340 (fop .add .f64 (fop .add .f64 4607182418800017408 (fop .mul .f64 (cvt .f32 s .f64) 4616189618054758400)) 4630826316843712512) = true ∧
      (FloatKind.f64.format.order t (fop .mul .f64 4562254508917369340 (fop .add .f64 (fop .add .f64 4607182418800017408 (fop .mul .f64 (cvt .f32 s .f64) 4616189618054758400)) 4630826316843712512)) == some .gt) = false := by
  obtain ⟨d1, d2⟩ := sub_near u1 v1
  obtain ⟨e1, e2⟩ := sub_near u2 v2
  obtain ⟨t, f1, w, f2, f3⟩ := small_long d2 e2
  obtain ⟨g1, g2⟩ := wide f2
  obtain ⟨s, k1, z, k2, k3, k4⟩ := long_def (u1.B (M := 2100) (by grind) (by grind)) (u2.B (M := 2100) (by grind) (by grind))
  obtain ⟨m1, m2⟩ := wide k2
  have hh := d20
  have hp := p20
  obtain ⟨rn, cn, n1, n2, n3, -⟩ := mul_val (f := double) (.inr rfl) m2 four64 (J := 20) (by unfold Bd; rw [hp]; constructor <;> grind) (by decide)
  unfold Nr at n3
  obtain ⟨ro, co, o1, o2, o3, -⟩ := add_val (f := double) (.inr rfl) one64 n2 (J := 20) (by unfold Bd; rw [hp]; constructor <;> grind) (by decide)
  unfold Nr at o3
  obtain ⟨rq, cq, q1, q2, q3, -⟩ := add_val (f := double) (.inr rfl) o2 forty64 (J := 20) (by unfold Bd; rw [hp]; constructor <;> grind) (by decide)
  unfold Nr at q3
  have kb := kap_b
  have y1 := Rat.mul_le_mul_of_nonneg_right (c := cq) kb.1 (by grind)
  have y2 := Rat.mul_le_mul_of_nonneg_right (c := cq) kb.2 (by grind)
  obtain ⟨rr, cr, r1, r2, r3, -⟩ := mul_val (f := double) (.inr rfl) f_kap q2 (J := 20) (by unfold Bd; rw [hp]; constructor <;> grind) (by decide)
  unfold Nr at r3
  obtain ⟨N1, N2⟩ := fok_of (op := .mul) (k := .f64) n1
  obtain ⟨O1, O2⟩ := fok_of (op := .add) (k := .f64) o1
  obtain ⟨Q1, Q2⟩ := fok_of (op := .add) (k := .f64) q1
  obtain ⟨R1, R2⟩ := fok_of (op := .mul) (k := .f64) r1
  refine ⟨cvt .f32 t .f64, ?_, s, k1, m1, N1, ?_⟩
  · unfold N0.laws_r8Apart.f
    rw [if_pos d1, if_pos e1, f1, Option.bind_some, if_pos g1]
  · rw [N2]
    refine ⟨O1, ?_⟩
    rw [O2]
    refine ⟨Q1, ?_⟩
    rw [Q2]
    refine ⟨R1, ?_⟩
    rw [R2]
    exact Bool.eq_false_iff.2 (not_gt g2 r2 (by grind))
end QA
end Go.Proofs.Ytcgaccdiomcglaa
end
section
namespace Go.Proofs.Ytcgaccdiomcglaa.NW
open Go.Proofs.Ytcgaccdiomcglaa.S0 Go.Proofs.Ytcgaccdiomcglaa.N0 Go.Proofs.Ytcgaccdiomcglaa.N1 Go.Proofs.Ytcgaccdiomcglaa.N2 Go.Proofs.Ytcgaccdiomcglaa.NM
open Go.RowKit Go.Proofs.YtcgaccdiomcglaaW.PrintWords Go.Proofs.YtcgaccdiomcglaaW.PrintLast Go.Proofs.YtcgaccdiomcglaaW.PrintMore
attribute [local go_sem] max2_int min2_int max_two min_two max_three min_three max_four min_four
set_option linter.unusedVariables false
set_option linter.unusedSimpArgs false
attribute [local go_sem high] binOp_fge binOp_fle
def errW : Option Int → Value
  | none => .nilIface
  | some c => .iface 0 (.int .i64 c)
theorem errW_none : errW none = .nilIface := rfl
theorem errW_some (c : Int) : errW (some c) = .iface 0 (.int .i64 c) := rfl
end Go.Proofs.Ytcgaccdiomcglaa.NW
end
section
namespace Go.Proofs.Ytcgaccdiomcglaa.NW
open Go.Proofs.Ytcgaccdiomcglaa.S0 Go.Proofs.Ytcgaccdiomcglaa.N0 Go.Proofs.Ytcgaccdiomcglaa.N1 Go.Proofs.Ytcgaccdiomcglaa.N2 Go.Proofs.Ytcgaccdiomcglaa.NM
open Go.RowKit Go.Proofs.YtcgaccdiomcglaaW.PrintWords Go.Proofs.YtcgaccdiomcglaaW.PrintLast Go.Proofs.YtcgaccdiomcglaaW.PrintMore
attribute [local go_sem] max2_int min2_int max_two min_two max_three min_three max_four min_four
set_option linter.unusedVariables false
set_option linter.unusedSimpArgs false
attribute [local go_sem high] binOp_fge binOp_fle
mutual
def laws_FnNearest.j0 : Nat → List Int → List (S46) → Nat → Bool → Option (Bool)
  | 0, _, _, _, _ => none
  | k + 1, x1, x5, x8, x77 => if x77 = true then (some false) else (laws_FnNearest.l0 k x1 x5 x8 0)
def laws_FnNearest.l0 : Nat → List Int → List (S46) → Nat → Int → Option (Bool)
  | 0, _, _, _, _ => none
  | k + 1, x1, x5, x8, x10 => if x10 < 4 then (laws_FnNearest.l1 k x1 x5 x8 x10 (wrap64 (x10 + 1))) else ((N2.impl_MergeNearest.f k x5 x8).bind fun bt115 => (if fok .quo .f32 x8 1073741824 = true then ((N2.impl_MergeNearest.f k x5 (fop .quo .f32 x8 1073741824)).bind fun bt119 => ((N0.impl_TotalSpin.f k x5).bind fun bt123 => ((N0.impl_TotalSpin.f k bt115.1).bind fun bt125 => ((N0.impl_ImpulseOf.f k x5).bind fun bt127 => ((N0.impl_ImpulseOf.f k bt115.1).bind fun bt129 => (if bt115.2 = true then (if bt119.2 = true then (if bt123.2 = true then (if bt125.2 = true then (if bt127.2 = true then (if bt129.2 = true then ((N0.impl_SameWhirls.f k bt119.1 x5).bind fun t131 => (if t131 = true then (if (FloatKind.f32.format.order bt123.1 bt125.1 != some .eq) = true then (laws_FnNearest.j3 k x1 x5 bt115.1 bt127.1 bt129.1 true) else (laws_FnNearest.j3 k x1 x5 bt115.1 bt127.1 bt129.1 (decide ((bt115.1.length : Int) > 3)))) else (laws_FnNearest.j3 k x1 x5 bt115.1 bt127.1 bt129.1 true))) else (laws_FnNearest.j3 k x1 x5 bt115.1 bt127.1 bt129.1 true)) else (laws_FnNearest.j3 k x1 x5 bt115.1 bt127.1 bt129.1 true)) else (laws_FnNearest.j3 k x1 x5 bt115.1 bt127.1 bt129.1 true)) else (laws_FnNearest.j3 k x1 x5 bt115.1 bt127.1 bt129.1 true)) else (laws_FnNearest.j3 k x1 x5 bt115.1 bt127.1 bt129.1 true)) else (laws_FnNearest.j3 k x1 x5 bt115.1 bt127.1 bt129.1 true))))))) else (none)))
def laws_FnNearest.l1 : Nat → List Int → List (S46) → Nat → Int → Int → Option (Bool)
  | 0, _, _, _, _, _ => none
  | k + 1, x1, x5, x8, x10, x11 => if x11 < 4 then (if 0 ≤ x11 then (if x11 < (x5.length : Int) then (if 0 ≤ x10 then (if x10 < (x5.length : Int) then (if fok .sub .f32 ((rd_T46 x5 x11).f0).1 ((rd_T46 x5 x10).f0).1 = true then (if fok .sub .f32 ((rd_T46 x5 x11).f0).2 ((rd_T46 x5 x10).f0).2 = true then ((S0.impl_LongOf.f ((fop .sub .f32 ((rd_T46 x5 x11).f0).1 ((rd_T46 x5 x10).f0).1, fop .sub .f32 ((rd_T46 x5 x11).f0).2 ((rd_T46 x5 x10).f0).2) : Nat × Nat)).bind fun t114 => (if (FloatKind.f32.format.order t114 x8 == some .lt) = true then (some false) else (laws_FnNearest.l1 k x1 x5 x8 x10 (wrap64 (x11 + 1))))) else (none)) else (none)) else (none)) else (none)) else (none)) else (none)) else (laws_FnNearest.l0 k x1 x5 x8 (wrap64 (x10 + 1)))
def laws_FnNearest.j3 : Nat → List Int → List (S46) → List (S46) → (Nat × Nat) → (Nat × Nat) → Bool → Option (Bool)
  | 0, _, _, _, _, _, _ => none
  | k + 1, x1, x5, x12, x20, x22, x172 => if x172 = true then (some false) else (if (x12.length : Int) = 3 then ((N0.laws_r8Apart.f x20 x22).bind fun t132 => ((S0.impl_LongOf.f x20).bind fun t133 => (if cok .f32 t133 .f64 = true then (if fok .mul .f64 (cvt .f32 t133 .f64) 4616189618054758400 = true then (if fok .add .f64 4607182418800017408 (fop .mul .f64 (cvt .f32 t133 .f64) 4616189618054758400) = true then (if fok .add .f64 (fop .add .f64 4607182418800017408 (fop .mul .f64 (cvt .f32 t133 .f64) 4616189618054758400)) 4630826316843712512 = true then (if fok .mul .f64 4562254508917369340 (fop .add .f64 (fop .add .f64 4607182418800017408 (fop .mul .f64 (cvt .f32 t133 .f64) 4616189618054758400)) 4630826316843712512) = true then (laws_FnNearest.j4 k x1 x5 (FloatKind.f64.format.order t132 (fop .mul .f64 4562254508917369340 (fop .add .f64 (fop .add .f64 4607182418800017408 (fop .mul .f64 (cvt .f32 t133 .f64) 4616189618054758400)) 4630826316843712512)) == some .gt)) else (none)) else (none)) else (none)) else (none)) else (none)))) else (laws_FnNearest.j4 k x1 x5 false))
def laws_FnNearest.j4 : Nat → List Int → List (S46) → Bool → Option (Bool)
  | 0, _, _, _ => none
  | k + 1, x1, x5, x188 => if x188 = true then (some false) else ((NM.impl_MoveWhirls.f k x5 ((1073741824, 3225419776) : Nat × Nat)).bind fun bt134 => ((NM.impl_MoveWhirls.f k bt134.1 ((3221225472, 1077936128) : Nat × Nat)).bind fun bt138 => (if bt134.2 = true then (if bt138.2 = true then ((N0.impl_SameWhirls.f k bt138.1 x5).bind fun t142 => (laws_FnNearest.j5 k x1 x5 (!t142))) else (laws_FnNearest.j5 k x1 x5 true)) else (laws_FnNearest.j5 k x1 x5 true))))
def laws_FnNearest.j5 : Nat → List Int → List (S46) → Bool → Option (Bool)
  | 0, _, _, _ => none
  | k + 1, x1, x5, x210 => if x210 = true then (some false) else ((N0.laws_r8At.f x1 0 8).bind fun t143 => (if fok .quo .f32 (floatOfInt .f32 (wrap64 (1 + t143))) 1090519040 = true then ((N1.impl_HalvedWhirls.f k x5 1056964608 1048576000 (fop .quo .f32 (floatOfInt .f32 (wrap64 (1 + t143))) 1090519040)).bind fun bt144 => (if bt144.2.2 = true then (if fok .quo .f32 1048576000 (floatOfInt .f32 bt144.2.1) = true then ((N1.impl_RunWhirls.f k x5 1056964608 (fop .quo .f32 1048576000 (floatOfInt .f32 bt144.2.1)) bt144.2.1).bind fun bt149 => (if bt149.2 = true then (if bt144.2.1 < 1 then (laws_FnNearest.j6 k (fop .quo .f32 (floatOfInt .f32 (wrap64 (1 + t143))) 1090519040) bt144.1 bt149.1 true) else (if bt144.2.1 > 32 then (laws_FnNearest.j6 k (fop .quo .f32 (floatOfInt .f32 (wrap64 (1 + t143))) 1090519040) bt144.1 bt149.1 true) else (laws_FnNearest.j6 k (fop .quo .f32 (floatOfInt .f32 (wrap64 (1 + t143))) 1090519040) bt144.1 bt149.1 ((bt149.1.length : Int) != (bt144.1.length : Int))))) else (laws_FnNearest.j6 k (fop .quo .f32 (floatOfInt .f32 (wrap64 (1 + t143))) 1090519040) bt144.1 bt149.1 true))) else (none)) else (some true))) else (none)))
def laws_FnNearest.j6 : Nat → Nat → List (S46) → List (S46) → Bool → Option (Bool)
  | 0, _, _, _, _ => none
  | k + 1, x28, x29, x32, x250 => if x250 = true then (some false) else (laws_FnNearest.l2 k x28 x29 x32 0)
def laws_FnNearest.l2 : Nat → Nat → List (S46) → List (S46) → Int → Option (Bool)
  | 0, _, _, _, _ => none
  | k + 1, x28, x29, x32, x34 => if x34 < (x29.length : Int) then (if 0 ≤ x34 then (if x34 < (x32.length : Int) then (if fok .sub .f32 ((rd_T46 x32 x34).f0).1 ((rd_T46 x29 x34).f0).1 = true then (if fok .sub .f32 ((rd_T46 x32 x34).f0).2 ((rd_T46 x29 x34).f0).2 = true then ((S0.impl_LongOf.f ((fop .sub .f32 ((rd_T46 x32 x34).f0).1 ((rd_T46 x29 x34).f0).1, fop .sub .f32 ((rd_T46 x32 x34).f0).2 ((rd_T46 x29 x34).f0).2) : Nat × Nat)).bind fun t155 => (if (FloatKind.f32.format.order t155 x28 == some .gt) = true then (some false) else (laws_FnNearest.l2 k x28 x29 x32 (wrap64 (x34 + 1))))) else (none)) else (none)) else (none)) else (none)) else (some true)
end
def laws_FnNearest.f (k : Nat) (l0 : List Int) (l1 : List Int) : Option (Bool) := (N0.laws_r8Long.f l0 l1).bind fun t101 => (if t101 = true then (some true) else ((N0.spec_R8Whirls.f k l0 4).bind fun t102 => ((N0.impl_NearestWhirls.f k t102).bind fun bt105 => (if bt105.2.2.2 = true then (if bt105.1 < 0 then (laws_FnNearest.j0 k l1 t102 bt105.2.2.1 true) else (if bt105.2.1 ≤ bt105.1 then (laws_FnNearest.j0 k l1 t102 bt105.2.2.1 true) else (if bt105.2.1 > 3 then (laws_FnNearest.j0 k l1 t102 bt105.2.2.1 true) else (if 0 ≤ bt105.2.1 then (if bt105.2.1 < (t102.length : Int) then (if 0 ≤ bt105.1 then (if bt105.1 < (t102.length : Int) then (if fok .sub .f32 ((rd_T46 t102 bt105.2.1).f0).1 ((rd_T46 t102 bt105.1).f0).1 = true then (if fok .sub .f32 ((rd_T46 t102 bt105.2.1).f0).2 ((rd_T46 t102 bt105.1).f0).2 = true then ((S0.impl_LongOf.f ((fop .sub .f32 ((rd_T46 t102 bt105.2.1).f0).1 ((rd_T46 t102 bt105.1).f0).1, fop .sub .f32 ((rd_T46 t102 bt105.2.1).f0).2 ((rd_T46 t102 bt105.1).f0).2) : Nat × Nat)).bind fun t111 => (laws_FnNearest.j0 k l1 t102 bt105.2.2.1 (FloatKind.f32.format.order t111 bt105.2.2.1 != some .eq))) else (none)) else (none)) else (none)) else (none)) else (none)) else (none))))) else (laws_FnNearest.j0 k l1 t102 bt105.2.2.1 true)))))
theorem FnNearest_j0_no {a0 : Nat} {a1 : List Int} {a2 : List (S46)} {a3 : Nat} : laws_FnNearest.j0 a0 a1 a2 a3 true ≠ some true := by
  cases a0 <;> simp [laws_FnNearest.j0]
theorem FnNearest_j3_no {a0 : Nat} {a1 : List Int} {a2 : List (S46)} {a3 : List (S46)} {a4 : (Nat × Nat)} {a5 : (Nat × Nat)} : laws_FnNearest.j3 a0 a1 a2 a3 a4 a5 true ≠ some true := by
  cases a0 <;> simp [laws_FnNearest.j3]
theorem FnNearest_j5_no {a0 : Nat} {a1 : List Int} {a2 : List (S46)} : laws_FnNearest.j5 a0 a1 a2 true ≠ some true := by
  cases a0 <;> simp [laws_FnNearest.j5]
theorem FnNearest_j6_no {a0 : Nat} {a1 : Nat} {a2 : List (S46)} {a3 : List (S46)} : laws_FnNearest.j6 a0 a1 a2 a3 true ≠ some true := by
  cases a0 <;> simp [laws_FnNearest.j6]
def laws_FnNearest.T5 : Bool × List (List Nat × List Nat) := (true, [([], []), ([0], [0]), ([1], [1]), ([2], [2]), ([3, 2], [2, 3]), ([2, 4], [2, 4]), ([5, 2], [5]), ([6], [6]), ([6], [6]), ([7, 8, 6], [6, 7, 8]), ([6, 9], [6, 9]), ([10, 6], [10]), ([11], [11]), ([12, 11], [11, 12]), ([11, 13], [11, 13]), ([14, 11], [14]), ([15], [15]), ([15], [15]), ([16, 17, 15], [15, 16, 17]), ([18, 15], [15, 18]), ([19, 15], [15, 19]), ([15], [15]), ([15], [15]), ([21, 22, 15], [15, 21, 22]), ([23, 15], [15, 23]), ([24, 15], [15, 24]), ([20, 25, 15], [15, 20, 25]), ([26, 15, 15], [15, 26]), ([15], [15]), ([27, 28, 15], [15, 27, 28]), ([15, 29], [15, 29])])
def laws_FnNearest.B5 : List Nat := [0, 1, 3, 7, 15, 31, 63, 127, 127, 511, 1023, 2047, 4095, 8191, 16383, 32767, 65535, 65535, 262143, 524287, 1048575, 65535, 65535, 6356991, 14745599, 31522815, 67108863, 134217727, 65535, 536870911, 1073741823]
theorem laws_FnNearest.tab5 : rtab .any (opsOf Try.f4 5) = laws_FnNearest.T5 := by kernel_rfl
theorem laws_FnNearest.bits5 : waitsOk laws_FnNearest.T5.2 laws_FnNearest.B5 = true := by kernel_rfl
def laws_FnNearest.T13 : Bool × List (List Nat × List Nat) := (true, [([], []), ([], []), ([0, 1], [0, 1]), ([2], [2]), ([3], [3]), ([], []), ([], []), ([5, 6], [5, 6]), ([7], [7]), ([8], [8]), ([4, 9], [4, 9]), ([10], [10]), ([], []), ([11, 12], [11, 12])])
def laws_FnNearest.B13 : List Nat := [0, 0, 3, 7, 15, 0, 0, 96, 224, 480, 1023, 2047, 0, 8191]
theorem laws_FnNearest.tab13 : rtab .any (opsOf Try.f4 13) = laws_FnNearest.T13 := by kernel_rfl
theorem laws_FnNearest.bits13 : waitsOk laws_FnNearest.T13.2 laws_FnNearest.B13 = true := by kernel_rfl
def laws_FnNearest.T39 : Bool × List (List Nat × List Nat) := (true, [([], []), ([], []), ([0, 1], [0, 1]), ([2], [2]), ([3], [3]), ([], []), ([], []), ([5, 6], [5, 6]), ([7], [7]), ([8], [8]), ([4, 9], [4, 9]), ([10], [10]), ([], []), ([11, 12], [11, 12])])
def laws_FnNearest.B39 : List Nat := [0, 0, 3, 7, 15, 0, 0, 96, 224, 480, 1023, 2047, 0, 8191]
theorem laws_FnNearest.tab39 : rtab .any (opsOf Try.f4 39) = laws_FnNearest.T39 := by kernel_rfl
theorem laws_FnNearest.bits39 : waitsOk laws_FnNearest.T39.2 laws_FnNearest.B39 = true := by kernel_rfl
theorem AS {p : Prop} (h : p) : Aside0 p := ⟨h⟩
set_option maxHeartbeats 8000000 in
set_option maxRecDepth 100000 in
theorem laws_FnNearest.calls (k : Nat) (A0 : Option Addr) (c0 : Nat) (l0 : List Int) (A1 : Option Addr) (c1 : Nat) (l1 : List Int) (w : World) (hr0 : Kd.C (Kd.int .u8) w A0 l0.length l0) (hc0 : l0.length ≤ c0) (hr1 : Kd.C (Kd.int .u8) w A1 l1.length l1) (hc1 : l1.length ≤ c1) (h : laws_FnNearest.f k l0 l1 = some true) :
    Calls Try.prog 4 #[.slice A0 l0.length c0, .slice A1 l1.length c1] w fun e w' => e = .returned (.bool true) ∧ Below w.heap.size w w' := by
  have HR0 := AS hr0; have HC0 := AS hc0; clear hr0 hc0; have HR1 := AS hr1; have HC1 := AS hc1; clear hr1 hc1; have HB := AS (Below.refl w.heap.size w); have H : ((N0.laws_r8Long.f l0 l1).bind fun t101 => (if t101 = true then (some true) else ((N0.spec_R8Whirls.f k l0 4).bind fun t102 => ((N0.impl_NearestWhirls.f k t102).bind fun bt105 => (if bt105.2.2.2 = true then (if bt105.1 < 0 then (laws_FnNearest.j0 k l1 t102 bt105.2.2.1 true) else (if bt105.2.1 ≤ bt105.1 then (laws_FnNearest.j0 k l1 t102 bt105.2.2.1 true) else (if bt105.2.1 > 3 then (laws_FnNearest.j0 k l1 t102 bt105.2.2.1 true) else (if 0 ≤ bt105.2.1 then (if bt105.2.1 < (t102.length : Int) then (if 0 ≤ bt105.1 then (if bt105.1 < (t102.length : Int) then (if fok .sub .f32 ((rd_T46 t102 bt105.2.1).f0).1 ((rd_T46 t102 bt105.1).f0).1 = true then (if fok .sub .f32 ((rd_T46 t102 bt105.2.1).f0).2 ((rd_T46 t102 bt105.1).f0).2 = true then ((S0.impl_LongOf.f ((fop .sub .f32 ((rd_T46 t102 bt105.2.1).f0).1 ((rd_T46 t102 bt105.1).f0).1, fop .sub .f32 ((rd_T46 t102 bt105.2.1).f0).2 ((rd_T46 t102 bt105.1).f0).2) : Nat × Nat)).bind fun t111 => (laws_FnNearest.j0 k l1 t102 bt105.2.2.1 (FloatKind.f32.format.order t111 bt105.2.2.1 != some .eq))) else (none)) else (none)) else (none)) else (none)) else (none)) else (none))))) else (laws_FnNearest.j0 k l1 t102 bt105.2.2.1 true)))))) = some true := h; clear h; replace H := Option.bind_eq_some_iff.mp H; obtain ⟨t101, A30, H⟩ := H; (try dsimp only at H); have A3 := AS A30; clear A30; by_cases c4 : t101 = true
  · subst c4
    have H1 : (some true) = some true := rfl; clear H; have H := H1; clear H1; clear H; go_enter Try.func4, Try.ntmps4; go_wp2_with (first | ((with_reducible refine gate_callee (f := 7) rfl ?_); refine goesM 37 Try.func7 #[.slice A0 l0.length c0, .slice A1 l1.length c1] ?_; (with_reducible refine (N0.laws_r8Long.calls _ _ l0 _ _ l1 true _ ?side1 ?side2 ?side3 ?side4 A3.out).mono ?_); (case side1 => exact CS HR0.out); (case side2 => exact HC0.out); (case side3 => exact CS HR1.out); (case side4 => exact HC1.out); rintro e w' ⟨rfl, ⟨nd, rfl⟩⟩; refine ⟨_, rfl, ?_⟩)); go_ret; exact ⟨by first | rfl | (simp [errW_none, errW_some] <;> rfl) | (simp [*, errW_none, errW_some] <;> rfl), BW HB⟩
  · replace c4 := Bool.eq_false_iff.mpr c4
    subst c4; rw [if_neg (show ¬ (false = true) by decide)] at H; replace H := Option.bind_eq_some_iff.mp H; obtain ⟨t102, A50, H⟩ := H; (try dsimp only at H); have A5 := AS A50; clear A50; replace H := Option.bind_eq_some_iff.mp H; obtain ⟨⟨t105, t106, t107, t108⟩, A60, H⟩ := H; (try dsimp only at H); have A6 := AS A60; clear A60; have HC7 := AS H; clear H; go_enter Try.func4, Try.ntmps4; (go_upto_region 5 with (first | ((with_reducible refine gate_callee (f := 7) rfl ?_); refine goesM 37 Try.func7 #[.slice A0 l0.length c0, .slice A1 l1.length c1] ?_; (with_reducible refine (N0.laws_r8Long.calls _ _ l0 _ _ l1 false _ ?side1 ?side2 ?side3 ?side4 A3.out).mono ?_); (case side1 => exact CS HR0.out); (case side2 => exact HC0.out); (case side3 => exact CS HR1.out); (case side4 => exact HC1.out); rintro e w' ⟨rfl, ⟨nd, rfl⟩⟩; refine ⟨_, rfl, ?_⟩) | ((with_reducible refine gate_callee (f := 8) rfl ?_); refine goesM 39 Try.func8 #[.slice A0 l0.length c0, .int .i64 4] ?_; (with_reducible refine (N0.spec_R8Whirls.calls k _ _ l0 4 t102 _ ?side1 ?side2 A5.out).mono ?_); (case side1 => exact CS HR0.out); (case side2 => exact HC0.out); rintro e w8 ⟨v103, rfl, ho0, hb⟩; refine ⟨_, rfl, ?_⟩; have HO104 := RN ho0 HB; replace HB := BB HB hb; (try clear hb); (try clear hb2); (try clear hk); (try clear hi); (try clear ho0); obtain ⟨Ao9, co9, eo9⟩ := Kd.R_slice HO104.out; subst eo9) | ((with_reducible refine gate_callee (f := 21) rfl ?_); refine goesM 42 Try.func21 #[.slice Ao9 t102.length co9] ?_; (with_reducible refine (N0.impl_NearestWhirls.calls k _ _ t102 t105 t106 t107 t108 _ ?side1 ?side2 A6.out).mono ?_); (case side1 => repeat (first | exact (Kd.R_reads' HO104.out).2.2 | (with_reducible refine Kd.C_alloc ?_ _) | (with_reducible refine Kd.C_drewN ?_ _) | (with_reducible refine Kd.C_drew ?_))); (case side2 => exact (Kd.R_reads' HO104.out).2.1); rintro e w10 ⟨rfl, hb⟩; refine ⟨_, rfl, ?_⟩; replace HO104 := RB HO104 hb; replace HB := BB HB hb; (try clear hb); (try clear hb2); (try clear hk); (try clear hi)))); (try simp only [Act.put, List.setIfInBounds_toArray, List.set_cons_zero, List.set_cons_succ]); go_cut [77] (fun v77 wc => ∃ (kq : Nat) (x77_6 : Bool), v77 = .bool x77_6 ∧ Aside0 (laws_FnNearest.j0 kq l1 t102 t107 x77_6 = some true) ∧ Aside0 (kq ≤ k) ∧ Aside0 (Kd.R k46 46 wc w.heap.size (fun _ => True) (.slice Ao9 t102.length co9) t102) ∧ Aside0 (Below w.heap.size w wc))
    case first =>
      as_aux_lemma =>
        have H := HC7.out; clear HC7; by_cases c11 : t108 = true
        · subst c11
          rw [if_pos rfl] at H; by_cases c12 : t105 < 0
          · rw [if_pos c12] at H
            have c12b0 : decide (t105 < 0) = true := decide_eq_true c12; clear c12; (first | (refine Go.wp_cond_true (congrArg Value.bool c12b0) ?_) | (refine Go.wp_cond_false (congrArg Value.bool c12b0) ?_) | rw [c12b0] | (simp only [i64_w, i32_w]; rw [c12b0]) | skip); exact (FnNearest_j0_no H).elim
          · rw [if_neg c12] at H
            have c12b0 : decide (t105 < 0) = false := decide_eq_false c12; clear c12; (first | (refine Go.wp_cond_true (congrArg Value.bool c12b0) ?_) | (refine Go.wp_cond_false (congrArg Value.bool c12b0) ?_) | rw [c12b0] | (simp only [i64_w, i32_w]; rw [c12b0]) | skip); by_cases c14 : t106 ≤ t105
            · rw [if_pos c14] at H
              have c14b0 : decide (t106 ≤ t105) = true := decide_eq_true c14; clear c14; have H' := AS H; clear H; (try go_wp2); have n0_ := AS (Kd.R_drew HO104.out); have n1_ := AS (below_drew1 HB.out); replace HO104 := n0_; replace HB := n1_; clear n0_ n1_; refine start_ (n := 31) (S := fun w' => True) (ds := []) #[false, false, false, false, false, false, false, false, false, false, false, false, false, false, false, false, false, false, false, false, false, false, false, false, false, false, false, false, false, false, false] (by kernel_rfl) rfl rfl trivial (fun hHeld => ?_); refine with_tabW laws_FnNearest.tab5 laws_FnNearest.bits5 (fun HT_ HW_ => ?_); generalize w10.drew = w15 at HO104 HB hHeld ⊢; refine pureT 0 47 HT_.out ?_; refine pureT 1 48 HT_.out ?_; refine pureT 2 49 HT_.out ?_; refine pureT 3 50 HT_.out ?_; refine pureT 4 51 HT_.out ?_; refine pureT 5 52 HT_.out ?_; refine pureT 6 53 HT_.out ?_; refine pureT 7 54 HT_.out ?_; refine pureT 8 55 HT_.out ?_; refine pureT 9 56 HT_.out ?_; refine pureT 10 57 HT_.out ?_; refine pureT 11 58 HT_.out ?_; refine pureS (i := 12) (N := some 59) (v := undef) (a' := ?_) rfl rfl (any_of HT_.out (by kernel_rfl)) (fun _ _ _ h => h) (Or.inr ⟨by rfl, rfl⟩) ?_ ?_; rotate_left; (· simp only [Act.put, List.setIfInBounds_toArray, List.set_cons_zero, List.set_cons_succ, i64_w, i32_w]; rfl); refine pureS (i := 13) (N := some 60) (v := undef) (a' := ?_) rfl rfl (any_of HT_.out (by kernel_rfl)) (fun _ _ _ h => h) (Or.inr ⟨by rfl, rfl⟩) ?_ ?_; rotate_left; (· simp only [Act.put, List.setIfInBounds_toArray, List.set_cons_zero, List.set_cons_succ, i64_w, i32_w]; rfl); refine pureT 14 61 HT_.out ?_; refine pureT 15 62 HT_.out ?_; refine pureS (i := 16) (N := some 63) (v := undef) (a' := ?_) rfl rfl (any_of HT_.out (by kernel_rfl)) (fun _ _ _ h => h) (Or.inr ⟨by rfl, rfl⟩) ?_ ?_; rotate_left; (· simp only [Act.put, List.setIfInBounds_toArray, List.set_cons_zero, List.set_cons_succ, i64_w, i32_w]; rfl); refine pureS (i := 17) (N := some 64) (v := undef) (a' := ?_) rfl rfl (any_of HT_.out (by kernel_rfl)) (fun _ _ _ h => h) (Or.inr ⟨by rfl, rfl⟩) ?_ ?_; rotate_left; (· simp only [Act.put, List.setIfInBounds_toArray, List.set_cons_zero, List.set_cons_succ, i64_w, i32_w]; rfl); refine pureS (i := 18) (N := some 65) (v := undef) (a' := ?_) rfl rfl (any_of HT_.out (by kernel_rfl)) (fun _ _ _ h => h) (Or.inr ⟨by rfl, rfl⟩) ?_ ?_; rotate_left; (· simp only [Act.put, List.setIfInBounds_toArray, List.set_cons_zero, List.set_cons_succ, i64_w, i32_w]; rfl); refine pureS (i := 19) (N := some 66) (v := undef) (a' := ?_) rfl rfl (any_of HT_.out (by kernel_rfl)) (fun _ _ _ h => h) (Or.inr ⟨by rfl, rfl⟩) ?_ ?_; rotate_left; (· simp only [Act.put, List.setIfInBounds_toArray, List.set_cons_zero, List.set_cons_succ, i64_w, i32_w]; rfl); refine pureS (i := 20) (N := some 67) (v := undef) (a' := ?_) rfl rfl (any_of HT_.out (by kernel_rfl)) (fun _ _ _ h => h) (Or.inr ⟨by rfl, rfl⟩) ?_ ?_; rotate_left; (· simp only [Act.put, List.setIfInBounds_toArray, List.set_cons_zero, List.set_cons_succ, i64_w, i32_w]; rfl); refine pureS (i := 21) (N := some 68) (v := undef) (a' := ?_) rfl rfl (any_of HT_.out (by kernel_rfl)) (fun _ _ _ h => h) (Or.inr ⟨by rfl, rfl⟩) ?_ ?_; rotate_left; (· simp only [Act.put, List.setIfInBounds_toArray, List.set_cons_zero, List.set_cons_succ, i64_w, i32_w]; rfl); refine pureS (i := 22) (N := some 69) (v := undef) (a' := ?_) rfl rfl (any_of HT_.out (by kernel_rfl)) (fun _ _ _ h => h) (Or.inr ⟨by rfl, rfl⟩) ?_ ?_; rotate_left; (· simp only [Act.put, List.setIfInBounds_toArray, List.set_cons_zero, List.set_cons_succ, i64_w, i32_w]; rfl); refine pureS (i := 23) (N := some 70) (v := undef) (a' := ?_) rfl rfl (any_of HT_.out (by kernel_rfl)) (fun _ _ _ h => h) (Or.inr ⟨by rfl, rfl⟩) ?_ ?_; rotate_left; (· simp only [Act.put, List.setIfInBounds_toArray, List.set_cons_zero, List.set_cons_succ, i64_w, i32_w]; rfl); refine pureS (i := 24) (N := some 71) (v := undef) (a' := ?_) rfl rfl (any_of HT_.out (by kernel_rfl)) (fun _ _ _ h => h) (Or.inr ⟨by rfl, rfl⟩) ?_ ?_; rotate_left; (· simp only [Act.put, List.setIfInBounds_toArray, List.set_cons_zero, List.set_cons_succ, i64_w, i32_w]; rfl); refine pureS (i := 25) (N := some 72) (v := undef) (a' := ?_) rfl rfl (any_of HT_.out (by kernel_rfl)) (fun _ _ _ h => h) (Or.inr ⟨by rfl, rfl⟩) ?_ ?_; rotate_left; (· simp only [Act.put, List.setIfInBounds_toArray, List.set_cons_zero, List.set_cons_succ, i64_w, i32_w]; rfl); refine pureS (i := 26) (N := some 73) (v := undef) (a' := ?_) rfl rfl (any_of HT_.out (by kernel_rfl)) (fun _ _ _ h => h) (Or.inr ⟨by rfl, rfl⟩) ?_ ?_; rotate_left; (· simp only [Act.put, List.setIfInBounds_toArray, List.set_cons_zero, List.set_cons_succ, i64_w, i32_w]; rfl); refine pureS (i := 27) (N := some 74) (v := undef) (a' := ?_) rfl rfl (any_of HT_.out (by kernel_rfl)) (fun _ _ _ h => h) (Or.inr ⟨by rfl, rfl⟩) ?_ ?_; rotate_left; (· simp only [Act.put, List.setIfInBounds_toArray, List.set_cons_zero, List.set_cons_succ, i64_w, i32_w]; rfl); refine pureS (i := 28) (N := some 75) (v := undef) (a' := ?_) rfl rfl (any_of HT_.out (by kernel_rfl)) (fun _ _ _ h => h) (Or.inr ⟨by rfl, rfl⟩) ?_ ?_; rotate_left; (· simp only [Act.put, List.setIfInBounds_toArray, List.set_cons_zero, List.set_cons_succ, i64_w, i32_w]; rfl); refine pureS (i := 29) (N := some 76) (v := undef) (a' := ?_) rfl rfl (any_of HT_.out (by kernel_rfl)) (fun _ _ _ h => h) (Or.inr ⟨by rfl, rfl⟩) ?_ ?_; rotate_left; (· simp only [Act.put, List.setIfInBounds_toArray, List.set_cons_zero, List.set_cons_succ, i64_w, i32_w]; rfl); refine pureT 30 77 HT_.out ?_; refine done_ (done_of HT_.out (by kernel_rfl)) ?_; (try go_wp2); go_meet
              case rel => exact ⟨_, (true), (by first | rfl | (simp; done) | (simp [*]; done)), H', ⟨by first | omega | exact Nat.le_refl _⟩, ⟨RS HO104.out⟩, ⟨BW HB⟩⟩
            · rw [if_neg c14] at H
              have c14b0 : decide (t106 ≤ t105) = false := decide_eq_false c14; clear c14; by_cases c16 : t106 > 3
              · rw [if_pos c16] at H
                have c16b0 : decide (3 < t106) = true := decide_eq_true c16; clear c16; have H' := AS H; clear H; (try go_wp2); have n0_ := AS (Kd.R_drew HO104.out); have n1_ := AS (below_drew1 HB.out); replace HO104 := n0_; replace HB := n1_; clear n0_ n1_; refine start_ (n := 31) (S := fun w' => True) (ds := []) #[false, false, false, false, false, false, false, false, false, false, false, false, false, false, false, false, false, false, false, false, false, false, false, false, false, false, false, false, false, false, false] (by kernel_rfl) rfl rfl trivial (fun hHeld => ?_); refine with_tabW laws_FnNearest.tab5 laws_FnNearest.bits5 (fun HT_ HW_ => ?_); generalize w10.drew = w17 at HO104 HB hHeld ⊢; refine pureT 0 47 HT_.out ?_; refine pureT 1 48 HT_.out ?_; refine pureT 2 49 HT_.out ?_; refine pureT 3 50 HT_.out ?_; refine pureT 4 51 HT_.out ?_; refine pureT 5 52 HT_.out ?_; refine pureT 6 53 HT_.out ?_; refine pureT 7 54 HT_.out ?_; refine pureT 8 55 HT_.out ?_; refine pureT 9 56 HT_.out ?_; refine pureT 10 57 HT_.out ?_; refine pureT 11 58 HT_.out ?_; refine pureT 12 59 HT_.out ?_; refine pureT 13 60 HT_.out ?_; refine pureT 14 61 HT_.out ?_; refine pureT 15 62 HT_.out ?_; refine pureS (i := 16) (N := some 63) (v := undef) (a' := ?_) rfl rfl (any_of HT_.out (by kernel_rfl)) (fun _ _ _ h => h) (Or.inr ⟨by rfl, rfl⟩) ?_ ?_; rotate_left; (· simp only [Act.put, List.setIfInBounds_toArray, List.set_cons_zero, List.set_cons_succ, i64_w, i32_w]; rfl); refine pureS (i := 17) (N := some 64) (v := undef) (a' := ?_) rfl rfl (any_of HT_.out (by kernel_rfl)) (fun _ _ _ h => h) (Or.inr ⟨by rfl, rfl⟩) ?_ ?_; rotate_left; (· simp only [Act.put, List.setIfInBounds_toArray, List.set_cons_zero, List.set_cons_succ, i64_w, i32_w]; rfl); refine pureS (i := 18) (N := some 65) (v := undef) (a' := ?_) rfl rfl (any_of HT_.out (by kernel_rfl)) (fun _ _ _ h => h) (Or.inr ⟨by rfl, rfl⟩) ?_ ?_; rotate_left; (· simp only [Act.put, List.setIfInBounds_toArray, List.set_cons_zero, List.set_cons_succ, i64_w, i32_w]; rfl); refine pureS (i := 19) (N := some 66) (v := undef) (a' := ?_) rfl rfl (any_of HT_.out (by kernel_rfl)) (fun _ _ _ h => h) (Or.inr ⟨by rfl, rfl⟩) ?_ ?_; rotate_left; (· simp only [Act.put, List.setIfInBounds_toArray, List.set_cons_zero, List.set_cons_succ, i64_w, i32_w]; rfl); refine pureS (i := 20) (N := some 67) (v := undef) (a' := ?_) rfl rfl (any_of HT_.out (by kernel_rfl)) (fun _ _ _ h => h) (Or.inr ⟨by rfl, rfl⟩) ?_ ?_; rotate_left; (· simp only [Act.put, List.setIfInBounds_toArray, List.set_cons_zero, List.set_cons_succ, i64_w, i32_w]; rfl); refine pureS (i := 21) (N := some 68) (v := undef) (a' := ?_) rfl rfl (any_of HT_.out (by kernel_rfl)) (fun _ _ _ h => h) (Or.inr ⟨by rfl, rfl⟩) ?_ ?_; rotate_left; (· simp only [Act.put, List.setIfInBounds_toArray, List.set_cons_zero, List.set_cons_succ, i64_w, i32_w]; rfl); refine pureS (i := 22) (N := some 69) (v := undef) (a' := ?_) rfl rfl (any_of HT_.out (by kernel_rfl)) (fun _ _ _ h => h) (Or.inr ⟨by rfl, rfl⟩) ?_ ?_; rotate_left; (· simp only [Act.put, List.setIfInBounds_toArray, List.set_cons_zero, List.set_cons_succ, i64_w, i32_w]; rfl); refine pureS (i := 23) (N := some 70) (v := undef) (a' := ?_) rfl rfl (any_of HT_.out (by kernel_rfl)) (fun _ _ _ h => h) (Or.inr ⟨by rfl, rfl⟩) ?_ ?_; rotate_left; (· simp only [Act.put, List.setIfInBounds_toArray, List.set_cons_zero, List.set_cons_succ, i64_w, i32_w]; rfl); refine pureS (i := 24) (N := some 71) (v := undef) (a' := ?_) rfl rfl (any_of HT_.out (by kernel_rfl)) (fun _ _ _ h => h) (Or.inr ⟨by rfl, rfl⟩) ?_ ?_; rotate_left; (· simp only [Act.put, List.setIfInBounds_toArray, List.set_cons_zero, List.set_cons_succ, i64_w, i32_w]; rfl); refine pureS (i := 25) (N := some 72) (v := undef) (a' := ?_) rfl rfl (any_of HT_.out (by kernel_rfl)) (fun _ _ _ h => h) (Or.inr ⟨by rfl, rfl⟩) ?_ ?_; rotate_left; (· simp only [Act.put, List.setIfInBounds_toArray, List.set_cons_zero, List.set_cons_succ, i64_w, i32_w]; rfl); refine pureS (i := 26) (N := some 73) (v := undef) (a' := ?_) rfl rfl (any_of HT_.out (by kernel_rfl)) (fun _ _ _ h => h) (Or.inr ⟨by rfl, rfl⟩) ?_ ?_; rotate_left; (· simp only [Act.put, List.setIfInBounds_toArray, List.set_cons_zero, List.set_cons_succ, i64_w, i32_w]; rfl); refine pureS (i := 27) (N := some 74) (v := undef) (a' := ?_) rfl rfl (any_of HT_.out (by kernel_rfl)) (fun _ _ _ h => h) (Or.inr ⟨by rfl, rfl⟩) ?_ ?_; rotate_left; (· simp only [Act.put, List.setIfInBounds_toArray, List.set_cons_zero, List.set_cons_succ, i64_w, i32_w]; rfl); refine pureS (i := 28) (N := some 75) (v := undef) (a' := ?_) rfl rfl (any_of HT_.out (by kernel_rfl)) (fun _ _ _ h => h) (Or.inr ⟨by rfl, rfl⟩) ?_ ?_; rotate_left; (· simp only [Act.put, List.setIfInBounds_toArray, List.set_cons_zero, List.set_cons_succ, i64_w, i32_w]; rfl); refine pureS (i := 29) (N := some 76) (v := undef) (a' := ?_) rfl rfl (any_of HT_.out (by kernel_rfl)) (fun _ _ _ h => h) (Or.inr ⟨by rfl, rfl⟩) ?_ ?_; rotate_left; (· simp only [Act.put, List.setIfInBounds_toArray, List.set_cons_zero, List.set_cons_succ, i64_w, i32_w]; rfl); refine pureT 30 77 HT_.out ?_; refine done_ (done_of HT_.out (by kernel_rfl)) ?_; (try go_wp2); go_meet
                case rel => exact ⟨_, (true), (by first | rfl | (simp; done) | (simp [*]; done)), H', ⟨by first | omega | exact Nat.le_refl _⟩, ⟨RS HO104.out⟩, ⟨BW HB⟩⟩
              · rw [if_neg c16] at H
                have c16b0 : decide (3 < t106) = false := decide_eq_false c16; clear c16; by_cases c18 : 0 ≤ t106
                · rw [if_pos c18] at H
                  have c18b0 : decide (0 ≤ t106) = true := decide_eq_true c18; clear c18; by_cases c19 : t106 < (t102.length : Int)
                  · rw [if_pos c19] at H
                    have c19b0 : decide (t106 < (t102.length : Int)) = true := decide_eq_true c19; clear c19; by_cases c20 : 0 ≤ t105
                    · rw [if_pos c20] at H
                      have c20b0 : decide (0 ≤ t105) = true := decide_eq_true c20; clear c20; by_cases c21 : t105 < (t102.length : Int)
                      · rw [if_pos c21] at H
                        have c21b0 : decide (t105 < (t102.length : Int)) = true := decide_eq_true c21; clear c21; by_cases c22 : fok .sub .f32 ((rd_T46 t102 t106).f0).1 ((rd_T46 t102 t105).f0).1 = true
                        · rw [if_pos c22] at H
                          have c22b0 := eq_true c22; have c22b1 : decide (fok .sub .f32 ((rd_T46 t102 t106).f0).1 ((rd_T46 t102 t105).f0).1 = true) = true := decide_eq_true c22; clear c22; by_cases c23 : fok .sub .f32 ((rd_T46 t102 t106).f0).2 ((rd_T46 t102 t105).f0).2 = true
                          · rw [if_pos c23] at H
                            have c23b0 := eq_true c23; have c23b1 : decide (fok .sub .f32 ((rd_T46 t102 t106).f0).2 ((rd_T46 t102 t105).f0).2 = true) = true := decide_eq_true c23; clear c23; replace H := Option.bind_eq_some_iff.mp H; obtain ⟨t111, A240, H⟩ := H; replace H : (laws_FnNearest.j0 k l1 t102 t107 (FloatKind.f32.format.order t111 t107 != some .eq)) = some true := H; have A24 := AS A240; clear A240; have H' := AS H; clear H; (try go_wp2); have n0_ := AS (Kd.R_drew HO104.out); have n1_ := AS (below_drew1 HB.out); replace HO104 := n0_; replace HB := n1_; clear n0_ n1_; have p109 : 0 ≤ (t106 : Int) := of_decide_eq_true (by first | (with_reducible assumption) | assumption); have q109 : t106 < (t102.length : Int) := of_decide_eq_true (by first | (with_reducible assumption) | assumption); obtain ⟨ad109, e109, hx109_0, hx109_1⟩ := at_T46 (Kd.R_reads' HO104.out).2.2 t106 p109 q109; cases e109; replace p109 := eq_true p109; replace q109 := eq_true q109; have p110 : 0 ≤ (t105 : Int) := of_decide_eq_true (by first | (with_reducible assumption) | assumption); have q110 : t105 < (t102.length : Int) := of_decide_eq_true (by first | (with_reducible assumption) | assumption); obtain ⟨ad110, e110, hx110_0, hx110_1⟩ := at_T46 (Kd.R_reads' HO104.out).2.2 t105 p110 q110; obtain rfl : ad109 = ad110 := (by injection e110); replace p110 := eq_true p110; replace q110 := eq_true q110; refine start_ (n := 31) (S := fun w' => w'.cell? (ad109.add ((t106).toNat * 2)) = some (.complex .f32 ((rd_T46 t102 t106).f0).1 ((rd_T46 t102 t106).f0).2) ∧ w'.cell? ⟨(ad109.add ((t106).toNat * 2)).block, (ad109.add ((t106).toNat * 2)).off + 1, none⟩ = some (.float .f32 ((rd_T46 t102 t106).f1)) ∧ w'.cell? (ad109.add ((t105).toNat * 2)) = some (.complex .f32 ((rd_T46 t102 t105).f0).1 ((rd_T46 t102 t105).f0).2) ∧ w'.cell? ⟨(ad109.add ((t105).toNat * 2)).block, (ad109.add ((t105).toNat * 2)).off + 1, none⟩ = some (.float .f32 ((rd_T46 t102 t105).f1))) (ds := []) #[false, false, false, false, false, false, false, false, false, false, false, false, false, false, false, false, false, false, false, false, false, false, false, false, false, false, false, false, false, false, false] (by kernel_rfl) rfl rfl ⟨hx109_0, hx109_1, hx110_0, hx110_1⟩ (fun hHeld => ?_); refine with_tabW laws_FnNearest.tab5 laws_FnNearest.bits5 (fun HT_ HW_ => ?_); generalize w10.drew = w25 at HO104 HB hx109_0 hx109_1 hx110_0 hx110_1 hHeld ⊢; refine pureT 0 47 HT_.out ?_; refine pureT 1 48 HT_.out ?_; refine pureT 2 49 HT_.out ?_; refine pureT 3 50 HT_.out ?_; refine pureT 4 51 HT_.out ?_; refine pureT 5 52 HT_.out ?_; refine pureT 6 53 HT_.out ?_; refine pureT 7 54 HT_.out ?_; refine pureT 8 55 HT_.out ?_; refine pureT 9 56 HT_.out ?_; refine pureT 10 57 HT_.out ?_; refine pureT 11 58 HT_.out ?_; refine pureT 12 59 HT_.out ?_; refine pureT 13 60 HT_.out ?_; refine pureT 14 61 HT_.out ?_; refine pureT 15 62 HT_.out ?_; refine pureT 16 63 HT_.out ?_; refine pureT 17 64 HT_.out ?_; refine pureT 18 65 HT_.out ?_; refine pureT 19 66 HT_.out ?_; refine pureT 21 68 HT_.out ?_; refine pureT 22 69 HT_.out ?_; refine pureT 23 70 HT_.out ?_; refine pureT 24 71 HT_.out ?_; refine pureT 28 75 HT_.out ?_; refine takeS (i := 20) (N := some 67) (v := ?_) (a' := ?_) rfl rfl (take_ofW HT_.out HW_.out (by kernel_rfl)) (fun _ _ _ h => h) (Or.inl ⟨by rfl, ?_⟩) hHeld ?_ ?_; rotate_left; (· rintro w' ⟨s0, s1, s2, s3⟩; go_simp; with_reducible rfl); rotate_left; (· simp only [Act.put, List.setIfInBounds_toArray, List.set_cons_zero, List.set_cons_succ, i64_w, i32_w]; rfl); refine takeS (i := 25) (N := some 72) (v := ?_) (a' := ?_) rfl rfl (take_ofW HT_.out HW_.out (by kernel_rfl)) (fun _ _ _ h => h) (Or.inl ⟨by rfl, ?_⟩) hHeld ?_ ?_; rotate_left; (· rintro w' ⟨s0, s1, s2, s3⟩; go_simp; with_reducible rfl); rotate_left; (· simp only [Act.put, List.setIfInBounds_toArray, List.set_cons_zero, List.set_cons_succ, i64_w, i32_w]; rfl); refine pureT 26 73 HT_.out ?_; refine one_ (i := 27) (N := some 74) #[true, true, true, true, true, true, true, true, true, true, true, true, true, true, true, true, true, true, true, true, true, true, true, true, true, true, true, true, true, false, false] rfl rfl (one_of HT_.out (by kernel_rfl)) (by decide) (fun K hK => ?_); refine goes_ Try.func13 (by kernel_rfl) rfl #[.complex .f32 ((fop .sub .f32 ((rd_T46 t102 t106).f0).1 ((rd_T46 t102 t105).f0).1, fop .sub .f32 ((rd_T46 t102 t106).f0).2 ((rd_T46 t102 t105).f0).2) : Nat × Nat).1 ((fop .sub .f32 ((rd_T46 t102 t106).f0).1 ((rd_T46 t102 t105).f0).1, fop .sub .f32 ((rd_T46 t102 t106).f0).2 ((rd_T46 t102 t105).f0).2) : Nat × Nat).2] (by rfl) rfl rfl (by (try simp only [List.map_toArray, List.map_cons, List.map_nil]); first | done | rfl | (simp only [List.length_drop, List.length_take]; rfl)) ?_; (with_reducible refine (S0.impl_LongOf.calls ((fop .sub .f32 ((rd_T46 t102 t106).f0).1 ((rd_T46 t102 t105).f0).1, fop .sub .f32 ((rd_T46 t102 t106).f0).2 ((rd_T46 t102 t105).f0).2) : Nat × Nat) t111 _ A24.out).mono ?_); rintro e w26 ⟨rfl, hb⟩; have HS0_ := (hb.cell (World.block_lt_of_cell? _ _ (hHeld.1))).trans (hHeld.1); have HS1_ := (hb.cell (World.block_lt_of_cell? _ _ (hHeld.2.1))).trans (hHeld.2.1); have HS2_ := (hb.cell (World.block_lt_of_cell? _ _ (hHeld.2.2.1))).trans (hHeld.2.2.1); have HS3_ := (hb.cell (World.block_lt_of_cell? _ _ (hHeld.2.2.2))).trans (hHeld.2.2.2); refine ⟨_, rfl, ?_⟩; replace HO104 := RB HO104 hb; replace HB := BB HB hb; (try clear hb); (try clear hb2); (try clear hk); (try clear hi); refine hK.out _ _ ⟨HS0_, HS1_, HS2_, HS3_⟩ (fun hHeld => ?_); clear hK K; refine norm_ (a' := ?_) ?_ ?_; rotate_left
                            · show Act.put _ (some 74) _ = _
                              simp only [Act.put, List.setIfInBounds_toArray, List.set_cons_zero, List.set_cons_succ, i64_w, i32_w]; rfl
                            refine pureT 29 76 HT_.out ?_; refine pureT 30 77 HT_.out ?_; refine done_ (done_of HT_.out (by kernel_rfl)) ?_; (try go_wp2); go_meet
                            case rel => exact ⟨_, ((FloatKind.f32.format.order t111 t107 != some .eq)), (by first | rfl | (simp; done) | (simp [*]; done)), H', ⟨by first | omega | exact Nat.le_refl _⟩, ⟨RS HO104.out⟩, ⟨BW HB⟩⟩
                          · rw [if_neg c23] at H
                            exact absurd H (by simp)
                        · rw [if_neg c22] at H
                          exact absurd H (by simp)
                      · rw [if_neg c21] at H
                        exact absurd H (by simp)
                    · rw [if_neg c20] at H
                      exact absurd H (by simp)
                  · rw [if_neg c19] at H
                    exact absurd H (by simp)
                · rw [if_neg c18] at H
                  exact absurd H (by simp)
        · replace c11 := Bool.eq_false_iff.mpr c11
          subst c11; have H1 : (laws_FnNearest.j0 k l1 t102 t107 true) = some true := (by rw [if_neg (show ¬ (false = true) by decide)] at H; exact H); clear H; have H := H1; clear H1; exact (FnNearest_j0_no H).elim
    case rest =>
      as_aux_lemma =>
        clear HC7; (try clear c1); (try clear p1); (try clear q1); (try clear hx1); (try clear c2); (try clear p2); (try clear p10); (try clear q10); (try clear hx10); (try clear c11); (try clear p11); (try clear q11); (try clear hx11); (try clear c13); (try clear c16); (try clear c16b0); (try clear c18); (try clear c18b0); (try clear c19); (try clear c19b0); (try clear c20); (try clear c20b0); (try clear c21); (try clear c21b0); (try clear c22); (try clear c22b0); (try clear c22b1); (try clear c23); (try clear c23b0); (try clear c23b1); (try clear hx109_0); (try clear hx109_1); (try clear hx110_0); (try clear hx110_1); (try clear p109); (try clear p110); (try clear q109); (try clear q110); obtain ⟨kq, x77_6, rfl, HA, HJ6, HO_5, HB⟩ := hcut; cases kq with
        | zero => exact absurd HA.out (by simp [laws_FnNearest.j0])
        | succ kj6 =>
          have H := HA.out; clear HA; simp only [laws_FnNearest.j0] at H; by_cases c28 : x77_6 = true
          · subst c28
            have H1 : (some false) = some true := (by rw [if_pos rfl] at H; exact H); clear H; have H := H1; clear H1; exact absurd (Option.some.inj H) (by decide)
          · replace c28 := Bool.eq_false_iff.mpr c28
            subst c28; have H1 : (laws_FnNearest.l0 kj6 l1 t102 t107 0) = some true := (by rw [if_neg (show ¬ (false = true) by decide)] at H; exact H); clear H; have H := H1; clear H1; have H' := AS H; clear H; go_wp2; go_loopg [10] kj6 (fun kq v10 w' => ∃ (x10_2 : Int), v10 = .int .i64 x10_2 ∧ Aside0 (laws_FnNearest.l0 kq l1 t102 t107 x10_2 = some true) ∧ Aside0 (kq ≤ kj6) ∧ Aside0 (Kd.R k46 46 w' w.heap.size (fun _ => True) (.slice Ao9 t102.length co9) t102) ∧ Aside0 (Below w.heap.size w w'))
            case atStart => exact ⟨(0), (by first | rfl | (simp; done) | (simp [*]; done)), H', ⟨Nat.le_refl _⟩, ⟨RS HO_5.out⟩, ⟨BW HB⟩⟩
            case round =>
              as_aux_lemma =>
                clear H'; (try clear c1); (try clear p1); (try clear q1); (try clear hx1); (try clear c2); (try clear p2); (try clear p10); (try clear q10); (try clear hx10); (try clear c11); (try clear p11); (try clear q11); (try clear hx11); (try clear c13); (try clear c16); (try clear c16b0); (try clear c18); (try clear c18b0); (try clear c19); (try clear c19b0); (try clear c20); (try clear c20b0); (try clear c21); (try clear c21b0); (try clear c22); (try clear c22b0); (try clear c22b1); (try clear c23); (try clear c23b0); (try clear c23b1); (try clear c28); (try clear hx109_0); (try clear hx109_1); (try clear hx110_0); (try clear hx110_1); (try clear p1); (try clear p10); (try clear p109); (try clear p11); (try clear p110); (try clear p2); (try clear q1); (try clear q10); (try clear q109); (try clear q11); (try clear q110); obtain ⟨x10_2, rfl, HA, HK2, HO_5, HB⟩ := hrel; cases gk with
                | zero => exact absurd HA.out (by simp [laws_FnNearest.l0])
                | succ k2 =>
                  have H := HA.out; clear HA; simp only [laws_FnNearest.l0] at H; by_cases c29 : x10_2 < 4
                  · rw [if_pos c29] at H
                    have c29b0 : decide (x10_2 < 4) = true := decide_eq_true c29; clear c29; have H' := AS H; clear H; go_wp2; go_loopg [11] k2 (fun kq v11 w' => ∃ (x11_3 : Int), v11 = .int .i64 x11_3 ∧ Aside0 (laws_FnNearest.l1 kq l1 t102 t107 x10_2 x11_3 = some true) ∧ Aside0 (kq ≤ k2) ∧ Aside0 (Kd.R k46 46 w' w.heap.size (fun _ => True) (.slice Ao9 t102.length co9) t102) ∧ Aside0 (Below w.heap.size w w'))
                    case atStart => exact ⟨(wrap64 (x10_2 + 1)), (by first | rfl | (simp; done) | (simp [*]; done)), H', ⟨Nat.le_refl _⟩, ⟨RS HO_5.out⟩, ⟨BW HB⟩⟩
                    case round =>
                      as_aux_lemma =>
                        clear H'; (try clear c1); (try clear p1); (try clear q1); (try clear hx1); (try clear c2); (try clear p2); (try clear p6); (try clear p10); (try clear q10); (try clear hx10); (try clear c11); (try clear p11); (try clear q11); (try clear hx11); (try clear c13); (try clear c16); (try clear c16b0); (try clear c18); (try clear c18b0); (try clear c19); (try clear c19b0); (try clear c20); (try clear c20b0); (try clear c21); (try clear c21b0); (try clear c22); (try clear c22b0); (try clear c22b1); (try clear c23); (try clear c23b0); (try clear c23b1); (try clear c28); (try clear c29); (try clear c29b0); (try clear hx109_0); (try clear hx109_1); (try clear hx110_0); (try clear hx110_1); (try clear p1); (try clear p10); (try clear p109); (try clear p11); (try clear p110); (try clear p2); (try clear q1); (try clear q10); (try clear q109); (try clear q11); (try clear q110); obtain ⟨x11_3, rfl, HA, HK3, HO_5, HB⟩ := hrel; cases gk with
                        | zero => exact absurd HA.out (by simp [laws_FnNearest.l1])
                        | succ k3 =>
                          have H := HA.out; clear HA; simp only [laws_FnNearest.l1] at H; by_cases c30 : x11_3 < 4
                          · rw [if_pos c30] at H
                            have c30b0 : decide (x11_3 < 4) = true := decide_eq_true c30; clear c30; by_cases c31 : 0 ≤ x11_3
                            · rw [if_pos c31] at H
                              have c31b0 : decide (0 ≤ x11_3) = true := decide_eq_true c31; clear c31; by_cases c32 : x11_3 < (t102.length : Int)
                              · rw [if_pos c32] at H
                                have c32b0 : decide (x11_3 < (t102.length : Int)) = true := decide_eq_true c32; clear c32; by_cases c33 : 0 ≤ x10_2
                                · rw [if_pos c33] at H
                                  have c33b0 : decide (0 ≤ x10_2) = true := decide_eq_true c33; clear c33; by_cases c34 : x10_2 < (t102.length : Int)
                                  · rw [if_pos c34] at H
                                    have c34b0 : decide (x10_2 < (t102.length : Int)) = true := decide_eq_true c34; clear c34; by_cases c35 : fok .sub .f32 ((rd_T46 t102 x11_3).f0).1 ((rd_T46 t102 x10_2).f0).1 = true
                                    · rw [if_pos c35] at H
                                      have c35b0 := eq_true c35; have c35b1 : decide (fok .sub .f32 ((rd_T46 t102 x11_3).f0).1 ((rd_T46 t102 x10_2).f0).1 = true) = true := decide_eq_true c35; clear c35; by_cases c36 : fok .sub .f32 ((rd_T46 t102 x11_3).f0).2 ((rd_T46 t102 x10_2).f0).2 = true
                                      · rw [if_pos c36] at H
                                        have c36b0 := eq_true c36; have c36b1 : decide (fok .sub .f32 ((rd_T46 t102 x11_3).f0).2 ((rd_T46 t102 x10_2).f0).2 = true) = true := decide_eq_true c36; clear c36; replace H := Option.bind_eq_some_iff.mp H; obtain ⟨t114, A370, H⟩ := H; replace H : (if (FloatKind.f32.format.order t114 t107 == some .lt) = true then (some false) else (laws_FnNearest.l1 k3 l1 t102 t107 x10_2 (wrap64 (x11_3 + 1)))) = some true := H; have A37 := AS A370; clear A370; by_cases c38 : (FloatKind.f32.format.order t114 t107 == some .lt) = true
                                        · rw [if_pos c38] at H
                                          have c38b0 : (FloatKind.f32.format.order t114 t107 == some .lt) = true := c38; (try (have c38b1 : decide (FloatKind.f32.format.order t114 t107 = some .lt) = true := by simpa using c38)); (try (have c38b2 : (FloatKind.f32.format.order t114 t107 == some .lt) = true := by simpa using c38)); clear c38; exact absurd (Option.some.inj H) (by decide)
                                        · rw [if_neg c38] at H
                                          have c38b0 : (FloatKind.f32.format.order t114 t107 == some .lt) = false := (by simpa using c38); (try (have c38b1 : decide (FloatKind.f32.format.order t114 t107 = some .lt) = false := by simpa using c38)); (try (have c38b2 : (FloatKind.f32.format.order t114 t107 == some .lt) = false := by simpa using c38)); (try (have c38b3 : ¬ (FloatKind.f32.format.order t114 t107 = some .lt) := by simpa using c38)); clear c38; have H' := AS H; clear H; (try go_wp2); have n0_ := AS (Kd.R_drew HO_5.out); have n1_ := AS (below_drew1 HB.out); replace HO_5 := n0_; replace HB := n1_; clear n0_ n1_; have p112 : 0 ≤ (x11_3 : Int) := of_decide_eq_true (by first | (with_reducible assumption) | assumption); have q112 : x11_3 < (t102.length : Int) := of_decide_eq_true (by first | (with_reducible assumption) | assumption); obtain ⟨ad112, e112, hx112_0, hx112_1⟩ := at_T46 (Kd.R_reads' HO_5.out).2.2 x11_3 p112 q112; cases e112; replace p112 := eq_true p112; replace q112 := eq_true q112; have p113 : 0 ≤ (x10_2 : Int) := of_decide_eq_true (by first | (with_reducible assumption) | assumption); have q113 : x10_2 < (t102.length : Int) := of_decide_eq_true (by first | (with_reducible assumption) | assumption); obtain ⟨ad113, e113, hx113_0, hx113_1⟩ := at_T46 (Kd.R_reads' HO_5.out).2.2 x10_2 p113 q113; obtain rfl : ad112 = ad113 := (by injection e113); replace p113 := eq_true p113; replace q113 := eq_true q113; refine start_ (n := 14) (S := fun w' => w'.cell? (ad112.add ((x11_3).toNat * 2)) = some (.complex .f32 ((rd_T46 t102 x11_3).f0).1 ((rd_T46 t102 x11_3).f0).2) ∧ w'.cell? ⟨(ad112.add ((x11_3).toNat * 2)).block, (ad112.add ((x11_3).toNat * 2)).off + 1, none⟩ = some (.float .f32 ((rd_T46 t102 x11_3).f1)) ∧ w'.cell? (ad112.add ((x10_2).toNat * 2)) = some (.complex .f32 ((rd_T46 t102 x10_2).f0).1 ((rd_T46 t102 x10_2).f0).2) ∧ w'.cell? ⟨(ad112.add ((x10_2).toNat * 2)).block, (ad112.add ((x10_2).toNat * 2)).off + 1, none⟩ = some (.float .f32 ((rd_T46 t102 x10_2).f1))) (ds := []) #[false, false, false, false, false, false, false, false, false, false, false, false, false, false] (by kernel_rfl) rfl rfl ⟨hx112_0, hx112_1, hx113_0, hx113_1⟩ (fun hHeld => ?_); refine with_tabW laws_FnNearest.tab13 laws_FnNearest.bits13 (fun HT_ HW_ => ?_); generalize wr.drew = w41 at HO_5 HB hx112_0 hx112_1 hx113_0 hx113_1 hHeld ⊢; refine pureT 0 88 HT_.out ?_; refine pureT 1 89 HT_.out ?_; refine pureT 2 90 HT_.out ?_; refine pureT 3 91 HT_.out ?_; refine pureT 5 93 HT_.out ?_; refine pureT 6 94 HT_.out ?_; refine pureT 7 95 HT_.out ?_; refine pureT 8 96 HT_.out ?_; refine pureT 12 100 HT_.out ?_; refine takeS (i := 4) (N := some 92) (v := ?_) (a' := ?_) rfl rfl (take_ofW HT_.out HW_.out (by kernel_rfl)) (fun _ _ _ h => h) (Or.inl ⟨by rfl, ?_⟩) hHeld ?_ ?_; rotate_left; (· rintro w' ⟨s0, s1, s2, s3⟩; go_simp; with_reducible rfl); rotate_left; (· simp only [Act.put, List.setIfInBounds_toArray, List.set_cons_zero, List.set_cons_succ, i64_w, i32_w]; rfl); refine takeS (i := 9) (N := some 97) (v := ?_) (a' := ?_) rfl rfl (take_ofW HT_.out HW_.out (by kernel_rfl)) (fun _ _ _ h => h) (Or.inl ⟨by rfl, ?_⟩) hHeld ?_ ?_; rotate_left; (· rintro w' ⟨s0, s1, s2, s3⟩; go_simp; with_reducible rfl); rotate_left; (· simp only [Act.put, List.setIfInBounds_toArray, List.set_cons_zero, List.set_cons_succ, i64_w, i32_w]; rfl); refine pureT 10 98 HT_.out ?_; refine one_ (i := 11) (N := some 99) #[true, true, true, true, true, true, true, true, true, true, true, true, true, false] rfl rfl (one_of HT_.out (by kernel_rfl)) (by decide) (fun K hK => ?_); refine goes_ Try.func13 (by kernel_rfl) rfl #[.complex .f32 ((fop .sub .f32 ((rd_T46 t102 x11_3).f0).1 ((rd_T46 t102 x10_2).f0).1, fop .sub .f32 ((rd_T46 t102 x11_3).f0).2 ((rd_T46 t102 x10_2).f0).2) : Nat × Nat).1 ((fop .sub .f32 ((rd_T46 t102 x11_3).f0).1 ((rd_T46 t102 x10_2).f0).1, fop .sub .f32 ((rd_T46 t102 x11_3).f0).2 ((rd_T46 t102 x10_2).f0).2) : Nat × Nat).2] (by rfl) rfl rfl (by (try simp only [List.map_toArray, List.map_cons, List.map_nil]); first | done | rfl | (simp only [List.length_drop, List.length_take]; rfl)) ?_; (with_reducible refine (S0.impl_LongOf.calls ((fop .sub .f32 ((rd_T46 t102 x11_3).f0).1 ((rd_T46 t102 x10_2).f0).1, fop .sub .f32 ((rd_T46 t102 x11_3).f0).2 ((rd_T46 t102 x10_2).f0).2) : Nat × Nat) t114 _ A37.out).mono ?_); rintro e w42 ⟨rfl, hb⟩; have HS0_ := (hb.cell (World.block_lt_of_cell? _ _ (hHeld.1))).trans (hHeld.1); have HS1_ := (hb.cell (World.block_lt_of_cell? _ _ (hHeld.2.1))).trans (hHeld.2.1); have HS2_ := (hb.cell (World.block_lt_of_cell? _ _ (hHeld.2.2.1))).trans (hHeld.2.2.1); have HS3_ := (hb.cell (World.block_lt_of_cell? _ _ (hHeld.2.2.2))).trans (hHeld.2.2.2); refine ⟨_, rfl, ?_⟩; replace HO_5 := RB HO_5 hb; replace HB := BB HB hb; (try clear hb); (try clear hb2); (try clear hk); (try clear hi); refine hK.out _ _ ⟨HS0_, HS1_, HS2_, HS3_⟩ (fun hHeld => ?_); clear hK K; refine norm_ (a' := ?_) ?_ ?_; rotate_left
                                          · show Act.put _ (some 99) _ = _
                                            simp only [Act.put, List.setIfInBounds_toArray, List.set_cons_zero, List.set_cons_succ, i64_w, i32_w]; rfl
                                          refine pureT 13 101 HT_.out ?_; refine done_ (done_of HT_.out (by kernel_rfl)) ?_; (try go_wp2); go_roundg k3
                                          case measure => have := HJ6.out; have := HK2.out; have := HK3.out; omega
                                          case rel => exact ⟨(wrap64 (x11_3 + 1)), (by first | rfl | (simp; done) | (simp [*]; done)), H', ⟨by have := HJ6.out; have := HK2.out; have := HK3.out; omega⟩, ⟨RS HO_5.out⟩, ⟨BW HB⟩⟩
                                      · rw [if_neg c36] at H
                                        exact absurd H (by simp)
                                    · rw [if_neg c35] at H
                                      exact absurd H (by simp)
                                  · rw [if_neg c34] at H
                                    exact absurd H (by simp)
                                · rw [if_neg c33] at H
                                  exact absurd H (by simp)
                              · rw [if_neg c32] at H
                                exact absurd H (by simp)
                            · rw [if_neg c31] at H
                              exact absurd H (by simp)
                          · rw [if_neg c30] at H
                            have c30b0 : decide (x11_3 < 4) = false := decide_eq_false c30; clear c30; have H' := AS H; clear H; go_wp2; go_roundg k3
                            case measure => have := HJ6.out; have := HK2.out; have := HK3.out; omega
                            case rel => exact ⟨(wrap64 (x10_2 + 1)), (by first | rfl | (simp; done) | (simp [*]; done)), H', ⟨by have := HJ6.out; have := HK2.out; have := HK3.out; omega⟩, ⟨RS HO_5.out⟩, ⟨BW HB⟩⟩
                  · rw [if_neg c29] at H
                    have c29b0 : decide (x10_2 < 4) = false := decide_eq_false c29; clear c29; replace H := Option.bind_eq_some_iff.mp H; obtain ⟨⟨t115, t116⟩, A430, H⟩ := H; (try dsimp only at H); have A43 := AS A430; clear A430; by_cases c44 : fok .quo .f32 t107 1073741824 = true
                    · rw [if_pos c44] at H
                      have c44b0 := eq_true c44; have c44b1 : decide (fok .quo .f32 t107 1073741824 = true) = true := decide_eq_true c44; clear c44; replace H := Option.bind_eq_some_iff.mp H; obtain ⟨⟨t119, t120⟩, A450, H⟩ := H; (try dsimp only at H); have A45 := AS A450; clear A450; replace H := Option.bind_eq_some_iff.mp H; obtain ⟨⟨t123, t124⟩, A460, H⟩ := H; (try dsimp only at H); have A46 := AS A460; clear A460; replace H := Option.bind_eq_some_iff.mp H; obtain ⟨⟨t125, t126⟩, A470, H⟩ := H; (try dsimp only at H); have A47 := AS A470; clear A470; replace H := Option.bind_eq_some_iff.mp H; obtain ⟨⟨t127, t128⟩, A480, H⟩ := H; (try dsimp only at H); have A48 := AS A480; clear A480; replace H := Option.bind_eq_some_iff.mp H; obtain ⟨⟨t129, t130⟩, A490, H⟩ := H; (try dsimp only at H); have A49 := AS A490; clear A490; have HC50 := AS H; clear H; (go_upto_region 21 with (first | ((with_reducible refine gate_callee (f := 22) rfl ?_); refine goesM 105 Try.func22 #[.slice Ao9 t102.length co9, .float .f32 t107] ?_; (with_reducible refine (N2.impl_MergeNearest.calls k2 _ _ t102 t107 t115 t116 _ ?side1 ?side2 A43.out).mono ?_); (case side1 => repeat (first | exact (Kd.R_reads' HO_5.out).2.2 | (with_reducible refine Kd.C_alloc ?_ _) | (with_reducible refine Kd.C_drewN ?_ _) | (with_reducible refine Kd.C_drew ?_))); (case side2 => exact (Kd.R_reads' HO_5.out).2.1); rintro e w51 ⟨v117, rfl, ho0, hb⟩; refine ⟨_, rfl, ?_⟩; have HO118 := RN ho0 HB; replace HO_5 := RB HO_5 hb; replace HB := BB HB hb; (try clear hb); (try clear hb2); (try clear hk); (try clear hi); (try clear ho0)) | ((with_reducible refine gate_callee (f := 22) rfl ?_); refine goesM 112 Try.func22 #[.slice Ao9 t102.length co9, .float .f32 (fop .quo .f32 t107 1073741824)] ?_; (with_reducible refine (N2.impl_MergeNearest.calls k2 _ _ t102 (fop .quo .f32 t107 1073741824) t119 t120 _ ?side1 ?side2 A45.out).mono ?_); (case side1 => repeat (first | exact (Kd.R_reads' HO_5.out).2.2 | (with_reducible refine Kd.C_alloc ?_ _) | (with_reducible refine Kd.C_drewN ?_ _) | (with_reducible refine Kd.C_drew ?_))); (case side2 => exact (Kd.R_reads' HO_5.out).2.1); rintro e w52 ⟨v121, rfl, ho0, hb⟩; refine ⟨_, rfl, ?_⟩; have HO122 := RN ho0 HB; replace HO_5 := RB HO_5 hb; replace HO118 := RB HO118 hb; replace HB := BB HB hb; (try clear hb); (try clear hb2); (try clear hk); (try clear hi); (try clear ho0)) | ((with_reducible refine gate_callee (f := 23) rfl ?_); refine goesM 117 Try.func23 #[.slice Ao9 t102.length co9] ?_; (with_reducible refine (N0.impl_TotalSpin.calls k2 _ _ t102 t123 t124 _ ?side1 ?side2 A46.out).mono ?_); (case side1 => repeat (first | exact (Kd.R_reads' HO_5.out).2.2 | (with_reducible refine Kd.C_alloc ?_ _) | (with_reducible refine Kd.C_drewN ?_ _) | (with_reducible refine Kd.C_drew ?_))); (case side2 => exact (Kd.R_reads' HO_5.out).2.1); rintro e w53 ⟨rfl, hb⟩; refine ⟨_, rfl, ?_⟩; replace HO_5 := RB HO_5 hb; replace HO118 := RB HO118 hb; replace HO122 := RB HO122 hb; replace HB := BB HB hb; (try clear hb); (try clear hb2); (try clear hk); (try clear hi); obtain ⟨Ao54, co54, eo54⟩ := Kd.R_slice HO118.out; subst eo54) | ((with_reducible refine gate_callee (f := 23) rfl ?_); refine goesM 122 Try.func23 #[.slice Ao54 t115.length co54] ?_; (with_reducible refine (N0.impl_TotalSpin.calls k2 _ _ t115 t125 t126 _ ?side1 ?side2 A47.out).mono ?_); (case side1 => repeat (first | exact (Kd.R_reads' HO118.out).2.2 | (with_reducible refine Kd.C_alloc ?_ _) | (with_reducible refine Kd.C_drewN ?_ _) | (with_reducible refine Kd.C_drew ?_))); (case side2 => exact (Kd.R_reads' HO118.out).2.1); rintro e w55 ⟨rfl, hb⟩; refine ⟨_, rfl, ?_⟩; replace HO_5 := RB HO_5 hb; replace HO118 := RB HO118 hb; replace HO122 := RB HO122 hb; replace HB := BB HB hb; (try clear hb); (try clear hb2); (try clear hk); (try clear hi)) | ((with_reducible refine gate_callee (f := 24) rfl ?_); refine goesM 127 Try.func24 #[.slice Ao9 t102.length co9] ?_; (with_reducible refine (N0.impl_ImpulseOf.calls k2 _ _ t102 t127 t128 _ ?side1 ?side2 A48.out).mono ?_); (case side1 => repeat (first | exact (Kd.R_reads' HO_5.out).2.2 | (with_reducible refine Kd.C_alloc ?_ _) | (with_reducible refine Kd.C_drewN ?_ _) | (with_reducible refine Kd.C_drew ?_))); (case side2 => exact (Kd.R_reads' HO_5.out).2.1); rintro e w56 ⟨rfl, hb⟩; refine ⟨_, rfl, ?_⟩; replace HO_5 := RB HO_5 hb; replace HO118 := RB HO118 hb; replace HO122 := RB HO122 hb; replace HB := BB HB hb; (try clear hb); (try clear hb2); (try clear hk); (try clear hi)) | ((with_reducible refine gate_callee (f := 24) rfl ?_); refine goesM 132 Try.func24 #[.slice Ao54 t115.length co54] ?_; (with_reducible refine (N0.impl_ImpulseOf.calls k2 _ _ t115 t129 t130 _ ?side1 ?side2 A49.out).mono ?_); (case side1 => repeat (first | exact (Kd.R_reads' HO118.out).2.2 | (with_reducible refine Kd.C_alloc ?_ _) | (with_reducible refine Kd.C_drewN ?_ _) | (with_reducible refine Kd.C_drew ?_))); (case side2 => exact (Kd.R_reads' HO118.out).2.1); rintro e w57 ⟨rfl, hb⟩; refine ⟨_, rfl, ?_⟩; replace HO_5 := RB HO_5 hb; replace HO118 := RB HO118 hb; replace HO122 := RB HO122 hb; replace HB := BB HB hb; (try clear hb); (try clear hb2); (try clear hk); (try clear hi)))); (try simp only [Act.put, List.setIfInBounds_toArray, List.set_cons_zero, List.set_cons_succ]); go_cut [172] (fun v172 wc => ∃ (kq : Nat) (x172_49 : Bool), v172 = .bool x172_49 ∧ Aside0 (laws_FnNearest.j3 kq l1 t102 t115 t127 t129 x172_49 = some true) ∧ Aside0 (kq ≤ k2) ∧ Aside0 (Kd.R k46 46 wc w.heap.size (fun _ => True) (.slice Ao9 t102.length co9) t102) ∧ Aside0 (Kd.R k46 46 wc w.heap.size (fun _ => True) (.slice Ao54 t115.length co54) t115) ∧ Aside0 (Below w.heap.size w wc))
                      case first =>
                        as_aux_lemma =>
                          have H := HC50.out; clear HC50; by_cases c58 : t116 = true
                          · subst c58
                            rw [if_pos rfl] at H; by_cases c59 : t120 = true
                            · subst c59
                              rw [if_pos rfl] at H; by_cases c60 : t124 = true
                              · subst c60
                                rw [if_pos rfl] at H; by_cases c61 : t126 = true
                                · subst c61
                                  rw [if_pos rfl] at H; by_cases c62 : t128 = true
                                  · subst c62
                                    rw [if_pos rfl] at H; by_cases c63 : t130 = true
                                    · subst c63
                                      rw [if_pos rfl] at H; replace H := Option.bind_eq_some_iff.mp H; obtain ⟨t131, A640, H⟩ := H; (try dsimp only at H); have A64 := AS A640; clear A640; by_cases c65 : t131 = true
                                      · subst c65
                                        have H1 : (if (FloatKind.f32.format.order t123 t125 != some .eq) = true then (laws_FnNearest.j3 k2 l1 t102 t115 t127 t129 true) else (laws_FnNearest.j3 k2 l1 t102 t115 t127 t129 (decide ((t115.length : Int) > 3)))) = some true := (by rw [if_pos rfl] at H; exact H); clear H; have H := H1; clear H1; by_cases c66 : (FloatKind.f32.format.order t123 t125 != some .eq) = true
                                        · rw [if_pos c66] at H
                                          have c66b0 : (FloatKind.f32.format.order t123 t125 != some .eq) = true := c66; (try (have c66b1 : decide (FloatKind.f32.format.order t123 t125 = some .eq) = false := by simpa using c66)); (try (have c66b2 : (FloatKind.f32.format.order t123 t125 == some .eq) = false := by simpa using c66)); (try (have c66b3 : ¬ (FloatKind.f32.format.order t123 t125 = some .eq) := by simpa using c66)); clear c66; (first | (refine Go.wp_cond_true (congrArg Value.bool c66b0) ?_) | (refine Go.wp_cond_false (congrArg Value.bool c66b0) ?_) | rw [c66b0] | (simp only [i64_w, i32_w]; rw [c66b0]) | skip); exact (FnNearest_j3_no H).elim
                                        · rw [if_neg c66] at H
                                          have c66b0 : (FloatKind.f32.format.order t123 t125 != some .eq) = false := (by simpa using c66); (try (have c66b1 : decide (FloatKind.f32.format.order t123 t125 = some .eq) = true := by simpa using c66)); (try (have c66b2 : (FloatKind.f32.format.order t123 t125 == some .eq) = true := by simpa using c66)); clear c66; (first | (refine Go.wp_cond_true (congrArg Value.bool c66b0) ?_) | (refine Go.wp_cond_false (congrArg Value.bool c66b0) ?_) | rw [c66b0] | (simp only [i64_w, i32_w]; rw [c66b0]) | skip); have H' := AS H; clear H; obtain ⟨Ao69, co69, eo69⟩ := Kd.R_slice HO122.out; subst eo69; go_wp2_with (first | (go_at_call 25; (with_reducible refine (N0.impl_SameWhirls.calls k2 _ _ t119 _ _ t102 true _ ?side1 ?side2 ?side3 ?side4 A64.out).mono ?_); (case side1 => repeat (first | exact (Kd.R_reads' HO122.out).2.2 | (with_reducible refine Kd.C_alloc ?_ _) | (with_reducible refine Kd.C_drewN ?_ _) | (with_reducible refine Kd.C_drew ?_))); (case side2 => exact (Kd.R_reads' HO122.out).2.1); (case side3 => repeat (first | exact (Kd.R_reads' HO_5.out).2.2 | (with_reducible refine Kd.C_alloc ?_ _) | (with_reducible refine Kd.C_drewN ?_ _) | (with_reducible refine Kd.C_drew ?_))); (case side4 => exact (Kd.R_reads' HO_5.out).2.1); rintro e w70 ⟨rfl, hb⟩; replace HO_5 := RB HO_5 hb; replace HO118 := RB HO118 hb; replace HO122 := RB HO122 hb; replace HB := BB HB hb; (try clear hb); (try clear hb2); (try clear hk); (try clear hi))); go_meet
                                          case rel => exact ⟨_, (decide ((t115.length : Int) > 3)), (by first | rfl | (simp; done) | (simp [*]; done)), H', ⟨by have := HJ6.out; have := HK2.out; first | omega | exact Nat.le_refl _⟩, ⟨by (with_reducible repeat (first | apply Kd.R_alloc | apply Kd.R_drewN | apply Kd.R_drew)); exact Kd.R_mono HO_5.out (fun _ _ => trivial)⟩, ⟨by (with_reducible repeat (first | apply Kd.R_alloc | apply Kd.R_drewN | apply Kd.R_drew)); exact Kd.R_mono HO118.out (fun _ _ => trivial)⟩, ⟨BW HB⟩⟩
                                      · replace c65 := Bool.eq_false_iff.mpr c65
                                        subst c65; have H1 : (laws_FnNearest.j3 k2 l1 t102 t115 t127 t129 true) = some true := (by rw [if_neg (show ¬ (false = true) by decide)] at H; exact H); clear H; have H := H1; clear H1; exact (FnNearest_j3_no H).elim
                                    · replace c63 := Bool.eq_false_iff.mpr c63
                                      subst c63; have H1 : (laws_FnNearest.j3 k2 l1 t102 t115 t127 t129 true) = some true := (by rw [if_neg (show ¬ (false = true) by decide)] at H; exact H); clear H; have H := H1; clear H1; exact (FnNearest_j3_no H).elim
                                  · replace c62 := Bool.eq_false_iff.mpr c62
                                    subst c62; have H1 : (laws_FnNearest.j3 k2 l1 t102 t115 t127 t129 true) = some true := (by rw [if_neg (show ¬ (false = true) by decide)] at H; exact H); clear H; have H := H1; clear H1; exact (FnNearest_j3_no H).elim
                                · replace c61 := Bool.eq_false_iff.mpr c61
                                  subst c61; have H1 : (laws_FnNearest.j3 k2 l1 t102 t115 t127 t129 true) = some true := (by rw [if_neg (show ¬ (false = true) by decide)] at H; exact H); clear H; have H := H1; clear H1; exact (FnNearest_j3_no H).elim
                              · replace c60 := Bool.eq_false_iff.mpr c60
                                subst c60; have H1 : (laws_FnNearest.j3 k2 l1 t102 t115 t127 t129 true) = some true := (by rw [if_neg (show ¬ (false = true) by decide)] at H; exact H); clear H; have H := H1; clear H1; exact (FnNearest_j3_no H).elim
                            · replace c59 := Bool.eq_false_iff.mpr c59
                              subst c59; have H1 : (laws_FnNearest.j3 k2 l1 t102 t115 t127 t129 true) = some true := (by rw [if_neg (show ¬ (false = true) by decide)] at H; exact H); clear H; have H := H1; clear H1; exact (FnNearest_j3_no H).elim
                          · replace c58 := Bool.eq_false_iff.mpr c58
                            subst c58; have H1 : (laws_FnNearest.j3 k2 l1 t102 t115 t127 t129 true) = some true := (by rw [if_neg (show ¬ (false = true) by decide)] at H; exact H); clear H; have H := H1; clear H1; exact (FnNearest_j3_no H).elim
                      case rest =>
                        as_aux_lemma =>
                          clear HC50; (try clear c1); (try clear p1); (try clear q1); (try clear hx1); (try clear c2); (try clear p2); (try clear c3); (try clear c4); (try clear c5); (try clear c6); (try clear p6); (try clear q10); (try clear p11); (try clear q11); (try clear hx11); (try clear c13); (try clear c22); (try clear c23); (try clear c24); (try clear c29); (try clear c29b0); (try clear c30); (try clear c30b0); (try clear c31); (try clear c31b0); (try clear c32); (try clear c32b0); (try clear c33); (try clear c33b0); (try clear c34); (try clear c34b0); (try clear c35); (try clear c35b0); (try clear c35b1); (try clear c36); (try clear c36b0); (try clear c36b1); (try clear c38); (try clear c38b0); (try clear c38b1); (try clear c38b2); (try clear c44); (try clear c44b0); (try clear c44b1); (try clear c58); (try clear c59); (try clear c60); (try clear c61); (try clear c62); (try clear c63); (try clear p64); (try clear c65); (try clear c66); (try clear c66b0); (try clear c66b1); (try clear c66b2); (try clear hx112_0); (try clear hx112_1); (try clear hx113_0); (try clear hx113_1); (try clear p112); (try clear p113); (try clear q1); (try clear q10); (try clear q109); (try clear q11); (try clear q110); (try clear q112); (try clear q113); obtain ⟨kq, x172_49, rfl, HA, HJ49, HO_5, HO_12, HB⟩ := hcut; cases kq with
                          | zero => exact absurd HA.out (by simp [laws_FnNearest.j3])
                          | succ kj49 =>
                            have H := HA.out; clear HA; simp only [laws_FnNearest.j3] at H; by_cases c73 : x172_49 = true
                            · subst c73
                              have H1 : (some false) = some true := (by rw [if_pos rfl] at H; exact H); clear H; have H := H1; clear H1; exact absurd (Option.some.inj H) (by decide)
                            · replace c73 := Bool.eq_false_iff.mpr c73
                              subst c73; rw [if_neg (show ¬ (false = true) by decide)] at H; have HC74 := AS H; clear H; (go_upto_region 23 with (fail)); go_cut [188] (fun v188 wc => ∃ (kq : Nat) (x188_73 : Bool), v188 = .bool x188_73 ∧ Aside0 (laws_FnNearest.j4 kq l1 t102 x188_73 = some true) ∧ Aside0 (kq ≤ kj49) ∧ Aside0 (Kd.R k46 46 wc w.heap.size (fun _ => True) (.slice Ao9 t102.length co9) t102) ∧ Aside0 (Below w.heap.size w wc))
                              case first =>
                                as_aux_lemma =>
                                  have H := HC74.out; clear HC74; by_cases c75 : (t115.length : Int) = 3
                                  · rw [if_pos c75] at H
                                    have c75b0 : ((t115.length : Int) == 3) = true := beq_iff_eq.mpr c75; have c75b1 : ((t115.length : Int) != 3) = false := bne_eq_false_iff_eq.mpr c75; clear c75; (first | (refine Go.wp_cond_true (congrArg Value.bool c75b0) ?_) | (refine Go.wp_cond_false (congrArg Value.bool c75b0) ?_) | rw [c75b0] | (simp only [i64_w, i32_w]; rw [c75b0]) | skip); replace H := Option.bind_eq_some_iff.mp H; obtain ⟨t132, A760, H⟩ := H; (try dsimp only at H); have A76 := AS A760; clear A760; replace H := Option.bind_eq_some_iff.mp H; obtain ⟨t133, A770, H⟩ := H; (try dsimp only at H); have A77 := AS A770; clear A770; by_cases c78 : cok .f32 t133 .f64 = true
                                    · rw [if_pos c78] at H
                                      have c78b0 := eq_true c78; have c78b1 : decide (cok .f32 t133 .f64 = true) = true := decide_eq_true c78; clear c78; by_cases c79 : fok .mul .f64 (cvt .f32 t133 .f64) 4616189618054758400 = true
                                      · rw [if_pos c79] at H
                                        have c79b0 := eq_true c79; have c79b1 : decide (fok .mul .f64 (cvt .f32 t133 .f64) 4616189618054758400 = true) = true := decide_eq_true c79; clear c79; by_cases c80 : fok .add .f64 4607182418800017408 (fop .mul .f64 (cvt .f32 t133 .f64) 4616189618054758400) = true
                                        · rw [if_pos c80] at H
                                          have c80b0 := eq_true c80; have c80b1 : decide (fok .add .f64 4607182418800017408 (fop .mul .f64 (cvt .f32 t133 .f64) 4616189618054758400) = true) = true := decide_eq_true c80; clear c80; by_cases c81 : fok .add .f64 (fop .add .f64 4607182418800017408 (fop .mul .f64 (cvt .f32 t133 .f64) 4616189618054758400)) 4630826316843712512 = true
                                          · rw [if_pos c81] at H
                                            have c81b0 := eq_true c81; have c81b1 : decide (fok .add .f64 (fop .add .f64 4607182418800017408 (fop .mul .f64 (cvt .f32 t133 .f64) 4616189618054758400)) 4630826316843712512 = true) = true := decide_eq_true c81; clear c81; by_cases c82 : fok .mul .f64 4562254508917369340 (fop .add .f64 (fop .add .f64 4607182418800017408 (fop .mul .f64 (cvt .f32 t133 .f64) 4616189618054758400)) 4630826316843712512) = true
                                            · rw [if_pos c82] at H
                                              have c82b0 := eq_true c82; have c82b1 : decide (fok .mul .f64 4562254508917369340 (fop .add .f64 (fop .add .f64 4607182418800017408 (fop .mul .f64 (cvt .f32 t133 .f64) 4616189618054758400)) 4630826316843712512) = true) = true := decide_eq_true c82; clear c82; have H' := AS H; clear H; go_wp2_with (first | (go_at_call 12; (with_reducible refine (N0.laws_r8Apart.calls t127 t129 t132 _ A76.out).mono ?_); rintro e w83 ⟨rfl, hb⟩; replace HO_5 := RB HO_5 hb; replace HO_12 := RB HO_12 hb; replace HB := BB HB hb; (try clear hb); (try clear hb2); (try clear hk); (try clear hi)) | (go_at_call 13; (with_reducible refine (S0.impl_LongOf.calls t127 t133 _ A77.out).mono ?_); rintro e w84 ⟨rfl, hb⟩; replace HO_5 := RB HO_5 hb; replace HO_12 := RB HO_12 hb; replace HB := BB HB hb; (try clear hb); (try clear hb2); (try clear hk); (try clear hi))); go_meet
                                              case rel => exact ⟨_, ((FloatKind.f64.format.order t132 (fop .mul .f64 4562254508917369340 (fop .add .f64 (fop .add .f64 4607182418800017408 (fop .mul .f64 (cvt .f32 t133 .f64) 4616189618054758400)) 4630826316843712512)) == some .gt)), (by first | rfl | (simp; done) | (simp [*]; done)), H', ⟨by have := HJ6.out; have := HK2.out; have := HJ49.out; first | omega | exact Nat.le_refl _⟩, ⟨by (with_reducible repeat (first | apply Kd.R_alloc | apply Kd.R_drewN | apply Kd.R_drew)); exact Kd.R_mono HO_5.out (fun _ hk => trivial)⟩, ⟨BW HB⟩⟩
                                            · rw [if_neg c82] at H
                                              exact absurd H (by simp)
                                          · rw [if_neg c81] at H
                                            exact absurd H (by simp)
                                        · rw [if_neg c80] at H
                                          exact absurd H (by simp)
                                      · rw [if_neg c79] at H
                                        exact absurd H (by simp)
                                    · rw [if_neg c78] at H
                                      exact absurd H (by simp)
                                  · rw [if_neg c75] at H
                                    have c75b0 : ((t115.length : Int) == 3) = false := beq_eq_false_iff_ne.mpr c75; have c75b1 : ((t115.length : Int) != 3) = true := bne_iff_ne.mpr c75; (first | (refine Go.wp_cond_true (congrArg Value.bool c75b0) ?_) | (refine Go.wp_cond_false (congrArg Value.bool c75b0) ?_) | rw [c75b0] | (simp only [i64_w, i32_w]; rw [c75b0]) | skip); have H' := AS H; clear H; go_wp2; go_meet
                                    case rel => exact ⟨_, (false), (by first | rfl | (simp; done) | (simp [*]; done)), H', ⟨by have := HJ6.out; have := HK2.out; have := HJ49.out; first | omega | exact Nat.le_refl _⟩, ⟨by (with_reducible repeat (first | apply Kd.R_alloc | apply Kd.R_drewN | apply Kd.R_drew)); exact Kd.R_mono HO_5.out (fun _ hk => trivial)⟩, ⟨BW HB⟩⟩
                              case rest =>
                                as_aux_lemma =>
                                  clear HC74; (try clear c1); (try clear p1); (try clear q1); (try clear hx1); (try clear c2); (try clear p2); (try clear c3); (try clear c4); (try clear c5); (try clear c6); (try clear p6); (try clear c7); (try clear c8); (try clear q10); (try clear p11); (try clear q11); (try clear hx11); (try clear c13); (try clear c22); (try clear c23); (try clear c24); (try clear c29); (try clear c29b0); (try clear c30); (try clear c30b0); (try clear c31); (try clear c31b0); (try clear c32); (try clear c32b0); (try clear c33); (try clear c33b0); (try clear c34); (try clear c34b0); (try clear c35); (try clear c35b0); (try clear c35b1); (try clear c36); (try clear c36b0); (try clear c36b1); (try clear c38); (try clear c38b0); (try clear c38b1); (try clear c38b2); (try clear c44); (try clear c44b0); (try clear c44b1); (try clear c58); (try clear c59); (try clear c60); (try clear c61); (try clear c62); (try clear c63); (try clear p64); (try clear c65); (try clear c66); (try clear c66b0); (try clear c66b1); (try clear c66b2); (try clear c73); (try clear c75); (try clear c75b0); (try clear c75b1); (try clear c78); (try clear c78b0); (try clear c78b1); (try clear c79); (try clear c79b0); (try clear c79b1); (try clear c80); (try clear c80b0); (try clear c80b1); (try clear c81); (try clear c81b0); (try clear c81b1); (try clear c82); (try clear c82b0); (try clear c82b1); (try clear hx112_0); (try clear hx112_1); (try clear hx113_0); (try clear hx113_1); (try clear p1); (try clear p11); (try clear p112); (try clear p113); (try clear p2); (try clear p6); (try clear p64); (try clear q1); (try clear q10); (try clear q109); (try clear q11); (try clear q110); (try clear q112); (try clear q113); obtain ⟨kq, x188_73, rfl, HA, HJ73, HO_5, HB⟩ := hcut; cases kq with
                                  | zero => exact absurd HA.out (by simp [laws_FnNearest.j4])
                                  | succ kj73 =>
                                    have H := HA.out; clear HA; simp only [laws_FnNearest.j4] at H; by_cases c85 : x188_73 = true
                                    · subst c85
                                      have H1 : (some false) = some true := (by rw [if_pos rfl] at H; exact H); clear H; have H := H1; clear H1; exact absurd (Option.some.inj H) (by decide)
                                    · replace c85 := Bool.eq_false_iff.mpr c85
                                      subst c85; rw [if_neg (show ¬ (false = true) by decide)] at H; replace H := Option.bind_eq_some_iff.mp H; obtain ⟨⟨t134, t135⟩, A860, H⟩ := H; (try dsimp only at H); have A86 := AS A860; clear A860; replace H := Option.bind_eq_some_iff.mp H; obtain ⟨⟨t138, t139⟩, A870, H⟩ := H; replace H : (if t135 = true then (if t139 = true then ((N0.impl_SameWhirls.f kj73 t138 t102).bind fun t142 => (laws_FnNearest.j5 kj73 l1 t102 (!t142))) else (laws_FnNearest.j5 kj73 l1 t102 true)) else (laws_FnNearest.j5 kj73 l1 t102 true)) = some true := H; have A87 := AS A870; clear A870; have HC88 := AS H; clear H; (go_upto_region 27 with (first | ((with_reducible refine gate_callee (f := 26) rfl ?_); refine goesM 191 Try.func26 #[.slice Ao9 t102.length co9, .complex .f32 ((1073741824, 3225419776) : Nat × Nat).1 ((1073741824, 3225419776) : Nat × Nat).2] ?_; (with_reducible refine (NM.impl_MoveWhirls.calls kj73 _ _ t102 ((1073741824, 3225419776) : Nat × Nat) t134 t135 _ ?side1 ?side2 A86.out).mono ?_); (case side1 => repeat (first | exact (Kd.R_reads' HO_5.out).2.2 | (with_reducible refine Kd.C_alloc ?_ _) | (with_reducible refine Kd.C_drewN ?_ _) | (with_reducible refine Kd.C_drew ?_))); (case side2 => exact (Kd.R_reads' HO_5.out).2.1); rintro e w89 ⟨v136, rfl, ho0, hb⟩; refine ⟨_, rfl, ?_⟩; have HO137 := RN ho0 HB; replace HO_5 := RB HO_5 hb; replace HB := BB HB hb; (try clear hb); (try clear hb2); (try clear hk); (try clear hi); (try clear ho0); obtain ⟨Ao90, co90, eo90⟩ := Kd.R_slice HO137.out; subst eo90) | ((with_reducible refine gate_callee (f := 26) rfl ?_); refine goesM 196 Try.func26 #[.slice Ao90 t134.length co90, .complex .f32 ((3221225472, 1077936128) : Nat × Nat).1 ((3221225472, 1077936128) : Nat × Nat).2] ?_; (with_reducible refine (NM.impl_MoveWhirls.calls kj73 _ _ t134 ((3221225472, 1077936128) : Nat × Nat) t138 t139 _ ?side1 ?side2 A87.out).mono ?_); (case side1 => repeat (first | exact (Kd.R_reads' HO137.out).2.2 | (with_reducible refine Kd.C_alloc ?_ _) | (with_reducible refine Kd.C_drewN ?_ _) | (with_reducible refine Kd.C_drew ?_))); (case side2 => exact (Kd.R_reads' HO137.out).2.1); rintro e w91 ⟨v140, rfl, ho0, hb⟩; refine ⟨_, rfl, ?_⟩; have HO141 := RN ho0 HB; replace HO_5 := RB HO_5 hb; replace HO137 := RB HO137 hb; replace HB := BB HB hb; (try clear hb); (try clear hb2); (try clear hk); (try clear hi); (try clear ho0)))); (try simp only [Act.put, List.setIfInBounds_toArray, List.set_cons_zero, List.set_cons_succ]); go_cut [210] (fun v210 wc => ∃ (kq : Nat) (x210_87 : Bool), v210 = .bool x210_87 ∧ Aside0 (laws_FnNearest.j5 kq l1 t102 x210_87 = some true) ∧ Aside0 (kq ≤ kj73) ∧ Aside0 (Kd.R k46 46 wc w.heap.size (fun _ => True) (.slice Ao9 t102.length co9) t102) ∧ Aside0 (Below w.heap.size w wc))
                                      case first =>
                                        as_aux_lemma =>
                                          have H := HC88.out; clear HC88; by_cases c92 : t135 = true
                                          · subst c92
                                            have H1 : (if t139 = true then ((N0.impl_SameWhirls.f kj73 t138 t102).bind fun t142 => (laws_FnNearest.j5 kj73 l1 t102 (!t142))) else (laws_FnNearest.j5 kj73 l1 t102 true)) = some true := (by rw [if_pos rfl] at H; exact H); clear H; have H := H1; clear H1; by_cases c93 : t139 = true
                                            · subst c93
                                              have H1 : ((N0.impl_SameWhirls.f kj73 t138 t102).bind fun t142 => (laws_FnNearest.j5 kj73 l1 t102 (!t142))) = some true := (by rw [if_pos rfl] at H; exact H); clear H; have H := H1; clear H1; replace H := Option.bind_eq_some_iff.mp H; obtain ⟨t142, A940, H⟩ := H; replace H : (laws_FnNearest.j5 kj73 l1 t102 (!t142)) = some true := H; have A94 := AS A940; clear A940; have H' := AS H; clear H; obtain ⟨Ao95, co95, eo95⟩ := Kd.R_slice HO141.out; subst eo95; go_wp2_with (first | (go_at_call 25; (with_reducible refine (N0.impl_SameWhirls.calls kj73 _ _ t138 _ _ t102 t142 _ ?side1 ?side2 ?side3 ?side4 A94.out).mono ?_); (case side1 => repeat (first | exact (Kd.R_reads' HO141.out).2.2 | (with_reducible refine Kd.C_alloc ?_ _) | (with_reducible refine Kd.C_drewN ?_ _) | (with_reducible refine Kd.C_drew ?_))); (case side2 => exact (Kd.R_reads' HO141.out).2.1); (case side3 => repeat (first | exact (Kd.R_reads' HO_5.out).2.2 | (with_reducible refine Kd.C_alloc ?_ _) | (with_reducible refine Kd.C_drewN ?_ _) | (with_reducible refine Kd.C_drew ?_))); (case side4 => exact (Kd.R_reads' HO_5.out).2.1); rintro e w96 ⟨rfl, hb⟩; replace HO_5 := RB HO_5 hb; replace HO137 := RB HO137 hb; replace HO141 := RB HO141 hb; replace HB := BB HB hb; (try clear hb); (try clear hb2); (try clear hk); (try clear hi))); go_meet
                                              case rel => exact ⟨_, (!t142), (by first | rfl | (simp; done) | (simp [*]; done)), H', ⟨by have := HJ6.out; have := HK2.out; have := HJ49.out; have := HJ73.out; first | omega | exact Nat.le_refl _⟩, ⟨by (with_reducible repeat (first | apply Kd.R_alloc | apply Kd.R_drewN | apply Kd.R_drew)); exact Kd.R_mono HO_5.out (fun _ hk => trivial)⟩, ⟨BW HB⟩⟩
                                            · replace c93 := Bool.eq_false_iff.mpr c93
                                              subst c93; have H1 : (laws_FnNearest.j5 kj73 l1 t102 true) = some true := (by rw [if_neg (show ¬ (false = true) by decide)] at H; exact H); clear H; have H := H1; clear H1; exact (FnNearest_j5_no H).elim
                                          · replace c92 := Bool.eq_false_iff.mpr c92
                                            subst c92; have H1 : (laws_FnNearest.j5 kj73 l1 t102 true) = some true := (by rw [if_neg (show ¬ (false = true) by decide)] at H; exact H); clear H; have H := H1; clear H1; exact (FnNearest_j5_no H).elim
                                      case rest =>
                                        as_aux_lemma =>
                                          clear HC88; (try clear c1); (try clear p1); (try clear q1); (try clear hx1); (try clear c2); (try clear p2); (try clear c3); (try clear c4); (try clear c5); (try clear c6); (try clear p6); (try clear c7); (try clear c8); (try clear c9); (try clear q10); (try clear p11); (try clear q11); (try clear hx11); (try clear c13); (try clear c22); (try clear c23); (try clear c24); (try clear c26); (try clear c29); (try clear c29b0); (try clear c30); (try clear c30b0); (try clear c31); (try clear c31b0); (try clear c32); (try clear c32b0); (try clear c33); (try clear c33b0); (try clear c34); (try clear c34b0); (try clear c35); (try clear c35b0); (try clear c35b1); (try clear c36); (try clear c36b0); (try clear c36b1); (try clear c38); (try clear c38b0); (try clear c38b1); (try clear c38b2); (try clear c44); (try clear c44b0); (try clear c44b1); (try clear c58); (try clear c59); (try clear c60); (try clear c61); (try clear c62); (try clear c63); (try clear p64); (try clear c65); (try clear c66); (try clear c66b0); (try clear c66b1); (try clear c66b2); (try clear c73); (try clear c75); (try clear c75b0); (try clear c75b1); (try clear c78); (try clear c78b0); (try clear c78b1); (try clear c79); (try clear c79b0); (try clear c79b1); (try clear c80); (try clear c80b0); (try clear c80b1); (try clear c81); (try clear c81b0); (try clear c81b1); (try clear c82); (try clear c82b0); (try clear c82b1); (try clear c85); (try clear c92); (try clear c93); (try clear hx112_0); (try clear hx112_1); (try clear hx113_0); (try clear hx113_1); (try clear p1); (try clear p11); (try clear p112); (try clear p113); (try clear p2); (try clear p6); (try clear p64); (try clear q1); (try clear q10); (try clear q109); (try clear q11); (try clear q110); (try clear q112); (try clear q113); obtain ⟨kq, x210_87, rfl, HA, HJ87, HO_5, HB⟩ := hcut; cases kq with
                                          | zero => exact absurd HA.out (by simp [laws_FnNearest.j5])
                                          | succ kj87 =>
                                            have H := HA.out; clear HA; simp only [laws_FnNearest.j5] at H; by_cases c97 : x210_87 = true
                                            · subst c97
                                              have H1 : (some false) = some true := (by rw [if_pos rfl] at H; exact H); clear H; have H := H1; clear H1; exact absurd (Option.some.inj H) (by decide)
                                            · replace c97 := Bool.eq_false_iff.mpr c97
                                              subst c97; rw [if_neg (show ¬ (false = true) by decide)] at H; replace H := Option.bind_eq_some_iff.mp H; obtain ⟨t143, A980, H⟩ := H; (try dsimp only at H); have A98 := AS A980; clear A980; by_cases c99 : fok .quo .f32 (floatOfInt .f32 (wrap64 (1 + t143))) 1090519040 = true
                                              · rw [if_pos c99] at H
                                                have c99b0 := eq_true c99; have c99b1 : decide (fok .quo .f32 (floatOfInt .f32 (wrap64 (1 + t143))) 1090519040 = true) = true := decide_eq_true c99; replace H := Option.bind_eq_some_iff.mp H; obtain ⟨⟨t144, t145, t146⟩, A1000, H⟩ := H; (try dsimp only at H); have A100 := AS A1000; clear A1000; by_cases c101 : t146 = true
                                                · subst c101
                                                  rw [if_pos rfl] at H; by_cases c102 : fok .quo .f32 1048576000 (floatOfInt .f32 t145) = true
                                                  · rw [if_pos c102] at H
                                                    have c102b0 := eq_true c102; have c102b1 : decide (fok .quo .f32 1048576000 (floatOfInt .f32 t145) = true) = true := decide_eq_true c102; clear c102; replace H := Option.bind_eq_some_iff.mp H; obtain ⟨⟨t149, t150⟩, A1030, H⟩ := H; (try dsimp only at H); have A103 := AS A1030; clear A1030; have HC104 := AS H; clear H; (go_upto_region 34 with (first | ((with_reducible refine gate_callee (f := 9) rfl ?_); refine goesM 212 Try.func9 #[.slice A1 l1.length c1, .int .i64 0, .int .i64 8] ?_; (with_reducible refine (N0.laws_r8At.calls _ _ l1 0 8 t143 _ ?side1 ?side2 A98.out).mono ?_); (case side1 => exact CS (Kd.C_below HR1.out HB.out)); (case side2 => exact HC1.out); rintro e w105 ⟨rfl, hb⟩; refine ⟨_, rfl, ?_⟩; replace HO_5 := RB HO_5 hb; replace HB := BB HB hb; (try clear hb); (try clear hb2); (try clear hk); (try clear hi)) | ((with_reducible refine gate_callee (f := 27) rfl ?_); refine goesM 219 Try.func27 #[.slice Ao9 t102.length co9, .float .f32 1056964608, .float .f32 1048576000, .float .f32 (fop .quo .f32 (floatOfInt .f32 (wrap64 (1 + t143))) 1090519040)] ?_; (with_reducible refine (N1.impl_HalvedWhirls.calls kj87 _ _ t102 1056964608 1048576000 (fop .quo .f32 (floatOfInt .f32 (wrap64 (1 + t143))) 1090519040) t144 t145 true _ ?side1 ?side2 A100.out).mono ?_); (case side1 => repeat (first | exact (Kd.R_reads' HO_5.out).2.2 | (with_reducible refine Kd.C_alloc ?_ _) | (with_reducible refine Kd.C_drewN ?_ _) | (with_reducible refine Kd.C_drew ?_))); (case side2 => exact (Kd.R_reads' HO_5.out).2.1); rintro e w106 ⟨v147, rfl, ho0, hb⟩; refine ⟨_, rfl, ?_⟩; have HO148 := RN ho0 HB; replace HO_5 := RB HO_5 hb; replace HB := BB HB hb; (try clear hb); (try clear hb2); (try clear hk); (try clear hi); (try clear ho0)) | ((with_reducible refine gate_callee (f := 28) rfl ?_); refine goesM 231 Try.func28 #[.slice Ao9 t102.length co9, .float .f32 1056964608, .float .f32 (fop .quo .f32 1048576000 (floatOfInt .f32 t145)), .int .i64 t145] ?_; (with_reducible refine (N1.impl_RunWhirls.calls kj87 _ _ t102 1056964608 (fop .quo .f32 1048576000 (floatOfInt .f32 t145)) t145 t149 t150 _ ?side1 ?side2 A103.out).mono ?_); (case side1 => repeat (first | exact (Kd.R_reads' HO_5.out).2.2 | (with_reducible refine Kd.C_alloc ?_ _) | (with_reducible refine Kd.C_drewN ?_ _) | (with_reducible refine Kd.C_drew ?_))); (case side2 => exact (Kd.R_reads' HO_5.out).2.1); rintro e w107 ⟨v151, rfl, ho0, hb⟩; refine ⟨_, rfl, ?_⟩; have HO152 := RN ho0 HB; replace HO_5 := RB HO_5 hb; replace HO148 := RB HO148 hb; replace HB := BB HB hb; (try clear hb); (try clear hb2); (try clear hk); (try clear hi); (try clear ho0)))); (try simp only [Act.put, List.setIfInBounds_toArray, List.set_cons_zero, List.set_cons_succ]); go_cut [250] (fun v250 wc => ∃ (kq : Nat) (x250_103 : Bool), v250 = .bool x250_103 ∧ Aside0 (laws_FnNearest.j6 kq (fop .quo .f32 (floatOfInt .f32 (wrap64 (1 + t143))) 1090519040) t144 t149 x250_103 = some true) ∧ Aside0 (kq ≤ kj87) ∧ Aside0 (Kd.R k46 46 wc w.heap.size (fun _ => True) v147 t144) ∧ Aside0 (Kd.R k46 46 wc w.heap.size (fun _ => True) v151 t149) ∧ Aside0 (Below w.heap.size w wc))
                                                    case first =>
                                                      as_aux_lemma =>
                                                        have H := HC104.out; clear HC104; by_cases c108 : t150 = true
                                                        · subst c108
                                                          rw [if_pos rfl] at H; by_cases c109 : t145 < 1
                                                          · rw [if_pos c109] at H
                                                            have c109b0 : decide (t145 < 1) = true := decide_eq_true c109; clear c109; (first | (refine Go.wp_cond_true (congrArg Value.bool c109b0) ?_) | (refine Go.wp_cond_false (congrArg Value.bool c109b0) ?_) | rw [c109b0] | (simp only [i64_w, i32_w]; rw [c109b0]) | skip); exact (FnNearest_j6_no H).elim
                                                          · rw [if_neg c109] at H
                                                            have c109b0 : decide (t145 < 1) = false := decide_eq_false c109; clear c109; (first | (refine Go.wp_cond_true (congrArg Value.bool c109b0) ?_) | (refine Go.wp_cond_false (congrArg Value.bool c109b0) ?_) | rw [c109b0] | (simp only [i64_w, i32_w]; rw [c109b0]) | skip); by_cases c110 : t145 > 32
                                                            · rw [if_pos c110] at H
                                                              have c110b0 : decide (32 < t145) = true := decide_eq_true c110; clear c110; have H' := AS H; clear H; go_wp2; go_meet
                                                              case rel => exact ⟨_, (true), (by first | rfl | (simp; done) | (simp [*]; done)), H', ⟨by have := HJ6.out; have := HK2.out; have := HJ49.out; have := HJ73.out; have := HJ87.out; first | omega | exact Nat.le_refl _⟩, ⟨by (with_reducible repeat (first | apply Kd.R_alloc | apply Kd.R_drewN | apply Kd.R_drew)); exact Kd.R_mono HO148.out (fun _ hk => by first | exact hk.2 | exact hk | trivial)⟩, ⟨by (with_reducible repeat (first | apply Kd.R_alloc | apply Kd.R_drewN | apply Kd.R_drew)); exact Kd.R_mono HO152.out (fun _ hk => by first | exact hk.2 | exact hk | trivial)⟩, ⟨BW HB⟩⟩
                                                            · rw [if_neg c110] at H
                                                              have c110b0 : decide (32 < t145) = false := decide_eq_false c110; clear c110; have H' := AS H; clear H; obtain ⟨Ao111, co111, eo111⟩ := Kd.R_slice HO152.out; subst eo111; obtain ⟨Ao112, co112, eo112⟩ := Kd.R_slice HO148.out; subst eo112; go_wp2; go_meet
                                                              case rel => exact ⟨_, (((t149.length : Int) != (t144.length : Int))), (by first | rfl | (simp; done) | (simp [*]; done)), H', ⟨by have := HJ6.out; have := HK2.out; have := HJ49.out; have := HJ73.out; have := HJ87.out; first | omega | exact Nat.le_refl _⟩, ⟨by (with_reducible repeat (first | apply Kd.R_alloc | apply Kd.R_drewN | apply Kd.R_drew)); exact Kd.R_mono HO148.out (fun _ hk => by first | exact hk.2 | exact hk | trivial)⟩, ⟨by (with_reducible repeat (first | apply Kd.R_alloc | apply Kd.R_drewN | apply Kd.R_drew)); exact Kd.R_mono HO152.out (fun _ hk => by first | exact hk.2 | exact hk | trivial)⟩, ⟨BW HB⟩⟩
                                                        · replace c108 := Bool.eq_false_iff.mpr c108
                                                          subst c108; have H1 : (laws_FnNearest.j6 kj87 (fop .quo .f32 (floatOfInt .f32 (wrap64 (1 + t143))) 1090519040) t144 t149 true) = some true := (by rw [if_neg (show ¬ (false = true) by decide)] at H; exact H); clear H; have H := H1; clear H1; exact (FnNearest_j6_no H).elim
                                                    case rest =>
                                                      as_aux_lemma =>
                                                        clear HC104; (try clear c1); (try clear p1); (try clear q1); (try clear hx1); (try clear c2); (try clear p2); (try clear c3); (try clear c4); (try clear c5); (try clear c6); (try clear p6); (try clear c7); (try clear c8); (try clear c9); (try clear c10); (try clear q10); (try clear c11); (try clear p11); (try clear q11); (try clear hx11); (try clear c13); (try clear c22); (try clear c23); (try clear c24); (try clear c26); (try clear c27); (try clear c28); (try clear c29); (try clear c29b0); (try clear c30); (try clear c30b0); (try clear c31); (try clear c31b0); (try clear c32); (try clear c32b0); (try clear c33); (try clear c33b0); (try clear c34); (try clear c34b0); (try clear c35); (try clear c35b0); (try clear c35b1); (try clear c36); (try clear c36b0); (try clear c36b1); (try clear c38); (try clear c38b0); (try clear c38b1); (try clear c38b2); (try clear c44); (try clear c44b0); (try clear c44b1); (try clear c58); (try clear c59); (try clear c60); (try clear c61); (try clear c62); (try clear c63); (try clear p64); (try clear c65); (try clear c66); (try clear c66b0); (try clear c66b1); (try clear c66b2); (try clear c73); (try clear c75); (try clear c75b0); (try clear c75b1); (try clear c78); (try clear c78b0); (try clear c78b1); (try clear c79); (try clear c79b0); (try clear c79b1); (try clear c80); (try clear c80b0); (try clear c80b1); (try clear c81); (try clear c81b0); (try clear c81b1); (try clear c82); (try clear c82b0); (try clear c82b1); (try clear c85); (try clear c92); (try clear c93); (try clear c97); (try clear c99); (try clear c99b0); (try clear c99b1); (try clear c101); (try clear c102); (try clear c102b0); (try clear c102b1); (try clear c108); (try clear c109); (try clear c109b0); (try clear q109); (try clear c110); (try clear c110b0); (try clear q110); (try clear p112); (try clear q112); (try clear hx112); (try clear hx112_0); (try clear hx112_1); (try clear hx113_0); (try clear hx113_1); (try clear p1); (try clear p11); (try clear p112); (try clear p113); (try clear p2); (try clear p6); (try clear p64); (try clear q1); (try clear q10); (try clear q109); (try clear q11); (try clear q110); (try clear q112); (try clear q113); obtain ⟨kq, x250_103, rfl, HA, HJ103, HO_29, HO_32, HB⟩ := hcut; cases kq with
                                                        | zero => exact absurd HA.out (by simp [laws_FnNearest.j6])
                                                        | succ kj103 =>
                                                          have H := HA.out; clear HA; simp only [laws_FnNearest.j6] at H; by_cases c113 : x250_103 = true
                                                          · subst c113
                                                            have H1 : (some false) = some true := (by rw [if_pos rfl] at H; exact H); clear H; have H := H1; clear H1; exact absurd (Option.some.inj H) (by decide)
                                                          · replace c113 := Bool.eq_false_iff.mpr c113
                                                            subst c113; have H1 : (laws_FnNearest.l2 kj103 (fop .quo .f32 (floatOfInt .f32 (wrap64 (1 + t143))) 1090519040) t144 t149 0) = some true := (by rw [if_neg (show ¬ (false = true) by decide)] at H; exact H); clear H; have H := H1; clear H1; have H' := AS H; clear H; go_wp2; go_loopg [34] kj103 (fun kq v34 w' => ∃ (x34_7 : Int), v34 = .int .i64 x34_7 ∧ Aside0 (laws_FnNearest.l2 kq (fop .quo .f32 (floatOfInt .f32 (wrap64 (1 + t143))) 1090519040) t144 t149 x34_7 = some true) ∧ Aside0 (kq ≤ kj103) ∧ Aside0 (Kd.R k46 46 w' w.heap.size (fun _ => True) v147 t144) ∧ Aside0 (Kd.R k46 46 w' w.heap.size (fun _ => True) v151 t149) ∧ Aside0 (Below w.heap.size w w'))
                                                            case atStart => exact ⟨(0), (by first | rfl | (simp; done) | (simp [*]; done)), H', ⟨Nat.le_refl _⟩, ⟨RS HO_29.out⟩, ⟨RS HO_32.out⟩, ⟨BW HB⟩⟩
                                                            case round =>
                                                              as_aux_lemma =>
                                                                clear H'; (try clear c1); (try clear p1); (try clear q1); (try clear hx1); (try clear c2); (try clear p2); (try clear c3); (try clear c4); (try clear c5); (try clear c6); (try clear p6); (try clear c7); (try clear c8); (try clear c9); (try clear c10); (try clear q10); (try clear c11); (try clear p11); (try clear q11); (try clear hx11); (try clear c13); (try clear c22); (try clear c23); (try clear c24); (try clear c26); (try clear c27); (try clear c28); (try clear c29); (try clear c29b0); (try clear c30); (try clear c30b0); (try clear c31); (try clear c31b0); (try clear c32); (try clear c32b0); (try clear c33); (try clear c33b0); (try clear c34); (try clear c34b0); (try clear c35); (try clear c35b0); (try clear c35b1); (try clear c36); (try clear c36b0); (try clear c36b1); (try clear c38); (try clear c38b0); (try clear c38b1); (try clear c38b2); (try clear c44); (try clear c44b0); (try clear c44b1); (try clear c58); (try clear c59); (try clear c60); (try clear c61); (try clear c62); (try clear c63); (try clear p64); (try clear c65); (try clear c66); (try clear c66b0); (try clear c66b1); (try clear c66b2); (try clear c73); (try clear c75); (try clear c75b0); (try clear c75b1); (try clear c78); (try clear c78b0); (try clear c78b1); (try clear c79); (try clear c79b0); (try clear c79b1); (try clear c80); (try clear c80b0); (try clear c80b1); (try clear c81); (try clear c81b0); (try clear c81b1); (try clear c82); (try clear c82b0); (try clear c82b1); (try clear c85); (try clear c92); (try clear c93); (try clear c97); (try clear c99); (try clear c99b0); (try clear c99b1); (try clear c101); (try clear c102); (try clear c102b0); (try clear c102b1); (try clear c108); (try clear c109); (try clear c109b0); (try clear q109); (try clear c110); (try clear c110b0); (try clear q110); (try clear p112); (try clear q112); (try clear hx112); (try clear c113); (try clear p113); (try clear q113); (try clear hx113); (try clear hx112_0); (try clear hx112_1); (try clear hx113_0); (try clear hx113_1); (try clear p1); (try clear p11); (try clear p112); (try clear p113); (try clear p2); (try clear p6); (try clear p64); (try clear q1); (try clear q10); (try clear q109); (try clear q11); (try clear q110); (try clear q112); (try clear q113); obtain ⟨x34_7, rfl, HA, HK7, HO_29, HO_32, HB⟩ := hrel; cases gk with
                                                                | zero => exact absurd HA.out (by simp [laws_FnNearest.l2])
                                                                | succ k7 =>
                                                                  have H := HA.out; clear HA; simp only [laws_FnNearest.l2] at H; by_cases c114 : x34_7 < (t144.length : Int)
                                                                  · rw [if_pos c114] at H
                                                                    have c114b0 : decide (x34_7 < (t144.length : Int)) = true := decide_eq_true c114; clear c114; by_cases c115 : 0 ≤ x34_7
                                                                    · rw [if_pos c115] at H
                                                                      have c115b0 : decide (0 ≤ x34_7) = true := decide_eq_true c115; clear c115; by_cases c116 : x34_7 < (t149.length : Int)
                                                                      · rw [if_pos c116] at H
                                                                        have c116b0 : decide (x34_7 < (t149.length : Int)) = true := decide_eq_true c116; clear c116; by_cases c117 : fok .sub .f32 ((rd_T46 t149 x34_7).f0).1 ((rd_T46 t144 x34_7).f0).1 = true
                                                                        · rw [if_pos c117] at H
                                                                          have c117b0 := eq_true c117; have c117b1 : decide (fok .sub .f32 ((rd_T46 t149 x34_7).f0).1 ((rd_T46 t144 x34_7).f0).1 = true) = true := decide_eq_true c117; clear c117; by_cases c118 : fok .sub .f32 ((rd_T46 t149 x34_7).f0).2 ((rd_T46 t144 x34_7).f0).2 = true
                                                                          · rw [if_pos c118] at H
                                                                            have c118b0 := eq_true c118; have c118b1 : decide (fok .sub .f32 ((rd_T46 t149 x34_7).f0).2 ((rd_T46 t144 x34_7).f0).2 = true) = true := decide_eq_true c118; clear c118; replace H := Option.bind_eq_some_iff.mp H; obtain ⟨t155, A1190, H⟩ := H; replace H : (if (FloatKind.f32.format.order t155 (fop .quo .f32 (floatOfInt .f32 (wrap64 (1 + t143))) 1090519040) == some .gt) = true then (some false) else (laws_FnNearest.l2 k7 (fop .quo .f32 (floatOfInt .f32 (wrap64 (1 + t143))) 1090519040) t144 t149 (wrap64 (x34_7 + 1)))) = some true := H; have A119 := AS A1190; clear A1190; by_cases c120 : (FloatKind.f32.format.order t155 (fop .quo .f32 (floatOfInt .f32 (wrap64 (1 + t143))) 1090519040) == some .gt) = true
                                                                            · rw [if_pos c120] at H
                                                                              have c120b0 : (FloatKind.f32.format.order t155 (fop .quo .f32 (floatOfInt .f32 (wrap64 (1 + t143))) 1090519040) == some .gt) = true := c120; (try (have c120b1 : decide (FloatKind.f32.format.order t155 (fop .quo .f32 (floatOfInt .f32 (wrap64 (1 + t143))) 1090519040) = some .gt) = true := by simpa using c120)); (try (have c120b2 : (FloatKind.f32.format.order t155 (fop .quo .f32 (floatOfInt .f32 (wrap64 (1 + t143))) 1090519040) == some .gt) = true := by simpa using c120)); clear c120; exact absurd (Option.some.inj H) (by decide)
                                                                            · rw [if_neg c120] at H
                                                                              have c120b0 : (FloatKind.f32.format.order t155 (fop .quo .f32 (floatOfInt .f32 (wrap64 (1 + t143))) 1090519040) == some .gt) = false := (by simpa using c120); (try (have c120b1 : decide (FloatKind.f32.format.order t155 (fop .quo .f32 (floatOfInt .f32 (wrap64 (1 + t143))) 1090519040) = some .gt) = false := by simpa using c120)); (try (have c120b2 : (FloatKind.f32.format.order t155 (fop .quo .f32 (floatOfInt .f32 (wrap64 (1 + t143))) 1090519040) == some .gt) = false := by simpa using c120)); (try (have c120b3 : ¬ (FloatKind.f32.format.order t155 (fop .quo .f32 (floatOfInt .f32 (wrap64 (1 + t143))) 1090519040) = some .gt) := by simpa using c120)); clear c120; have H' := AS H; clear H; obtain ⟨Ao125, co125, eo125⟩ := Kd.R_slice HO_29.out; subst eo125; (try go_wp2); have n0_ := AS (Kd.R_drew HO_29.out); have n1_ := AS (Kd.R_drew HO_32.out); have n2_ := AS (below_drew1 HB.out); replace HO_29 := n0_; replace HO_32 := n1_; replace HB := n2_; clear n0_ n1_ n2_; obtain ⟨Ao127, co127, eo127⟩ := Kd.R_slice HO_32.out; (first | subst eo127 | (injection eo127 with f1_ f2_ f3_; have f4_ := f1_.symm; have f5_ := f3_.symm; clear f1_ f2_ f3_; subst f4_; subst f5_)); have p153 : 0 ≤ (x34_7 : Int) := of_decide_eq_true (by first | (with_reducible assumption) | assumption); have q153 : x34_7 < (t149.length : Int) := of_decide_eq_true (by first | (with_reducible assumption) | assumption); obtain ⟨ad153, e153, hx153_0, hx153_1⟩ := at_T46 (Kd.R_reads' HO_32.out).2.2 x34_7 p153 q153; cases e153; replace p153 := eq_true p153; replace q153 := eq_true q153; have p154 : 0 ≤ (x34_7 : Int) := of_decide_eq_true (by first | (with_reducible assumption) | assumption); have q154 : x34_7 < (t144.length : Int) := of_decide_eq_true (by first | (with_reducible assumption) | assumption); obtain ⟨ad154, e154, hx154_0, hx154_1⟩ := at_T46 (Kd.R_reads' HO_29.out).2.2 x34_7 p154 q154; cases e154; replace p154 := eq_true p154; replace q154 := eq_true q154; refine start_ (n := 14) (S := fun w' => w'.cell? (ad153.add ((x34_7).toNat * 2)) = some (.complex .f32 ((rd_T46 t149 x34_7).f0).1 ((rd_T46 t149 x34_7).f0).2) ∧ w'.cell? ⟨(ad153.add ((x34_7).toNat * 2)).block, (ad153.add ((x34_7).toNat * 2)).off + 1, none⟩ = some (.float .f32 ((rd_T46 t149 x34_7).f1)) ∧ w'.cell? (ad154.add ((x34_7).toNat * 2)) = some (.complex .f32 ((rd_T46 t144 x34_7).f0).1 ((rd_T46 t144 x34_7).f0).2) ∧ w'.cell? ⟨(ad154.add ((x34_7).toNat * 2)).block, (ad154.add ((x34_7).toNat * 2)).off + 1, none⟩ = some (.float .f32 ((rd_T46 t144 x34_7).f1))) (ds := []) #[false, false, false, false, false, false, false, false, false, false, false, false, false, false] (by kernel_rfl) rfl rfl ⟨hx153_0, hx153_1, hx154_0, hx154_1⟩ (fun hHeld => ?_); refine with_tabW laws_FnNearest.tab39 laws_FnNearest.bits39 (fun HT_ HW_ => ?_); generalize wr.drew = w126 at HO_29 HO_32 HB hx153_0 hx153_1 hx154_0 hx154_1 hHeld ⊢; refine pureT 0 257 HT_.out ?_; refine pureT 1 258 HT_.out ?_; refine pureT 2 259 HT_.out ?_; refine pureT 3 260 HT_.out ?_; refine pureT 5 262 HT_.out ?_; refine pureT 6 263 HT_.out ?_; refine pureT 7 264 HT_.out ?_; refine pureT 8 265 HT_.out ?_; refine pureT 12 269 HT_.out ?_; refine takeS (i := 4) (N := some 261) (v := ?_) (a' := ?_) rfl rfl (take_ofW HT_.out HW_.out (by kernel_rfl)) (fun _ _ _ h => h) (Or.inl ⟨by rfl, ?_⟩) hHeld ?_ ?_; rotate_left; (· rintro w' ⟨s0, s1, s2, s3⟩; go_simp; with_reducible rfl); rotate_left; (· simp only [Act.put, List.setIfInBounds_toArray, List.set_cons_zero, List.set_cons_succ, i64_w, i32_w]; rfl); refine takeS (i := 9) (N := some 266) (v := ?_) (a' := ?_) rfl rfl (take_ofW HT_.out HW_.out (by kernel_rfl)) (fun _ _ _ h => h) (Or.inl ⟨by rfl, ?_⟩) hHeld ?_ ?_; rotate_left; (· rintro w' ⟨s0, s1, s2, s3⟩; go_simp; with_reducible rfl); rotate_left; (· simp only [Act.put, List.setIfInBounds_toArray, List.set_cons_zero, List.set_cons_succ, i64_w, i32_w]; rfl); refine pureT 10 267 HT_.out ?_; refine one_ (i := 11) (N := some 268) #[true, true, true, true, true, true, true, true, true, true, true, true, true, false] rfl rfl (one_of HT_.out (by kernel_rfl)) (by decide) (fun K hK => ?_); refine goes_ Try.func13 (by kernel_rfl) rfl #[.complex .f32 ((fop .sub .f32 ((rd_T46 t149 x34_7).f0).1 ((rd_T46 t144 x34_7).f0).1, fop .sub .f32 ((rd_T46 t149 x34_7).f0).2 ((rd_T46 t144 x34_7).f0).2) : Nat × Nat).1 ((fop .sub .f32 ((rd_T46 t149 x34_7).f0).1 ((rd_T46 t144 x34_7).f0).1, fop .sub .f32 ((rd_T46 t149 x34_7).f0).2 ((rd_T46 t144 x34_7).f0).2) : Nat × Nat).2] (by rfl) rfl rfl (by (try simp only [List.map_toArray, List.map_cons, List.map_nil]); first | done | rfl | (simp only [List.length_drop, List.length_take]; rfl)) ?_; (with_reducible refine (S0.impl_LongOf.calls ((fop .sub .f32 ((rd_T46 t149 x34_7).f0).1 ((rd_T46 t144 x34_7).f0).1, fop .sub .f32 ((rd_T46 t149 x34_7).f0).2 ((rd_T46 t144 x34_7).f0).2) : Nat × Nat) t155 _ A119.out).mono ?_); rintro e w128 ⟨rfl, hb⟩; have HS0_ := (hb.cell (World.block_lt_of_cell? _ _ (hHeld.1))).trans (hHeld.1); have HS1_ := (hb.cell (World.block_lt_of_cell? _ _ (hHeld.2.1))).trans (hHeld.2.1); have HS2_ := (hb.cell (World.block_lt_of_cell? _ _ (hHeld.2.2.1))).trans (hHeld.2.2.1); have HS3_ := (hb.cell (World.block_lt_of_cell? _ _ (hHeld.2.2.2))).trans (hHeld.2.2.2); refine ⟨_, rfl, ?_⟩; replace HO_29 := RB HO_29 hb; replace HO_32 := RB HO_32 hb; replace HB := BB HB hb; (try clear hb); (try clear hb2); (try clear hk); (try clear hi); refine hK.out _ _ ⟨HS0_, HS1_, HS2_, HS3_⟩ (fun hHeld => ?_); clear hK K; refine norm_ (a' := ?_) ?_ ?_; rotate_left
                                                                              · show Act.put _ (some 268) _ = _
                                                                                simp only [Act.put, List.setIfInBounds_toArray, List.set_cons_zero, List.set_cons_succ, i64_w, i32_w]; rfl
                                                                              refine pureT 13 270 HT_.out ?_; refine done_ (done_of HT_.out (by kernel_rfl)) ?_; (try go_wp2); go_roundg k7
                                                                              case measure => have := HJ6.out; have := HK2.out; have := HJ49.out; have := HJ73.out; have := HJ87.out; have := HJ103.out; have := HK7.out; omega
                                                                              case rel => exact ⟨(wrap64 (x34_7 + 1)), (by first | rfl | (simp; done) | (simp [*]; done)), H', ⟨by have := HJ6.out; have := HK2.out; have := HJ49.out; have := HJ73.out; have := HJ87.out; have := HJ103.out; have := HK7.out; omega⟩, ⟨RS HO_29.out⟩, ⟨RS HO_32.out⟩, ⟨BW HB⟩⟩
                                                                          · rw [if_neg c118] at H
                                                                            exact absurd H (by simp)
                                                                        · rw [if_neg c117] at H
                                                                          exact absurd H (by simp)
                                                                      · rw [if_neg c116] at H
                                                                        exact absurd H (by simp)
                                                                    · rw [if_neg c115] at H
                                                                      exact absurd H (by simp)
                                                                  · rw [if_neg c114] at H
                                                                    have c114b0 : decide (x34_7 < (t144.length : Int)) = false := decide_eq_false c114; clear c114; have HT_ := AS (Option.some.inj H); clear H; obtain ⟨Ao129, co129, eo129⟩ := Kd.R_slice HO_29.out; subst eo129; go_wp2; go_ret; exact ⟨by first | (refine Eq.trans ?_ (congrArg (fun b => Ending.returned (Value.bool b)) HT_.out); rfl) | (rw [HT_.out]) | (have h_ := HT_.out; simp at h_; simp [h_]; done) | (have h_ := HT_.out; simp at h_; subst h_; rfl) | (simp [HT_.out]; done) | rfl | (simp [errW_none, errW_some] <;> rfl) | (simp [*, errW_none, errW_some] <;> rfl), BW HB⟩
                                                  · rw [if_neg c102] at H
                                                    exact absurd H (by simp)
                                                · replace c101 := Bool.eq_false_iff.mpr c101
                                                  subst c101; have H1 : (some true) = some true := rfl; clear H; have H := H1; clear H1; clear H; go_wp2_with (first | ((with_reducible refine gate_callee (f := 9) rfl ?_); refine goesM 212 Try.func9 #[.slice A1 l1.length c1, .int .i64 0, .int .i64 8] ?_; (with_reducible refine (N0.laws_r8At.calls _ _ l1 0 8 t143 _ ?side1 ?side2 A98.out).mono ?_); (case side1 => exact CS (Kd.C_below HR1.out HB.out)); (case side2 => exact HC1.out); rintro e w130 ⟨rfl, hb⟩; refine ⟨_, rfl, ?_⟩; replace HO_5 := RB HO_5 hb; replace HB := BB HB hb; (try clear hb); (try clear hb2); (try clear hk); (try clear hi)) | ((with_reducible refine gate_callee (f := 27) rfl ?_); refine goesM 219 Try.func27 #[.slice Ao9 t102.length co9, .float .f32 1056964608, .float .f32 1048576000, .float .f32 (fop .quo .f32 (floatOfInt .f32 (wrap64 (1 + t143))) 1090519040)] ?_; (with_reducible refine (N1.impl_HalvedWhirls.calls kj87 _ _ t102 1056964608 1048576000 (fop .quo .f32 (floatOfInt .f32 (wrap64 (1 + t143))) 1090519040) t144 t145 false _ ?side1 ?side2 A100.out).mono ?_); (case side1 => repeat (first | exact (Kd.R_reads' HO_5.out).2.2 | (with_reducible refine Kd.C_alloc ?_ _) | (with_reducible refine Kd.C_drewN ?_ _) | (with_reducible refine Kd.C_drew ?_))); (case side2 => exact (Kd.R_reads' HO_5.out).2.1); rintro e w131 ⟨v147, rfl, ho0, hb⟩; refine ⟨_, rfl, ?_⟩; have HO148 := RN ho0 HB; replace HO_5 := RB HO_5 hb; replace HB := BB HB hb; (try clear hb); (try clear hb2); (try clear hk); (try clear hi); (try clear ho0))); go_ret; exact ⟨by first | rfl | (simp [errW_none, errW_some] <;> rfl) | (simp [*, errW_none, errW_some] <;> rfl), BW HB⟩
                                              · rw [if_neg c99] at H
                                                exact absurd H (by simp)
                    · rw [if_neg c44] at H
                      exact absurd H (by simp)
end Go.Proofs.Ytcgaccdiomcglaa.NW
end
section
set_option linter.unusedVariables false
set_option linter.unusedSimpArgs false
namespace Go.Proofs.Ytcgaccdiomcglaa
open Go.RowKit Go.Proofs.YtcgaccdiomcglaaW.PrintWords Go.Proofs.YtcgaccdiomcglaaW.PrintLast Ieee
namespace QA
open FR PU XL
def mvd (w : S0.S46) (x y : Int) : S0.S46 := ⟨(I x, I y), w.f1⟩
theorem rd_app {acc : List S0.S46} {w : S0.S46} {j : Nat} (h : j < acc.length + 1) : S0.rd_T46 (acc ++ [w]) (j : Int) = if j < acc.length then S0.rd_T46 acc (j : Int) else w := by
  rw [rdW (by simp; omega)]
  by_cases c : j < acc.length
  · rw [if_pos c, rdW c, List.getElem_append_left c]
  · rw [if_neg c, List.getElem_append_right (by omega)]
    have : j - acc.length = 0 := by omega
    simp [this]
theorem moveW_loop {l : List S0.S46} {X Y : Nat → Int} {a b : Int} (hl : l.length = 4) (hs : ∀ i : Nat, i < 4 → Fin (S0.rd_T46 l (i : Int)).f1) (h : ∀ i : Nat, i < 4 → (S0.rd_T46 l (i : Int)).f0 = (I (X i), I (Y i)))
    (bd : ∀ i : Nat, i < 4 → (-12 ≤ X i ∧ X i ≤ 12) ∧ (-12 ≤ Y i ∧ Y i ≤ 12)) (ha : -4 ≤ a ∧ a ≤ 4) (hb : -4 ≤ b ∧ b ≤ 4) :
    ∀ (r i k : Nat) (acc : List S0.S46), i + r = 4 → 60 + r + 1 ≤ k → acc.length = i → (∀ j : Nat, j < i → S0.rd_T46 acc (j : Int) = mvd (S0.rd_T46 l (j : Int)) (X j + a) (Y j + b)) →
      Ret (NM.impl_remade.l0 k acc l (l.length : Int) (i : Int) (I a, I b)) (fun q => q.2 = true ∧ q.1.length = 4 ∧ ∀ j : Nat, j < 4 → S0.rd_T46 q.1 (j : Int) = mvd (S0.rd_T46 l (j : Int)) (X j + a) (Y j + b)) := by
  intro r
  induction r with
  | zero =>
    intro i k acc hi hk hacc hg
    obtain ⟨q, rfl⟩ : ∃ q, k = q + 1 := ⟨k - 1, by omega⟩
    unfold NM.impl_remade.l0
    rw [if_neg (by omega)]
    rw [Nat.add_zero] at hi
    subst hi
    rw [toldW_of (l := acc) (fun w hw => ?_) (by omega) (by omega)]
    · exact ⟨_, rfl, rfl, hacc, hg⟩
    · obtain ⟨j, hj, rfl⟩ := List.getElem_of_mem hw
      have e := hg j (by omega)
      rw [rdW hj] at e
      rw [e]
      have := bd j (by omega)
      exact ⟨⟨⟨_, I_val (n := X j + a) (by omega)⟩, ⟨_, I_val (n := Y j + b) (by omega)⟩⟩, hs j (by omega)⟩
  | succ r ih =>
    intro i k acc hi hk hacc hg
    obtain ⟨q, rfl⟩ : ∃ q, k = q + 1 := ⟨k - 1, by omega⟩
    unfold NM.impl_remade.l0
    have b1 := bd i (by omega)
    obtain ⟨f1, f2⟩ := addI (a := X i) (b := a) (by omega) (by omega) (by omega) (by omega)
    obtain ⟨g1, g2⟩ := addI (a := Y i) (b := b) (by omega) (by omega) (by omega) (by omega)
    rw [if_pos (by omega), if_pos (by omega), if_pos (by omega)]
    unfold NM.impl_MoveWhirls_1.f
    rw [h i (by omega)]
    dsimp only
    rw [if_pos f1, if_pos g1, Option.bind_some, if_pos (by omega), w64 (by omega) (by omega), f2, g2]
    refine ih (i + 1) q _ (by omega) (by omega) (by simp [hacc]) (fun j hj => ?_)
    rw [rd_app (by omega)]
    by_cases c : j < acc.length
    · rw [if_pos c]
      exact hg j (by omega)
    · rw [if_neg c]
      obtain rfl : j = i := by omega
      rfl
theorem moveW_of {l : List S0.S46} {X Y : Nat → Int} {a b : Int} (hl : l.length = 4) (hs : ∀ i : Nat, i < 4 → Fin (S0.rd_T46 l (i : Int)).f1) (h : ∀ i : Nat, i < 4 → (S0.rd_T46 l (i : Int)).f0 = (I (X i), I (Y i)))
    (bd : ∀ i : Nat, i < 4 → (-12 ≤ X i ∧ X i ≤ 12) ∧ (-12 ≤ Y i ∧ Y i ≤ 12)) (ha : -4 ≤ a ∧ a ≤ 4) (hb : -4 ≤ b ∧ b ≤ 4) {k : Nat} (hk : 70 ≤ k) :
    Ret (NM.impl_MoveWhirls.f k l (I a, I b)) (fun q => q.2 = true ∧ q.1.length = 4 ∧ ∀ j : Nat, j < 4 → S0.rd_T46 q.1 (j : Int) = mvd (S0.rd_T46 l (j : Int)) (X j + a) (Y j + b)) := by
  have fa : fin (I a) = true := fin_of' ⟨_, I_val (n := a) (by omega)⟩
  have fb : fin (I b) = true := fin_of' ⟨_, I_val (n := b) (by omega)⟩
  have hf : FinW l := by
    intro w hw
    obtain ⟨j, hj, rfl⟩ := List.getElem_of_mem hw
    have e := h j (by omega)
    have s := hs j (by omega)
    rw [rdW hj] at e s
    have := bd j (by omega)
    refine ⟨?_, s⟩
    rw [e]
    exact ⟨⟨_, I_val (n := X j) (by omega)⟩, ⟨_, I_val (n := Y j) (by omega)⟩⟩
  obtain ⟨⟨M, z⟩, e, e1, e2, e3⟩ := moveW_loop hl hs h bd ha hb 4 0 k [] rfl (by omega) rfl (fun j hj => absurd hj (by omega))
  rw [show ((0 : Nat) : Int) = 0 from rfl] at e
  unfold NM.impl_MoveWhirls.f NM.impl_remade.f XW.IsFiniteComplex.f XW.cfin
  rw [fa, fb, Option.bind_some, if_pos (show (true && true) = true from rfl), are_of hf (by omega) (by omega), Option.bind_some, if_pos rfl, e, Option.bind_some]
  exact ⟨_, rfl, e1, e2, e3⟩
theorem same_loop {l M : List S0.S46} (hl : l.length = 4) (hM : M.length = 4) (h : ∀ j : Nat, j < 4 → S0.rd_T46 M (j : Int) = S0.rd_T46 l (j : Int)) :
    ∀ (r i k : Nat), i + r = 4 → r + 1 ≤ k → N0.impl_Whirl.l0 k l M (M.length : Int) (i : Int) = some true := by
  intro r
  induction r with
  | zero =>
    intro i k hi hk
    obtain ⟨q, rfl⟩ : ∃ q, k = q + 1 := ⟨k - 1, by omega⟩
    unfold N0.impl_Whirl.l0
    rw [if_neg (by omega)]
  | succ r ih =>
    intro i k hi hk
    obtain ⟨q, rfl⟩ : ∃ q, k = q + 1 := ⟨k - 1, by omega⟩
    unfold N0.impl_Whirl.l0
    rw [if_pos (by omega), if_pos (by omega), if_pos (by omega), if_pos (by omega), h i (by omega)]
    unfold N0.impl_SameWhirls_1.f S0.impl_SameComplex.f XM.SameNumber.f
    simp only [smn_self, Option.bind_some, if_true]
    rw [w64 (by omega) (by omega)]
    exact ih (i + 1) q (by omega) (by omega)
theorem sameW_of {l M : List S0.S46} (hl : l.length = 4) (hM : M.length = 4) (h : ∀ j : Nat, j < 4 → S0.rd_T46 M (j : Int) = S0.rd_T46 l (j : Int)) {k : Nat} (hk : 10 ≤ k) : N0.impl_SameWhirls.f k M l = some true := by
  unfold N0.impl_SameWhirls.f N0.impl_Whirl.f
  have := same_loop hl hM h 4 0 k rfl (by omega)
  rw [show ((0 : Nat) : Int) = 0 from rfl] at this
  rw [if_pos (by omega), this]
  rfl
theorem backW_of {l : List S0.S46} {X Y S : Nat → Int} (h : OkW l X Y S) {k : Nat} (hk : 70 ≤ k) :
    ∃ M M2, NM.impl_MoveWhirls.f k l (1073741824, 3225419776) = some (M, true) ∧ NM.impl_MoveWhirls.f k M (3221225472, 1077936128) = some (M2, true) ∧ N0.impl_SameWhirls.f k M2 l = some true := by
  have hl := h.len
  have i2 : (1073741824 : Nat) = I 2 := by decide +kernel
  have i3 : (3225419776 : Nat) = I (-3) := by decide +kernel
  have i4 : (3221225472 : Nat) = I (-2) := by decide +kernel
  have i5 : (1077936128 : Nat) = I 3 := by decide +kernel
  rw [i2, i3, i4, i5]
  have hs : ∀ i : Nat, i < 4 → Fin (S0.rd_T46 l (i : Int)).f1 := fun i hi => ⟨_, U_half (h.spin i hi)⟩
  obtain ⟨⟨M, z⟩, e1, e2, e3, e4⟩ := moveW_of (a := 2) (b := -3) hl hs h.at_ (fun i hi => by have := h.xb i hi; have := h.yb i hi; omega) (by decide) (by decide) hk
  have e2' : z = true := e2
  subst e2'
  obtain ⟨⟨M2, z2⟩, f1, f2, f3, f4⟩ := moveW_of (l := M) (a := -2) (b := 3) (X := fun i => X i + 2) (Y := fun i => Y i + -3) e3 (fun i hi => by rw [e4 i hi]; exact hs i hi) (fun i hi => by rw [e4 i hi]; rfl) (fun i hi => by have := h.xb i hi; have := h.yb i hi; omega) (by decide) (by decide) hk
  have f2' : z2 = true := f2
  subst f2'
  refine ⟨M, M2, e1, f1, sameW_of hl f3 (fun j hj => ?_) (by omega)⟩
  rw [f4 j hj, e4 j hj]
  have a := h.at_ j hj
  show S0.S46.mk (I (X j + 2 + -2), I (Y j + -3 + 3)) (S0.rd_T46 l (j : Int)).f1 = S0.rd_T46 l (j : Int)
  rw [show X j + 2 + -2 = X j by omega, show Y j + -3 + 3 = Y j by omega, ← a]
theorem stepOk_of {l : List S0.S46} (hf : FinW l) (hl : l.length = 4) {t : Nat} (ht : fin t = true) {k : Nat} (hk : 60 ≤ k) : N0.impl_stepOk.f k l 1056964608 t = some true := by
  unfold N0.impl_stepOk.f XL.IsFinite.f
  have e : XW.levelOk.f [1056964608] = some true := by decide +kernel
  rw [are_of hf (by omega) hk, Option.bind_some, if_pos rfl, e, Option.bind_some, if_pos rfl, ht]
  rfl
theorem level_of {x : Nat} {n : Int} (h : U x n) (hn : 0 ≤ n) : XW.levelOk.f [x] = some true := by
  unfold XW.levelOk.f
  have a : fin x = true := fin_of' ⟨_, h⟩
  have b : XW.ltz x = false := by
    unfold XW.ltz
    rw [U_order h U_zero, if_neg (by omega)]
    split <;> rfl
  simp [a, b]
theorem halvedW_of {l : List S0.S46} {X Y S : Nat → Int} (h : OkW l X Y S) {near : Nat} {n : Int} (hn : U near n) (h0 : 0 ≤ n) {k : Nat} (hk : 400 ≤ k) : Ret (N1.impl_HalvedWhirls.f k l 1056964608 1048576000 near) (HR l near) := by
  unfold N1.impl_HalvedWhirls.f
  have hl := h.len
  have fq : fin 1048576000 = true := by decide +kernel
  rw [stepOk_of (finW_of h) hl fq (by omega), Option.bind_some, if_pos rfl, level_of hn h0, Option.bind_some]
  obtain ⟨q, rfl⟩ : ∃ q, k = q + 1 := ⟨k - 1, by omega⟩
  rw [N1.impl_HalvedWhirls.j0, if_neg (by decide)]
  exact halved_loop hl (BW_of h) 6 0 q rfl (by omega)
theorem tick_fin {e : Nat} (he : e ≤ 5) : fin (tick e) = true := by
  have c : e = 0 ∨ e = 1 ∨ e = 2 ∨ e = 3 ∨ e = 4 ∨ e = 5 := by omega
  rcases c with rfl | rfl | rfl | rfl | rfl | rfl <;> decide +kernel
theorem runW_of {l a : List S0.S46} {X Y S : Nat → Int} (h : OkW l X Y S) {e : Nat} (he : e ≤ 5) {k : Nat} (hk : 400 ≤ k) (hs : ∀ k, 200 ≤ k → N1.impl_steps.f k l 1056964608 (tick e) ((2 ^ e : Nat) : Int) = some (a, true)) :
    N1.impl_RunWhirls.f k l 1056964608 (tick e) ((2 ^ e : Nat) : Int) = some (a, true) := by
  have b : 2 ^ e ≤ 2 ^ 5 := Nat.pow_le_pow_right (by decide) he
  have hl := h.len
  unfold N1.impl_RunWhirls.f S0.impl_in.f
  rw [stepOk_of (finW_of h) hl (tick_fin he) (by omega), Option.bind_some, if_pos rfl, if_pos (Int.natCast_nonneg _), Option.bind_some, decide_eq_true (show ((2 ^ e : Nat) : Int) ≤ 128 by omega)]
  obtain ⟨q, rfl⟩ : ∃ q, k = q + 1 := ⟨k - 1, by omega⟩
  rw [N1.impl_RunWhirls.j0, if_neg (by decide), hs q (by omega), Option.bind_some, if_pos rfl]
end QA
end Go.Proofs.Ytcgaccdiomcglaa
end
section
set_option linter.unusedVariables false
set_option linter.unusedSimpArgs false
namespace Go.Proofs.Ytcgaccdiomcglaa
open Go.RowKit Go.Proofs.YtcgaccdiomcglaaW.PrintWords Go.Proofs.YtcgaccdiomcglaaW.PrintLast Ieee
namespace QA
open FR PU XL
theorem r8at_ok {l : List Int} (hl : okS l) : ∃ t, N0.laws_r8At.f l 0 8 = some t ∧ 0 ≤ t ∧ t < 8 := by
  unfold N0.laws_r8At.f
  rw [if_neg (by omega)]
  by_cases c : (0 : Int) ≥ (l.length : Int)
  · rw [if_pos c]
    exact ⟨0, rfl, by decide, by decide⟩
  · rw [if_neg c, if_pos (by omega), if_pos (by omega), if_neg (by omega)]
    have hr := rd_ok hl 0
    rw [w64 (by omega) (by omega)]
    have := tmod_ok hr.1 (by omega : (0 : Int) < 8)
    exact ⟨_, rfl, this.1, this.2⟩
theorem l2_ok {a f : List S0.S46} {near : Nat} (hf : f.length = 4) (ha : a.length = 4) (h : ∀ i : Nat, i < 4 → Near a f near i) : ∀ (r i k : Nat), i + r = 4 → r + 1 ≤ k → NW.laws_FnNearest.l2 k near f a (i : Int) = some true := by
  intro r
  induction r with
  | zero =>
    intro i k hi hk
    obtain ⟨q, rfl⟩ : ∃ q, k = q + 1 := ⟨k - 1, by omega⟩
    unfold NW.laws_FnNearest.l2
    rw [if_neg (by omega)]
  | succ r ih =>
    intro i k hi hk
    obtain ⟨q, rfl⟩ : ∃ q, k = q + 1 := ⟨k - 1, by omega⟩
    unfold NW.laws_FnNearest.l2
    obtain ⟨h1, h2, t, h3, h4⟩ := h i (by omega)
    rw [if_pos (by omega), if_pos (by omega), if_pos (by omega), if_pos h1, if_pos h2, h3, Option.bind_some, h4, if_neg (by decide), w64 (by omega) (by omega)]
    exact ih (i + 1) q (by omega) (by omega)
theorem j5_ok {l : List S0.S46} {l1 : List Int} {X Y S : Nat → Int} (h1 : okS l1) (h : OkW l X Y S) {k : Nat} (hk : 500 ≤ k) : NW.laws_FnNearest.j5 k l1 l false = some true := by
  obtain ⟨q, rfl⟩ : ∃ q, k = q + 1 := ⟨k - 1, by omega⟩
  rw [NW.laws_FnNearest.j5, if_neg (by decide)]
  obtain ⟨t, e1, t0, t8⟩ := r8at_ok h1
  rw [e1, Option.bind_some, w64 (n := 1 + t) (by omega) (by omega)]
  obtain ⟨g1, g2⟩ := U_quo (n := 1 + t) (j := 3) (by decide) f_eight' (by omega)
  rw [if_pos g1]
  obtain ⟨near, hnear⟩ : ∃ z, z = fop .quo .f32 (floatOfInt .f32 (1 + t)) 1090519040 := ⟨_, rfl⟩
  rw [← hnear] at g2 ⊢
  obtain ⟨⟨f, m, b⟩, e2, hr⟩ := halvedW_of h g2 (by omega) (show 400 ≤ q by omega)
  rw [e2, Option.bind_some]
  dsimp only
  rcases hr with hb | ⟨e, he, hb, hm, hf, a, ha, hs, hn⟩
  · have hb' : b = false := hb
    rw [hb', if_neg (by decide)]
  · have hb' : b = true := hb
    have hm' : m = ((2 ^ e : Nat) : Int) := hm
    have hf' : f.length = 4 := hf
    have hn' : ∀ i : Nat, i < 4 → Near a f near i := hn
    subst hb' hm'
    have b5 : 2 ^ e ≤ 2 ^ 5 := Nat.pow_le_pow_right (by decide) he
    have b1 : 1 ≤ 2 ^ e := Nat.one_le_two_pow
    have e5 := (steps_all (show e ≤ 6 by omega) h.len (BW_of h)).1
    have er := runW_of h he (show 400 ≤ q by omega) hs
    unfold tick at er
    rw [if_pos rfl, if_pos e5, er, Option.bind_some]
    obtain ⟨M, hM⟩ : ∃ M, M = 2 ^ e := ⟨_, rfl⟩
    rw [← hM] at b5 b1 ⊢
    dsimp only
    rw [if_pos rfl, if_neg (by omega), if_neg (by omega)]
    obtain ⟨p, rfl⟩ : ∃ p, q = p + 1 := ⟨q - 1, by omega⟩
    rw [NW.laws_FnNearest.j6]
    rw [show ((a.length : Int) != (f.length : Int)) = false by rw [ha, hf']; rfl, if_neg (by decide)]
    exact l2_ok hf' ha hn' 4 0 p rfl (by omega)
theorem j4_okN {l : List S0.S46} {l1 : List Int} {X Y S : Nat → Int} (h1 : okS l1) (h : OkW l X Y S) {k : Nat} (hk : 510 ≤ k) : NW.laws_FnNearest.j4 k l1 l false = some true := by
  obtain ⟨q, rfl⟩ : ∃ q, k = q + 1 := ⟨k - 1, by omega⟩
  obtain ⟨M, M2, e1, e2, e3⟩ := backW_of h (show 70 ≤ q by omega)
  rw [NW.laws_FnNearest.j4, if_neg (by decide), e1, Option.bind_some]
  dsimp only
  rw [e2, Option.bind_some]
  dsimp only
  rw [if_pos rfl, if_pos rfl, e3, Option.bind_some]
  exact j5_ok h1 h (by omega)
theorem l1_ok {l : List S0.S46} {l1 : List Int} (hl : l.length = 4) {D : Nat → Nat → Nat} {V : Nat → Nat → Rat} (hf : Far l D V) {p q : Nat} (hp : p < q) (hq : q < 4) (hL : Least V p q) {K a : Nat} (ha : a < 4)
    (hout : ∀ k, K ≤ k → NW.laws_FnNearest.l0 k l1 l (D p q) ((a + 1 : Nat) : Int) = some true) : ∀ (r b k : Nat), b + r = 4 → a < b → K + r + 1 ≤ k → NW.laws_FnNearest.l1 k l1 l (D p q) (a : Int) (b : Int) = some true := by
  intro r
  induction r with
  | zero =>
    intro b k hb hab hk
    obtain ⟨j, rfl⟩ : ∃ j, k = j + 1 := ⟨k - 1, by omega⟩
    unfold NW.laws_FnNearest.l1
    rw [if_neg (by omega), w64 (by omega) (by omega)]
    exact hout j (by omega)
  | succ r ih =>
    intro b k hb hab hk
    obtain ⟨j, rfl⟩ : ∃ j, k = j + 1 := ⟨k - 1, by omega⟩
    unfold NW.laws_FnNearest.l1
    obtain ⟨o1, o2, o3⟩ := hf.ok a b hab (by omega)
    unfold dif at o3
    have v1 := (hf.val a b hab (by omega)).1
    have v2 := (hf.val p q hp hq).1
    have le := hL a b hab (by omega)
    rw [if_pos (by omega), if_pos (by omega), if_pos (by omega), if_pos (by omega), if_pos (by omega), if_pos o1, if_pos o2, o3, Option.bind_some, if_neg (fun hh => absurd ((lt_iff v1 v2).1 hh) (by grind)), w64 (by omega) (by omega)]
    exact ih (b + 1) j (by omega) (by omega) (by omega)
theorem l0_okN {l : List S0.S46} {l1 : List Int} (hl : l.length = 4) {D : Nat → Nat → Nat} {V : Nat → Nat → Rat} (hf : Far l D V) {p q : Nat} (hp : p < q) (hq : q < 4) (hL : Least V p q) {K : Nat}
    (hout : ∀ k, K ≤ k → NW.laws_FnNearest.l0 (k + 1) l1 l (D p q) 4 = some true) : ∀ (r a k : Nat), a + r = 4 → K + 10 * r + 1 ≤ k → NW.laws_FnNearest.l0 k l1 l (D p q) (a : Int) = some true := by
  intro r
  induction r with
  | zero =>
    intro a k ha hk
    obtain ⟨j, rfl⟩ : ∃ j, k = j + 1 := ⟨k - 1, by omega⟩
    obtain rfl : a = 4 := by omega
    exact hout j (by omega)
  | succ r ih =>
    intro a k ha hk
    obtain ⟨j, rfl⟩ : ∃ j, k = j + 1 := ⟨k - 1, by omega⟩
    unfold NW.laws_FnNearest.l0
    rw [if_pos (by omega), w64 (by omega) (by omega)]
    have := l1_ok (l1 := l1) hl hf hp hq hL (K := K + 10 * r + 1) (a := a) (by omega) (fun k hk => ih (a + 1) k (by omega) hk) (4 - (a + 1)) (a + 1) j (by omega) (by omega) (by omega)
    rwa [show ((a + 1 : Nat) : Int) = (a : Int) + 1 by omega] at this
theorem j0_okN {l : List S0.S46} {l1 : List Int} {X Y S : Nat → Int} (h1 : okS l1) (h : OkW l X Y S) {D : Nat → Nat → Nat} {V : Nat → Nat → Rat} (hf : Far l D V) {p q : Nat} (e : ∀ k, 40 ≤ k → N0.impl_nearest.f k l = some ((p : Int), (q : Int), D p q)) (hp : p < q) (hq : q < 4) (hL : Least V p q) {k : Nat} (hk : 700 ≤ k) :
    NW.laws_FnNearest.j0 k l1 l (D p q) false = some true := by
  obtain ⟨j, rfl⟩ : ∃ j, k = j + 1 := ⟨k - 1, by omega⟩
  have hl := h.len
  rw [NW.laws_FnNearest.j0, if_neg (by decide)]
  refine l0_okN hl hf hp hq hL (K := 600) (fun k hk => ?_) 4 0 j rfl (by omega)
  unfold NW.laws_FnNearest.l0
  rw [if_neg (by decide)]
  obtain ⟨⟨⟨M, z⟩, m1, m2, m3⟩, m4, m5⟩ := merge_of h hf e hp hq (show 100 ≤ k by omega)
  have m2' : z = true := m2
  subst m2'
  have m3' : Merged l X Y S p q M := m3
  obtain ⟨t, a, b, a', b', ⟨x, u, x1, x2, x3, x4, x5⟩, ⟨y, v, y1, y2, y3, y4, y5⟩, M3, ab, bb, eqs⟩ := kept_of h hp hq m3' (show 60 ≤ k by omega)
  have same := sameW_of hl hl (fun j _ => rfl) (show 10 ≤ k by omega)
  have oe : (FloatKind.f32.format.order x y != some .eq) = false := by
    rw [U_order x2 y2, if_neg (by omega), if_pos rfl]
    rfl
  rw [m1, Option.bind_some, if_pos m4, m5, Option.bind_some, x1, Option.bind_some]
  dsimp only
  rw [y1, Option.bind_some, x3, Option.bind_some, y3, Option.bind_some]
  dsimp only
  rw [if_pos rfl, if_pos rfl, if_pos rfl, if_pos rfl, if_pos rfl, if_pos rfl, same, Option.bind_some, if_pos rfl, oe, if_neg (by decide), decide_eq_false (show ¬ ((M.length : Int) > 3) by omega)]
  obtain ⟨i, rfl⟩ : ∃ i, k = i + 1 := ⟨k - 1, by omega⟩
  rw [NW.laws_FnNearest.j3, if_neg (by decide)]
  by_cases c : M.length = 3
  · obtain ⟨rfl, rfl⟩ := eqs c
    obtain ⟨t1, p1, s, p2, p3, p4, p5, p6, p7, p8⟩ := apart_ok x4 y4 x5 y5 ab bb
    rw [if_pos (by omega), p1, Option.bind_some, p2, Option.bind_some, if_pos p3, if_pos p4, if_pos p5, if_pos p6, if_pos p7, p8]
    exact j4_okN h1 h (by omega)
  · rw [if_neg (by omega)]
    exact j4_okN h1 h (by omega)
theorem nearW_of {l : List S0.S46} {X Y S : Nat → Int} (h : OkW l X Y S) {D : Nat → Nat → Nat} {V : Nat → Nat → Rat} (hf : Far l D V) {p q : Nat} (e : ∀ k, 40 ≤ k → N0.impl_nearest.f k l = some ((p : Int), (q : Int), D p q)) (hp : p < q) (hq : q < 4) {k : Nat} (hk : 100 ≤ k) :
    N0.impl_NearestWhirls.f k l = some ((p : Int), (q : Int), D p q, true) := by
  have hl := h.len
  have fd : fin (D p q) = true := fin_of' ⟨_, (hf.val p q hp hq).1⟩
  unfold N0.impl_NearestWhirls.f
  rw [are_of (finW_of h) (by omega) (by omega), Option.bind_some, if_pos rfl]
  obtain ⟨j, rfl⟩ : ∃ j, k = j + 1 := ⟨k - 1, by omega⟩
  rw [decide_eq_false (show ¬ ((l.length : Int) < 2) by omega), N0.impl_NearestWhirls.j0, if_neg (by decide), e j (by omega), Option.bind_some]
  dsimp only
  unfold XL.IsFinite.f
  rw [fd, Option.bind_some, if_pos rfl]
theorem law_okN {l0 l1 : List Int} (h0 : okS l0) (h1 : okS l1) : NW.laws_FnNearest.f 800 l0 l1 = some true := by
  unfold NW.laws_FnNearest.f N0.laws_r8Long.f
  by_cases L0 : (l0.length : Int) > 48
  · rw [if_pos L0]
    rfl
  rw [if_neg L0, Option.bind_some]
  by_cases L1 : (l1.length : Int) > 48
  · rw [decide_eq_true L1, if_pos rfl]
  rw [decide_eq_false L1, if_neg (by decide)]
  obtain ⟨l, e1, X, Y, S, h⟩ := whirls4 h0 (show 20 ≤ 800 by decide)
  obtain ⟨D, V, hf⟩ := far_of h
  have hl := h.len
  obtain ⟨p, q, e2, hp, hq, hL⟩ := nearest_of hl hf (Nat.le_refl 40)
  have e : ∀ k, 40 ≤ k → N0.impl_nearest.f k l = some ((p : Int), (q : Int), D p q) := by
    intro k hk
    have := up (g := fun k => N0.impl_nearest.f k l) (fun k => N0.impl_nearest.mono _ _) e2 (k - 40)
    rwa [show 40 + (k - 40) = k by omega] at this
  have en := nearW_of h hf e hp hq (show 100 ≤ 800 by decide)
  obtain ⟨o1, o2, o3⟩ := hf.ok p q hp hq
  unfold dif at o3
  have v := (hf.val p q hp hq).1
  rw [e1, Option.bind_some, en, Option.bind_some]
  dsimp only
  rw [if_pos rfl, if_neg (by omega), if_neg (by omega), if_neg (by omega), if_pos (by omega), if_pos (by omega), if_pos (by omega), if_pos (by omega), if_pos o1, if_pos o2, o3, Option.bind_some]
  rw [show (FloatKind.f32.format.order (D p q) (D p q) != some .eq) = false by rw [bne, (eq_iff v v).2 rfl]; rfl]
  exact j0_okN h1 h hf e hp hq hL (by decide)
end QA
end Go.Proofs.Ytcgaccdiomcglaa
end
section
set_option linter.unusedVariables false
set_option linter.unusedSimpArgs false
namespace Go.Proofs.Ytcgaccdiomcglaa.NW
open Go.RowKit Go.Proofs.YtcgaccdiomcglaaW.PrintWords Go.Proofs.YtcgaccdiomcglaaW.PrintLast Go.Proofs.YtcgaccdiomcglaaW.PrintMore
def laws_FnNearest.Pure : Prop := ∀ (l0 : List Int) (l1 : List Int), l0.length ≤ maxLen → l0.length * 1 ≤ 140737488351232 → (∀ x ∈ l0, (Lit.int .u8 x).wf = true) → l1.length ≤ maxLen → l1.length * 1 ≤ 140737488351232 → (∀ x ∈ l1, (Lit.int .u8 x).wf = true) → ∃ k, laws_FnNearest.f k l0 l1 = some true
theorem laws_FnNearest.walk (P : laws_FnNearest.Pure) (a0 : Option Addr) (len0 cap0 : Nat) (z0 : List Int) (a1 : Option Addr) (len1 cap1 : Nat) (z1 : List Int) (w : World) (w0 : (a0 = none ∧ len0 = 0 ∧ cap0 = 0 ∧ z0 = []) ∨ ∃ x, a0 = some x ∧ len0 ≤ cap0 ∧ cap0 ≤ maxLen ∧ z0.length = cap0 ∧ (∀ i, i < z0.length → w.cell? (x.add i) = some (.int .u8 (z0.getD i 0))) ∧ ∀ n ∈ z0, (Lit.int .u8 n).wf = true) (y0 : len0 * 1 ≤ 140737488351232) (w1 : (a1 = none ∧ len1 = 0 ∧ cap1 = 0 ∧ z1 = []) ∨ ∃ x, a1 = some x ∧ len1 ≤ cap1 ∧ cap1 ≤ maxLen ∧ z1.length = cap1 ∧ (∀ i, i < z1.length → w.cell? (x.add i) = some (.int .u8 (z1.getD i 0))) ∧ ∀ n ∈ z1, (Lit.int .u8 n).wf = true) (y1 : len1 * 1 ≤ 140737488351232) :
    Calls Try.prog 4 #[.slice a0 len0 cap0, .slice a1 len1 cap1] w fun e w' => e = .returned (.bool true) ∧ Below w.heap.size w w' := by
  obtain ⟨l0, rfl, hr0, hm0, hw0, hc0⟩ := ReadsInt.ofRowC w0
  obtain ⟨l1, rfl, hr1, hm1, hw1, hc1⟩ := ReadsInt.ofRowC w1
  obtain ⟨k, h⟩ := P l0 l1 hm0 y0 hw0 hm1 y1 hw1
  refine (laws_FnNearest.calls k _ _ l0 _ _ l1 w (Kd.C_of_reads (d := (0 : Int)) (h1 := fun _ => rfl) hr0) hc0 (Kd.C_of_reads (d := (0 : Int)) (h1 := fun _ => rfl) hr1) hc1 h).mono ?_
  rintro e w' ⟨rfl, hd⟩
  exact ⟨rfl, hd⟩
theorem pure : laws_FnNearest.Pure := by
  intro l0 l1 _ _ g0 _ _ g1
  have ok : ∀ l : List Int, (∀ x ∈ l, (Lit.int .u8 x).wf = true) → QA.okS l := fun l h x hx => by
    have := h x hx
    simp only [Lit.wf, IntKind.min, IntKind.max, IntKind.signed, IntKind.bits, Bool.and_eq_true, decide_eq_true_eq] at this
    simpa using this
  exact ⟨800, QA.law_okN (ok l0 g0) (ok l1 g1)⟩
end Go.Proofs.Ytcgaccdiomcglaa.NW
end
