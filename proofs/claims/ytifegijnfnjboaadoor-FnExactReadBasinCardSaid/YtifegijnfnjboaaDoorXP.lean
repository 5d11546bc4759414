/- Decimal texts: strconv.FormatInt, strconv.ParseInt, impl.ReadDecimal, and strings.Split, Cut, IndexByte under one condition: GLJ, what the package-level variables hold. -/
import Derived.Test.YtifegijnfnjboaaDoorXS
import Derived.Test.YtifegijnfnjboaaDoorShelfB
import Derived.Lib.AtoiErrMem
set_option linter.unusedVariables false
set_option linter.unusedSimpArgs false
namespace Go.Proofs.YtifegijnfnjboaaDoor
open Go.RowKit Go.Proofs.YtifegijnfnjboaaDoorW.PrintWords Go.Proofs.YtifegijnfnjboaaDoorW.PrintLast Go.Proofs.YtifegijnfnjboaaDoorW.PrintMore
/-- What the walks need of the package-level variables. -/
structure GLJ (w : World) : Prop where
  gl : GL w
  pow10 : Lib.TabIs Tryd.prog w "internal/strconv.uint64pow10" .u64 Lib.pow10Tab
  errS : ∃ tp p, w.var? Tryd.prog "strconv.ErrSyntax" = some #[.iface tp p]
  errR : ∃ tp p, w.var? Tryd.prog "strconv.ErrRange" = some #[.iface tp p]
theorem var_below {n : String} {g : Nat} {w w' : World} {cs : Array Value} (hg : Tryd.prog.globalNamed n = some g) (h : w.var? Tryd.prog n = some cs) (hb : Below w.heap.size w w') : w'.var? Tryd.prog n = some cs := by
  unfold World.var? at h ⊢
  rw [hg] at h ⊢
  simp only [Option.bind_some] at h ⊢
  have hlt : g < w.heap.size := by
    rcases Nat.lt_or_ge g w.heap.size with h' | h'
    · exact h'
    · rw [Array.getElem?_eq_none h'] at h; cases h
  rw [hb.block g hlt]
  exact h
theorem tab_below {n : String} {g : Nat} {k : IntKind} {zs : List Int} {w w' : World} (hg : Tryd.prog.globalNamed n = some g) (h : Lib.TabIs Tryd.prog w n k zs) (hb : Below w.heap.size w w') : Lib.TabIs Tryd.prog w' n k zs := by
  unfold Lib.TabIs at h ⊢
  exact var_below hg h hb
theorem gPow10 : Tryd.prog.globalNamed "internal/strconv.uint64pow10" = some 2 := by kernel_rfl
theorem gErrS : Tryd.prog.globalNamed "strconv.ErrSyntax" = some 3 := by kernel_rfl
theorem gErrR : Tryd.prog.globalNamed "strconv.ErrRange" = some 4 := by kernel_rfl
theorem GLJ.of_below {w w' : World} (h : GLJ w) (hb : Below w.heap.size w w') : GLJ w' := by
  obtain ⟨hg, hp, ⟨t1, p1, h1⟩, ⟨t2, p2, h2⟩⟩ := h
  exact ⟨hg.of_below hb, tab_below gPow10 hp hb, ⟨t1, p1, var_below gErrS h1 hb⟩, ⟨t2, p2, var_below gErrR h2 hb⟩⟩
namespace XP
/-- strings.Split. -/
def strings_Split.f (a0 a1 : ByteArray) : Option (List ByteArray) := XS.strings_Split.f a0 a1
theorem strings_Split.calls (a0 a1 : ByteArray) (r : List ByteArray) (w : World) (h : strings_Split.f a0 a1 = some r) (gl : GLJ w := by first | exact (‹Aside0 (GLJ _)›).out | exact GLJ.of_below (‹Aside0 (GLJ _)›).out (by repeat (first | (with_reducible first | exact (‹Aside0 (Below _ _ _)›).out | apply below_alloc | apply pw_below_drewN | apply below_drew1 | refine below_set ?_ (Aside0.out (by assumption)) | exact Below.refl _ _) | exact (‹Aside0 (Below _ _ _)›).out))) :
    Calls Tryd.prog 46 #[.string a0, .string a1] w fun e w' => ∃ v0_ : Value, e = .returned (v0_) ∧ Kd.R Kd.string 9 w' w.heap.size (fun _ => True) v0_ r ∧ Below w.heap.size w w' := XS.strings_Split.calls a0 a1 r w h gl.gl
/-- strings.Cut. -/
def strings_Cut.f (a0 a1 : ByteArray) : Option (ByteArray × ByteArray × Bool) := XS.strings_Cut.f a0 a1
theorem strings_Cut.calls (a0 a1 : ByteArray) (r1 r2 : ByteArray) (r3 : Bool) (w : World) (h : strings_Cut.f a0 a1 = some (r1, r2, r3)) (gl : GLJ w := by first | exact (‹Aside0 (GLJ _)›).out | exact GLJ.of_below (‹Aside0 (GLJ _)›).out (by repeat (first | (with_reducible first | exact (‹Aside0 (Below _ _ _)›).out | apply below_alloc | apply pw_below_drewN | apply below_drew1 | refine below_set ?_ (Aside0.out (by assumption)) | exact Below.refl _ _) | exact (‹Aside0 (Below _ _ _)›).out))) :
    Calls Tryd.prog 35 #[.string a0, .string a1] w fun e w' => e = .returned (.tuple #[.string r1, .string r2, .bool r3]) ∧ Drawn0 w w' := XS.strings_Cut.calls a0 a1 r1 r2 r3 w h gl.gl
/-- strings.IndexByte. -/
def strings_IndexByte.f (a0 : ByteArray) (a1 : Int) : Option Int := XS.strings_IndexByte.f a0 a1
theorem strings_IndexByte.calls (a0 : ByteArray) (a1 : Int) (r : Int) (w : World) (h : strings_IndexByte.f a0 a1 = some r) (gl : GLJ w := by first | exact (‹Aside0 (GLJ _)›).out | exact GLJ.of_below (‹Aside0 (GLJ _)›).out (by repeat (first | (with_reducible first | exact (‹Aside0 (Below _ _ _)›).out | apply below_alloc | apply pw_below_drewN | apply below_drew1 | refine below_set ?_ (Aside0.out (by assumption)) | exact Below.refl _ _) | exact (‹Aside0 (Below _ _ _)›).out))) :
    Calls Tryd.prog 93 #[.string a0, .int .u8 a1] w fun e w' => e = .returned (.int .i64 r) ∧ Drawn0 w w' := XS.strings_IndexByte.calls a0 a1 r w h gl.gl
theorem grow_below (w : World) (n : Nat) (os : Array Obj) : Below w.heap.size w (Sort.grow (w.drewN n) os) := by
  refine ⟨rfl, rfl, rfl, ?_, ?_⟩
  · show w.heap.size ≤ (w.heap ++ os).size
    simp
  · intro k hk
    show (w.heap ++ os)[k]? = w.heap[k]?
    rw [Array.getElem?_append_left hk]
theorem formatInt (n : Int) (h0 : -9223372036854775808 ≤ n) (h1 : n ≤ 9223372036854775807) (w : World) (gl : GLJ w) :
    Calls Tryd.prog 84 #[.int .i64 n, .int .i64 10] w fun e w' => e = .returned (.string ⟨(Lib.itoa n).toArray⟩) ∧ Below w.heap.size w w' :=
  (Tryd.strconv_FormatInt_10 n h0 h1 w gl.pow10).mono fun e w' ⟨he, k, os, hw⟩ => ⟨he, by subst hw; exact grow_below _ _ _⟩
theorem parseOk (s : ByteArray) (hs : s.size ≤ 1073741824) (v : Int) (h : Lib.parseIntB 64 s.data.toList = .ok v) (w : World) :
    Calls Tryd.prog 92 #[.string s, .int .i64 10, .int .i64 64] w fun e w' => e = .returned (.tuple #[.int .i64 v, .nilIface]) ∧ Below w.heap.size w w' :=
  (Tryd.strconv_ParseInt_10_at64_ok s (by omega) v h w).mono fun e w' ⟨he, hw⟩ => ⟨he, by
    rcases hw with rfl | ⟨t, rfl⟩
    · exact Below.refl _ _
    · exact Lib.bytesWorld_below _ _ _⟩
theorem parseBad (s : ByteArray) (hs : s.size ≤ 1073741824) (h : ∀ v, Lib.parseIntB 64 s.data.toList ≠ .ok v) (w : World) (gl : GLJ w) :
    Calls Tryd.prog 92 #[.string s, .int .i64 10, .int .i64 64] w fun e w' => ∃ n N, e = .returned (.tuple #[.int .i64 n, .iface 156 (.pointer (some ⟨N, 0, none⟩))]) ∧ Below w.heap.size w w' := by
  cases hp : Lib.parseIntB 64 s.data.toList with
  | ok v => exact absurd hp (h v)
  | «syntax» =>
    obtain ⟨tp, p, hv⟩ := gl.errS
    exact (Tryd.strconv_ParseInt_10_at64_syntax_var s (by omega) hp tp p w hv).mono fun e w' ⟨N, he, _, _, hb⟩ => ⟨_, N, he, hb⟩
  | range =>
    obtain ⟨tp, p, hv⟩ := gl.errR
    exact (Tryd.strconv_ParseInt_10_at64_range_var s (by omega) hp tp p w hv).mono fun e w' ⟨N, he, _, _, hb⟩ => ⟨_, N, he, hb⟩
set_option maxHeartbeats 4000000 in
set_option maxRecDepth 100000 in
theorem in57 (a b c : Int) (w : World) : Calls Tryd.prog 57 #[.int .i64 a, .int .i64 b, .int .i64 c] w fun e w' => e = .returned (.bool (decide (b ≤ a) && decide (a ≤ c))) ∧ Drawn0 w w' := by
  by_cases h : b ≤ a
  · have hd : decide (b ≤ a) = true := decide_eq_true h
    rw [hd, Bool.true_and]
    go_enter Tryd.func57, Tryd.ntmps57
    go_wp2
    go_ret
    exact ⟨by first | rfl | (simp; done), by first | exact Drawn0.refl _ | exact ⟨_, rfl⟩⟩
  · have hd : decide (b ≤ a) = false := decide_eq_false h
    rw [hd, Bool.false_and]
    go_enter Tryd.func57, Tryd.ntmps57
    go_wp2
    go_ret
    exact ⟨by first | rfl | (simp; done), by first | exact Drawn0.refl _ | exact ⟨_, rfl⟩⟩
set_option maxHeartbeats 4000000 in
set_option maxRecDepth 100000 in
theorem decimal (n : Int) (h0 : -9223372036854775808 ≤ n) (h1 : n ≤ 9223372036854775807) (w : World) (gl : GLJ w) :
    Calls Tryd.prog 58 #[.int .i64 n] w fun e w' => e = .returned (.string ⟨(Lib.itoa n).toArray⟩) ∧ Below w.heap.size w w' := by
  go_enter Tryd.func58, Tryd.ntmps58
  go_wp2_with (first | (go_at_call 84; refine (formatInt n h0 h1 _ gl).mono ?_; rintro e w1 ⟨rfl, hb⟩))
  go_ret
  exact ⟨by first | rfl | (simp; done), hb⟩
/-- impl.ReadDecimal. -/
def rdec (s : ByteArray) : Int × Bool := match Lib.parseIntB 64 s.data.toList with
  | .ok v => if (-1000000000000000 ≤ v ∧ v ≤ 1000000000000000) ∧ Lib.itoa v = s.toList then (v, true) else (0, false)
  | _ => (0, false)
def ReadDecimal.f (a0 : ByteArray) : Option (Int × Bool) := if a0.size ≤ 1073741824 then some (rdec a0) else none
set_option maxHeartbeats 4000000 in
set_option maxRecDepth 100000 in
theorem ReadDecimal.calls (a0 : ByteArray) (r1 : Int) (r2 : Bool) (w : World) (h : ReadDecimal.f a0 = some (r1, r2)) (gl : GLJ w := by first | exact (‹Aside0 (GLJ _)›).out | exact GLJ.of_below (‹Aside0 (GLJ _)›).out (by repeat (first | (with_reducible first | exact (‹Aside0 (Below _ _ _)›).out | apply below_alloc | apply pw_below_drewN | apply below_drew1 | refine below_set ?_ (Aside0.out (by assumption)) | exact Below.refl _ _) | exact (‹Aside0 (Below _ _ _)›).out))) :
    Calls Tryd.prog 68 #[.string a0] w fun e w' => e = .returned (.tuple #[.int .i64 r1, .bool r2]) ∧ Below w.heap.size w w' := by
  unfold ReadDecimal.f at h
  split at h
  case isFalse => cases h
  rename_i hs
  replace h := Option.some.inj h
  unfold rdec at h
  have HG := Aside0.mk gl
  have HS := Aside0.mk hs
  clear gl hs
  cases hp : Lib.parseIntB 64 a0.data.toList with
  | ok v =>
    rw [hp] at h
    simp only at h
    have HP := Aside0.mk hp
    clear hp
    by_cases c1 : -1000000000000000 ≤ v ∧ v ≤ 1000000000000000
    · have c1a : (decide ((-1000000000000000 : Int) ≤ v) && decide (v ≤ (1000000000000000 : Int))) = true := by rw [decide_eq_true c1.1, decide_eq_true c1.2]; rfl
      have C1 := Aside0.mk c1
      by_cases c2 : Lib.itoa v = a0.toList
      · rw [if_pos ⟨c1, c2⟩] at h
        obtain ⟨rfl, rfl⟩ := Prod.mk.inj h
        have c2a : (Lib.itoa v != a0.toList) = false := bne_eq_false_iff_eq.mpr c2
        have c2b : (Lib.itoa v == a0.toList) = true := beq_iff_eq.mpr c2
        clear c1 h
        clear c2
        go_enter Tryd.func68, Tryd.ntmps68
        go_wp2_with (first | (go_at_call 92; refine (parseOk _ HS.out v HP.out _).mono ?_; rintro e w1 ⟨rfl, hb⟩; have HB := Aside0.mk hb; clear hb) | (go_at_call 57; refine (in57 _ _ _ _).mono ?_; rw [c1a]; rintro e w2 ⟨rfl, ⟨nd, rfl⟩⟩) | (go_at_call 58; refine (decimal v (by have := C1.out; omega) (by have := C1.out; omega) _ (HG.out.of_below (pw_below_drewN HB.out _))).mono ?_; rintro e w3 ⟨rfl, hb2⟩; have HB2 := Aside0.mk (below_step (pw_below_drewN HB.out _) hb2); clear hb2))
        go_ret2
        exact ⟨by first | rfl | (simp; done), HB2.out⟩
      · rw [if_neg (fun x => c2 x.2)] at h
        obtain ⟨rfl, rfl⟩ := Prod.mk.inj h
        have c2a : (Lib.itoa v != a0.toList) = true := bne_iff_ne.mpr c2
        have c2b : (Lib.itoa v == a0.toList) = false := beq_eq_false_iff_ne.mpr c2
        clear c1 h
        (try clear c2)
        go_enter Tryd.func68, Tryd.ntmps68
        go_wp2_with (first | (go_at_call 92; refine (parseOk _ HS.out v HP.out _).mono ?_; rintro e w1 ⟨rfl, hb⟩; have HB := Aside0.mk hb; clear hb) | (go_at_call 57; refine (in57 _ _ _ _).mono ?_; rw [c1a]; rintro e w2 ⟨rfl, ⟨nd, rfl⟩⟩) | (go_at_call 58; refine (decimal v (by have := C1.out; omega) (by have := C1.out; omega) _ (HG.out.of_below (pw_below_drewN HB.out _))).mono ?_; rintro e w3 ⟨rfl, hb2⟩; have HB2 := Aside0.mk (below_step (pw_below_drewN HB.out _) hb2); clear hb2))
        go_ret2
        exact ⟨by first | rfl | (simp; done), HB2.out⟩
    · rw [if_neg (fun x => c1 x.1)] at h
      obtain ⟨rfl, rfl⟩ := Prod.mk.inj h
      have c1a : (decide ((-1000000000000000 : Int) ≤ v) && decide (v ≤ (1000000000000000 : Int))) = false := by
        rw [Bool.and_eq_false_iff, decide_eq_false_iff_not, decide_eq_false_iff_not]
        omega
      clear c1 h
      go_enter Tryd.func68, Tryd.ntmps68
      go_wp2_with (first | (go_at_call 92; refine (parseOk _ HS.out v HP.out _).mono ?_; rintro e w1 ⟨rfl, hb⟩; have HB := Aside0.mk hb; clear hb) | (go_at_call 57; refine (in57 _ _ _ _).mono ?_; rw [c1a]; rintro e w2 ⟨rfl, ⟨nd, rfl⟩⟩))
      go_ret2
      exact ⟨by first | rfl | (simp; done), pw_below_drewN HB.out _⟩
  | «syntax» =>
    rw [hp] at h
    obtain ⟨rfl, rfl⟩ := Prod.mk.inj h
    have HP : Aside0 (∀ v, Lib.parseIntB 64 a0.data.toList ≠ .ok v) := ⟨fun v e => by rw [hp] at e; cases e⟩
    clear hp h
    go_enter Tryd.func68, Tryd.ntmps68
    go_wp2_with (first | (go_at_call 92; refine (parseBad _ HS.out HP.out _ HG.out).mono ?_; rintro e w1 ⟨n, N, rfl, hb⟩))
    go_ret2
    exact ⟨by first | rfl | (simp; done), hb⟩
  | range =>
    rw [hp] at h
    obtain ⟨rfl, rfl⟩ := Prod.mk.inj h
    have HP : Aside0 (∀ v, Lib.parseIntB 64 a0.data.toList ≠ .ok v) := ⟨fun v e => by rw [hp] at e; cases e⟩
    clear hp h
    go_enter Tryd.func68, Tryd.ntmps68
    go_wp2_with (first | (go_at_call 92; refine (parseBad _ HS.out HP.out _ HG.out).mono ?_; rintro e w1 ⟨n, N, rfl, hb⟩))
    go_ret2
    exact ⟨by first | rfl | (simp; done), hb⟩
end XP
end Go.Proofs.YtifegijnfnjboaaDoor
