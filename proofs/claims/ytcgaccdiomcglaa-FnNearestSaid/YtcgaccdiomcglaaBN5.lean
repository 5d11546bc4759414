/- Words, walks and plain laws that a claim of this seat needs, one text after the other (part 5). -/
import Derived.Test.YtcgaccdiomcglaaBN4
import Derived.Lib.AppendZerosOnto
import Derived.Lib.Walk
import Derived.Lib.SliceRun
import Derived.Shelf.RegionOpenPlain
import Derived.Deep.RegionLaw
set_option linter.unusedVariables false
set_option linter.unusedSimpArgs false
section
set_option linter.unusedVariables false
set_option linter.unusedSimpArgs false
namespace Go.Proofs.Ytcgaccdiomcglaa
open Go.RowKit Go.Proofs.YtcgaccdiomcglaaW.PrintWords Go.Proofs.YtcgaccdiomcglaaW.PrintLast Go.Proofs.YtcgaccdiomcglaaW.PrintMore
namespace XJ
end XJ
end Go.Proofs.Ytcgaccdiomcglaa
end
section
namespace Go.Proofs.Ytcgaccdiomcglaa.SG
open Go.Proofs.Ytcgaccdiomcglaa.S0
open Go.RowKit Go.Proofs.YtcgaccdiomcglaaW.PrintWords Go.Proofs.YtcgaccdiomcglaaW.PrintLast Go.Proofs.YtcgaccdiomcglaaW.PrintMore
attribute [local go_sem] max2_int min2_int max_two min_two max_three min_three max_four min_four
set_option linter.unusedVariables false
set_option linter.unusedSimpArgs false
attribute [local go_sem high] binOp_fge binOp_fle
def errW : Option Int → Value
  | none => .nilIface
  | some c => .iface 0 (.int .i64 c)
theorem errW_none : errW none = .nilIface := rfl
theorem errW_some (c : Int) : errW (some c) = .iface 0 (.int .i64 c) := rfl
end Go.Proofs.Ytcgaccdiomcglaa.SG
end
section
namespace Go.Proofs.Ytcgaccdiomcglaa.SG
open Go.Proofs.Ytcgaccdiomcglaa.S0
open Go.RowKit Go.Proofs.YtcgaccdiomcglaaW.PrintWords Go.Proofs.YtcgaccdiomcglaaW.PrintLast Go.Proofs.YtcgaccdiomcglaaW.PrintMore
attribute [local go_sem] max2_int min2_int max_two min_two max_three min_three max_four min_four
set_option linter.unusedVariables false
set_option linter.unusedSimpArgs false
attribute [local go_sem high] binOp_fge binOp_fle
end Go.Proofs.Ytcgaccdiomcglaa.SG
end
section
namespace Go.Proofs.Ytcgaccdiomcglaa.SM
open Go.Proofs.Ytcgaccdiomcglaa.S0
open Go.RowKit Go.Proofs.YtcgaccdiomcglaaW.PrintWords Go.Proofs.YtcgaccdiomcglaaW.PrintLast Go.Proofs.YtcgaccdiomcglaaW.PrintMore
attribute [local go_sem] max2_int min2_int max_two min_two max_three min_three max_four min_four
set_option linter.unusedVariables false
set_option linter.unusedSimpArgs false
attribute [local go_sem high] binOp_fge binOp_fle
def errW : Option Int → Value
  | none => .nilIface
  | some c => .iface 0 (.int .i64 c)
theorem errW_none : errW none = .nilIface := rfl
theorem errW_some (c : Int) : errW (some c) = .iface 0 (.int .i64 c) := rfl
end Go.Proofs.Ytcgaccdiomcglaa.SM
end
section
namespace Go.Proofs.Ytcgaccdiomcglaa.SM
open Go.Proofs.Ytcgaccdiomcglaa.S0
open Go.RowKit Go.Proofs.YtcgaccdiomcglaaW.PrintWords Go.Proofs.YtcgaccdiomcglaaW.PrintLast Go.Proofs.YtcgaccdiomcglaaW.PrintMore
attribute [local go_sem] max2_int min2_int max_two min_two max_three min_three max_four min_four
set_option linter.unusedVariables false
set_option linter.unusedSimpArgs false
attribute [local go_sem high] binOp_fge binOp_fle
end Go.Proofs.Ytcgaccdiomcglaa.SM
end
section
namespace Go.Proofs.Ytcgaccdiomcglaa.SC
open Go.Proofs.Ytcgaccdiomcglaa.S0 Go.Proofs.Ytcgaccdiomcglaa.SG
open Go.RowKit Go.Proofs.YtcgaccdiomcglaaW.PrintWords Go.Proofs.YtcgaccdiomcglaaW.PrintLast Go.Proofs.YtcgaccdiomcglaaW.PrintMore
attribute [local go_sem] max2_int min2_int max_two min_two max_three min_three max_four min_four
set_option linter.unusedVariables false
set_option linter.unusedSimpArgs false
attribute [local go_sem high] binOp_fge binOp_fle
def errW : Option Int → Value
  | none => .nilIface
  | some c => .iface 0 (.int .i64 c)
theorem errW_none : errW none = .nilIface := rfl
theorem errW_some (c : Int) : errW (some c) = .iface 0 (.int .i64 c) := rfl
end Go.Proofs.Ytcgaccdiomcglaa.SC
end
section
namespace Go.Proofs.Ytcgaccdiomcglaa.SC
open Go.Proofs.Ytcgaccdiomcglaa.S0 Go.Proofs.Ytcgaccdiomcglaa.SG
open Go.RowKit Go.Proofs.YtcgaccdiomcglaaW.PrintWords Go.Proofs.YtcgaccdiomcglaaW.PrintLast Go.Proofs.YtcgaccdiomcglaaW.PrintMore
attribute [local go_sem] max2_int min2_int max_two min_two max_three min_three max_four min_four
set_option linter.unusedVariables false
set_option linter.unusedSimpArgs false
attribute [local go_sem high] binOp_fge binOp_fle
end Go.Proofs.Ytcgaccdiomcglaa.SC
end
section
namespace Go.Proofs.Ytcgaccdiomcglaa.SC
open Go.Proofs.Ytcgaccdiomcglaa.S0 Go.Proofs.Ytcgaccdiomcglaa.SG
open Go.RowKit Go.Proofs.YtcgaccdiomcglaaW.PrintWords Go.Proofs.YtcgaccdiomcglaaW.PrintLast Go.Proofs.YtcgaccdiomcglaaW.PrintMore
attribute [local go_sem] max2_int min2_int max_two min_two max_three min_three max_four min_four
set_option linter.unusedVariables false
set_option linter.unusedSimpArgs false
attribute [local go_sem high] binOp_fge binOp_fle
end Go.Proofs.Ytcgaccdiomcglaa.SC
end
section
namespace Go.Proofs.Ytcgaccdiomcglaa.SJ
open Go.Proofs.Ytcgaccdiomcglaa.S0 Go.Proofs.Ytcgaccdiomcglaa.SG
open Go.RowKit Go.Proofs.YtcgaccdiomcglaaW.PrintWords Go.Proofs.YtcgaccdiomcglaaW.PrintLast Go.Proofs.YtcgaccdiomcglaaW.PrintMore
attribute [local go_sem] max2_int min2_int max_two min_two max_three min_three max_four min_four
set_option linter.unusedVariables false
set_option linter.unusedSimpArgs false
attribute [local go_sem high] binOp_fge binOp_fle
def errW : Option Int → Value
  | none => .nilIface
  | some c => .iface 0 (.int .i64 c)
theorem errW_none : errW none = .nilIface := rfl
theorem errW_some (c : Int) : errW (some c) = .iface 0 (.int .i64 c) := rfl
end Go.Proofs.Ytcgaccdiomcglaa.SJ
end
section
namespace Go.Proofs.Ytcgaccdiomcglaa.SJ
open Go.Proofs.Ytcgaccdiomcglaa.S0 Go.Proofs.Ytcgaccdiomcglaa.SG
open Go.RowKit Go.Proofs.YtcgaccdiomcglaaW.PrintWords Go.Proofs.YtcgaccdiomcglaaW.PrintLast Go.Proofs.YtcgaccdiomcglaaW.PrintMore
attribute [local go_sem] max2_int min2_int max_two min_two max_three min_three max_four min_four
set_option linter.unusedVariables false
set_option linter.unusedSimpArgs false
attribute [local go_sem high] binOp_fge binOp_fle
end Go.Proofs.Ytcgaccdiomcglaa.SJ
end
section
namespace Go.Proofs.Ytcgaccdiomcglaa.SJ
open Go.Proofs.Ytcgaccdiomcglaa.S0 Go.Proofs.Ytcgaccdiomcglaa.SG
open Go.RowKit Go.Proofs.YtcgaccdiomcglaaW.PrintWords Go.Proofs.YtcgaccdiomcglaaW.PrintLast Go.Proofs.YtcgaccdiomcglaaW.PrintMore
attribute [local go_sem] max2_int min2_int max_two min_two max_three min_three max_four min_four
set_option linter.unusedVariables false
set_option linter.unusedSimpArgs false
attribute [local go_sem high] binOp_fge binOp_fle
end Go.Proofs.Ytcgaccdiomcglaa.SJ
end
section
namespace Go.Proofs.Ytcgaccdiomcglaa.SF
open Go.Proofs.Ytcgaccdiomcglaa.S0
open Go.RowKit Go.Proofs.YtcgaccdiomcglaaW.PrintWords Go.Proofs.YtcgaccdiomcglaaW.PrintLast Go.Proofs.YtcgaccdiomcglaaW.PrintMore
attribute [local go_sem] max2_int min2_int max_two min_two max_three min_three max_four min_four
set_option linter.unusedVariables false
set_option linter.unusedSimpArgs false
attribute [local go_sem high] binOp_fge binOp_fle
def errW : Option Int → Value
  | none => .nilIface
  | some c => .iface 0 (.int .i64 c)
theorem errW_none : errW none = .nilIface := rfl
theorem errW_some (c : Int) : errW (some c) = .iface 0 (.int .i64 c) := rfl
end Go.Proofs.Ytcgaccdiomcglaa.SF
end
section
namespace Go.Proofs.Ytcgaccdiomcglaa.SF
open Go.Proofs.Ytcgaccdiomcglaa.S0
open Go.RowKit Go.Proofs.YtcgaccdiomcglaaW.PrintWords Go.Proofs.YtcgaccdiomcglaaW.PrintLast Go.Proofs.YtcgaccdiomcglaaW.PrintMore
attribute [local go_sem] max2_int min2_int max_two min_two max_three min_three max_four min_four
set_option linter.unusedVariables false
set_option linter.unusedSimpArgs false
attribute [local go_sem high] binOp_fge binOp_fle
end Go.Proofs.Ytcgaccdiomcglaa.SF
end
section
namespace Go.Proofs.Ytcgaccdiomcglaa.SF
open Go.Proofs.Ytcgaccdiomcglaa.S0
open Go.RowKit Go.Proofs.YtcgaccdiomcglaaW.PrintWords Go.Proofs.YtcgaccdiomcglaaW.PrintLast Go.Proofs.YtcgaccdiomcglaaW.PrintMore
attribute [local go_sem] max2_int min2_int max_two min_two max_three min_three max_four min_four
set_option linter.unusedVariables false
set_option linter.unusedSimpArgs false
attribute [local go_sem high] binOp_fge binOp_fle
end Go.Proofs.Ytcgaccdiomcglaa.SF
end
section
namespace Go.Proofs.Ytcgaccdiomcglaa.SF
open Go.Proofs.Ytcgaccdiomcglaa.S0
open Go.RowKit Go.Proofs.YtcgaccdiomcglaaW.PrintWords Go.Proofs.YtcgaccdiomcglaaW.PrintLast Go.Proofs.YtcgaccdiomcglaaW.PrintMore
attribute [local go_sem] max2_int min2_int max_two min_two max_three min_three max_four min_four
set_option linter.unusedVariables false
set_option linter.unusedSimpArgs false
attribute [local go_sem high] binOp_fge binOp_fle
end Go.Proofs.Ytcgaccdiomcglaa.SF
end
section
set_option linter.unusedVariables false
set_option linter.unusedSimpArgs false
namespace Go.Proofs.Ytcgaccdiomcglaa
open Go.RowKit Go.Proofs.YtcgaccdiomcglaaW.PrintWords Go.Proofs.YtcgaccdiomcglaaW.PrintLast Ieee
namespace QA
open FR PU XL
end QA
end Go.Proofs.Ytcgaccdiomcglaa
end
section
set_option linter.unusedVariables false
set_option linter.unusedSimpArgs false
namespace Go.Proofs.Ytcgaccdiomcglaa
open Go.RowKit Go.Proofs.YtcgaccdiomcglaaW.PrintWords Go.Proofs.YtcgaccdiomcglaaW.PrintLast Ieee
namespace QA
open FR PU XL
theorem f_two' : Fk .f32 1073741824 ((2 : Rat) ^ ((1 : Nat) : Int)) := ⟨false, 8388608, -22, by decide, by decide +kernel⟩
theorem d20 : hu double 20 ≤ 1 / 1000000 := by decide +kernel
theorem not_gt {x y : Nat} {a b : Rat} (hx : Fk .f64 x a) (hy : Fk .f64 y b) (h : a ≤ b) : ¬ (FloatKind.f64.format.order x y == some .gt) = true := by
  rw [show FloatKind.f64.format.order x y = some (FR.cmp a b) from order_val hx hy]
  unfold FR.cmp
  by_cases h1 : a < b
  · rw [if_pos h1]
    decide
  · rw [if_neg h1, if_pos (by grind)]
    decide
end QA
end Go.Proofs.Ytcgaccdiomcglaa
end
section
set_option linter.unusedVariables false
set_option linter.unusedSimpArgs false
namespace Go.Proofs.Ytcgaccdiomcglaa
open Go.RowKit Go.Proofs.YtcgaccdiomcglaaW.PrintWords Go.Proofs.YtcgaccdiomcglaaW.PrintLast Go.Proofs.YtcgaccdiomcglaaW.PrintMore
namespace XD
def delW.f (l0 : List S0.S46) (a1 a2 : Int) : Option (List S0.S46) := if 0 ≤ a1 ∧ a1 < (l0.length : Int) ∧ a2 = a1 + 1 then some (l0.eraseIdx a1.toNat) else none
abbrev z0 : Value := .complex .f32 0 0
abbrev z1 : Value := .float .f32 0
theorem run_clear (w : World) (ty : TypeId) (b o n c : Nat) (hn : n = 1) (hc : ∀ j, j < 2 → (w.cell? ⟨b, o + j, none⟩).isSome = true) (hf : ∀ j, j < 2 → w.frozen? ⟨b, o + j, none⟩ = false) :
    (Builtin.clear_ #[24] ty #[.slice (some ⟨b, o, none⟩) n c]).run Try.prog w = .ok (.tuple #[]) (w.setCells b o [z0, z1]) := by
  subst hn
  obtain ⟨i0, hi0, hzz⟩ := Option.map_eq_some_iff.1 S0.info46
  simp only [Prod.mk.injEq] at hzz
  obtain ⟨hz, -, -⟩ := hzz
  have hzc : (Builtin.zeroCells (.agg #[z0, z1] : Value).cells 1).toList = [z0, z1] := by kernel_rfl
  have hst := run_storeCells_cells (P := Try.prog) b o [z0, z1] 0 w (by simpa using hc) (by simpa using hf) (by intro v hv; simp only [List.mem_cons, List.not_mem_nil, or_false] at hv; rcases hv with rfl | rfl <;> rfl)
  simp only [Nat.add_zero] at hst
  simp [Builtin.clear_, run_underlying Try.underlying24, zeroValue, typeInfo, hi0, hz, hzc, hst]
theorem reps_del {R : S0.S46 → List Value → Prop} {l : List S0.S46} {inner : List Value} (h : Reps R 2 l inner) {i : Nat} (hi : i < l.length) : Reps R 2 (l.eraseIdx i) (inner.take (i * 2) ++ inner.drop ((i + 1) * 2)) := by
  obtain ⟨h1, h2⟩ := h
  refine ⟨?_, fun j p hj => ?_⟩
  · rw [List.length_append, List.length_take, List.length_drop, h1, List.length_eraseIdx_of_lt hi]
    omega
  · rw [List.getElem?_eraseIdx] at hj
    by_cases c : j < i
    · rw [if_pos c] at hj
      have := h2 j p hj
      rw [List.drop_append_of_le_length (by rw [List.length_take, h1]; omega), List.take_append_of_le_length (by rw [List.length_drop, List.length_take, h1]; omega), List.drop_take, List.take_take, Nat.min_eq_left (by omega)]
      exact this
    · rw [if_neg c] at hj
      have := h2 (j + 1) p hj
      rw [List.drop_append, List.length_take, h1, Nat.min_eq_left (by omega), List.drop_eq_nil_of_le (by rw [List.length_take, h1]; omega), List.nil_append, List.drop_drop, show (i + 1) * 2 + (j * 2 - i * 2) = (j + 1) * 2 by omega]
      exact this
set_option maxHeartbeats 8000000 in
set_option maxRecDepth 100000 in
theorem cells_calls (g n cap i j : Nat) (hij : Aside0 (j = i + 1)) (N1 : Nat) (hN1 : Aside0 (N1 = n - 1)) (cur : Array Value) (w : World) (hg : w.heap[g]? = some (.cells cur 46 (0, 0))) (hs : cur.size = cap * 2) (hnc : n ≤ cap) (hcm : cap ≤ 9223372036854775807) (hi : i < n) (h1 : ∀ u ∈ cur.toList.take (n * 2), u.oneCell' = true) :
    Calls Try.prog 88 #[.slice (some ⟨g, 0, none⟩) n cap, .int .i64 i, .int .i64 (j : Int)] w fun e w' => e = .returned (.slice (some ⟨g, 0, none⟩) N1 cap) ∧ ∃ m, w' = ((w.drewN m).setCells g (i * 2) ((cur.toList.take (n * 2)).drop (j * 2))).setCells g (N1 * 2) [z0, z1] := by
  have hj1 := hij.out
  have hn1 := hN1.out
  obtain ⟨i0, hi0, hzz⟩ := Option.map_eq_some_iff.1 S0.info46
  simp only [Prod.mk.injEq] at hzz
  obtain ⟨hz, hsz, -⟩ := hzz
  obtain ⟨news, hnews⟩ : ∃ news, news = (cur.toList.take (n * 2)).drop (j * 2) := ⟨_, rfl⟩
  have hlen : news.length = (n - j) * 2 := by rw [hnews, List.length_drop, List.length_take, Array.length_toList, hs]; omega
  have hcell : ∀ (W : World) (o : Nat), W.heap = w.heap → W.cell? ⟨g, o, none⟩ = cur[o]? := fun W o hW => cell_of_row W g o cur 46 (0, 0) (by rw [hW]; exact hg)
  have hfro : ∀ (W : World) (o : Nat), W.heap = w.heap → W.frozen? ⟨g, o, none⟩ = false := fun W o hW => blk_frozen (by rw [hW]; exact hg) o
  obtain ⟨A, hA, hsrc⟩ : ∃ A : Addr, (if cap = j then (some ⟨g, 0, none⟩ : Option Addr) else some ⟨g, j * 2, none⟩) = some A ∧ Aside0 (∀ t u, news[t]? = some u → w.drew.cell? (A.add t) = some u) := by
    by_cases h : cap = j
    · refine ⟨⟨g, 0, none⟩, by simp [h], ⟨fun t u hu => ?_⟩⟩
      have h0 : news.length = 0 := by rw [hlen]; omega
      rw [List.length_eq_zero_iff.1 h0] at hu
      simp at hu
    · refine ⟨⟨g, j * 2, none⟩, by simp [h], ⟨fun t u hu => ?_⟩⟩
      have e : (⟨g, j * 2, none⟩ : Addr).add t = ⟨g, j * 2 + t, none⟩ := by rw [Addr.add_lit]
      rw [e, hcell w.drew _ rfl]
      rw [hnews, List.getElem?_drop, List.getElem?_take] at hu
      split at hu
      · rw [← hu, Array.getElem?_toList]
      · cases hu
  have s1 : Aside0 (news.length = (n - j) * 2) := ⟨hlen⟩
  have s2 : Aside0 (∀ u ∈ news, u.oneCell' = true) := ⟨fun u hu => h1 u (List.mem_of_mem_drop (by rw [hnews] at hu; exact hu))⟩
  have s3 : Aside0 (∀ t, t < news.length → (w.drew.cell? ⟨g, 0 + i * 2 + t, none⟩).isSome = true ∧ w.drew.frozen? ⟨g, 0 + i * 2 + t, none⟩ = false) := ⟨fun t ht => by
    rw [hlen] at ht
    rw [hcell w.drew _ rfl, Array.getElem?_eq_getElem (by rw [hs]; omega)]
    exact ⟨rfl, hfro w.drew _ rfl⟩⟩
  obtain ⟨W1, hW1⟩ : ∃ W1, W1 = w.drew.setCells g (0 + i * 2) news := ⟨_, rfl⟩
  obtain ⟨cur1, c1, c2, c3⟩ := setCells_row news (0 + i * 2) w.drew cur (show w.drew.heap[g]? = _ from hg) (by rw [hs, hlen]; omega)
  rw [← hW1] at c1
  have hcl : ∀ ty, (Builtin.clear_ #[24] ty #[.slice (some ⟨g, N1 * 2, none⟩) (n - N1) (cap - N1)]).run Try.prog W1 = .ok (.tuple #[]) (W1.setCells g (N1 * 2) [z0, z1]) := fun ty =>
    run_clear W1 ty g (N1 * 2) _ _ (by omega) (fun j hj => by rw [cell_of_row W1 g _ cur1 46 (0, 0) c1, Array.getElem?_eq_getElem (by rw [c2, hs]; omega)]; rfl) (fun j hj => blk_frozen c1 _)
  have X : Aside0 (W1 = w.drew.setCells g (0 + i * 2) news) := ⟨hW1⟩
  have hic : i ≤ cap := by omega
  have hjc : j ≤ cap := by omega
  have hi1 : j ≤ n := by omega
  have hne : ¬ ((i : Int) = (j : Int)) := by omega
  have HNW := AS hnews
  have hlt : i < j := by omega
  have hNe : Aside0 (i + (n - j) = N1) := ⟨by omega⟩
  have hNn : N1 < n := by omega
  clear hn1
  clear hj1 hW1 c1 c2 c3 cur1 hcell hfro hnews hlen hg hs h1 hz
  have hel : Try.prog.elem 24 = 46 := by simp [Program.elem, Try.underlying24]
  have hsl : ∀ W : World, (Instr.slice 24 (.slice (some ⟨g, 0, none⟩) N1 cap) (some (.int .i64 (N1 : Int))) (some (.int .i64 (n : Int))) none).run Try.prog W = .ok (.slice (some ⟨g, N1 * 2, none⟩) (n - N1) (cap - N1)) W := by
    intro W
    rw [run_slice_lh W 24 (some ⟨g, 0, none⟩) N1 cap (by rw [hel]; exact Try.underlying24) .i64 .i64 (N1 : Int) (n : Int) (by omega) (by omega) (by omega), hel]
    have hcN : ¬ cap = N1 := by omega
    simp [sizeOf, typeInfo, hi0, hsz, sliced, Result.andThen, hcN]
    rw [Addr.add_lit, Nat.zero_add]
  clear hel
  have hc1 := cut_to (P := Try.prog) 24 46 .i64 Try.underlying24 hi0 (some ⟨g, 0, none⟩) n cap (i : Int) (by omega) (by omega) (by omega)
  rw [Int.toNat_natCast] at hc1
  have hc2 := cut_from (P := Try.prog) 24 46 .i64 Try.underlying24 hi0 2 hsz (some ⟨g, 0, none⟩) n cap (j : Int) (by omega) (by omega)
  rw [Int.toNat_natCast, show (Option.map (fun x => Addr.add x (j * 2)) (some (⟨g, 0, none⟩ : Addr))) = some ⟨g, j * 2, none⟩ by rw [Option.map_some, Addr.add_lit, Nat.zero_add], hA] at hc2
  go_enter Try.func88, Try.ntmps88
  try go_wp2
  refine start_ (n := 8) (S := fun _ => True) (ds := []) #[false, false, false, false, false, false, false, false] (by kernel_rfl) rfl rfl trivial (fun hHeld => ?_)
  refine pureS (i := 0) (N := some 20) (v := ?_) (a' := ?_) rfl rfl (by kernel_rfl) (fun _ _ _ h => h) (Or.inl ⟨by rfl, ?_⟩) ?_ ?_; rotate_left; (· intro w'; go_simp; with_reducible rfl); rotate_left; (· simp only [Act.put, List.setIfInBounds_toArray, List.set_cons_zero, List.set_cons_succ, i64_w, i32_w]; rfl)
  refine pureS (i := 1) (N := some 21) (v := ?_) (a' := ?_) rfl rfl (by kernel_rfl) (fun _ _ _ h => h) (Or.inl ⟨by rfl, ?_⟩) ?_ ?_; rotate_left; (· intro w'; go_simp; with_reducible rfl); rotate_left; (· simp only [Act.put, List.setIfInBounds_toArray, List.set_cons_zero, List.set_cons_succ, i64_w, i32_w]; rfl)
  refine pureS (i := 2) (N := some 22) (v := ?_) (a' := ?_) rfl rfl (by kernel_rfl) (fun _ _ _ h => h) (Or.inl ⟨by rfl, ?_⟩) ?_ ?_; rotate_left; (· intro w'; go_simp; with_reducible rfl); rotate_left; (· simp only [Act.put, List.setIfInBounds_toArray, List.set_cons_zero, List.set_cons_succ, i64_w, i32_w]; rfl)
  refine pureS (i := 3) (N := some 23) (v := ?_) (a' := ?_) rfl rfl (by kernel_rfl) (fun _ _ _ h => h) (Or.inl ⟨by rfl, ?_⟩) ?_ ?_; rotate_left; (· intro w'; go_simp; with_reducible rfl); rotate_left; (· simp only [Act.put, List.setIfInBounds_toArray, List.set_cons_zero, List.set_cons_succ, i64_w, i32_w]; rfl)
  refine pureS (i := 4) (N := some 24) (v := ?_) (a' := ?_) rfl rfl (by kernel_rfl) (fun _ _ _ h => h) (Or.inl ⟨by rfl, ?_⟩) ?_ ?_; rotate_left; (· intro w'; go_simp; with_reducible rfl); rotate_left; (· simp only [Act.put, List.setIfInBounds_toArray, List.set_cons_zero, List.set_cons_succ, i64_w, i32_w]; rfl)
  refine pureS (i := 5) (N := some 25) (v := ?_) (a' := ?_) rfl rfl (by kernel_rfl) (fun _ _ _ h => h) (Or.inl ⟨by rfl, ?_⟩) ?_ ?_; rotate_left; (· intro w'; go_simp; with_reducible rfl); rotate_left; (· simp only [Act.put, List.setIfInBounds_toArray, List.set_cons_zero, List.set_cons_succ, i64_w, i32_w]; rfl)
  refine one_ (i := 6) (N := some 26) #[true, true, true, true, true, true, true, false] rfl rfl (by kernel_rfl) (by decide) (fun K hK => ?_)
  refine step_append_room rfl (.tmp 22) (.tmp 25) 24 rfl 46 i0 2 Try.underlying24 hi0 hsz g 0 i cap (by rfl) A (n - j) (cap - j) news (by rfl) s1.out hsrc.out s2.out (by omega) s3.out ?_
  rw [← X.out, hNe.out]
  refine hK.out _ _ trivial (fun _ => ?_); clear hK K; refine norm_ (a' := ?_) ?_ ?_; rotate_left; (· show Act.put _ (some 26) _ = _; simp only [Act.put, List.setIfInBounds_toArray, List.set_cons_zero, List.set_cons_succ, i64_w, i32_w]; rfl)
  refine pureS (i := 7) (N := some 0) (v := ?_) (a' := ?_) rfl rfl (by kernel_rfl) (fun _ _ _ h => h) (Or.inl ⟨by rfl, ?_⟩) ?_ ?_; rotate_left; (· intro w'; go_simp; with_reducible rfl); rotate_left; (· simp only [Act.put, List.setIfInBounds_toArray, List.set_cons_zero, List.set_cons_succ, i64_w, i32_w]; rfl)
  refine done_ (by kernel_rfl) ?_
  clear hc1 hc2 hlt hne hi1 hjc hic
  go_wp2
  go_ret
  refine ⟨rfl, 1, ?_⟩
  rw [X.out, HNW.out, Nat.zero_add]
  rfl
theorem cells_one {R : S0.S46 → List Value → Prop} {l : List S0.S46} {inner : List Value} (h : Reps R 2 l inner) (hR : ∀ p c, R p c → c = [.complex .f32 (p.f0).1 (p.f0).2, .float .f32 p.f1]) : ∀ u ∈ inner, u.oneCell' = true := by
  intro u hu
  obtain ⟨t, ht, rfl⟩ := List.getElem_of_mem hu
  obtain ⟨h1, h2⟩ := h
  have hl : t / 2 < l.length := by omega
  have e := hR _ _ (h2 (t / 2) l[t / 2] (List.getElem?_eq_getElem hl))
  have e2 : inner[t]? = ((inner.drop (t / 2 * 2)).take 2)[t % 2]? := by
    rw [List.getElem?_take, if_pos (Nat.mod_lt _ (by decide)), List.getElem?_drop]
    congr 1
    omega
  rw [e, List.getElem?_eq_getElem ht] at e2
  have hm : t % 2 = 0 ∨ t % 2 = 1 := by omega
  rcases hm with hm | hm <;> rw [hm] at e2 <;> simp at e2 <;> rw [e2] <;> rfl
theorem delW.calls (P0_ : Nat → Prop) (u9000_ : Value) (l0 : List S0.S46) (a1 a2 : Int) (r : List S0.S46) (w0 w : World) (hB : Below w0.heap.size w0 w) (ho0 : Kd.R S0.k46 46 w w0.heap.size P0_ u9000_ l0) (h : delW.f l0 a1 a2 = some r) :
    Calls Try.prog 88 #[u9000_, .int .i64 a1, .int .i64 a2] w fun e w' => ∃ v0_ : Value, e = .returned v0_ ∧ Kd.R S0.k46 46 w' w0.heap.size (fun k_ => P0_ k_ ∨ w.heap.size ≤ k_) v0_ r ∧ Below w0.heap.size w0 w' ∧ Kept w w' (fun k_ => P0_ k_) := by
  unfold delW.f at h
  by_cases c : 0 ≤ a1 ∧ a1 < (l0.length : Int) ∧ a2 = a1 + 1
  case neg => rw [if_neg c] at h; cases h
  rw [if_pos c] at h
  obtain rfl := Option.some.inj h
  obtain ⟨k0, k1, rfl⟩ := c
  obtain ⟨i, rfl⟩ := Int.eq_ofNat_of_zero_le k0
  rw [Int.toNat_natCast]
  have hi : i < l0.length := by omega
  obtain ⟨h0, inner, ⟨hl, hown⟩, hr⟩ := ho0
  have hl2 : inner.length = l0.length * 2 := hl
  have hr2 : Reps (S0.k46.M w w0.heap.size (fun k => P0_ k ∧ some k ≠ u9000_.ownBlock)) 2 l0 inner := hr
  rcases hown with ⟨-, hn⟩ | ⟨g, cap, cur, rfl, hbg, hg, hnc, hcm, hcs, ht⟩
  · omega
  have hcs2 : cur.size = cap * 2 := hcs
  have ht2 : cur.toList.take (l0.length * 2) = inner := ht
  have hPg : P0_ g := h0 g (by simp [Value.ownBlock])
  have one := cells_one hr2 (fun p c hp => S0.k46_openM hp)
  refine (cells_calls g l0.length cap i (i + 1) ⟨rfl⟩ (l0.length - 1) ⟨rfl⟩ cur w hg hcs2 hnc (by unfold maxLen at hcm; omega) hi (by rw [ht2]; exact one)).mono ?_
  rintro e w' ⟨rfl, m, rfl⟩
  rw [ht2]
  obtain ⟨cur1, c1, c2, c3⟩ := setCells_row (inner.drop ((i + 1) * 2)) (i * 2) (w.drewN m) cur (show (w.drewN m).heap[g]? = _ from hg) (by rw [hcs2, List.length_drop, hl2]; omega)
  obtain ⟨cur2, d1, d2, d3⟩ := setCells_row [z0, z1] ((l0.length - 1) * 2) _ cur1 c1 (by rw [c2, hcs2]; simp; omega)
  have far : ∀ k, k ≠ g → (((w.drewN m).setCells g (i * 2) (inner.drop ((i + 1) * 2))).setCells g ((l0.length - 1) * 2) [z0, z1]).heap[k]? = w.heap[k]? := fun k hk => by
    rw [setCells_far _ _ k hk, setCells_far _ _ k hk]
    rfl
  obtain ⟨s1, s2, s3, s4⟩ := setCells_same g (inner.drop ((i + 1) * 2)) (i * 2) (w.drewN m)
  obtain ⟨t1, t2, t3, t4⟩ := setCells_same g [z0, z1] ((l0.length - 1) * 2) ((w.drewN m).setCells g (i * 2) (inner.drop ((i + 1) * 2)))
  have el : (l0.eraseIdx i).length = l0.length - 1 := List.length_eraseIdx_of_lt hi
  have hsize : (((w.drewN m).setCells g (i * 2) (inner.drop ((i + 1) * 2))).setCells g ((l0.length - 1) * 2) [z0, z1]).heap.size = w.heap.size := by rw [t4, s4]; rfl
  have e3 : cur2.toList.take ((l0.length - 1) * 2) = inner.take (i * 2) ++ inner.drop ((i + 1) * 2) := by
    have cl : cur.toList.length = cap * 2 := by rw [Array.length_toList, hcs2]
    have cl1 : cur1.toList.length = cap * 2 := by rw [Array.length_toList, c2, hcs2]
    obtain ⟨D, hD⟩ : ∃ D, D = inner.drop ((i + 1) * 2) := ⟨_, rfl⟩
    have dl : D.length = (l0.length - 1) * 2 - i * 2 := by rw [hD, List.length_drop, hl2]; omega
    rw [← hD] at c3 ⊢
    have a1 : (cur1.toList.take ((l0.length - 1) * 2)).length = (l0.length - 1) * 2 := by rw [List.length_take, cl1]; omega
    have l1 : (cur.toList.take (i * 2)).length = i * 2 := by rw [List.length_take, cl]; omega
    have b1 : (cur.toList.take (i * 2)).take ((l0.length - 1) * 2) = cur.toList.take (i * 2) := List.take_of_length_le (by rw [l1]; omega)
    have b2 : ∀ E : List Value, (D ++ E).take ((l0.length - 1) * 2 - i * 2) = D := fun E => by
      rw [List.take_append_of_le_length (by rw [dl]; omega), List.take_of_length_le (by rw [dl]; omega)]
    rw [d3, List.append_assoc, List.take_append_of_le_length (by rw [a1]; omega), List.take_take, Nat.min_self, c3, List.append_assoc, List.take_append, l1, b1, b2]
    congr 1
    rw [← ht2, List.take_take, Nat.min_eq_left (by omega)]
  refine ⟨_, rfl, ?_, ⟨?_, ?_, ?_, ?_, ?_⟩, ?_, ?_⟩
  · refine ⟨fun k hk => .inl (h0 k (by simpa [Value.ownBlock] using hk)), inner.take (i * 2) ++ inner.drop ((i + 1) * 2), ⟨?_, .inr ⟨g, cap, cur2, ?_, hbg, d1, ?_, hcm, ?_, ?_⟩⟩, ?_⟩
    · show _ = (l0.eraseIdx i).length * 2
      rw [el, List.length_append, List.length_take, List.length_drop, hl2]
      omega
    · rw [el]
    · rw [el]; omega
    · show cur2.size = cap * 2
      rw [d2, c2, hcs2]
    · show cur2.toList.take ((l0.eraseIdx i).length * 2) = _
      rw [el]
      exact e3
    · exact (reps_del hr2 hi).imp_ (fun p c hp => by obtain rfl := S0.k46_openM hp; exact S0.k46_mkM _ _ _ p)
  · rw [t1, s1]; exact hB.os
  · rw [t2, s2]; exact hB.tape
  · rw [t3, s3]; exact hB.output
  · rw [hsize]; exact hB.size
  · intro k hk
    rw [far k (by omega)]
    exact hB.block k hk
  · rw [hsize]; exact Nat.le_refl _
  · intro k hk hn
    exact far k (fun e => hn (e ▸ hPg))
end XD
end Go.Proofs.Ytcgaccdiomcglaa
end
section
namespace Go.Proofs.Ytcgaccdiomcglaa.N2
open Go.Proofs.Ytcgaccdiomcglaa.S0 Go.Proofs.Ytcgaccdiomcglaa.N0
open Go.RowKit Go.Proofs.YtcgaccdiomcglaaW.PrintWords Go.Proofs.YtcgaccdiomcglaaW.PrintLast Go.Proofs.YtcgaccdiomcglaaW.PrintMore
attribute [local go_sem] max2_int min2_int max_two min_two max_three min_three max_four min_four
set_option linter.unusedVariables false
set_option linter.unusedSimpArgs false
attribute [local go_sem high] binOp_fge binOp_fle
def errW : Option Int → Value
  | none => .nilIface
  | some c => .iface 0 (.int .i64 c)
theorem errW_none : errW none = .nilIface := rfl
theorem errW_some (c : Int) : errW (some c) = .iface 0 (.int .i64 c) := rfl
end Go.Proofs.Ytcgaccdiomcglaa.N2
end
section
namespace Go.Proofs.Ytcgaccdiomcglaa.N2
open Go.Proofs.Ytcgaccdiomcglaa.S0 Go.Proofs.Ytcgaccdiomcglaa.N0
open Go.RowKit Go.Proofs.YtcgaccdiomcglaaW.PrintWords Go.Proofs.YtcgaccdiomcglaaW.PrintLast Go.Proofs.YtcgaccdiomcglaaW.PrintMore
attribute [local go_sem] max2_int min2_int max_two min_two max_three min_three max_four min_four
set_option linter.unusedVariables false
set_option linter.unusedSimpArgs false
attribute [local go_sem high] binOp_fge binOp_fle
def impl_MergeNearest.j0 : Nat → List (S46) → List (S46) → Int → Int → Bool → Option ((List (S46)) × Bool)
  | 0, _, _, _, _, _ => none
  | k + 1, x0, x6, x7, x8, x36 => if x36 = true then (some (x6, true)) else (if 0 ≤ x7 then (if x7 < (x0.length : Int) then (if 0 ≤ x8 then (if x8 < (x0.length : Int) then (if fok .add .f32 ((rd_T46 x0 x7).f1) ((rd_T46 x0 x8).f1) = true then ((XD.delW.f x6 x8 (wrap64 (x8 + 1))).bind fun t113 => (if (FloatKind.f32.format.order (fop .add .f32 ((rd_T46 x0 x7).f1) ((rd_T46 x0 x8).f1)) 0 == some .eq) = true then ((XD.delW.f t113 x7 (wrap64 (x7 + 1))).bind fun t116 => (some (t116, true))) else ((N0.impl_ScaleComplex.f ((rd_T46 x0 x7).f0) ((rd_T46 x0 x7).f1)).bind fun t119 => ((N0.impl_ScaleComplex.f ((rd_T46 x0 x8).f0) ((rd_T46 x0 x8).f1)).bind fun t120 => (if fok .add .f32 t119.1 t120.1 = true then (if fok .add .f32 t119.2 t120.2 = true then ((N0.impl_QuotientOf.f ((fop .add .f32 t119.1 t120.1, fop .add .f32 t119.2 t120.2) : Nat × Nat) ((fop .add .f32 ((rd_T46 x0 x7).f1) ((rd_T46 x0 x8).f1), 0) : Nat × Nat)).bind fun t121 => (if x7 < (t113.length : Int) then ((S0.impl_toldWhirls.f k (t113.set (x7 : Int).toNat (⟨t121, fop .add .f32 ((rd_T46 x0 x7).f1) ((rd_T46 x0 x8).f1)⟩ : S46))).bind fun bt123 => (some (bt123.1, bt123.2))) else (none))) else (none)) else (none)))))) else (none)) else (none)) else (none)) else (none)) else (none))
def impl_MergeNearest.f (k : Nat) (l0 : List (S46)) (a1 : Nat) : Option ((List (S46)) × Bool) := (S0.impl_AreWhirls.f k l0).bind fun t101 => (if t101 = true then ((XK2.cloneW.f l0).bind fun t102 => (if (l0.length : Int) < 2 then (some (t102, true)) else ((N0.impl_nearest.f k l0).bind fun bt105 => ((XL.IsFinite.f bt105.2.2).bind fun t108 => (if t108 = true then (impl_MergeNearest.j0 k l0 t102 bt105.1 bt105.2.1 (!(fle .f32 bt105.2.2 a1))) else (impl_MergeNearest.j0 k l0 t102 bt105.1 bt105.2.1 true)))))) else (some (([] : List (S46)), false)))
def impl_MergeNearest.T9 : Bool × List (List Nat × List Nat) := (true, [([], []), ([], []), ([0, 1], [0, 1]), ([2], [2]), ([], []), ([], []), ([4, 5], [4, 5]), ([6], [6]), ([], []), ([], []), ([8, 3, 0, 1, 2, 3, 8, 9], [3, 8]), ([9, 7, 10, 0, 1, 2, 3, 4, 5, 6, 7, 8, 9, 10], [7, 9])])
def impl_MergeNearest.B9 : List Nat := [0, 0, 3, 7, 0, 0, 48, 112, 0, 0, 783, 2047]
theorem impl_MergeNearest.tab9 : rtab .any (opsOf Try.f22 9) = impl_MergeNearest.T9 := by kernel_rfl
theorem impl_MergeNearest.bits9 : waitsOk impl_MergeNearest.T9.2 impl_MergeNearest.B9 = true := by kernel_rfl
def impl_MergeNearest.T14 : Bool × List (List Nat × List Nat) := (true, [([], []), ([], []), ([], []), ([2], [2]), ([], []), ([4], [4]), ([3, 5], [3, 5]), ([], []), ([7], [7]), ([], []), ([9], [9]), ([8, 10, 6], [8, 10]), ([6, 11], [6, 11]), ([], []), ([13], [13]), ([12, 14, 11], [12, 14]), ([], []), ([15, 16], [15, 16]), ([0, 1, 0, 1, 2, 3, 4, 5, 6, 7, 8, 9, 10, 11, 12, 13, 14, 15, 16, 17], [0, 1]), ([18, 17, 15, 0, 1, 2, 3, 4, 5, 6, 7, 8, 9, 10, 11, 12, 13, 14, 15, 16, 17], [17, 18])])
def impl_MergeNearest.B14 : List Nat := [0, 0, 0, 4, 0, 16, 60, 0, 128, 0, 512, 2044, 4092, 0, 8192, 32764, 0, 131068, 262143, 524287]
theorem impl_MergeNearest.tab14 : rtab .any (opsOf Try.f22 14) = impl_MergeNearest.T14 := by kernel_rfl
theorem impl_MergeNearest.bits14 : waitsOk impl_MergeNearest.T14.2 impl_MergeNearest.B14 = true := by kernel_rfl
set_option maxHeartbeats 8000000 in
set_option maxRecDepth 100000 in
theorem impl_MergeNearest.calls (k : Nat) (A0 : Option Addr) (c0 : Nat) (l0 : List (S46)) (a1 : Nat) (r1 : List (S46)) (r2 : Bool) (w : World) (hr0 : Kd.C k46 w A0 l0.length l0) (hc0 : l0.length ≤ c0) (h : impl_MergeNearest.f k l0 a1 = some (r1, r2)) :
    Calls Try.prog 22 #[.slice A0 l0.length c0, .float .f32 a1] w fun e w' => ∃ v0_ : Value, e = .returned (.tuple #[v0_, .bool r2]) ∧ Kd.R k46 46 w' w.heap.size (fun _ => True) v0_ r1 ∧ Below w.heap.size w w' := by
  have hu46 := Try.underlying46; have HR0 := Aside0.mk hr0; have HC0 := Aside0.mk hc0; clear hr0 hc0; have HB := AS (Below.refl w.heap.size w); have H : ((S0.impl_AreWhirls.f k l0).bind fun t101 => (if t101 = true then ((XK2.cloneW.f l0).bind fun t102 => (if (l0.length : Int) < 2 then (some (t102, true)) else ((N0.impl_nearest.f k l0).bind fun bt105 => ((XL.IsFinite.f bt105.2.2).bind fun t108 => (if t108 = true then (impl_MergeNearest.j0 k l0 t102 bt105.1 bt105.2.1 (!(fle .f32 bt105.2.2 a1))) else (impl_MergeNearest.j0 k l0 t102 bt105.1 bt105.2.1 true)))))) else (some (([] : List (S46)), false)))) = some (r1, r2) := h; clear h; replace H := Option.bind_eq_some_iff.mp H; obtain ⟨t101, A30, H⟩ := H; (try dsimp only at H); have A3 := Aside0.mk A30; clear A30; by_cases c4 : t101 = true
  · subst c4
    rw [if_pos rfl] at H; replace H := Option.bind_eq_some_iff.mp H; obtain ⟨t102, A50, H⟩ := H; (try dsimp only at H); have A5 := Aside0.mk A50; clear A50; by_cases c6 : (l0.length : Int) < 2
    · rw [if_pos c6] at H
      have c6b0 : decide ((l0.length : Int) < 2) = true := decide_eq_true c6; have c6b1 : decide (l0.length < 2) = true := decide_eq_true (by omega); clear c6; simp only [Option.some.injEq, Prod.mk.injEq] at H; obtain ⟨rfl, rfl⟩ := H; go_enter Try.func22, Try.ntmps22; go_wp2_with (first | ((with_reducible refine gate_callee (f := 82) rfl ?_); refine goesM 14 Try.func82 #[.slice A0 l0.length c0] ?_; (with_reducible refine (S0.impl_AreWhirls.calls k _ _ l0 true _ ?side1 ?side2 A3.out).mono ?_); (case side1 => exact CS HR0.out); (case side2 => exact HC0.out); rintro e w7 ⟨rfl, hb⟩; refine ⟨_, rfl, ?_⟩; replace HB := BB HB hb; (try clear hb); (try clear hb2); (try clear hk); (try clear hi)) | ((with_reducible refine gate_callee (f := 87) rfl ?_); refine goesM 17 Try.func87 #[.slice A0 l0.length c0] ?_; (with_reducible refine (XK2.cloneW.calls _ _ l0 t102 _ ?side1 ?side2 A5.out).mono ?_); (case side1 => exact CS (Kd.C_below HR0.out HB.out)); (case side2 => exact HC0.out); rintro e w8 ⟨v103, rfl, ho0, hb⟩; refine ⟨_, rfl, ?_⟩; have HO104 := AS (Kd.R_lower ho0 (below_size (BW HB))); replace HB := BB HB hb; (try clear hb); (try clear hb2); (try clear hk); (try clear hi); (try clear ho0))); go_ret2; exact ⟨_, by first | rfl | (simp [errW_none, errW_some] <;> rfl) | (simp [*, errW_none, errW_some] <;> rfl), by (with_reducible repeat (first | apply Kd.R_alloc | apply Kd.R_drewN | apply Kd.R_drew)); exact HO104.out, BW HB⟩
    · rw [if_neg c6] at H
      have c6b0 : decide ((l0.length : Int) < 2) = false := decide_eq_false c6; have c6b1 : decide (l0.length < 2) = false := decide_eq_false (by omega); clear c6; replace H := Option.bind_eq_some_iff.mp H; obtain ⟨⟨t105, t106, t107⟩, A90, H⟩ := H; replace H : ((XL.IsFinite.f t107).bind fun t108 => (if t108 = true then (impl_MergeNearest.j0 k l0 t102 t105 t106 (!(fle .f32 t107 a1))) else (impl_MergeNearest.j0 k l0 t102 t105 t106 true))) = some (r1, r2) := H; have A9 := Aside0.mk A90; clear A90; have HC10 := Aside0.mk H; clear H; go_enter Try.func22, Try.ntmps22; (go_upto_region 7 with (first | ((with_reducible refine gate_callee (f := 82) rfl ?_); refine goesM 14 Try.func82 #[.slice A0 l0.length c0] ?_; (with_reducible refine (S0.impl_AreWhirls.calls k _ _ l0 true _ ?side1 ?side2 A3.out).mono ?_); (case side1 => exact CS HR0.out); (case side2 => exact HC0.out); rintro e w11 ⟨rfl, hb⟩; refine ⟨_, rfl, ?_⟩; replace HB := BB HB hb; (try clear hb); (try clear hb2); (try clear hk); (try clear hi)) | ((with_reducible refine gate_callee (f := 87) rfl ?_); refine goesM 17 Try.func87 #[.slice A0 l0.length c0] ?_; (with_reducible refine (XK2.cloneW.calls _ _ l0 t102 _ ?side1 ?side2 A5.out).mono ?_); (case side1 => exact CS (Kd.C_below HR0.out HB.out)); (case side2 => exact HC0.out); rintro e w12 ⟨v103, rfl, ho0, hb⟩; refine ⟨_, rfl, ?_⟩; have HO104 := AS (Kd.R_lower ho0 (below_size (BW HB))); replace HB := BB HB hb; (try clear hb); (try clear hb2); (try clear hk); (try clear hi); (try clear ho0)) | ((with_reducible refine gate_callee (f := 86) rfl ?_); refine goesM 24 Try.func86 #[.slice A0 l0.length c0] ?_; (with_reducible refine (N0.impl_nearest.calls k _ _ l0 t105 t106 t107 _ ?side1 ?side2 A9.out).mono ?_); (case side1 => exact CS (Kd.C_below HR0.out HB.out)); (case side2 => exact HC0.out); rintro e w13 ⟨rfl, hb⟩; refine ⟨_, rfl, ?_⟩; replace HO104 := RB HO104 hb; replace HB := BB HB hb; (try clear hb); (try clear hb2); (try clear hk); (try clear hi)))); (try simp only [Act.put, List.setIfInBounds_toArray, List.set_cons_zero, List.set_cons_succ]); go_cut [36] (fun v36 wc => ∃ (kq : Nat) (x36_9 : Bool), v36 = .bool x36_9 ∧ Aside0 (impl_MergeNearest.j0 kq l0 t102 t105 t106 x36_9 = some (r1, r2)) ∧ Aside0 (kq ≤ k) ∧ Aside0 (Kd.R k46 46 wc w.heap.size (fun _ => True) v103 t102) ∧ Aside0 (Below w.heap.size w wc))
      case first =>
        have H := HC10.out; clear HC10; replace H := Option.bind_eq_some_iff.mp H; obtain ⟨t108, A140, H⟩ := H; replace H : (if t108 = true then (impl_MergeNearest.j0 k l0 t102 t105 t106 (!(fle .f32 t107 a1))) else (impl_MergeNearest.j0 k l0 t102 t105 t106 true)) = some (r1, r2) := H; have A14 := Aside0.mk A140; clear A140; by_cases c15 : t108 = true
        · subst c15
          have H1 : (impl_MergeNearest.j0 k l0 t102 t105 t106 (!(fle .f32 t107 a1))) = some (r1, r2) := (by rw [if_pos rfl] at H; exact H); clear H; have H := H1; clear H1; have H' := Aside0.mk H; clear H; go_wp2_with (first | ((with_reducible refine gate_callee (f := 72) rfl ?_); refine goesM 29 Try.func72 #[.float .f32 t107] ?_; (with_reducible refine (XL.IsFinite.calls t107 true _ A14.out).mono ?_); rintro e w' ⟨rfl, ⟨nd, rfl⟩⟩; refine ⟨_, rfl, ?_⟩)); go_meet
          case rel => exact ⟨_, (!(fle .f32 t107 a1)), (by first | rfl | (simp; done) | (simp [*]; done)), H', ⟨by first | omega | exact Nat.le_refl _⟩, ⟨RS HO104.out⟩, ⟨BW HB⟩⟩
        · replace c15 := Bool.eq_false_iff.mpr c15
          subst c15; have H1 : (impl_MergeNearest.j0 k l0 t102 t105 t106 true) = some (r1, r2) := (by rw [if_neg (show ¬ (false = true) by decide)] at H; exact H); clear H; have H := H1; clear H1; have H' := Aside0.mk H; clear H; go_wp2_with (first | ((with_reducible refine gate_callee (f := 72) rfl ?_); refine goesM 29 Try.func72 #[.float .f32 t107] ?_; (with_reducible refine (XL.IsFinite.calls t107 false _ A14.out).mono ?_); rintro e w' ⟨rfl, ⟨nd, rfl⟩⟩; refine ⟨_, rfl, ?_⟩)); go_meet
          case rel => exact ⟨_, (true), (by first | rfl | (simp; done) | (simp [*]; done)), H', ⟨by first | omega | exact Nat.le_refl _⟩, ⟨RS HO104.out⟩, ⟨BW HB⟩⟩
      case rest =>
        clear HC10; (try clear c1); (try clear c2); (try clear p2); (try clear c4); (try clear c6); (try clear c6b0); (try clear c6b1); (try clear c7); (try clear c8); (try clear c15); obtain ⟨kq, x36_9, rfl, HA, HJ9, HO_6, HB⟩ := hcut; cases kq with
        | zero => exact absurd HA.out (by simp [impl_MergeNearest.j0])
        | succ kj9 =>
          have H := HA.out; clear HA; simp only [impl_MergeNearest.j0] at H; by_cases c16 : x36_9 = true
          · subst c16
            have H1 : (some (t102, true)) = some (r1, r2) := (by rw [if_pos rfl] at H; exact H); clear H; have H := H1; clear H1; simp only [Option.some.injEq, Prod.mk.injEq] at H; obtain ⟨rfl, rfl⟩ := H; go_wp2; go_ret2; exact ⟨_, by first | rfl | (simp [errW_none, errW_some] <;> rfl) | (simp [*, errW_none, errW_some] <;> rfl), by (with_reducible repeat (first | apply Kd.R_alloc | apply Kd.R_drewN | apply Kd.R_drew)); exact HO_6.out, BW HB⟩
          · replace c16 := Bool.eq_false_iff.mpr c16
            subst c16; rw [if_neg (show ¬ (false = true) by decide)] at H; by_cases c17 : 0 ≤ t105
            · rw [if_pos c17] at H
              have c17b0 : decide (0 ≤ t105) = true := decide_eq_true c17; clear c17; by_cases c18 : t105 < (l0.length : Int)
              · rw [if_pos c18] at H
                have c18b0 : decide (t105 < (l0.length : Int)) = true := decide_eq_true c18; clear c18; by_cases c19 : 0 ≤ t106
                · rw [if_pos c19] at H
                  have c19b0 : decide (0 ≤ t106) = true := decide_eq_true c19; clear c19; by_cases c20 : t106 < (l0.length : Int)
                  · rw [if_pos c20] at H
                    have c20b0 : decide (t106 < (l0.length : Int)) = true := decide_eq_true c20; clear c20; by_cases c21 : fok .add .f32 ((rd_T46 l0 t105).f1) ((rd_T46 l0 t106).f1) = true
                    · rw [if_pos c21] at H
                      have c21b0 := eq_true c21; have c21b1 : decide (fok .add .f32 ((rd_T46 l0 t105).f1) ((rd_T46 l0 t106).f1) = true) = true := decide_eq_true c21; clear c21; replace H := Option.bind_eq_some_iff.mp H; obtain ⟨t113, A220, H⟩ := H; (try dsimp only at H); have A22 := Aside0.mk A220; clear A220; by_cases c23 : (FloatKind.f32.format.order (fop .add .f32 ((rd_T46 l0 t105).f1) ((rd_T46 l0 t106).f1)) 0 == some .eq) = true
                      · rw [if_pos c23] at H
                        have c23b0 : (FloatKind.f32.format.order (fop .add .f32 ((rd_T46 l0 t105).f1) ((rd_T46 l0 t106).f1)) 0 == some .eq) = true := c23; (try (have c23b1 : decide (FloatKind.f32.format.order (fop .add .f32 ((rd_T46 l0 t105).f1) ((rd_T46 l0 t106).f1)) 0 = some .eq) = true := by simpa using c23)); (try (have c23b2 : (FloatKind.f32.format.order (fop .add .f32 ((rd_T46 l0 t105).f1) ((rd_T46 l0 t106).f1)) 0 == some .eq) = true := by simpa using c23)); clear c23; replace H := Option.bind_eq_some_iff.mp H; obtain ⟨t116, A240, H⟩ := H; replace H : (some (t116, true)) = some (r1, r2) := H; have A24 := Aside0.mk A240; clear A240; simp only [Option.some.injEq, Prod.mk.injEq] at H; obtain ⟨rfl, rfl⟩ := H; (try go_wp2); have n0_ := AS (Kd.R_drew HO_6.out); have n1_ := AS (below_drew1 HB.out); replace HO_6 := n0_; replace HB := n1_; clear n0_ n1_; have p109 : 0 ≤ (t105 : Int) := of_decide_eq_true (by first | (with_reducible assumption) | assumption); have q109 : t105 < (l0.length : Int) := of_decide_eq_true (by first | (with_reducible assumption) | assumption); obtain ⟨ad109, e109, hx109_0, hx109_1⟩ := at_T46 HR0.out t105 p109 q109; have hw109_1 := hx109_1; have hw109_0 := hx109_0; cases e109; replace hx109_0 := (HB.out.cell (World.block_lt_of_cell? w _ hx109_0)).trans hx109_0; replace hx109_1 := (HB.out.cell (World.block_lt_of_cell? w _ hx109_1)).trans hx109_1; replace p109 := eq_true p109; replace q109 := eq_true q109; have p110 : 0 ≤ (t106 : Int) := of_decide_eq_true (by first | (with_reducible assumption) | assumption); have q110 : t106 < (l0.length : Int) := of_decide_eq_true (by first | (with_reducible assumption) | assumption); obtain ⟨ad110, e110, hx110_0, hx110_1⟩ := at_T46 HR0.out t106 p110 q110; have hw110_1 := hx110_1; have hw110_0 := hx110_0; obtain rfl : ad109 = ad110 := (by injection e110); replace hx110_0 := (HB.out.cell (World.block_lt_of_cell? w _ hx110_0)).trans hx110_0; replace hx110_1 := (HB.out.cell (World.block_lt_of_cell? w _ hx110_1)).trans hx110_1; replace p110 := eq_true p110; replace q110 := eq_true q110; refine start_ (n := 12) (S := fun w' => w'.cell? (ad109.add ((t105).toNat * 2)) = some (.complex .f32 ((rd_T46 l0 t105).f0).1 ((rd_T46 l0 t105).f0).2) ∧ w'.cell? ⟨(ad109.add ((t105).toNat * 2)).block, (ad109.add ((t105).toNat * 2)).off + 1, none⟩ = some (.float .f32 ((rd_T46 l0 t105).f1)) ∧ w'.cell? (ad109.add ((t106).toNat * 2)) = some (.complex .f32 ((rd_T46 l0 t106).f0).1 ((rd_T46 l0 t106).f0).2) ∧ w'.cell? ⟨(ad109.add ((t106).toNat * 2)).block, (ad109.add ((t106).toNat * 2)).off + 1, none⟩ = some (.float .f32 ((rd_T46 l0 t106).f1))) (ds := []) #[false, false, false, false, false, false, false, false, false, false, false, false] (by kernel_rfl) rfl rfl ⟨((HB.out.cell (World.block_lt_of_cell? w _ hw109_0)).trans hw109_0), ((HB.out.cell (World.block_lt_of_cell? w _ hw109_1)).trans hw109_1), ((HB.out.cell (World.block_lt_of_cell? w _ hw110_0)).trans hw110_0), ((HB.out.cell (World.block_lt_of_cell? w _ hw110_1)).trans hw110_1)⟩ (fun hHeld => ?_); refine with_tabW impl_MergeNearest.tab9 impl_MergeNearest.bits9 (fun HT_ HW_ => ?_); generalize wc.drew = w25 at HO_6 HB hx109_0 hx109_1 hx110_0 hx110_1 hHeld ⊢; refine pureT 0 38 HT_.out ?_; refine pureT 1 39 HT_.out ?_; refine pureT 2 40 HT_.out ?_; refine pureT 4 42 HT_.out ?_; refine pureT 5 43 HT_.out ?_; refine pureT 6 44 HT_.out ?_; refine takeS (i := 3) (N := some 41) (v := ?_) (a' := ?_) rfl rfl (take_ofW HT_.out HW_.out (by kernel_rfl)) (fun _ _ _ h => h) (Or.inl ⟨by rfl, ?_⟩) hHeld ?_ ?_; rotate_left; (· rintro w' ⟨s0, s1, s2, s3⟩; go_simp; with_reducible rfl); rotate_left; (· simp only [Act.put, List.setIfInBounds_toArray, List.set_cons_zero, List.set_cons_succ, i64_w, i32_w]; rfl); refine takeS (i := 7) (N := some 45) (v := ?_) (a' := ?_) rfl rfl (take_ofW HT_.out HW_.out (by kernel_rfl)) (fun _ _ _ h => h) (Or.inl ⟨by rfl, ?_⟩) hHeld ?_ ?_; rotate_left; (· rintro w' ⟨s0, s1, s2, s3⟩; go_simp; with_reducible rfl); rotate_left; (· simp only [Act.put, List.setIfInBounds_toArray, List.set_cons_zero, List.set_cons_succ, i64_w, i32_w]; rfl); refine join_ (σ := Nat × Nat) 2 #[true, true, true, true, true, true, true, true, true, true, false, false] (fun s_ => [(10, .pointer (some ⟨s_.1, 0, none⟩)), (11, .pointer (some ⟨s_.2, 0, none⟩))]) (fun s_ w' => (w'.cell? (ad109.add ((t105).toNat * 2)) = some (.complex .f32 ((rd_T46 l0 t105).f0).1 ((rd_T46 l0 t105).f0).2) ∧ w'.cell? ⟨(ad109.add ((t105).toNat * 2)).block, (ad109.add ((t105).toNat * 2)).off + 1, none⟩ = some (.float .f32 ((rd_T46 l0 t105).f1)) ∧ w'.cell? (ad109.add ((t106).toNat * 2)) = some (.complex .f32 ((rd_T46 l0 t106).f0).1 ((rd_T46 l0 t106).f0).2) ∧ w'.cell? ⟨(ad109.add ((t106).toNat * 2)).block, (ad109.add ((t106).toNat * 2)).off + 1, none⟩ = some (.float .f32 ((rd_T46 l0 t106).f1))) ∧ (Kd.R k46 46 w' w.heap.size (fun k_ => k_ ≠ s_.1 ∧ k_ ≠ s_.2) v103 t102) ∧ (w'.heap[s_.1]? = some (.cells #[.complex .f32 ((0, 0) : Nat × Nat).1 ((0, 0) : Nat × Nat).2, .float .f32 0] 46 (0, 0))) ∧ (w'.heap[s_.2]? = some (.cells #[.complex .f32 ((0, 0) : Nat × Nat).1 ((0, 0) : Nat × Nat).2, .float .f32 0] 46 (0, 0))) ∧ (w.heap.size ≤ s_.1) ∧ (w.heap.size ≤ s_.1) ∧ (s_.2 ≠ s_.1) ∧ (s_.1 ≠ s_.2) ∧ (w.heap.size ≤ s_.2) ∧ (w.heap.size ≤ s_.2) ∧ (Below w.heap.size w w')) ?_ ?_; rotate_left
                        · intro hCont
                          refine two_ (i := 8) (j := 9) (Ni := some 10) (Nj := some 11) #[true, true, true, true, true, true, true, true, true, false, false, false] #[true, true, true, true, true, true, true, true, false, true, false, false] rfl rfl rfl rfl (two_of HT_.out (by kernel_rfl)) (by decide) (by decide) (fun K hK => ?_) (fun K hK => ?_)
                          · skip
                            refine box_step ?hg (N := 10) ?hd (cs := #[.complex .f32 ((0, 0) : Nat × Nat).1 ((0, 0) : Nat × Nat).2, .float .f32 0]) (t := 46) ?hr ?_; (case hd => rfl); (case hg => rfl); (case hr => first | (go_simp; done) | (go_simp; rfl)); intro gb111 hg w26 hbox hb; have n0_ := AS (Kd.R_below (Kd.R_elderB (RS HO_6.out) gb111 (Nat.le_of_eq hg.symm)) hb); have BK111 := AS (hbox); have GW111 := BG HB hg; have GE111 := BG HB hg; replace HB := BB HB hb; replace HO_6 := n0_; clear n0_; clear hb hbox hg; refine hK.out _ _ ⟨((HB.out.cell (World.block_lt_of_cell? w _ hw109_0)).trans hw109_0), ((HB.out.cell (World.block_lt_of_cell? w _ hw109_1)).trans hw109_1), ((HB.out.cell (World.block_lt_of_cell? w _ hw110_0)).trans hw110_0), ((HB.out.cell (World.block_lt_of_cell? w _ hw110_1)).trans hw110_1)⟩ (fun hHeld => ?_); clear hK K; refine norm_ (a' := ?_) ?_ ?_; rotate_left
                            · show Act.put _ (some 10) _ = _
                              simp only [Act.put, List.setIfInBounds_toArray, List.set_cons_zero, List.set_cons_succ, i64_w, i32_w]; rfl
                            refine one_ (i := 9) (N := some 11) #[true, true, true, true, true, true, true, true, true, true, false, false] rfl rfl (one_of HT_.out (by kernel_rfl)) (by decide) (fun K hK => ?_); refine box_step ?hg (N := 11) ?hd (cs := #[.complex .f32 ((0, 0) : Nat × Nat).1 ((0, 0) : Nat × Nat).2, .float .f32 0]) (t := 46) ?hr ?_; (case hd => rfl); (case hg => rfl); (case hr => first | (go_simp; done) | (go_simp; rfl)); intro gb112 hg w27 hbox hb; have n0_ := AS (Kd.R_below (Kd.R_elderB (RS HO_6.out) gb112 (Nat.le_of_eq hg.symm)) hb); have BK112 := AS (hbox); have GW112 := BG HB hg; have GE112 := BG HB hg; have NB111_112 := KN BK111 hg; have NB112_111 := KM BK111 hg; replace BK111 := KB BK111 hb; replace HB := BB HB hb; replace HO_6 := n0_; clear n0_; clear hb hbox hg; refine hK.out _ _ ⟨((HB.out.cell (World.block_lt_of_cell? w _ hw109_0)).trans hw109_0), ((HB.out.cell (World.block_lt_of_cell? w _ hw109_1)).trans hw109_1), ((HB.out.cell (World.block_lt_of_cell? w _ hw110_0)).trans hw110_0), ((HB.out.cell (World.block_lt_of_cell? w _ hw110_1)).trans hw110_1)⟩ (fun hHeld => ?_); clear hK K; refine norm_ (a' := ?_) ?_ ?_; rotate_left
                            · show Act.put _ (some 11) _ = _
                              simp only [Act.put, List.setIfInBounds_toArray, List.set_cons_zero, List.set_cons_succ, i64_w, i32_w]; rfl
                            exact norm_ (by simp only [putAll, Act.put, List.setIfInBounds_toArray, List.set_cons_zero, List.set_cons_succ]) (hCont (gb111, gb112) _ ⟨hHeld, (RS (Kd.R_mono HO_6.out (fun _ hk => ⟨hk.1.2, hk.2⟩))), (KS BK111.out), (KS BK112.out), GW111.out, GE111.out, NB112_111.out, NB111_112.out, GW112.out, GE112.out, (BW HB)⟩)
                          · skip
                            refine box_step ?hg (N := 11) ?hd (cs := #[.complex .f32 ((0, 0) : Nat × Nat).1 ((0, 0) : Nat × Nat).2, .float .f32 0]) (t := 46) ?hr ?_; (case hd => rfl); (case hg => rfl); (case hr => first | (go_simp; done) | (go_simp; rfl)); intro gb112 hg w26 hbox hb; have n0_ := AS (Kd.R_below (Kd.R_elderB (RS HO_6.out) gb112 (Nat.le_of_eq hg.symm)) hb); have BK112 := AS (hbox); have GW112 := BG HB hg; have GE112 := BG HB hg; replace HB := BB HB hb; replace HO_6 := n0_; clear n0_; clear hb hbox hg; refine hK.out _ _ ⟨((HB.out.cell (World.block_lt_of_cell? w _ hw109_0)).trans hw109_0), ((HB.out.cell (World.block_lt_of_cell? w _ hw109_1)).trans hw109_1), ((HB.out.cell (World.block_lt_of_cell? w _ hw110_0)).trans hw110_0), ((HB.out.cell (World.block_lt_of_cell? w _ hw110_1)).trans hw110_1)⟩ (fun hHeld => ?_); clear hK K; refine norm_ (a' := ?_) ?_ ?_; rotate_left
                            · show Act.put _ (some 11) _ = _
                              simp only [Act.put, List.setIfInBounds_toArray, List.set_cons_zero, List.set_cons_succ, i64_w, i32_w]; rfl
                            refine one_ (i := 8) (N := some 10) #[true, true, true, true, true, true, true, true, true, true, false, false] rfl rfl (one_of HT_.out (by kernel_rfl)) (by decide) (fun K hK => ?_); refine box_step ?hg (N := 10) ?hd (cs := #[.complex .f32 ((0, 0) : Nat × Nat).1 ((0, 0) : Nat × Nat).2, .float .f32 0]) (t := 46) ?hr ?_; (case hd => rfl); (case hg => rfl); (case hr => first | (go_simp; done) | (go_simp; rfl)); intro gb111 hg w27 hbox hb; have n0_ := AS (Kd.R_below (Kd.R_elderB (RS HO_6.out) gb111 (Nat.le_of_eq hg.symm)) hb); have BK111 := AS (hbox); have GW111 := BG HB hg; have GE111 := BG HB hg; have NB112_111 := KN BK112 hg; have NB111_112 := KM BK112 hg; replace BK112 := KB BK112 hb; replace HB := BB HB hb; replace HO_6 := n0_; clear n0_; clear hb hbox hg; refine hK.out _ _ ⟨((HB.out.cell (World.block_lt_of_cell? w _ hw109_0)).trans hw109_0), ((HB.out.cell (World.block_lt_of_cell? w _ hw109_1)).trans hw109_1), ((HB.out.cell (World.block_lt_of_cell? w _ hw110_0)).trans hw110_0), ((HB.out.cell (World.block_lt_of_cell? w _ hw110_1)).trans hw110_1)⟩ (fun hHeld => ?_); clear hK K; refine norm_ (a' := ?_) ?_ ?_; rotate_left
                            · show Act.put _ (some 10) _ = _
                              simp only [Act.put, List.setIfInBounds_toArray, List.set_cons_zero, List.set_cons_succ, i64_w, i32_w]; rfl
                            exact norm_ (by simp only [putAll, Act.put, List.setIfInBounds_toArray, List.set_cons_zero, List.set_cons_succ]) (hCont (gb111, gb112) _ ⟨hHeld, (RS (Kd.R_mono HO_6.out (fun _ hk => ⟨hk.2, hk.1.2⟩))), (KS BK111.out), (KS BK112.out), GW111.out, GE111.out, NB112_111.out, NB111_112.out, GW112.out, GE112.out, (BW HB)⟩)
                        rintro ⟨gb111, gb112⟩ w28 ⟨hS_, h0_, h1_, h2_, h3_, h4_, h5_, h6_, h7_, h8_, h9_⟩; have n0_ : Aside0 (Kd.R k46 46 w28 w.heap.size (fun k_ => k_ ≠ gb111 ∧ k_ ≠ gb112) v103 t102) := ⟨h0_⟩; have n1_ : Aside0 (w28.heap[gb111]? = some (.cells #[.complex .f32 ((0, 0) : Nat × Nat).1 ((0, 0) : Nat × Nat).2, .float .f32 0] 46 (0, 0))) := ⟨h1_⟩; have n2_ : Aside0 (w28.heap[gb112]? = some (.cells #[.complex .f32 ((0, 0) : Nat × Nat).1 ((0, 0) : Nat × Nat).2, .float .f32 0] 46 (0, 0))) := ⟨h2_⟩; have n3_ : Aside0 (w.heap.size ≤ gb111) := ⟨h3_⟩; have n4_ : Aside0 (w.heap.size ≤ gb111) := ⟨h4_⟩; have n5_ : Aside0 (gb112 ≠ gb111) := ⟨h5_⟩; have n6_ : Aside0 (gb111 ≠ gb112) := ⟨h6_⟩; have n7_ : Aside0 (w.heap.size ≤ gb112) := ⟨h7_⟩; have n8_ : Aside0 (w.heap.size ≤ gb112) := ⟨h8_⟩; have n9_ : Aside0 (Below w.heap.size w w28) := ⟨h9_⟩; clear HO_6; clear HB; clear h0_ h1_ h2_ h3_ h4_ h5_ h6_ h7_ h8_ h9_; have HO_6 := n0_; have BK111 := n1_; have BK112 := n2_; have GW111 := n3_; have GE111 := n4_; have NB112_111 := n5_; have NB111_112 := n6_; have GW112 := n7_; have GE112 := n8_; have HB := n9_; clear n0_ n1_ n2_ n3_ n4_ n5_ n6_ n7_ n8_ n9_; have hHeld : w28.cell? (ad109.add ((t105).toNat * 2)) = some (.complex .f32 ((rd_T46 l0 t105).f0).1 ((rd_T46 l0 t105).f0).2) ∧ w28.cell? ⟨(ad109.add ((t105).toNat * 2)).block, (ad109.add ((t105).toNat * 2)).off + 1, none⟩ = some (.float .f32 ((rd_T46 l0 t105).f1)) ∧ w28.cell? (ad109.add ((t106).toNat * 2)) = some (.complex .f32 ((rd_T46 l0 t106).f0).1 ((rd_T46 l0 t106).f0).2) ∧ w28.cell? ⟨(ad109.add ((t106).toNat * 2)).block, (ad109.add ((t106).toNat * 2)).off + 1, none⟩ = some (.float .f32 ((rd_T46 l0 t106).f1)) := hS_; refine norm_ (a' := ?_) ?_ ?_; rotate_left
                        · simp only [putAll, Act.put, List.setIfInBounds_toArray, List.set_cons_zero, List.set_cons_succ]
                          rfl
                        refine one_ (i := 10) (N := none) #[true, true, true, true, true, true, true, true, true, true, true, false] rfl rfl (one_of HT_.out (by kernel_rfl)) (by decide) (fun K hK => ?_); have hs29 : w28.cell? ⟨gb111, 0, none⟩ = some (.complex .f32 ((0, 0) : Nat × Nat).1 ((0, 0) : Nat × Nat).2) := (blk_cell BK111.out 0).trans rfl; have hfs29 := blk_frozen BK111.out 0; have hns29_1 := NB112_111.out; have hms29_1 := NB111_112.out; have hs30 : w28.cell? ⟨gb111, 1, none⟩ = some (.float .f32 0) := (blk_cell BK111.out 1).trans rfl; have hfs30 := blk_frozen BK111.out 1; have hns30_1 := NB112_111.out; have hms30_1 := NB111_112.out; refine skip_ (w1 := ?_) (by rfl) rfl ?_ ?_; rotate_left
                        · go_simp
                          rfl
                        refine hK.out _ _ ⟨((cell_far (p := ⟨gb111, _, none⟩) (by first | exact Nat.ne_of_lt (Nat.lt_of_lt_of_le (by have := World.block_lt_of_cell? _ _ hw109_0; first | rwa [add_block] at this | exact this) GW111.out) | (rw [add_block]; exact Nat.ne_of_lt (Nat.lt_of_lt_of_le (by have := World.block_lt_of_cell? _ _ hw109_0; first | rwa [add_block] at this | exact this) GW111.out)) | (show (Addr.add _ _).block ≠ _; rw [add_block]; exact Nat.ne_of_lt (Nat.lt_of_lt_of_le (by have := World.block_lt_of_cell? _ _ hw109_0; first | rwa [add_block] at this | exact this) GW111.out)) | (dsimp only; exact Nat.ne_of_lt (Nat.lt_of_lt_of_le (by have := World.block_lt_of_cell? _ _ hw109_0; first | rwa [add_block] at this | exact this) GW111.out))) _).trans (((cell_far (p := ⟨gb111, _, none⟩) (by first | exact Nat.ne_of_lt (Nat.lt_of_lt_of_le (by have := World.block_lt_of_cell? _ _ hw109_0; first | rwa [add_block] at this | exact this) GW111.out) | (rw [add_block]; exact Nat.ne_of_lt (Nat.lt_of_lt_of_le (by have := World.block_lt_of_cell? _ _ hw109_0; first | rwa [add_block] at this | exact this) GW111.out)) | (show (Addr.add _ _).block ≠ _; rw [add_block]; exact Nat.ne_of_lt (Nat.lt_of_lt_of_le (by have := World.block_lt_of_cell? _ _ hw109_0; first | rwa [add_block] at this | exact this) GW111.out)) | (dsimp only; exact Nat.ne_of_lt (Nat.lt_of_lt_of_le (by have := World.block_lt_of_cell? _ _ hw109_0; first | rwa [add_block] at this | exact this) GW111.out))) _).trans (hHeld.1)))), ((cell_far (p := ⟨gb111, _, none⟩) (by first | exact Nat.ne_of_lt (Nat.lt_of_lt_of_le (by have := World.block_lt_of_cell? _ _ hw109_1; first | rwa [add_block] at this | exact this) GW111.out) | (rw [add_block]; exact Nat.ne_of_lt (Nat.lt_of_lt_of_le (by have := World.block_lt_of_cell? _ _ hw109_1; first | rwa [add_block] at this | exact this) GW111.out)) | (show (Addr.add _ _).block ≠ _; rw [add_block]; exact Nat.ne_of_lt (Nat.lt_of_lt_of_le (by have := World.block_lt_of_cell? _ _ hw109_1; first | rwa [add_block] at this | exact this) GW111.out)) | (dsimp only; exact Nat.ne_of_lt (Nat.lt_of_lt_of_le (by have := World.block_lt_of_cell? _ _ hw109_1; first | rwa [add_block] at this | exact this) GW111.out))) _).trans (((cell_far (p := ⟨gb111, _, none⟩) (by first | exact Nat.ne_of_lt (Nat.lt_of_lt_of_le (by have := World.block_lt_of_cell? _ _ hw109_1; first | rwa [add_block] at this | exact this) GW111.out) | (rw [add_block]; exact Nat.ne_of_lt (Nat.lt_of_lt_of_le (by have := World.block_lt_of_cell? _ _ hw109_1; first | rwa [add_block] at this | exact this) GW111.out)) | (show (Addr.add _ _).block ≠ _; rw [add_block]; exact Nat.ne_of_lt (Nat.lt_of_lt_of_le (by have := World.block_lt_of_cell? _ _ hw109_1; first | rwa [add_block] at this | exact this) GW111.out)) | (dsimp only; exact Nat.ne_of_lt (Nat.lt_of_lt_of_le (by have := World.block_lt_of_cell? _ _ hw109_1; first | rwa [add_block] at this | exact this) GW111.out))) _).trans (hHeld.2.1)))), ((cell_far (p := ⟨gb111, _, none⟩) (by first | exact Nat.ne_of_lt (Nat.lt_of_lt_of_le (by have := World.block_lt_of_cell? _ _ hw110_0; first | rwa [add_block] at this | exact this) GW111.out) | (rw [add_block]; exact Nat.ne_of_lt (Nat.lt_of_lt_of_le (by have := World.block_lt_of_cell? _ _ hw110_0; first | rwa [add_block] at this | exact this) GW111.out)) | (show (Addr.add _ _).block ≠ _; rw [add_block]; exact Nat.ne_of_lt (Nat.lt_of_lt_of_le (by have := World.block_lt_of_cell? _ _ hw110_0; first | rwa [add_block] at this | exact this) GW111.out)) | (dsimp only; exact Nat.ne_of_lt (Nat.lt_of_lt_of_le (by have := World.block_lt_of_cell? _ _ hw110_0; first | rwa [add_block] at this | exact this) GW111.out))) _).trans (((cell_far (p := ⟨gb111, _, none⟩) (by first | exact Nat.ne_of_lt (Nat.lt_of_lt_of_le (by have := World.block_lt_of_cell? _ _ hw110_0; first | rwa [add_block] at this | exact this) GW111.out) | (rw [add_block]; exact Nat.ne_of_lt (Nat.lt_of_lt_of_le (by have := World.block_lt_of_cell? _ _ hw110_0; first | rwa [add_block] at this | exact this) GW111.out)) | (show (Addr.add _ _).block ≠ _; rw [add_block]; exact Nat.ne_of_lt (Nat.lt_of_lt_of_le (by have := World.block_lt_of_cell? _ _ hw110_0; first | rwa [add_block] at this | exact this) GW111.out)) | (dsimp only; exact Nat.ne_of_lt (Nat.lt_of_lt_of_le (by have := World.block_lt_of_cell? _ _ hw110_0; first | rwa [add_block] at this | exact this) GW111.out))) _).trans (hHeld.2.2.1)))), ((cell_far (p := ⟨gb111, _, none⟩) (by first | exact Nat.ne_of_lt (Nat.lt_of_lt_of_le (by have := World.block_lt_of_cell? _ _ hw110_1; first | rwa [add_block] at this | exact this) GW111.out) | (rw [add_block]; exact Nat.ne_of_lt (Nat.lt_of_lt_of_le (by have := World.block_lt_of_cell? _ _ hw110_1; first | rwa [add_block] at this | exact this) GW111.out)) | (show (Addr.add _ _).block ≠ _; rw [add_block]; exact Nat.ne_of_lt (Nat.lt_of_lt_of_le (by have := World.block_lt_of_cell? _ _ hw110_1; first | rwa [add_block] at this | exact this) GW111.out)) | (dsimp only; exact Nat.ne_of_lt (Nat.lt_of_lt_of_le (by have := World.block_lt_of_cell? _ _ hw110_1; first | rwa [add_block] at this | exact this) GW111.out))) _).trans (((cell_far (p := ⟨gb111, _, none⟩) (by first | exact Nat.ne_of_lt (Nat.lt_of_lt_of_le (by have := World.block_lt_of_cell? _ _ hw110_1; first | rwa [add_block] at this | exact this) GW111.out) | (rw [add_block]; exact Nat.ne_of_lt (Nat.lt_of_lt_of_le (by have := World.block_lt_of_cell? _ _ hw110_1; first | rwa [add_block] at this | exact this) GW111.out)) | (show (Addr.add _ _).block ≠ _; rw [add_block]; exact Nat.ne_of_lt (Nat.lt_of_lt_of_le (by have := World.block_lt_of_cell? _ _ hw110_1; first | rwa [add_block] at this | exact this) GW111.out)) | (dsimp only; exact Nat.ne_of_lt (Nat.lt_of_lt_of_le (by have := World.block_lt_of_cell? _ _ hw110_1; first | rwa [add_block] at this | exact this) GW111.out))) _).trans (hHeld.2.2.2))))⟩ (fun hHeld => ?_); clear hK K; refine one_ (i := 11) (N := none) #[true, true, true, true, true, true, true, true, true, true, true, true] rfl rfl (one_of HT_.out (by kernel_rfl)) (by decide) (fun K hK => ?_); have hs31 : w28.cell? ⟨gb112, 0, none⟩ = some (.complex .f32 ((0, 0) : Nat × Nat).1 ((0, 0) : Nat × Nat).2) := (blk_cell BK112.out 0).trans rfl; have hfs31 := blk_frozen BK112.out 0; have hns31_0 := NB111_112.out; have hms31_0 := NB112_111.out; have hs32 : w28.cell? ⟨gb112, 1, none⟩ = some (.float .f32 0) := (blk_cell BK112.out 1).trans rfl; have hfs32 := blk_frozen BK112.out 1; have hns32_0 := NB111_112.out; have hms32_0 := NB112_111.out; refine skip_ (w1 := ?_) (by rfl) rfl ?_ ?_; rotate_left
                        · go_simp
                          rfl
                        refine hK.out _ _ ⟨((cell_far (p := ⟨gb112, _, none⟩) (by first | exact Nat.ne_of_lt (Nat.lt_of_lt_of_le (by have := World.block_lt_of_cell? _ _ hw109_0; first | rwa [add_block] at this | exact this) GW112.out) | (rw [add_block]; exact Nat.ne_of_lt (Nat.lt_of_lt_of_le (by have := World.block_lt_of_cell? _ _ hw109_0; first | rwa [add_block] at this | exact this) GW112.out)) | (show (Addr.add _ _).block ≠ _; rw [add_block]; exact Nat.ne_of_lt (Nat.lt_of_lt_of_le (by have := World.block_lt_of_cell? _ _ hw109_0; first | rwa [add_block] at this | exact this) GW112.out)) | (dsimp only; exact Nat.ne_of_lt (Nat.lt_of_lt_of_le (by have := World.block_lt_of_cell? _ _ hw109_0; first | rwa [add_block] at this | exact this) GW112.out))) _).trans (((cell_far (p := ⟨gb112, _, none⟩) (by first | exact Nat.ne_of_lt (Nat.lt_of_lt_of_le (by have := World.block_lt_of_cell? _ _ hw109_0; first | rwa [add_block] at this | exact this) GW112.out) | (rw [add_block]; exact Nat.ne_of_lt (Nat.lt_of_lt_of_le (by have := World.block_lt_of_cell? _ _ hw109_0; first | rwa [add_block] at this | exact this) GW112.out)) | (show (Addr.add _ _).block ≠ _; rw [add_block]; exact Nat.ne_of_lt (Nat.lt_of_lt_of_le (by have := World.block_lt_of_cell? _ _ hw109_0; first | rwa [add_block] at this | exact this) GW112.out)) | (dsimp only; exact Nat.ne_of_lt (Nat.lt_of_lt_of_le (by have := World.block_lt_of_cell? _ _ hw109_0; first | rwa [add_block] at this | exact this) GW112.out))) _).trans (hHeld.1)))), ((cell_far (p := ⟨gb112, _, none⟩) (by first | exact Nat.ne_of_lt (Nat.lt_of_lt_of_le (by have := World.block_lt_of_cell? _ _ hw109_1; first | rwa [add_block] at this | exact this) GW112.out) | (rw [add_block]; exact Nat.ne_of_lt (Nat.lt_of_lt_of_le (by have := World.block_lt_of_cell? _ _ hw109_1; first | rwa [add_block] at this | exact this) GW112.out)) | (show (Addr.add _ _).block ≠ _; rw [add_block]; exact Nat.ne_of_lt (Nat.lt_of_lt_of_le (by have := World.block_lt_of_cell? _ _ hw109_1; first | rwa [add_block] at this | exact this) GW112.out)) | (dsimp only; exact Nat.ne_of_lt (Nat.lt_of_lt_of_le (by have := World.block_lt_of_cell? _ _ hw109_1; first | rwa [add_block] at this | exact this) GW112.out))) _).trans (((cell_far (p := ⟨gb112, _, none⟩) (by first | exact Nat.ne_of_lt (Nat.lt_of_lt_of_le (by have := World.block_lt_of_cell? _ _ hw109_1; first | rwa [add_block] at this | exact this) GW112.out) | (rw [add_block]; exact Nat.ne_of_lt (Nat.lt_of_lt_of_le (by have := World.block_lt_of_cell? _ _ hw109_1; first | rwa [add_block] at this | exact this) GW112.out)) | (show (Addr.add _ _).block ≠ _; rw [add_block]; exact Nat.ne_of_lt (Nat.lt_of_lt_of_le (by have := World.block_lt_of_cell? _ _ hw109_1; first | rwa [add_block] at this | exact this) GW112.out)) | (dsimp only; exact Nat.ne_of_lt (Nat.lt_of_lt_of_le (by have := World.block_lt_of_cell? _ _ hw109_1; first | rwa [add_block] at this | exact this) GW112.out))) _).trans (hHeld.2.1)))), ((cell_far (p := ⟨gb112, _, none⟩) (by first | exact Nat.ne_of_lt (Nat.lt_of_lt_of_le (by have := World.block_lt_of_cell? _ _ hw110_0; first | rwa [add_block] at this | exact this) GW112.out) | (rw [add_block]; exact Nat.ne_of_lt (Nat.lt_of_lt_of_le (by have := World.block_lt_of_cell? _ _ hw110_0; first | rwa [add_block] at this | exact this) GW112.out)) | (show (Addr.add _ _).block ≠ _; rw [add_block]; exact Nat.ne_of_lt (Nat.lt_of_lt_of_le (by have := World.block_lt_of_cell? _ _ hw110_0; first | rwa [add_block] at this | exact this) GW112.out)) | (dsimp only; exact Nat.ne_of_lt (Nat.lt_of_lt_of_le (by have := World.block_lt_of_cell? _ _ hw110_0; first | rwa [add_block] at this | exact this) GW112.out))) _).trans (((cell_far (p := ⟨gb112, _, none⟩) (by first | exact Nat.ne_of_lt (Nat.lt_of_lt_of_le (by have := World.block_lt_of_cell? _ _ hw110_0; first | rwa [add_block] at this | exact this) GW112.out) | (rw [add_block]; exact Nat.ne_of_lt (Nat.lt_of_lt_of_le (by have := World.block_lt_of_cell? _ _ hw110_0; first | rwa [add_block] at this | exact this) GW112.out)) | (show (Addr.add _ _).block ≠ _; rw [add_block]; exact Nat.ne_of_lt (Nat.lt_of_lt_of_le (by have := World.block_lt_of_cell? _ _ hw110_0; first | rwa [add_block] at this | exact this) GW112.out)) | (dsimp only; exact Nat.ne_of_lt (Nat.lt_of_lt_of_le (by have := World.block_lt_of_cell? _ _ hw110_0; first | rwa [add_block] at this | exact this) GW112.out))) _).trans (hHeld.2.2.1)))), ((cell_far (p := ⟨gb112, _, none⟩) (by first | exact Nat.ne_of_lt (Nat.lt_of_lt_of_le (by have := World.block_lt_of_cell? _ _ hw110_1; first | rwa [add_block] at this | exact this) GW112.out) | (rw [add_block]; exact Nat.ne_of_lt (Nat.lt_of_lt_of_le (by have := World.block_lt_of_cell? _ _ hw110_1; first | rwa [add_block] at this | exact this) GW112.out)) | (show (Addr.add _ _).block ≠ _; rw [add_block]; exact Nat.ne_of_lt (Nat.lt_of_lt_of_le (by have := World.block_lt_of_cell? _ _ hw110_1; first | rwa [add_block] at this | exact this) GW112.out)) | (dsimp only; exact Nat.ne_of_lt (Nat.lt_of_lt_of_le (by have := World.block_lt_of_cell? _ _ hw110_1; first | rwa [add_block] at this | exact this) GW112.out))) _).trans (((cell_far (p := ⟨gb112, _, none⟩) (by first | exact Nat.ne_of_lt (Nat.lt_of_lt_of_le (by have := World.block_lt_of_cell? _ _ hw110_1; first | rwa [add_block] at this | exact this) GW112.out) | (rw [add_block]; exact Nat.ne_of_lt (Nat.lt_of_lt_of_le (by have := World.block_lt_of_cell? _ _ hw110_1; first | rwa [add_block] at this | exact this) GW112.out)) | (show (Addr.add _ _).block ≠ _; rw [add_block]; exact Nat.ne_of_lt (Nat.lt_of_lt_of_le (by have := World.block_lt_of_cell? _ _ hw110_1; first | rwa [add_block] at this | exact this) GW112.out)) | (dsimp only; exact Nat.ne_of_lt (Nat.lt_of_lt_of_le (by have := World.block_lt_of_cell? _ _ hw110_1; first | rwa [add_block] at this | exact this) GW112.out))) _).trans (hHeld.2.2.2))))⟩ (fun hHeld => ?_); clear hK K; refine done_ (done_of HT_.out (by kernel_rfl)) ?_; have n0_ : Aside0 (Kd.R k46 46 ((((w28.setCell ⟨gb111, 0, none⟩ (.complex .f32 ((rd_T46 l0 t105).f0).1 ((rd_T46 l0 t105).f0).2)).setCell ⟨gb111, 1, none⟩ (.float .f32 ((rd_T46 l0 t105).f1))).setCell ⟨gb112, 0, none⟩ (.complex .f32 ((rd_T46 l0 t106).f0).1 ((rd_T46 l0 t106).f0).2)).setCell ⟨gb112, 1, none⟩ (.float .f32 ((rd_T46 l0 t106).f1))) w.heap.size (fun k_ => k_ ≠ gb111 ∧ k_ ≠ gb112) v103 t102) := ⟨by (with_reducible repeat (first | apply Kd.R_alloc | apply Kd.R_drewN | apply Kd.R_drew)); exact (Kd.R_mono (Kd.R_far (p := ⟨gb112, 1, none⟩) (Kd.R_far (p := ⟨gb112, 0, none⟩) (Kd.R_far (p := ⟨gb111, 1, none⟩) (Kd.R_far (p := ⟨gb111, 0, none⟩) (Kd.R_mono (Kd.R_mono HO_6.out (fun k_ hk => (⟨hk, hk.1⟩ : _ ∧ k_ ≠ gb111))) (fun k_ hk => (⟨hk, hk.1.2⟩ : _ ∧ k_ ≠ gb112))) (fun _ hk => hk.1.2) (.complex .f32 ((rd_T46 l0 t105).f0).1 ((rd_T46 l0 t105).f0).2)) (fun _ hk => hk.1.2) (.float .f32 ((rd_T46 l0 t105).f1))) (fun _ hk => hk.2) (.complex .f32 ((rd_T46 l0 t106).f0).1 ((rd_T46 l0 t106).f0).2)) (fun _ hk => hk.2) (.float .f32 ((rd_T46 l0 t106).f1))) (fun _ hk => ⟨hk.1.1.1, hk.1.1.2⟩))⟩; have n1_ : Aside0 (((((w28.setCell ⟨gb111, 0, none⟩ (.complex .f32 ((rd_T46 l0 t105).f0).1 ((rd_T46 l0 t105).f0).2)).setCell ⟨gb111, 1, none⟩ (.float .f32 ((rd_T46 l0 t105).f1))).setCell ⟨gb112, 0, none⟩ (.complex .f32 ((rd_T46 l0 t106).f0).1 ((rd_T46 l0 t106).f0).2)).setCell ⟨gb112, 1, none⟩ (.float .f32 ((rd_T46 l0 t106).f1))).heap[gb111]? = some (.cells #[.complex .f32 ((rd_T46 l0 t105).f0).1 ((rd_T46 l0 t105).f0).2, .float .f32 ((rd_T46 l0 t105).f1)] 46 (0, 0))) := ⟨by (with_reducible repeat (first | refine blk_drewN ?_ _ | refine blk_drew ?_ | refine blk_alloc ?_ _)); refine blk_far ?_ NB111_112.out _; (with_reducible repeat (first | refine blk_drewN ?_ _ | refine blk_drew ?_ | refine blk_alloc ?_ _)); refine blk_far ?_ NB111_112.out _; (with_reducible repeat (first | refine blk_drewN ?_ _ | refine blk_drew ?_ | refine blk_alloc ?_ _)); refine blk_put (cs := #[.complex .f32 ((rd_T46 l0 t105).f0).1 ((rd_T46 l0 t105).f0).2, .float .f32 0]) ?_ 1 _ rfl; (with_reducible repeat (first | refine blk_drewN ?_ _ | refine blk_drew ?_ | refine blk_alloc ?_ _)); refine blk_put (cs := #[.complex .f32 ((0, 0) : Nat × Nat).1 ((0, 0) : Nat × Nat).2, .float .f32 0]) ?_ 0 _ rfl; (with_reducible repeat (first | refine blk_drewN ?_ _ | refine blk_drew ?_ | refine blk_alloc ?_ _)); exact BK111.out⟩; have n2_ : Aside0 (((((w28.setCell ⟨gb111, 0, none⟩ (.complex .f32 ((rd_T46 l0 t105).f0).1 ((rd_T46 l0 t105).f0).2)).setCell ⟨gb111, 1, none⟩ (.float .f32 ((rd_T46 l0 t105).f1))).setCell ⟨gb112, 0, none⟩ (.complex .f32 ((rd_T46 l0 t106).f0).1 ((rd_T46 l0 t106).f0).2)).setCell ⟨gb112, 1, none⟩ (.float .f32 ((rd_T46 l0 t106).f1))).heap[gb112]? = some (.cells #[.complex .f32 ((rd_T46 l0 t106).f0).1 ((rd_T46 l0 t106).f0).2, .float .f32 ((rd_T46 l0 t106).f1)] 46 (0, 0))) := ⟨by (with_reducible repeat (first | refine blk_drewN ?_ _ | refine blk_drew ?_ | refine blk_alloc ?_ _)); refine blk_put (cs := #[.complex .f32 ((rd_T46 l0 t106).f0).1 ((rd_T46 l0 t106).f0).2, .float .f32 0]) ?_ 1 _ rfl; (with_reducible repeat (first | refine blk_drewN ?_ _ | refine blk_drew ?_ | refine blk_alloc ?_ _)); refine blk_put (cs := #[.complex .f32 ((0, 0) : Nat × Nat).1 ((0, 0) : Nat × Nat).2, .float .f32 0]) ?_ 0 _ rfl; (with_reducible repeat (first | refine blk_drewN ?_ _ | refine blk_drew ?_ | refine blk_alloc ?_ _)); refine blk_far ?_ NB112_111.out _; (with_reducible repeat (first | refine blk_drewN ?_ _ | refine blk_drew ?_ | refine blk_alloc ?_ _)); refine blk_far ?_ NB112_111.out _; (with_reducible repeat (first | refine blk_drewN ?_ _ | refine blk_drew ?_ | refine blk_alloc ?_ _)); exact BK112.out⟩; have n3_ : Aside0 (Below w.heap.size w ((((w28.setCell ⟨gb111, 0, none⟩ (.complex .f32 ((rd_T46 l0 t105).f0).1 ((rd_T46 l0 t105).f0).2)).setCell ⟨gb111, 1, none⟩ (.float .f32 ((rd_T46 l0 t105).f1))).setCell ⟨gb112, 0, none⟩ (.complex .f32 ((rd_T46 l0 t106).f0).1 ((rd_T46 l0 t106).f0).2)).setCell ⟨gb112, 1, none⟩ (.float .f32 ((rd_T46 l0 t106).f1)))) := ⟨BW HB⟩; (try clear HO_6); (try clear BK111); (try clear BK112); (try clear HB); generalize ((((w28.setCell ⟨gb111, 0, none⟩ (.complex .f32 ((rd_T46 l0 t105).f0).1 ((rd_T46 l0 t105).f0).2)).setCell ⟨gb111, 1, none⟩ (.float .f32 ((rd_T46 l0 t105).f1))).setCell ⟨gb112, 0, none⟩ (.complex .f32 ((rd_T46 l0 t106).f0).1 ((rd_T46 l0 t106).f0).2)).setCell ⟨gb112, 1, none⟩ (.float .f32 ((rd_T46 l0 t106).f1))) = w33 at n0_ n1_ n2_ n3_ ⊢; have HO_6 := n0_; have BK111 := n1_; have BK112 := n2_; have HB := n3_; clear n0_ n1_ n2_ n3_; have hnb34 := NB111_112.out; have hnc34 := NB112_111.out; have hcz35_0 : w33.cell? ⟨gb111, 0, none⟩ = some (.complex .f32 ((rd_T46 l0 t105).f0).1 ((rd_T46 l0 t105).f0).2) := (blk_cell BK111.out 0).trans rfl; have hcz35_1 : w33.cell? ⟨gb111, 1, none⟩ = some (.float .f32 ((rd_T46 l0 t105).f1)) := (blk_cell BK111.out 1).trans rfl; have hfz35_0 := blk_frozen BK111.out 0; have hfz35_1 := blk_frozen BK111.out 1; have hcz36_0 : w33.cell? ⟨gb112, 0, none⟩ = some (.complex .f32 ((rd_T46 l0 t106).f0).1 ((rd_T46 l0 t106).f0).2) := (blk_cell BK112.out 0).trans rfl; have hcz36_1 : w33.cell? ⟨gb112, 1, none⟩ = some (.float .f32 ((rd_T46 l0 t106).f1)) := (blk_cell BK112.out 1).trans rfl; have hfz36_0 := blk_frozen BK112.out 0; have hfz36_1 := blk_frozen BK112.out 1; obtain ⟨Ao37, co37, eo37⟩ := Kd.R_slice HO_6.out; subst eo37; (try go_wp2_with (first | ((with_reducible refine gate_callee (f := 88) rfl ?_); refine goesM 55 Try.func88 #[.slice Ao37 t102.length co37, .int .i64 t106, .int .i64 (wrap64 (t106 + 1))] ?_; (with_reducible refine (XD.delW.calls (fun k_ => some k_ = (.slice Ao37 t102.length co37 : Value).ownBlock) (.slice Ao37 t102.length co37) t102 t106 (wrap64 (t106 + 1)) t113 w _ ?side1 ?side2 A22.out).mono ?_); (case side1 => repeat (first | (with_reducible first | exact HB.out | apply below_alloc | apply pw_below_drewN | apply below_drew1 | refine below_set ?_ GE111.out | refine below_set ?_ GE112.out) | exact HB.out)); (case side2 => exact Kd.R_tight rfl HO_6.out); rintro e w38 ⟨v114, rfl, ho0, hb, hkp⟩; refine ⟨_, rfl, ?_⟩; have n0_ := AS (blk_kept (KS BK111.out) hkp (fun hs_ => (fun e_ => (Kd.R_away HO_6.out (fun _ hk => hk.1)) e_) hs_)); have n1_ := AS (blk_kept (KS BK112.out) hkp (fun hs_ => (fun e_ => (Kd.R_away HO_6.out (fun _ hk => hk.2)) e_) hs_)); have HO115 := AS (Kd.R_mono (ok' := fun k_ => k_ ≠ gb111 ∧ k_ ≠ gb112) ho0 (fun k_ hk_ => ⟨Or.elim hk_ (fun hs_ => fun e_ => (Kd.R_away HO_6.out (fun _ hk => hk.1)) (by rw [← e_]; exact hs_)) (fun hn_ => (Kd.freshB (g := gb111) (o := .cells #[.complex .f32 ((rd_T46 l0 t105).f0).1 ((rd_T46 l0 t105).f0).2, .float .f32 ((rd_T46 l0 t105).f1)] 46 (0, 0)) (KS BK111.out) k_ hn_)), Or.elim hk_ (fun hs_ => fun e_ => (Kd.R_away HO_6.out (fun _ hk => hk.2)) (by rw [← e_]; exact hs_)) (fun hn_ => (Kd.freshB (g := gb112) (o := .cells #[.complex .f32 ((rd_T46 l0 t106).f0).1 ((rd_T46 l0 t106).f0).2, .float .f32 ((rd_T46 l0 t106).f1)] 46 (0, 0)) (KS BK112.out) k_ hn_))⟩)); have n3_ := AS (hb); replace BK111 := n0_; replace BK112 := n1_; replace HB := n3_; clear HO_6; clear n0_ n1_ n3_; (try clear hb); (try clear hkp); (try clear ho0); obtain ⟨Ao39, co39, eo39⟩ := Kd.R_slice HO115.out; subst eo39) | ((with_reducible refine gate_callee (f := 88) rfl ?_); refine goesM 62 Try.func88 #[.slice Ao39 t113.length co39, .int .i64 t105, .int .i64 (wrap64 (t105 + 1))] ?_; (with_reducible refine (XD.delW.calls (fun k_ => some k_ = (.slice Ao39 t113.length co39 : Value).ownBlock) (.slice Ao39 t113.length co39) t113 t105 (wrap64 (t105 + 1)) t116 w _ ?side1 ?side2 A24.out).mono ?_); (case side1 => repeat (first | (with_reducible first | exact HB.out | apply below_alloc | apply pw_below_drewN | apply below_drew1 | refine below_set ?_ GE111.out | refine below_set ?_ GE112.out) | exact HB.out)); (case side2 => exact Kd.R_tight rfl HO115.out); rintro e w40 ⟨v117, rfl, ho0, hb, hkp⟩; refine ⟨_, rfl, ?_⟩; have n0_ := AS (blk_kept (KS BK111.out) hkp (fun hs_ => (fun e_ => (Kd.R_away HO115.out (fun _ hk => hk.1)) e_) hs_)); have n1_ := AS (blk_kept (KS BK112.out) hkp (fun hs_ => (fun e_ => (Kd.R_away HO115.out (fun _ hk => hk.2)) e_) hs_)); have HO118 := AS (Kd.R_mono (ok' := fun k_ => k_ ≠ gb111 ∧ k_ ≠ gb112) ho0 (fun k_ hk_ => ⟨Or.elim hk_ (fun hs_ => fun e_ => (Kd.R_away HO115.out (fun _ hk => hk.1)) (by rw [← e_]; exact hs_)) (fun hn_ => (Kd.freshB (g := gb111) (o := .cells #[.complex .f32 ((rd_T46 l0 t105).f0).1 ((rd_T46 l0 t105).f0).2, .float .f32 ((rd_T46 l0 t105).f1)] 46 (0, 0)) (KS BK111.out) k_ hn_)), Or.elim hk_ (fun hs_ => fun e_ => (Kd.R_away HO115.out (fun _ hk => hk.2)) (by rw [← e_]; exact hs_)) (fun hn_ => (Kd.freshB (g := gb112) (o := .cells #[.complex .f32 ((rd_T46 l0 t106).f0).1 ((rd_T46 l0 t106).f0).2, .float .f32 ((rd_T46 l0 t106).f1)] 46 (0, 0)) (KS BK112.out) k_ hn_))⟩)); have n3_ := AS (hb); replace BK111 := n0_; replace BK112 := n1_; replace HB := n3_; clear HO115; clear n0_ n1_ n3_; (try clear hb); (try clear hkp); (try clear ho0)))); go_ret2; exact ⟨_, by first | rfl | (simp [errW_none, errW_some] <;> rfl) | (simp [*, errW_none, errW_some] <;> rfl), by (with_reducible repeat (first | apply Kd.R_alloc | apply Kd.R_drewN | apply Kd.R_drew)); exact Kd.R_mono HO118.out (fun _ hk => trivial), BW HB⟩
                      · rw [if_neg c23] at H
                        have c23b0 : (FloatKind.f32.format.order (fop .add .f32 ((rd_T46 l0 t105).f1) ((rd_T46 l0 t106).f1)) 0 == some .eq) = false := (by simpa using c23); (try (have c23b1 : decide (FloatKind.f32.format.order (fop .add .f32 ((rd_T46 l0 t105).f1) ((rd_T46 l0 t106).f1)) 0 = some .eq) = false := by simpa using c23)); (try (have c23b2 : (FloatKind.f32.format.order (fop .add .f32 ((rd_T46 l0 t105).f1) ((rd_T46 l0 t106).f1)) 0 == some .eq) = false := by simpa using c23)); (try (have c23b3 : ¬ (FloatKind.f32.format.order (fop .add .f32 ((rd_T46 l0 t105).f1) ((rd_T46 l0 t106).f1)) 0 = some .eq) := by simpa using c23)); clear c23; replace H := Option.bind_eq_some_iff.mp H; obtain ⟨t119, A410, H⟩ := H; (try dsimp only at H); have A41 := Aside0.mk A410; clear A410; replace H := Option.bind_eq_some_iff.mp H; obtain ⟨t120, A420, H⟩ := H; (try dsimp only at H); have A42 := Aside0.mk A420; clear A420; by_cases c43 : fok .add .f32 t119.1 t120.1 = true
                        · rw [if_pos c43] at H
                          have c43b0 := eq_true c43; have c43b1 : decide (fok .add .f32 t119.1 t120.1 = true) = true := decide_eq_true c43; clear c43; by_cases c44 : fok .add .f32 t119.2 t120.2 = true
                          · rw [if_pos c44] at H
                            have c44b0 := eq_true c44; have c44b1 : decide (fok .add .f32 t119.2 t120.2 = true) = true := decide_eq_true c44; clear c44; replace H := Option.bind_eq_some_iff.mp H; obtain ⟨t121, A450, H⟩ := H; replace H : (if t105 < (t113.length : Int) then ((S0.impl_toldWhirls.f kj9 (t113.set (t105 : Int).toNat (⟨t121, fop .add .f32 ((rd_T46 l0 t105).f1) ((rd_T46 l0 t106).f1)⟩ : S46))).bind fun bt123 => (some (bt123.1, bt123.2))) else (none)) = some (r1, r2) := H; have A45 := Aside0.mk A450; clear A450; by_cases c46 : t105 < (t113.length : Int)
                            · rw [if_pos c46] at H
                              have c46b0 : decide (t105 < (t113.length : Int)) = true := decide_eq_true c46; clear c46; obtain ⟨y122, hy122⟩ : ∃ y_ : List (S46), y_ = (t113.set (t105 : Int).toNat (⟨t121, fop .add .f32 ((rd_T46 l0 t105).f1) ((rd_T46 l0 t106).f1)⟩ : S46)) := ⟨_, rfl⟩; replace H : ((S0.impl_toldWhirls.f kj9 y122).bind fun bt123 => (some (bt123.1, bt123.2))) = some (r1, r2) := (by first | (rw [hy122]; with_reducible exact H) | (have H2_ := (Option.bind_some _ _).symm.trans H; rw [hy122]; with_reducible exact H2_) | (have H2_ := (Option.bind_some _ _).symm.trans H; with_reducible exact H2_) | with_reducible exact H | (rw [hy122]; exact H) | exact H); have Ny122 := Aside0.mk hy122; clear hy122; replace H := Option.bind_eq_some_iff.mp H; obtain ⟨⟨t123, t126⟩, A480, H⟩ := H; replace H : (some (t123, t126)) = some (r1, r2) := H; have A48 := Aside0.mk A480; clear A480; simp only [Option.some.injEq, Prod.mk.injEq] at H; obtain ⟨rfl, rfl⟩ := H; (try go_wp2); have n0_ := AS (Kd.R_drew HO_6.out); have n1_ := AS (below_drew1 HB.out); replace HO_6 := n0_; replace HB := n1_; clear n0_ n1_; have p109 : 0 ≤ (t105 : Int) := of_decide_eq_true (by first | (with_reducible assumption) | assumption); have q109 : t105 < (l0.length : Int) := of_decide_eq_true (by first | (with_reducible assumption) | assumption); obtain ⟨ad109, e109, hx109_0, hx109_1⟩ := at_T46 HR0.out t105 p109 q109; have hw109_1 := hx109_1; have hw109_0 := hx109_0; cases e109; replace hx109_0 := (HB.out.cell (World.block_lt_of_cell? w _ hx109_0)).trans hx109_0; replace hx109_1 := (HB.out.cell (World.block_lt_of_cell? w _ hx109_1)).trans hx109_1; replace p109 := eq_true p109; replace q109 := eq_true q109; have p110 : 0 ≤ (t106 : Int) := of_decide_eq_true (by first | (with_reducible assumption) | assumption); have q110 : t106 < (l0.length : Int) := of_decide_eq_true (by first | (with_reducible assumption) | assumption); obtain ⟨ad110, e110, hx110_0, hx110_1⟩ := at_T46 HR0.out t106 p110 q110; have hw110_1 := hx110_1; have hw110_0 := hx110_0; obtain rfl : ad109 = ad110 := (by injection e110); replace hx110_0 := (HB.out.cell (World.block_lt_of_cell? w _ hx110_0)).trans hx110_0; replace hx110_1 := (HB.out.cell (World.block_lt_of_cell? w _ hx110_1)).trans hx110_1; replace p110 := eq_true p110; replace q110 := eq_true q110; refine start_ (n := 12) (S := fun w' => w'.cell? (ad109.add ((t105).toNat * 2)) = some (.complex .f32 ((rd_T46 l0 t105).f0).1 ((rd_T46 l0 t105).f0).2) ∧ w'.cell? ⟨(ad109.add ((t105).toNat * 2)).block, (ad109.add ((t105).toNat * 2)).off + 1, none⟩ = some (.float .f32 ((rd_T46 l0 t105).f1)) ∧ w'.cell? (ad109.add ((t106).toNat * 2)) = some (.complex .f32 ((rd_T46 l0 t106).f0).1 ((rd_T46 l0 t106).f0).2) ∧ w'.cell? ⟨(ad109.add ((t106).toNat * 2)).block, (ad109.add ((t106).toNat * 2)).off + 1, none⟩ = some (.float .f32 ((rd_T46 l0 t106).f1))) (ds := []) #[false, false, false, false, false, false, false, false, false, false, false, false] (by kernel_rfl) rfl rfl ⟨((HB.out.cell (World.block_lt_of_cell? w _ hw109_0)).trans hw109_0), ((HB.out.cell (World.block_lt_of_cell? w _ hw109_1)).trans hw109_1), ((HB.out.cell (World.block_lt_of_cell? w _ hw110_0)).trans hw110_0), ((HB.out.cell (World.block_lt_of_cell? w _ hw110_1)).trans hw110_1)⟩ (fun hHeld => ?_); refine with_tabW impl_MergeNearest.tab9 impl_MergeNearest.bits9 (fun HT_ HW_ => ?_); generalize wc.drew = w49 at HO_6 HB hx109_0 hx109_1 hx110_0 hx110_1 hHeld ⊢; refine pureT 0 38 HT_.out ?_; refine pureT 1 39 HT_.out ?_; refine pureT 2 40 HT_.out ?_; refine pureT 4 42 HT_.out ?_; refine pureT 5 43 HT_.out ?_; refine pureT 6 44 HT_.out ?_; refine takeS (i := 3) (N := some 41) (v := ?_) (a' := ?_) rfl rfl (take_ofW HT_.out HW_.out (by kernel_rfl)) (fun _ _ _ h => h) (Or.inl ⟨by rfl, ?_⟩) hHeld ?_ ?_; rotate_left; (· rintro w' ⟨s0, s1, s2, s3⟩; go_simp; with_reducible rfl); rotate_left; (· simp only [Act.put, List.setIfInBounds_toArray, List.set_cons_zero, List.set_cons_succ, i64_w, i32_w]; rfl); refine takeS (i := 7) (N := some 45) (v := ?_) (a' := ?_) rfl rfl (take_ofW HT_.out HW_.out (by kernel_rfl)) (fun _ _ _ h => h) (Or.inl ⟨by rfl, ?_⟩) hHeld ?_ ?_; rotate_left; (· rintro w' ⟨s0, s1, s2, s3⟩; go_simp; with_reducible rfl); rotate_left; (· simp only [Act.put, List.setIfInBounds_toArray, List.set_cons_zero, List.set_cons_succ, i64_w, i32_w]; rfl); refine join_ (σ := Nat × Nat) 2 #[true, true, true, true, true, true, true, true, true, true, false, false] (fun s_ => [(10, .pointer (some ⟨s_.1, 0, none⟩)), (11, .pointer (some ⟨s_.2, 0, none⟩))]) (fun s_ w' => (w'.cell? (ad109.add ((t105).toNat * 2)) = some (.complex .f32 ((rd_T46 l0 t105).f0).1 ((rd_T46 l0 t105).f0).2) ∧ w'.cell? ⟨(ad109.add ((t105).toNat * 2)).block, (ad109.add ((t105).toNat * 2)).off + 1, none⟩ = some (.float .f32 ((rd_T46 l0 t105).f1)) ∧ w'.cell? (ad109.add ((t106).toNat * 2)) = some (.complex .f32 ((rd_T46 l0 t106).f0).1 ((rd_T46 l0 t106).f0).2) ∧ w'.cell? ⟨(ad109.add ((t106).toNat * 2)).block, (ad109.add ((t106).toNat * 2)).off + 1, none⟩ = some (.float .f32 ((rd_T46 l0 t106).f1))) ∧ (Kd.R k46 46 w' w.heap.size (fun k_ => k_ ≠ s_.1 ∧ k_ ≠ s_.2) v103 t102) ∧ (w'.heap[s_.1]? = some (.cells #[.complex .f32 ((0, 0) : Nat × Nat).1 ((0, 0) : Nat × Nat).2, .float .f32 0] 46 (0, 0))) ∧ (w'.heap[s_.2]? = some (.cells #[.complex .f32 ((0, 0) : Nat × Nat).1 ((0, 0) : Nat × Nat).2, .float .f32 0] 46 (0, 0))) ∧ (w.heap.size ≤ s_.1) ∧ (w.heap.size ≤ s_.1) ∧ (s_.2 ≠ s_.1) ∧ (s_.1 ≠ s_.2) ∧ (w.heap.size ≤ s_.2) ∧ (w.heap.size ≤ s_.2) ∧ (Below w.heap.size w w')) ?_ ?_; rotate_left
                              · intro hCont
                                refine two_ (i := 8) (j := 9) (Ni := some 10) (Nj := some 11) #[true, true, true, true, true, true, true, true, true, false, false, false] #[true, true, true, true, true, true, true, true, false, true, false, false] rfl rfl rfl rfl (two_of HT_.out (by kernel_rfl)) (by decide) (by decide) (fun K hK => ?_) (fun K hK => ?_)
                                · skip
                                  refine box_step ?hg (N := 10) ?hd (cs := #[.complex .f32 ((0, 0) : Nat × Nat).1 ((0, 0) : Nat × Nat).2, .float .f32 0]) (t := 46) ?hr ?_; (case hd => rfl); (case hg => rfl); (case hr => first | (go_simp; done) | (go_simp; rfl)); intro gb111 hg w50 hbox hb; have n0_ := AS (Kd.R_below (Kd.R_elderB (RS HO_6.out) gb111 (Nat.le_of_eq hg.symm)) hb); have BK111 := AS (hbox); have GW111 := BG HB hg; have GE111 := BG HB hg; replace HB := BB HB hb; replace HO_6 := n0_; clear n0_; clear hb hbox hg; refine hK.out _ _ ⟨((HB.out.cell (World.block_lt_of_cell? w _ hw109_0)).trans hw109_0), ((HB.out.cell (World.block_lt_of_cell? w _ hw109_1)).trans hw109_1), ((HB.out.cell (World.block_lt_of_cell? w _ hw110_0)).trans hw110_0), ((HB.out.cell (World.block_lt_of_cell? w _ hw110_1)).trans hw110_1)⟩ (fun hHeld => ?_); clear hK K; refine norm_ (a' := ?_) ?_ ?_; rotate_left
                                  · show Act.put _ (some 10) _ = _
                                    simp only [Act.put, List.setIfInBounds_toArray, List.set_cons_zero, List.set_cons_succ, i64_w, i32_w]; rfl
                                  refine one_ (i := 9) (N := some 11) #[true, true, true, true, true, true, true, true, true, true, false, false] rfl rfl (one_of HT_.out (by kernel_rfl)) (by decide) (fun K hK => ?_); refine box_step ?hg (N := 11) ?hd (cs := #[.complex .f32 ((0, 0) : Nat × Nat).1 ((0, 0) : Nat × Nat).2, .float .f32 0]) (t := 46) ?hr ?_; (case hd => rfl); (case hg => rfl); (case hr => first | (go_simp; done) | (go_simp; rfl)); intro gb112 hg w51 hbox hb; have n0_ := AS (Kd.R_below (Kd.R_elderB (RS HO_6.out) gb112 (Nat.le_of_eq hg.symm)) hb); have BK112 := AS (hbox); have GW112 := BG HB hg; have GE112 := BG HB hg; have NB111_112 := KN BK111 hg; have NB112_111 := KM BK111 hg; replace BK111 := KB BK111 hb; replace HB := BB HB hb; replace HO_6 := n0_; clear n0_; clear hb hbox hg; refine hK.out _ _ ⟨((HB.out.cell (World.block_lt_of_cell? w _ hw109_0)).trans hw109_0), ((HB.out.cell (World.block_lt_of_cell? w _ hw109_1)).trans hw109_1), ((HB.out.cell (World.block_lt_of_cell? w _ hw110_0)).trans hw110_0), ((HB.out.cell (World.block_lt_of_cell? w _ hw110_1)).trans hw110_1)⟩ (fun hHeld => ?_); clear hK K; refine norm_ (a' := ?_) ?_ ?_; rotate_left
                                  · show Act.put _ (some 11) _ = _
                                    simp only [Act.put, List.setIfInBounds_toArray, List.set_cons_zero, List.set_cons_succ, i64_w, i32_w]; rfl
                                  exact norm_ (by simp only [putAll, Act.put, List.setIfInBounds_toArray, List.set_cons_zero, List.set_cons_succ]) (hCont (gb111, gb112) _ ⟨hHeld, (RS (Kd.R_mono HO_6.out (fun _ hk => ⟨hk.1.2, hk.2⟩))), (KS BK111.out), (KS BK112.out), GW111.out, GE111.out, NB112_111.out, NB111_112.out, GW112.out, GE112.out, (BW HB)⟩)
                                · skip
                                  refine box_step ?hg (N := 11) ?hd (cs := #[.complex .f32 ((0, 0) : Nat × Nat).1 ((0, 0) : Nat × Nat).2, .float .f32 0]) (t := 46) ?hr ?_; (case hd => rfl); (case hg => rfl); (case hr => first | (go_simp; done) | (go_simp; rfl)); intro gb112 hg w50 hbox hb; have n0_ := AS (Kd.R_below (Kd.R_elderB (RS HO_6.out) gb112 (Nat.le_of_eq hg.symm)) hb); have BK112 := AS (hbox); have GW112 := BG HB hg; have GE112 := BG HB hg; replace HB := BB HB hb; replace HO_6 := n0_; clear n0_; clear hb hbox hg; refine hK.out _ _ ⟨((HB.out.cell (World.block_lt_of_cell? w _ hw109_0)).trans hw109_0), ((HB.out.cell (World.block_lt_of_cell? w _ hw109_1)).trans hw109_1), ((HB.out.cell (World.block_lt_of_cell? w _ hw110_0)).trans hw110_0), ((HB.out.cell (World.block_lt_of_cell? w _ hw110_1)).trans hw110_1)⟩ (fun hHeld => ?_); clear hK K; refine norm_ (a' := ?_) ?_ ?_; rotate_left
                                  · show Act.put _ (some 11) _ = _
                                    simp only [Act.put, List.setIfInBounds_toArray, List.set_cons_zero, List.set_cons_succ, i64_w, i32_w]; rfl
                                  refine one_ (i := 8) (N := some 10) #[true, true, true, true, true, true, true, true, true, true, false, false] rfl rfl (one_of HT_.out (by kernel_rfl)) (by decide) (fun K hK => ?_); refine box_step ?hg (N := 10) ?hd (cs := #[.complex .f32 ((0, 0) : Nat × Nat).1 ((0, 0) : Nat × Nat).2, .float .f32 0]) (t := 46) ?hr ?_; (case hd => rfl); (case hg => rfl); (case hr => first | (go_simp; done) | (go_simp; rfl)); intro gb111 hg w51 hbox hb; have n0_ := AS (Kd.R_below (Kd.R_elderB (RS HO_6.out) gb111 (Nat.le_of_eq hg.symm)) hb); have BK111 := AS (hbox); have GW111 := BG HB hg; have GE111 := BG HB hg; have NB112_111 := KN BK112 hg; have NB111_112 := KM BK112 hg; replace BK112 := KB BK112 hb; replace HB := BB HB hb; replace HO_6 := n0_; clear n0_; clear hb hbox hg; refine hK.out _ _ ⟨((HB.out.cell (World.block_lt_of_cell? w _ hw109_0)).trans hw109_0), ((HB.out.cell (World.block_lt_of_cell? w _ hw109_1)).trans hw109_1), ((HB.out.cell (World.block_lt_of_cell? w _ hw110_0)).trans hw110_0), ((HB.out.cell (World.block_lt_of_cell? w _ hw110_1)).trans hw110_1)⟩ (fun hHeld => ?_); clear hK K; refine norm_ (a' := ?_) ?_ ?_; rotate_left
                                  · show Act.put _ (some 10) _ = _
                                    simp only [Act.put, List.setIfInBounds_toArray, List.set_cons_zero, List.set_cons_succ, i64_w, i32_w]; rfl
                                  exact norm_ (by simp only [putAll, Act.put, List.setIfInBounds_toArray, List.set_cons_zero, List.set_cons_succ]) (hCont (gb111, gb112) _ ⟨hHeld, (RS (Kd.R_mono HO_6.out (fun _ hk => ⟨hk.2, hk.1.2⟩))), (KS BK111.out), (KS BK112.out), GW111.out, GE111.out, NB112_111.out, NB111_112.out, GW112.out, GE112.out, (BW HB)⟩)
                              rintro ⟨gb111, gb112⟩ w52 ⟨hS_, h0_, h1_, h2_, h3_, h4_, h5_, h6_, h7_, h8_, h9_⟩; have n0_ : Aside0 (Kd.R k46 46 w52 w.heap.size (fun k_ => k_ ≠ gb111 ∧ k_ ≠ gb112) v103 t102) := ⟨h0_⟩; have n1_ : Aside0 (w52.heap[gb111]? = some (.cells #[.complex .f32 ((0, 0) : Nat × Nat).1 ((0, 0) : Nat × Nat).2, .float .f32 0] 46 (0, 0))) := ⟨h1_⟩; have n2_ : Aside0 (w52.heap[gb112]? = some (.cells #[.complex .f32 ((0, 0) : Nat × Nat).1 ((0, 0) : Nat × Nat).2, .float .f32 0] 46 (0, 0))) := ⟨h2_⟩; have n3_ : Aside0 (w.heap.size ≤ gb111) := ⟨h3_⟩; have n4_ : Aside0 (w.heap.size ≤ gb111) := ⟨h4_⟩; have n5_ : Aside0 (gb112 ≠ gb111) := ⟨h5_⟩; have n6_ : Aside0 (gb111 ≠ gb112) := ⟨h6_⟩; have n7_ : Aside0 (w.heap.size ≤ gb112) := ⟨h7_⟩; have n8_ : Aside0 (w.heap.size ≤ gb112) := ⟨h8_⟩; have n9_ : Aside0 (Below w.heap.size w w52) := ⟨h9_⟩; clear HO_6; clear HB; clear h0_ h1_ h2_ h3_ h4_ h5_ h6_ h7_ h8_ h9_; have HO_6 := n0_; have BK111 := n1_; have BK112 := n2_; have GW111 := n3_; have GE111 := n4_; have NB112_111 := n5_; have NB111_112 := n6_; have GW112 := n7_; have GE112 := n8_; have HB := n9_; clear n0_ n1_ n2_ n3_ n4_ n5_ n6_ n7_ n8_ n9_; have hHeld : w52.cell? (ad109.add ((t105).toNat * 2)) = some (.complex .f32 ((rd_T46 l0 t105).f0).1 ((rd_T46 l0 t105).f0).2) ∧ w52.cell? ⟨(ad109.add ((t105).toNat * 2)).block, (ad109.add ((t105).toNat * 2)).off + 1, none⟩ = some (.float .f32 ((rd_T46 l0 t105).f1)) ∧ w52.cell? (ad109.add ((t106).toNat * 2)) = some (.complex .f32 ((rd_T46 l0 t106).f0).1 ((rd_T46 l0 t106).f0).2) ∧ w52.cell? ⟨(ad109.add ((t106).toNat * 2)).block, (ad109.add ((t106).toNat * 2)).off + 1, none⟩ = some (.float .f32 ((rd_T46 l0 t106).f1)) := hS_; refine norm_ (a' := ?_) ?_ ?_; rotate_left
                              · simp only [putAll, Act.put, List.setIfInBounds_toArray, List.set_cons_zero, List.set_cons_succ]
                                rfl
                              refine one_ (i := 10) (N := none) #[true, true, true, true, true, true, true, true, true, true, true, false] rfl rfl (one_of HT_.out (by kernel_rfl)) (by decide) (fun K hK => ?_); have hs53 : w52.cell? ⟨gb111, 0, none⟩ = some (.complex .f32 ((0, 0) : Nat × Nat).1 ((0, 0) : Nat × Nat).2) := (blk_cell BK111.out 0).trans rfl; have hfs53 := blk_frozen BK111.out 0; have hns53_1 := NB112_111.out; have hms53_1 := NB111_112.out; have hs54 : w52.cell? ⟨gb111, 1, none⟩ = some (.float .f32 0) := (blk_cell BK111.out 1).trans rfl; have hfs54 := blk_frozen BK111.out 1; have hns54_1 := NB112_111.out; have hms54_1 := NB111_112.out; refine skip_ (w1 := ?_) (by rfl) rfl ?_ ?_; rotate_left
                              · go_simp
                                rfl
                              refine hK.out _ _ ⟨((cell_far (p := ⟨gb111, _, none⟩) (by first | exact Nat.ne_of_lt (Nat.lt_of_lt_of_le (by have := World.block_lt_of_cell? _ _ hw109_0; first | rwa [add_block] at this | exact this) GW111.out) | (rw [add_block]; exact Nat.ne_of_lt (Nat.lt_of_lt_of_le (by have := World.block_lt_of_cell? _ _ hw109_0; first | rwa [add_block] at this | exact this) GW111.out)) | (show (Addr.add _ _).block ≠ _; rw [add_block]; exact Nat.ne_of_lt (Nat.lt_of_lt_of_le (by have := World.block_lt_of_cell? _ _ hw109_0; first | rwa [add_block] at this | exact this) GW111.out)) | (dsimp only; exact Nat.ne_of_lt (Nat.lt_of_lt_of_le (by have := World.block_lt_of_cell? _ _ hw109_0; first | rwa [add_block] at this | exact this) GW111.out))) _).trans (((cell_far (p := ⟨gb111, _, none⟩) (by first | exact Nat.ne_of_lt (Nat.lt_of_lt_of_le (by have := World.block_lt_of_cell? _ _ hw109_0; first | rwa [add_block] at this | exact this) GW111.out) | (rw [add_block]; exact Nat.ne_of_lt (Nat.lt_of_lt_of_le (by have := World.block_lt_of_cell? _ _ hw109_0; first | rwa [add_block] at this | exact this) GW111.out)) | (show (Addr.add _ _).block ≠ _; rw [add_block]; exact Nat.ne_of_lt (Nat.lt_of_lt_of_le (by have := World.block_lt_of_cell? _ _ hw109_0; first | rwa [add_block] at this | exact this) GW111.out)) | (dsimp only; exact Nat.ne_of_lt (Nat.lt_of_lt_of_le (by have := World.block_lt_of_cell? _ _ hw109_0; first | rwa [add_block] at this | exact this) GW111.out))) _).trans (hHeld.1)))), ((cell_far (p := ⟨gb111, _, none⟩) (by first | exact Nat.ne_of_lt (Nat.lt_of_lt_of_le (by have := World.block_lt_of_cell? _ _ hw109_1; first | rwa [add_block] at this | exact this) GW111.out) | (rw [add_block]; exact Nat.ne_of_lt (Nat.lt_of_lt_of_le (by have := World.block_lt_of_cell? _ _ hw109_1; first | rwa [add_block] at this | exact this) GW111.out)) | (show (Addr.add _ _).block ≠ _; rw [add_block]; exact Nat.ne_of_lt (Nat.lt_of_lt_of_le (by have := World.block_lt_of_cell? _ _ hw109_1; first | rwa [add_block] at this | exact this) GW111.out)) | (dsimp only; exact Nat.ne_of_lt (Nat.lt_of_lt_of_le (by have := World.block_lt_of_cell? _ _ hw109_1; first | rwa [add_block] at this | exact this) GW111.out))) _).trans (((cell_far (p := ⟨gb111, _, none⟩) (by first | exact Nat.ne_of_lt (Nat.lt_of_lt_of_le (by have := World.block_lt_of_cell? _ _ hw109_1; first | rwa [add_block] at this | exact this) GW111.out) | (rw [add_block]; exact Nat.ne_of_lt (Nat.lt_of_lt_of_le (by have := World.block_lt_of_cell? _ _ hw109_1; first | rwa [add_block] at this | exact this) GW111.out)) | (show (Addr.add _ _).block ≠ _; rw [add_block]; exact Nat.ne_of_lt (Nat.lt_of_lt_of_le (by have := World.block_lt_of_cell? _ _ hw109_1; first | rwa [add_block] at this | exact this) GW111.out)) | (dsimp only; exact Nat.ne_of_lt (Nat.lt_of_lt_of_le (by have := World.block_lt_of_cell? _ _ hw109_1; first | rwa [add_block] at this | exact this) GW111.out))) _).trans (hHeld.2.1)))), ((cell_far (p := ⟨gb111, _, none⟩) (by first | exact Nat.ne_of_lt (Nat.lt_of_lt_of_le (by have := World.block_lt_of_cell? _ _ hw110_0; first | rwa [add_block] at this | exact this) GW111.out) | (rw [add_block]; exact Nat.ne_of_lt (Nat.lt_of_lt_of_le (by have := World.block_lt_of_cell? _ _ hw110_0; first | rwa [add_block] at this | exact this) GW111.out)) | (show (Addr.add _ _).block ≠ _; rw [add_block]; exact Nat.ne_of_lt (Nat.lt_of_lt_of_le (by have := World.block_lt_of_cell? _ _ hw110_0; first | rwa [add_block] at this | exact this) GW111.out)) | (dsimp only; exact Nat.ne_of_lt (Nat.lt_of_lt_of_le (by have := World.block_lt_of_cell? _ _ hw110_0; first | rwa [add_block] at this | exact this) GW111.out))) _).trans (((cell_far (p := ⟨gb111, _, none⟩) (by first | exact Nat.ne_of_lt (Nat.lt_of_lt_of_le (by have := World.block_lt_of_cell? _ _ hw110_0; first | rwa [add_block] at this | exact this) GW111.out) | (rw [add_block]; exact Nat.ne_of_lt (Nat.lt_of_lt_of_le (by have := World.block_lt_of_cell? _ _ hw110_0; first | rwa [add_block] at this | exact this) GW111.out)) | (show (Addr.add _ _).block ≠ _; rw [add_block]; exact Nat.ne_of_lt (Nat.lt_of_lt_of_le (by have := World.block_lt_of_cell? _ _ hw110_0; first | rwa [add_block] at this | exact this) GW111.out)) | (dsimp only; exact Nat.ne_of_lt (Nat.lt_of_lt_of_le (by have := World.block_lt_of_cell? _ _ hw110_0; first | rwa [add_block] at this | exact this) GW111.out))) _).trans (hHeld.2.2.1)))), ((cell_far (p := ⟨gb111, _, none⟩) (by first | exact Nat.ne_of_lt (Nat.lt_of_lt_of_le (by have := World.block_lt_of_cell? _ _ hw110_1; first | rwa [add_block] at this | exact this) GW111.out) | (rw [add_block]; exact Nat.ne_of_lt (Nat.lt_of_lt_of_le (by have := World.block_lt_of_cell? _ _ hw110_1; first | rwa [add_block] at this | exact this) GW111.out)) | (show (Addr.add _ _).block ≠ _; rw [add_block]; exact Nat.ne_of_lt (Nat.lt_of_lt_of_le (by have := World.block_lt_of_cell? _ _ hw110_1; first | rwa [add_block] at this | exact this) GW111.out)) | (dsimp only; exact Nat.ne_of_lt (Nat.lt_of_lt_of_le (by have := World.block_lt_of_cell? _ _ hw110_1; first | rwa [add_block] at this | exact this) GW111.out))) _).trans (((cell_far (p := ⟨gb111, _, none⟩) (by first | exact Nat.ne_of_lt (Nat.lt_of_lt_of_le (by have := World.block_lt_of_cell? _ _ hw110_1; first | rwa [add_block] at this | exact this) GW111.out) | (rw [add_block]; exact Nat.ne_of_lt (Nat.lt_of_lt_of_le (by have := World.block_lt_of_cell? _ _ hw110_1; first | rwa [add_block] at this | exact this) GW111.out)) | (show (Addr.add _ _).block ≠ _; rw [add_block]; exact Nat.ne_of_lt (Nat.lt_of_lt_of_le (by have := World.block_lt_of_cell? _ _ hw110_1; first | rwa [add_block] at this | exact this) GW111.out)) | (dsimp only; exact Nat.ne_of_lt (Nat.lt_of_lt_of_le (by have := World.block_lt_of_cell? _ _ hw110_1; first | rwa [add_block] at this | exact this) GW111.out))) _).trans (hHeld.2.2.2))))⟩ (fun hHeld => ?_); clear hK K; refine one_ (i := 11) (N := none) #[true, true, true, true, true, true, true, true, true, true, true, true] rfl rfl (one_of HT_.out (by kernel_rfl)) (by decide) (fun K hK => ?_); have hs55 : w52.cell? ⟨gb112, 0, none⟩ = some (.complex .f32 ((0, 0) : Nat × Nat).1 ((0, 0) : Nat × Nat).2) := (blk_cell BK112.out 0).trans rfl; have hfs55 := blk_frozen BK112.out 0; have hns55_0 := NB111_112.out; have hms55_0 := NB112_111.out; have hs56 : w52.cell? ⟨gb112, 1, none⟩ = some (.float .f32 0) := (blk_cell BK112.out 1).trans rfl; have hfs56 := blk_frozen BK112.out 1; have hns56_0 := NB111_112.out; have hms56_0 := NB112_111.out; refine skip_ (w1 := ?_) (by rfl) rfl ?_ ?_; rotate_left
                              · go_simp
                                rfl
                              refine hK.out _ _ ⟨((cell_far (p := ⟨gb112, _, none⟩) (by first | exact Nat.ne_of_lt (Nat.lt_of_lt_of_le (by have := World.block_lt_of_cell? _ _ hw109_0; first | rwa [add_block] at this | exact this) GW112.out) | (rw [add_block]; exact Nat.ne_of_lt (Nat.lt_of_lt_of_le (by have := World.block_lt_of_cell? _ _ hw109_0; first | rwa [add_block] at this | exact this) GW112.out)) | (show (Addr.add _ _).block ≠ _; rw [add_block]; exact Nat.ne_of_lt (Nat.lt_of_lt_of_le (by have := World.block_lt_of_cell? _ _ hw109_0; first | rwa [add_block] at this | exact this) GW112.out)) | (dsimp only; exact Nat.ne_of_lt (Nat.lt_of_lt_of_le (by have := World.block_lt_of_cell? _ _ hw109_0; first | rwa [add_block] at this | exact this) GW112.out))) _).trans (((cell_far (p := ⟨gb112, _, none⟩) (by first | exact Nat.ne_of_lt (Nat.lt_of_lt_of_le (by have := World.block_lt_of_cell? _ _ hw109_0; first | rwa [add_block] at this | exact this) GW112.out) | (rw [add_block]; exact Nat.ne_of_lt (Nat.lt_of_lt_of_le (by have := World.block_lt_of_cell? _ _ hw109_0; first | rwa [add_block] at this | exact this) GW112.out)) | (show (Addr.add _ _).block ≠ _; rw [add_block]; exact Nat.ne_of_lt (Nat.lt_of_lt_of_le (by have := World.block_lt_of_cell? _ _ hw109_0; first | rwa [add_block] at this | exact this) GW112.out)) | (dsimp only; exact Nat.ne_of_lt (Nat.lt_of_lt_of_le (by have := World.block_lt_of_cell? _ _ hw109_0; first | rwa [add_block] at this | exact this) GW112.out))) _).trans (hHeld.1)))), ((cell_far (p := ⟨gb112, _, none⟩) (by first | exact Nat.ne_of_lt (Nat.lt_of_lt_of_le (by have := World.block_lt_of_cell? _ _ hw109_1; first | rwa [add_block] at this | exact this) GW112.out) | (rw [add_block]; exact Nat.ne_of_lt (Nat.lt_of_lt_of_le (by have := World.block_lt_of_cell? _ _ hw109_1; first | rwa [add_block] at this | exact this) GW112.out)) | (show (Addr.add _ _).block ≠ _; rw [add_block]; exact Nat.ne_of_lt (Nat.lt_of_lt_of_le (by have := World.block_lt_of_cell? _ _ hw109_1; first | rwa [add_block] at this | exact this) GW112.out)) | (dsimp only; exact Nat.ne_of_lt (Nat.lt_of_lt_of_le (by have := World.block_lt_of_cell? _ _ hw109_1; first | rwa [add_block] at this | exact this) GW112.out))) _).trans (((cell_far (p := ⟨gb112, _, none⟩) (by first | exact Nat.ne_of_lt (Nat.lt_of_lt_of_le (by have := World.block_lt_of_cell? _ _ hw109_1; first | rwa [add_block] at this | exact this) GW112.out) | (rw [add_block]; exact Nat.ne_of_lt (Nat.lt_of_lt_of_le (by have := World.block_lt_of_cell? _ _ hw109_1; first | rwa [add_block] at this | exact this) GW112.out)) | (show (Addr.add _ _).block ≠ _; rw [add_block]; exact Nat.ne_of_lt (Nat.lt_of_lt_of_le (by have := World.block_lt_of_cell? _ _ hw109_1; first | rwa [add_block] at this | exact this) GW112.out)) | (dsimp only; exact Nat.ne_of_lt (Nat.lt_of_lt_of_le (by have := World.block_lt_of_cell? _ _ hw109_1; first | rwa [add_block] at this | exact this) GW112.out))) _).trans (hHeld.2.1)))), ((cell_far (p := ⟨gb112, _, none⟩) (by first | exact Nat.ne_of_lt (Nat.lt_of_lt_of_le (by have := World.block_lt_of_cell? _ _ hw110_0; first | rwa [add_block] at this | exact this) GW112.out) | (rw [add_block]; exact Nat.ne_of_lt (Nat.lt_of_lt_of_le (by have := World.block_lt_of_cell? _ _ hw110_0; first | rwa [add_block] at this | exact this) GW112.out)) | (show (Addr.add _ _).block ≠ _; rw [add_block]; exact Nat.ne_of_lt (Nat.lt_of_lt_of_le (by have := World.block_lt_of_cell? _ _ hw110_0; first | rwa [add_block] at this | exact this) GW112.out)) | (dsimp only; exact Nat.ne_of_lt (Nat.lt_of_lt_of_le (by have := World.block_lt_of_cell? _ _ hw110_0; first | rwa [add_block] at this | exact this) GW112.out))) _).trans (((cell_far (p := ⟨gb112, _, none⟩) (by first | exact Nat.ne_of_lt (Nat.lt_of_lt_of_le (by have := World.block_lt_of_cell? _ _ hw110_0; first | rwa [add_block] at this | exact this) GW112.out) | (rw [add_block]; exact Nat.ne_of_lt (Nat.lt_of_lt_of_le (by have := World.block_lt_of_cell? _ _ hw110_0; first | rwa [add_block] at this | exact this) GW112.out)) | (show (Addr.add _ _).block ≠ _; rw [add_block]; exact Nat.ne_of_lt (Nat.lt_of_lt_of_le (by have := World.block_lt_of_cell? _ _ hw110_0; first | rwa [add_block] at this | exact this) GW112.out)) | (dsimp only; exact Nat.ne_of_lt (Nat.lt_of_lt_of_le (by have := World.block_lt_of_cell? _ _ hw110_0; first | rwa [add_block] at this | exact this) GW112.out))) _).trans (hHeld.2.2.1)))), ((cell_far (p := ⟨gb112, _, none⟩) (by first | exact Nat.ne_of_lt (Nat.lt_of_lt_of_le (by have := World.block_lt_of_cell? _ _ hw110_1; first | rwa [add_block] at this | exact this) GW112.out) | (rw [add_block]; exact Nat.ne_of_lt (Nat.lt_of_lt_of_le (by have := World.block_lt_of_cell? _ _ hw110_1; first | rwa [add_block] at this | exact this) GW112.out)) | (show (Addr.add _ _).block ≠ _; rw [add_block]; exact Nat.ne_of_lt (Nat.lt_of_lt_of_le (by have := World.block_lt_of_cell? _ _ hw110_1; first | rwa [add_block] at this | exact this) GW112.out)) | (dsimp only; exact Nat.ne_of_lt (Nat.lt_of_lt_of_le (by have := World.block_lt_of_cell? _ _ hw110_1; first | rwa [add_block] at this | exact this) GW112.out))) _).trans (((cell_far (p := ⟨gb112, _, none⟩) (by first | exact Nat.ne_of_lt (Nat.lt_of_lt_of_le (by have := World.block_lt_of_cell? _ _ hw110_1; first | rwa [add_block] at this | exact this) GW112.out) | (rw [add_block]; exact Nat.ne_of_lt (Nat.lt_of_lt_of_le (by have := World.block_lt_of_cell? _ _ hw110_1; first | rwa [add_block] at this | exact this) GW112.out)) | (show (Addr.add _ _).block ≠ _; rw [add_block]; exact Nat.ne_of_lt (Nat.lt_of_lt_of_le (by have := World.block_lt_of_cell? _ _ hw110_1; first | rwa [add_block] at this | exact this) GW112.out)) | (dsimp only; exact Nat.ne_of_lt (Nat.lt_of_lt_of_le (by have := World.block_lt_of_cell? _ _ hw110_1; first | rwa [add_block] at this | exact this) GW112.out))) _).trans (hHeld.2.2.2))))⟩ (fun hHeld => ?_); clear hK K; refine done_ (done_of HT_.out (by kernel_rfl)) ?_; have n0_ : Aside0 (Kd.R k46 46 ((((w52.setCell ⟨gb111, 0, none⟩ (.complex .f32 ((rd_T46 l0 t105).f0).1 ((rd_T46 l0 t105).f0).2)).setCell ⟨gb111, 1, none⟩ (.float .f32 ((rd_T46 l0 t105).f1))).setCell ⟨gb112, 0, none⟩ (.complex .f32 ((rd_T46 l0 t106).f0).1 ((rd_T46 l0 t106).f0).2)).setCell ⟨gb112, 1, none⟩ (.float .f32 ((rd_T46 l0 t106).f1))) w.heap.size (fun k_ => k_ ≠ gb111 ∧ k_ ≠ gb112) v103 t102) := ⟨by (with_reducible repeat (first | apply Kd.R_alloc | apply Kd.R_drewN | apply Kd.R_drew)); exact (Kd.R_mono (Kd.R_far (p := ⟨gb112, 1, none⟩) (Kd.R_far (p := ⟨gb112, 0, none⟩) (Kd.R_far (p := ⟨gb111, 1, none⟩) (Kd.R_far (p := ⟨gb111, 0, none⟩) (Kd.R_mono (Kd.R_mono HO_6.out (fun k_ hk => (⟨hk, hk.1⟩ : _ ∧ k_ ≠ gb111))) (fun k_ hk => (⟨hk, hk.1.2⟩ : _ ∧ k_ ≠ gb112))) (fun _ hk => hk.1.2) (.complex .f32 ((rd_T46 l0 t105).f0).1 ((rd_T46 l0 t105).f0).2)) (fun _ hk => hk.1.2) (.float .f32 ((rd_T46 l0 t105).f1))) (fun _ hk => hk.2) (.complex .f32 ((rd_T46 l0 t106).f0).1 ((rd_T46 l0 t106).f0).2)) (fun _ hk => hk.2) (.float .f32 ((rd_T46 l0 t106).f1))) (fun _ hk => ⟨hk.1.1.1, hk.1.1.2⟩))⟩; have n1_ : Aside0 (((((w52.setCell ⟨gb111, 0, none⟩ (.complex .f32 ((rd_T46 l0 t105).f0).1 ((rd_T46 l0 t105).f0).2)).setCell ⟨gb111, 1, none⟩ (.float .f32 ((rd_T46 l0 t105).f1))).setCell ⟨gb112, 0, none⟩ (.complex .f32 ((rd_T46 l0 t106).f0).1 ((rd_T46 l0 t106).f0).2)).setCell ⟨gb112, 1, none⟩ (.float .f32 ((rd_T46 l0 t106).f1))).heap[gb111]? = some (.cells #[.complex .f32 ((rd_T46 l0 t105).f0).1 ((rd_T46 l0 t105).f0).2, .float .f32 ((rd_T46 l0 t105).f1)] 46 (0, 0))) := ⟨by (with_reducible repeat (first | refine blk_drewN ?_ _ | refine blk_drew ?_ | refine blk_alloc ?_ _)); refine blk_far ?_ NB111_112.out _; (with_reducible repeat (first | refine blk_drewN ?_ _ | refine blk_drew ?_ | refine blk_alloc ?_ _)); refine blk_far ?_ NB111_112.out _; (with_reducible repeat (first | refine blk_drewN ?_ _ | refine blk_drew ?_ | refine blk_alloc ?_ _)); refine blk_put (cs := #[.complex .f32 ((rd_T46 l0 t105).f0).1 ((rd_T46 l0 t105).f0).2, .float .f32 0]) ?_ 1 _ rfl; (with_reducible repeat (first | refine blk_drewN ?_ _ | refine blk_drew ?_ | refine blk_alloc ?_ _)); refine blk_put (cs := #[.complex .f32 ((0, 0) : Nat × Nat).1 ((0, 0) : Nat × Nat).2, .float .f32 0]) ?_ 0 _ rfl; (with_reducible repeat (first | refine blk_drewN ?_ _ | refine blk_drew ?_ | refine blk_alloc ?_ _)); exact BK111.out⟩; have n2_ : Aside0 (((((w52.setCell ⟨gb111, 0, none⟩ (.complex .f32 ((rd_T46 l0 t105).f0).1 ((rd_T46 l0 t105).f0).2)).setCell ⟨gb111, 1, none⟩ (.float .f32 ((rd_T46 l0 t105).f1))).setCell ⟨gb112, 0, none⟩ (.complex .f32 ((rd_T46 l0 t106).f0).1 ((rd_T46 l0 t106).f0).2)).setCell ⟨gb112, 1, none⟩ (.float .f32 ((rd_T46 l0 t106).f1))).heap[gb112]? = some (.cells #[.complex .f32 ((rd_T46 l0 t106).f0).1 ((rd_T46 l0 t106).f0).2, .float .f32 ((rd_T46 l0 t106).f1)] 46 (0, 0))) := ⟨by (with_reducible repeat (first | refine blk_drewN ?_ _ | refine blk_drew ?_ | refine blk_alloc ?_ _)); refine blk_put (cs := #[.complex .f32 ((rd_T46 l0 t106).f0).1 ((rd_T46 l0 t106).f0).2, .float .f32 0]) ?_ 1 _ rfl; (with_reducible repeat (first | refine blk_drewN ?_ _ | refine blk_drew ?_ | refine blk_alloc ?_ _)); refine blk_put (cs := #[.complex .f32 ((0, 0) : Nat × Nat).1 ((0, 0) : Nat × Nat).2, .float .f32 0]) ?_ 0 _ rfl; (with_reducible repeat (first | refine blk_drewN ?_ _ | refine blk_drew ?_ | refine blk_alloc ?_ _)); refine blk_far ?_ NB112_111.out _; (with_reducible repeat (first | refine blk_drewN ?_ _ | refine blk_drew ?_ | refine blk_alloc ?_ _)); refine blk_far ?_ NB112_111.out _; (with_reducible repeat (first | refine blk_drewN ?_ _ | refine blk_drew ?_ | refine blk_alloc ?_ _)); exact BK112.out⟩; have n3_ : Aside0 (Below w.heap.size w ((((w52.setCell ⟨gb111, 0, none⟩ (.complex .f32 ((rd_T46 l0 t105).f0).1 ((rd_T46 l0 t105).f0).2)).setCell ⟨gb111, 1, none⟩ (.float .f32 ((rd_T46 l0 t105).f1))).setCell ⟨gb112, 0, none⟩ (.complex .f32 ((rd_T46 l0 t106).f0).1 ((rd_T46 l0 t106).f0).2)).setCell ⟨gb112, 1, none⟩ (.float .f32 ((rd_T46 l0 t106).f1)))) := ⟨BW HB⟩; (try clear HO_6); (try clear BK111); (try clear BK112); (try clear HB); generalize ((((w52.setCell ⟨gb111, 0, none⟩ (.complex .f32 ((rd_T46 l0 t105).f0).1 ((rd_T46 l0 t105).f0).2)).setCell ⟨gb111, 1, none⟩ (.float .f32 ((rd_T46 l0 t105).f1))).setCell ⟨gb112, 0, none⟩ (.complex .f32 ((rd_T46 l0 t106).f0).1 ((rd_T46 l0 t106).f0).2)).setCell ⟨gb112, 1, none⟩ (.float .f32 ((rd_T46 l0 t106).f1))) = w57 at n0_ n1_ n2_ n3_ ⊢; have HO_6 := n0_; have BK111 := n1_; have BK112 := n2_; have HB := n3_; clear n0_ n1_ n2_ n3_; have hnb58 := NB111_112.out; have hnc58 := NB112_111.out; have hcz59_0 : w57.cell? ⟨gb111, 0, none⟩ = some (.complex .f32 ((rd_T46 l0 t105).f0).1 ((rd_T46 l0 t105).f0).2) := (blk_cell BK111.out 0).trans rfl; have hcz59_1 : w57.cell? ⟨gb111, 1, none⟩ = some (.float .f32 ((rd_T46 l0 t105).f1)) := (blk_cell BK111.out 1).trans rfl; have hfz59_0 := blk_frozen BK111.out 0; have hfz59_1 := blk_frozen BK111.out 1; have hcz60_0 : w57.cell? ⟨gb112, 0, none⟩ = some (.complex .f32 ((rd_T46 l0 t106).f0).1 ((rd_T46 l0 t106).f0).2) := (blk_cell BK112.out 0).trans rfl; have hcz60_1 : w57.cell? ⟨gb112, 1, none⟩ = some (.float .f32 ((rd_T46 l0 t106).f1)) := (blk_cell BK112.out 1).trans rfl; have hfz60_0 := blk_frozen BK112.out 0; have hfz60_1 := blk_frozen BK112.out 1; obtain ⟨Ao61, co61, eo61⟩ := Kd.R_slice HO_6.out; subst eo61; (try go_wp2_with (first | ((with_reducible refine gate_callee (f := 88) rfl ?_); refine goesM 55 Try.func88 #[.slice Ao61 t102.length co61, .int .i64 t106, .int .i64 (wrap64 (t106 + 1))] ?_; (with_reducible refine (XD.delW.calls (fun k_ => some k_ = (.slice Ao61 t102.length co61 : Value).ownBlock) (.slice Ao61 t102.length co61) t102 t106 (wrap64 (t106 + 1)) t113 w _ ?side1 ?side2 A22.out).mono ?_); (case side1 => repeat (first | (with_reducible first | exact HB.out | apply below_alloc | apply pw_below_drewN | apply below_drew1 | refine below_set ?_ GE111.out | refine below_set ?_ GE112.out) | exact HB.out)); (case side2 => exact Kd.R_tight rfl HO_6.out); rintro e w62 ⟨v114, rfl, ho0, hb, hkp⟩; refine ⟨_, rfl, ?_⟩; have n0_ := AS (blk_kept (KS BK111.out) hkp (fun hs_ => (fun e_ => (Kd.R_away HO_6.out (fun _ hk => hk.1)) e_) hs_)); have n1_ := AS (blk_kept (KS BK112.out) hkp (fun hs_ => (fun e_ => (Kd.R_away HO_6.out (fun _ hk => hk.2)) e_) hs_)); have HO115 := AS (Kd.R_mono (ok' := fun k_ => k_ ≠ gb111 ∧ k_ ≠ gb112) ho0 (fun k_ hk_ => ⟨Or.elim hk_ (fun hs_ => fun e_ => (Kd.R_away HO_6.out (fun _ hk => hk.1)) (by rw [← e_]; exact hs_)) (fun hn_ => (Kd.freshB (g := gb111) (o := .cells #[.complex .f32 ((rd_T46 l0 t105).f0).1 ((rd_T46 l0 t105).f0).2, .float .f32 ((rd_T46 l0 t105).f1)] 46 (0, 0)) (KS BK111.out) k_ hn_)), Or.elim hk_ (fun hs_ => fun e_ => (Kd.R_away HO_6.out (fun _ hk => hk.2)) (by rw [← e_]; exact hs_)) (fun hn_ => (Kd.freshB (g := gb112) (o := .cells #[.complex .f32 ((rd_T46 l0 t106).f0).1 ((rd_T46 l0 t106).f0).2, .float .f32 ((rd_T46 l0 t106).f1)] 46 (0, 0)) (KS BK112.out) k_ hn_))⟩)); have n3_ := AS (hb); replace BK111 := n0_; replace BK112 := n1_; replace HB := n3_; clear HO_6; clear n0_ n1_ n3_; (try clear hb); (try clear hkp); (try clear ho0)))); have n0_ := AS (Kd.R_drew HO115.out); have n1_ := AS (blk_drew BK111.out); have n2_ := AS (blk_drew BK112.out); have n3_ := AS (below_drew1 HB.out); replace HO115 := n0_; replace BK111 := n1_; replace BK112 := n2_; replace HB := n3_; clear n0_ n1_ n2_ n3_; refine start_ (n := 20) (S := fun w' => w'.cell? ⟨gb111, 0, none⟩ = some (.complex .f32 ((rd_T46 l0 t105).f0).1 ((rd_T46 l0 t105).f0).2) ∧ w'.cell? ⟨gb111, 1, none⟩ = some (.float .f32 ((rd_T46 l0 t105).f1)) ∧ w'.cell? ⟨gb112, 0, none⟩ = some (.complex .f32 ((rd_T46 l0 t106).f0).1 ((rd_T46 l0 t106).f0).2) ∧ w'.cell? ⟨gb112, 1, none⟩ = some (.float .f32 ((rd_T46 l0 t106).f1))) (ds := [19]) #[false, false, false, false, false, false, false, false, false, false, false, false, false, false, false, false, false, false, false, false] (by kernel_rfl) rfl rfl ⟨(blk_cell BK111.out 0).trans rfl, (blk_cell BK111.out 1).trans rfl, (blk_cell BK112.out 0).trans rfl, (blk_cell BK112.out 1).trans rfl⟩ (fun hHeld => ?_); refine with_tabW impl_MergeNearest.tab14 impl_MergeNearest.bits14 (fun HT_ HW_ => ?_); generalize w62.drew = w63 at HO115 BK111 BK112 HB hHeld ⊢; refine pureT 0 63 HT_.out ?_; refine pureT 1 64 HT_.out ?_; refine pureT 2 65 HT_.out ?_; refine pureT 4 67 HT_.out ?_; refine pureT 7 70 HT_.out ?_; refine pureT 9 72 HT_.out ?_; refine pureT 13 76 HT_.out ?_; refine pureT 14 77 HT_.out ?_; refine pureT 16 79 HT_.out ?_; refine takeS (i := 3) (N := some 66) (v := ?_) (a' := ?_) rfl rfl (take_ofW HT_.out HW_.out (by kernel_rfl)) (fun _ _ _ h => h) (Or.inl ⟨by rfl, ?_⟩) hHeld ?_ ?_; rotate_left; (· rintro w' ⟨s0, s1, s2, s3⟩; go_simp; with_reducible rfl); rotate_left; (· simp only [Act.put, List.setIfInBounds_toArray, List.set_cons_zero, List.set_cons_succ, i64_w, i32_w]; rfl); refine takeS (i := 5) (N := some 68) (v := ?_) (a' := ?_) rfl rfl (take_ofW HT_.out HW_.out (by kernel_rfl)) (fun _ _ _ h => h) (Or.inl ⟨by rfl, ?_⟩) hHeld ?_ ?_; rotate_left; (· rintro w' ⟨s0, s1, s2, s3⟩; go_simp; with_reducible rfl); rotate_left; (· simp only [Act.put, List.setIfInBounds_toArray, List.set_cons_zero, List.set_cons_succ, i64_w, i32_w]; rfl); refine takeS (i := 8) (N := some 71) (v := ?_) (a' := ?_) rfl rfl (take_ofW HT_.out HW_.out (by kernel_rfl)) (fun _ _ _ h => h) (Or.inl ⟨by rfl, ?_⟩) hHeld ?_ ?_; rotate_left; (· rintro w' ⟨s0, s1, s2, s3⟩; go_simp; with_reducible rfl); rotate_left; (· simp only [Act.put, List.setIfInBounds_toArray, List.set_cons_zero, List.set_cons_succ, i64_w, i32_w]; rfl); refine takeS (i := 10) (N := some 73) (v := ?_) (a' := ?_) rfl rfl (take_ofW HT_.out HW_.out (by kernel_rfl)) (fun _ _ _ h => h) (Or.inl ⟨by rfl, ?_⟩) hHeld ?_ ?_; rotate_left; (· rintro w' ⟨s0, s1, s2, s3⟩; go_simp; with_reducible rfl); rotate_left; (· simp only [Act.put, List.setIfInBounds_toArray, List.set_cons_zero, List.set_cons_succ, i64_w, i32_w]; rfl); refine one_ (i := 6) (N := some 69) #[true, true, true, true, true, true, true, true, true, true, true, false, false, true, true, false, true, false, false, false] rfl rfl (one_of HT_.out (by kernel_rfl)) (by decide) (fun K hK => ?_); refine goes_ Try.func90 (by kernel_rfl) rfl #[.complex .f32 ((rd_T46 l0 t105).f0).1 ((rd_T46 l0 t105).f0).2, .float .f32 ((rd_T46 l0 t105).f1)] (by rfl) rfl rfl (by (try simp only [List.map_toArray, List.map_cons, List.map_nil]); first | done | rfl | (simp only [List.length_drop, List.length_take]; rfl)) ?_; (with_reducible refine (N0.impl_ScaleComplex.calls ((rd_T46 l0 t105).f0) ((rd_T46 l0 t105).f1) t119 _ A41.out).mono ?_); rintro e w64 ⟨rfl, hb⟩; refine ⟨_, rfl, ?_⟩; replace HO115 := RB HO115 hb; replace BK111 := KB BK111 hb; replace BK112 := KB BK112 hb; replace HB := BB HB hb; (try clear hb); (try clear hb2); (try clear hk); (try clear hi); refine hK.out _ _ ⟨(blk_cell BK111.out 0).trans rfl, (blk_cell BK111.out 1).trans rfl, (blk_cell BK112.out 0).trans rfl, (blk_cell BK112.out 1).trans rfl⟩ (fun hHeld => ?_); clear hK K; refine norm_ (a' := ?_) ?_ ?_; rotate_left
                              · show Act.put _ (some 69) _ = _
                                simp only [Act.put, List.setIfInBounds_toArray, List.set_cons_zero, List.set_cons_succ, i64_w, i32_w]; rfl
                              refine one_ (i := 11) (N := some 74) #[true, true, true, true, true, true, true, true, true, true, true, true, false, true, true, false, true, false, false, false] rfl rfl (one_of HT_.out (by kernel_rfl)) (by decide) (fun K hK => ?_); refine goes_ Try.func90 (by kernel_rfl) rfl #[.complex .f32 ((rd_T46 l0 t106).f0).1 ((rd_T46 l0 t106).f0).2, .float .f32 ((rd_T46 l0 t106).f1)] (by rfl) rfl rfl (by (try simp only [List.map_toArray, List.map_cons, List.map_nil]); first | done | rfl | (simp only [List.length_drop, List.length_take]; rfl)) ?_; (with_reducible refine (N0.impl_ScaleComplex.calls ((rd_T46 l0 t106).f0) ((rd_T46 l0 t106).f1) t120 _ A42.out).mono ?_); rintro e w65 ⟨rfl, hb⟩; refine ⟨_, rfl, ?_⟩; replace HO115 := RB HO115 hb; replace BK111 := KB BK111 hb; replace BK112 := KB BK112 hb; replace HB := BB HB hb; (try clear hb); (try clear hb2); (try clear hk); (try clear hi); refine hK.out _ _ ⟨(blk_cell BK111.out 0).trans rfl, (blk_cell BK111.out 1).trans rfl, (blk_cell BK112.out 0).trans rfl, (blk_cell BK112.out 1).trans rfl⟩ (fun hHeld => ?_); clear hK K; refine norm_ (a' := ?_) ?_ ?_; rotate_left
                              · show Act.put _ (some 74) _ = _
                                simp only [Act.put, List.setIfInBounds_toArray, List.set_cons_zero, List.set_cons_succ, i64_w, i32_w]; rfl
                              refine pureT 12 75 HT_.out ?_; refine one_ (i := 15) (N := some 78) #[true, true, true, true, true, true, true, true, true, true, true, true, true, true, true, true, true, false, false, false] rfl rfl (one_of HT_.out (by kernel_rfl)) (by decide) (fun K hK => ?_); refine goes_ Try.func89 (by kernel_rfl) rfl #[.complex .f32 ((fop .add .f32 t119.1 t120.1, fop .add .f32 t119.2 t120.2) : Nat × Nat).1 ((fop .add .f32 t119.1 t120.1, fop .add .f32 t119.2 t120.2) : Nat × Nat).2, .complex .f32 ((fop .add .f32 ((rd_T46 l0 t105).f1) ((rd_T46 l0 t106).f1), 0) : Nat × Nat).1 ((fop .add .f32 ((rd_T46 l0 t105).f1) ((rd_T46 l0 t106).f1), 0) : Nat × Nat).2] (by rfl) rfl rfl (by (try simp only [List.map_toArray, List.map_cons, List.map_nil]); first | done | rfl | (simp only [List.length_drop, List.length_take]; rfl)) ?_; (with_reducible refine (N0.impl_QuotientOf.calls ((fop .add .f32 t119.1 t120.1, fop .add .f32 t119.2 t120.2) : Nat × Nat) ((fop .add .f32 ((rd_T46 l0 t105).f1) ((rd_T46 l0 t106).f1), 0) : Nat × Nat) t121 _ A45.out).mono ?_); rintro e w66 ⟨rfl, hb⟩; refine ⟨_, rfl, ?_⟩; replace HO115 := RB HO115 hb; replace BK111 := KB BK111 hb; replace BK112 := KB BK112 hb; replace HB := BB HB hb; (try clear hb); (try clear hb2); (try clear hk); (try clear hi); have p47 : 0 ≤ (t105 : Int) := of_decide_eq_true (by first | (with_reducible assumption) | assumption); have q47 : (t105 : Int) < ((t113.length : Int) : Int) := of_decide_eq_true (by first | (with_reducible assumption) | assumption); obtain ⟨go47, co47, eo47, gb47, gl47, cl47, HG47⟩ := Kd.R_form HO115.out (by omega); (first | cases eo47 | (injection eo47 with ea_ en_ ec_; (first | subst ea_ | (injection ea_ with ea_; subst ea_)); subst ec_; clear en_)); have GB47 := Aside0.mk gb47; have GG47 := Aside0.mk HG47; clear gb47 gl47 HG47; obtain ⟨ce47, hcl47, hM47, hcc47, hfr47⟩ := Kd.R_elem HO115.out z46 (t105 : Int) p47 q47; obtain rfl := k46_openM hM47; have hx47_0 : World.cell? _ ⟨go47, (t105 : Int).toNat * 2, none⟩ = some (.complex .f32 ((rd_T46 t113 t105).f0).1 ((rd_T46 t113 t105).f0).2) := hcc47 0 _ rfl; have hx47_1 : World.cell? _ ⟨go47, (t105 : Int).toNat * 2 + 1, none⟩ = some (.float .f32 ((rd_T46 t113 t105).f1)) := hcc47 1 _ rfl; have hf47_0 : World.frozen? _ ⟨go47, (t105 : Int).toNat * 2, none⟩ = false := hfr47 0; have hf47_1 : World.frozen? _ ⟨go47, (t105 : Int).toNat * 2 + 1, none⟩ = false := hfr47 1; clear hcl47 hcc47 hfr47 hM47; replace p47 := eq_true p47; replace q47 := eq_true q47; obtain ⟨ce67, hcl67, hM67, hcc67, hfr67⟩ := Kd.R_elem HO115.out z46 (t105 : Int) (of_decide_eq_true (by first | (with_reducible assumption) | assumption)) (by have h_ : (t105 : Int) < ((t113.length : Int) : Int) := of_decide_eq_true (by first | (with_reducible assumption) | assumption); first | exact h_ | (have e_ := (Kd.R_reads' HO115.out).1; omega) | simpa using h_); obtain rfl := k46_openM hM67; have HP67 := (Kd.R_seg HO115.out (t105 : Int) (of_decide_eq_true (by first | (with_reducible assumption) | assumption)) (by have h_ : (t105 : Int) < ((t113.length : Int) : Int) := of_decide_eq_true (by first | (with_reducible assumption) | assumption); first | exact h_ | (have e_ := (Kd.R_reads' HO115.out).1; omega) | simpa using h_) (seg := [.complex .f32 t121.1 t121.2, .float .f32 (fop .add .f32 ((rd_T46 l0 t105).f1) ((rd_T46 l0 t106).f1))]) (j := 0) hcl67 hcc67 (show 2 ≤ 2 from by decide) (x' := (⟨t121, fop .add .f32 ((rd_T46 l0 t105).f1) ((rd_T46 l0 t106).f1)⟩ : S46)) (k46_mkM _ _ _ (⟨t121, fop .add .f32 ((rd_T46 l0 t105).f1) ((rd_T46 l0 t106).f1)⟩ : S46) ) (fun _ hk => hk)).1; rw [← Ny122.out] at HP67; have HQ67 := Aside0.mk HP67; clear hcl67 hcc67 hfr67 hM67 HP67; refine hK.out _ _ ⟨(blk_cell BK111.out 0).trans rfl, (blk_cell BK111.out 1).trans rfl, (blk_cell BK112.out 0).trans rfl, (blk_cell BK112.out 1).trans rfl⟩ (fun hHeld => ?_); clear hK K; refine norm_ (a' := ?_) ?_ ?_; rotate_left
                              · show Act.put _ (some 78) _ = _
                                simp only [Act.put, List.setIfInBounds_toArray, List.set_cons_zero, List.set_cons_succ, i64_w, i32_w]; rfl
                              refine pureT 17 80 HT_.out ?_; refine pureT 18 81 HT_.out ?_; refine last_ (i := 19) (N := none) #[true, true, true, true, true, true, true, true, true, true, true, true, true, true, true, true, true, true, true, true] rfl rfl (one_of HT_.out (by kernel_rfl)) (by decide) (fun K hK => ?_); refine skip_ (w1 := ?_) (by rfl) rfl ?_ ?_; rotate_left
                              · go_simp
                                rfl
                              refine hK.out _ _ ?_; clear hK K; refine done_ (done_of HT_.out (by kernel_rfl)) ?_; have n0_ : Aside0 (Kd.R k46 46 ((w66.setCell ⟨go47, (t105 : Int).toNat * 2, none⟩ (.complex .f32 t121.1 t121.2)).setCell ⟨go47, (t105 : Int).toNat * 2 + 1, none⟩ (.float .f32 (fop .add .f32 ((rd_T46 l0 t105).f1) ((rd_T46 l0 t106).f1)))) w.heap.size (fun k_ => k_ ≠ gb111 ∧ k_ ≠ gb112) (.slice (some ⟨go47, 0, none⟩) t113.length co47) y122) := ⟨RS HQ67.out⟩; have n1_ : Aside0 (((w66.setCell ⟨go47, (t105 : Int).toNat * 2, none⟩ (.complex .f32 t121.1 t121.2)).setCell ⟨go47, (t105 : Int).toNat * 2 + 1, none⟩ (.float .f32 (fop .add .f32 ((rd_T46 l0 t105).f1) ((rd_T46 l0 t106).f1)))).heap[gb111]? = some (.cells #[.complex .f32 ((rd_T46 l0 t105).f0).1 ((rd_T46 l0 t105).f0).2, .float .f32 ((rd_T46 l0 t105).f1)] 46 (0, 0))) := ⟨by (with_reducible repeat (first | refine blk_drewN ?_ _ | refine blk_drew ?_ | refine blk_alloc ?_ _)); refine blk_far ?_ (by have h_ := Kd.R_away HO115.out (fun _ hk => hk.1); intro e_; exact h_ (by rw [e_]; rfl)) _; (with_reducible repeat (first | refine blk_drewN ?_ _ | refine blk_drew ?_ | refine blk_alloc ?_ _)); refine blk_far ?_ (by have h_ := Kd.R_away HO115.out (fun _ hk => hk.1); intro e_; exact h_ (by rw [e_]; rfl)) _; (with_reducible repeat (first | refine blk_drewN ?_ _ | refine blk_drew ?_ | refine blk_alloc ?_ _)); exact BK111.out⟩; have n2_ : Aside0 (((w66.setCell ⟨go47, (t105 : Int).toNat * 2, none⟩ (.complex .f32 t121.1 t121.2)).setCell ⟨go47, (t105 : Int).toNat * 2 + 1, none⟩ (.float .f32 (fop .add .f32 ((rd_T46 l0 t105).f1) ((rd_T46 l0 t106).f1)))).heap[gb112]? = some (.cells #[.complex .f32 ((rd_T46 l0 t106).f0).1 ((rd_T46 l0 t106).f0).2, .float .f32 ((rd_T46 l0 t106).f1)] 46 (0, 0))) := ⟨by (with_reducible repeat (first | refine blk_drewN ?_ _ | refine blk_drew ?_ | refine blk_alloc ?_ _)); refine blk_far ?_ (by have h_ := Kd.R_away HO115.out (fun _ hk => hk.2); intro e_; exact h_ (by rw [e_]; rfl)) _; (with_reducible repeat (first | refine blk_drewN ?_ _ | refine blk_drew ?_ | refine blk_alloc ?_ _)); refine blk_far ?_ (by have h_ := Kd.R_away HO115.out (fun _ hk => hk.2); intro e_; exact h_ (by rw [e_]; rfl)) _; (with_reducible repeat (first | refine blk_drewN ?_ _ | refine blk_drew ?_ | refine blk_alloc ?_ _)); exact BK112.out⟩; have n3_ : Aside0 (Below w.heap.size w ((w66.setCell ⟨go47, (t105 : Int).toNat * 2, none⟩ (.complex .f32 t121.1 t121.2)).setCell ⟨go47, (t105 : Int).toNat * 2 + 1, none⟩ (.float .f32 (fop .add .f32 ((rd_T46 l0 t105).f1) ((rd_T46 l0 t106).f1))))) := ⟨by repeat (first | (with_reducible first | exact HB.out | apply below_alloc | apply pw_below_drewN | apply below_drew1 | refine below_set ?_ GB47.out | refine below_set ?_ GB47.out | refine below_set ?_ GE111.out | refine below_set ?_ GE112.out) | exact HB.out)⟩; (try clear HO115); (try clear BK111); (try clear BK112); (try clear HB); generalize ((w66.setCell ⟨go47, (t105 : Int).toNat * 2, none⟩ (.complex .f32 t121.1 t121.2)).setCell ⟨go47, (t105 : Int).toNat * 2 + 1, none⟩ (.float .f32 (fop .add .f32 ((rd_T46 l0 t105).f1) ((rd_T46 l0 t106).f1)))) = w68 at n0_ n1_ n2_ n3_ ⊢; have HO115 := n0_; have BK111 := n1_; have BK112 := n2_; have HB := n3_; clear n0_ n1_ n2_ n3_; (try go_wp2_with (first | ((with_reducible refine gate_callee (f := 91) rfl ?_); refine goesM 83 Try.func91 #[.slice (some ⟨go47, 0, none⟩) t113.length co47] ?_; (with_reducible refine (S0.impl_toldWhirls.calls kj9 (fun k_ => some k_ = (.slice (some ⟨go47, 0, none⟩) t113.length co47 : Value).ownBlock) (.slice (some ⟨go47, 0, none⟩) t113.length co47) y122 t123 t126 w _ ?side1 ?side2 A48.out).mono ?_); (case side1 => repeat (first | (with_reducible first | exact HB.out | apply below_alloc | apply pw_below_drewN | apply below_drew1 | refine below_set ?_ GE111.out | refine below_set ?_ GE112.out) | exact HB.out)); (case side2 => exact Kd.R_tight rfl HO115.out); rintro e w69 ⟨v124, rfl, ho0, hb, hkp⟩; refine ⟨_, rfl, ?_⟩; have n0_ := AS (blk_kept (KS BK111.out) hkp (fun hs_ => (fun e_ => (Kd.R_away HO115.out (fun _ hk => hk.1)) e_) hs_)); have n1_ := AS (blk_kept (KS BK112.out) hkp (fun hs_ => (fun e_ => (Kd.R_away HO115.out (fun _ hk => hk.2)) e_) hs_)); have HO125 := AS (Kd.R_mono (ok' := fun k_ => k_ ≠ gb111 ∧ k_ ≠ gb112) ho0 (fun k_ hk_ => ⟨Or.elim hk_ (fun hs_ => fun e_ => (Kd.R_away HO115.out (fun _ hk => hk.1)) (by rw [← e_]; exact hs_)) (fun hn_ => (Kd.freshB (g := gb111) (o := .cells #[.complex .f32 ((rd_T46 l0 t105).f0).1 ((rd_T46 l0 t105).f0).2, .float .f32 ((rd_T46 l0 t105).f1)] 46 (0, 0)) (KS BK111.out) k_ hn_)), Or.elim hk_ (fun hs_ => fun e_ => (Kd.R_away HO115.out (fun _ hk => hk.2)) (by rw [← e_]; exact hs_)) (fun hn_ => (Kd.freshB (g := gb112) (o := .cells #[.complex .f32 ((rd_T46 l0 t106).f0).1 ((rd_T46 l0 t106).f0).2, .float .f32 ((rd_T46 l0 t106).f1)] 46 (0, 0)) (KS BK112.out) k_ hn_))⟩)); have n3_ := AS (hb); replace BK111 := n0_; replace BK112 := n1_; replace HB := n3_; clear HO115; clear n0_ n1_ n3_; (try clear hb); (try clear hkp); (try clear ho0)))); go_ret2; exact ⟨_, by first | rfl | (simp [errW_none, errW_some] <;> rfl) | (simp [*, errW_none, errW_some] <;> rfl), by (with_reducible repeat (first | apply Kd.R_alloc | apply Kd.R_drewN | apply Kd.R_drew)); exact Kd.R_mono HO125.out (fun _ hk => trivial), BW HB⟩
                            · rw [if_neg c46] at H
                              exact absurd H (by simp)
                          · rw [if_neg c44] at H
                            exact absurd H (by simp)
                        · rw [if_neg c43] at H
                          exact absurd H (by simp)
                    · rw [if_neg c21] at H
                      exact absurd H (by simp)
                  · rw [if_neg c20] at H
                    exact absurd H (by simp)
                · rw [if_neg c19] at H
                  exact absurd H (by simp)
              · rw [if_neg c18] at H
                exact absurd H (by simp)
            · rw [if_neg c17] at H
              exact absurd H (by simp)
  · replace c4 := Bool.eq_false_iff.mpr c4
    subst c4; have H1 : (some (([] : List (S46)), false)) = some (r1, r2) := (by rw [if_neg (show ¬ (false = true) by decide)] at H; exact H); clear H; have H := H1; clear H1; simp only [Option.some.injEq, Prod.mk.injEq] at H; obtain ⟨rfl, rfl⟩ := H; go_enter Try.func22, Try.ntmps22; go_wp2_with (first | ((with_reducible refine gate_callee (f := 82) rfl ?_); refine goesM 14 Try.func82 #[.slice A0 l0.length c0] ?_; (with_reducible refine (S0.impl_AreWhirls.calls k _ _ l0 false _ ?side1 ?side2 A3.out).mono ?_); (case side1 => exact CS HR0.out); (case side2 => exact HC0.out); rintro e w70 ⟨rfl, hb⟩; refine ⟨_, rfl, ?_⟩; replace HB := BB HB hb; (try clear hb); (try clear hb2); (try clear hk); (try clear hi))); go_ret2; exact ⟨_, by first | rfl | (simp [errW_none, errW_some] <;> rfl) | (simp [*, errW_none, errW_some] <;> rfl), by first | exact Kd.R_nil _ _ _ _ _ | exact Kd.N_nil _ _ _ _ _ | exact Kd.V_nil _ _ _ _ _ | exact Kd.Q_nil _ _ _ _ _ | exact Kd.S_nil _ _ _ _ _, BW HB⟩
end Go.Proofs.Ytcgaccdiomcglaa.N2
end
section
namespace Go.Proofs.Ytcgaccdiomcglaa.NM
open Go.Proofs.Ytcgaccdiomcglaa.S0 Go.Proofs.Ytcgaccdiomcglaa.N0
open Go.RowKit Go.Proofs.YtcgaccdiomcglaaW.PrintWords Go.Proofs.YtcgaccdiomcglaaW.PrintLast Go.Proofs.YtcgaccdiomcglaaW.PrintMore
attribute [local go_sem] max2_int min2_int max_two min_two max_three min_three max_four min_four
set_option linter.unusedVariables false
set_option linter.unusedSimpArgs false
attribute [local go_sem high] binOp_fge binOp_fle
def errW : Option Int → Value
  | none => .nilIface
  | some c => .iface 0 (.int .i64 c)
theorem errW_none : errW none = .nilIface := rfl
theorem errW_some (c : Int) : errW (some c) = .iface 0 (.int .i64 c) := rfl
theorem info46 : (Try.prog.info? 46).map (fun i => (i.zero, i.size, i.bytes)) = some (some (.agg #[(.complex .f32 0 0), (.float .f32 0)]), 2, 12) := by kernel_rfl
end Go.Proofs.Ytcgaccdiomcglaa.NM
end
section
namespace Go.Proofs.Ytcgaccdiomcglaa.NM
open Go.Proofs.Ytcgaccdiomcglaa.S0 Go.Proofs.Ytcgaccdiomcglaa.N0
open Go.RowKit Go.Proofs.YtcgaccdiomcglaaW.PrintWords Go.Proofs.YtcgaccdiomcglaaW.PrintLast Go.Proofs.YtcgaccdiomcglaaW.PrintMore
attribute [local go_sem] max2_int min2_int max_two min_two max_three min_three max_four min_four
set_option linter.unusedVariables false
set_option linter.unusedSimpArgs false
attribute [local go_sem high] binOp_fge binOp_fle
def impl_MoveWhirls_1.f (a0_0 : (Nat × Nat)) (a0_1 : Nat) (a1 : (Nat × Nat)) : Option ((Nat × Nat) × Nat) := if fok .add .f32 a0_0.1 a1.1 = true then (if fok .add .f32 a0_0.2 a1.2 = true then (some (((fop .add .f32 a0_0.1 a1.1, fop .add .f32 a0_0.2 a1.2) : Nat × Nat), a0_1)) else (none)) else (none)
set_option maxHeartbeats 8000000 in
set_option maxRecDepth 100000 in
theorem impl_MoveWhirls_1.calls (a0_0 : (Nat × Nat)) (a0_1 : Nat) (g1 : Nat) (a1 : (Nat × Nat)) (r1 : (Nat × Nat)) (r2 : Nat) (w : World) (hb1_ : w.heap[g1]? = some (.cells #[.complex .f32 a1.1 a1.2] 26 (0, 0))) (h : impl_MoveWhirls_1.f a0_0 a0_1 a1 = some (r1, r2)) :
    Calls Try.prog 98 #[.agg #[.complex .f32 a0_0.1 a0_0.2, .float .f32 a0_1], .pointer (some ⟨g1, 0, none⟩)] w fun e w' => e = .returned (.agg #[.complex .f32 r1.1 r1.2, .float .f32 r2]) ∧ Below w.heap.size w w' := by
  have hu46 := Try.underlying46; have BK1 := Aside0.mk hb1_; clear hb1_; have HB := AS (Below.refl w.heap.size w); have H : (if fok .add .f32 a0_0.1 a1.1 = true then (if fok .add .f32 a0_0.2 a1.2 = true then (some (((fop .add .f32 a0_0.1 a1.1, fop .add .f32 a0_0.2 a1.2) : Nat × Nat), a0_1)) else (none)) else (none)) = some (r1, r2) := h; clear h; by_cases c3 : fok .add .f32 a0_0.1 a1.1 = true
  · rw [if_pos c3] at H
    have c3b0 := eq_true c3; have c3b1 : decide (fok .add .f32 a0_0.1 a1.1 = true) = true := decide_eq_true c3; clear c3; by_cases c4 : fok .add .f32 a0_0.2 a1.2 = true
    · rw [if_pos c4] at H
      have c4b0 := eq_true c4; have c4b1 : decide (fok .add .f32 a0_0.2 a1.2 = true) = true := decide_eq_true c4; clear c4; simp only [Option.some.injEq, Prod.mk.injEq] at H; obtain ⟨rfl, rfl⟩ := H; go_enter Try.func98, Try.ntmps98; go_wp2_with (first | ((with_reducible refine gate_dst (N := 2) rfl ?_); refine box_event ?hg (N := 2) ?hd (cs := #[.complex .f32 a0_0.1 a0_0.2, .float .f32 a0_1]) (t := 46) ?hr ?_; (case hd => rfl); (case hg => rfl); (case hr => first | (go_simp; done) | (go_simp; rfl)); intro gb101 hg w5 hbox hb; have BK101 := AS (hbox); have GW101 := BG HB hg; have GE101 := BG HB hg; have NB1_101 := KN BK1 hg; have NB101_1 := KM BK1 hg; replace BK1 := KB BK1 hb; replace HB := BB HB hb; clear hb hbox hg) | ((with_reducible refine gate_dst (N := 3) rfl ?_); refine box_event ?hg (N := 3) ?hd (cs := #[.complex .f32 ((0, 0) : Nat × Nat).1 ((0, 0) : Nat × Nat).2, .float .f32 0]) (t := 46) ?hr ?_; (case hd => rfl); (case hg => rfl); (case hr => first | (go_simp; done) | (go_simp; rfl)); intro gb102 hg w6 hbox hb; have BK102 := AS (hbox); have GW102 := BG HB hg; have GE102 := BG HB hg; have NB1_102 := KN BK1 hg; have NB102_1 := KM BK1 hg; have NB101_102 := KN BK101 hg; have NB102_101 := KM BK101 hg; replace BK1 := KB BK1 hb; replace BK101 := KB BK101 hb; replace HB := BB HB hb; clear hb hbox hg; have hnb7 := NB101_1.out; have hnc7 := NB1_101.out; have hnb8 := NB101_102.out; have hnc8 := NB102_101.out; have hcz9_0 : w6.cell? ⟨gb101, 0, none⟩ = some (.complex .f32 a0_0.1 a0_0.2) := (blk_cell BK101.out 0).trans rfl; have hcz9_1 : w6.cell? ⟨gb101, 1, none⟩ = some (.float .f32 a0_1) := (blk_cell BK101.out 1).trans rfl; have hfz9_0 := blk_frozen BK101.out 0; have hfz9_1 := blk_frozen BK101.out 1; have hnb10 := NB1_102.out; have hnc10 := NB102_1.out; have hcz11_0 : w6.cell? ⟨g1, 0, none⟩ = some (.complex .f32 a1.1 a1.2) := (blk_cell BK1.out 0).trans rfl; have hfz11_0 := blk_frozen BK1.out 0; have hcz12_0 : w6.cell? ⟨gb102, 0, none⟩ = some (.complex .f32 ((0, 0) : Nat × Nat).1 ((0, 0) : Nat × Nat).2) := (blk_cell BK102.out 0).trans rfl; have hcz12_1 : w6.cell? ⟨gb102, 1, none⟩ = some (.float .f32 0) := (blk_cell BK102.out 1).trans rfl; have hfz12_0 := blk_frozen BK102.out 0; have hfz12_1 := blk_frozen BK102.out 1) | ((with_reducible refine gate_store (t := 46) (p := 3) rfl ?_); refine store_event (t := 46) (p := 3) (v := ?vo_w13) (w1 := ((w6.setCell ⟨gb102, 0, none⟩ (.complex .f32 ((fop .add .f32 a0_0.1 a1.1, fop .add .f32 a0_0.2 a1.2) : Nat × Nat).1 ((fop .add .f32 a0_0.1 a1.1, fop .add .f32 a0_0.2 a1.2) : Nat × Nat).2)).setCell ⟨gb102, 1, none⟩ (.float .f32 a0_1))) ?hg ?ho ?hn ?hr ?_; (case ho => rfl); (case hg => rfl); (case hn => rfl); (case hr => first | (go_simp; done) | (go_simp; rfl)); intro w13 hw; have n0_ : Aside0 (w13.heap[g1]? = some (.cells #[.complex .f32 a1.1 a1.2] 26 (0, 0))) := ⟨(by rw [hw]; exact (by (with_reducible repeat (first | refine blk_drewN ?_ _ | refine blk_drew ?_ | refine blk_alloc ?_ _)); refine blk_far ?_ NB1_102.out _; (with_reducible repeat (first | refine blk_drewN ?_ _ | refine blk_drew ?_ | refine blk_alloc ?_ _)); refine blk_far ?_ NB1_102.out _; (with_reducible repeat (first | refine blk_drewN ?_ _ | refine blk_drew ?_ | refine blk_alloc ?_ _)); exact BK1.out))⟩; have n1_ : Aside0 (w13.heap[gb101]? = some (.cells #[.complex .f32 a0_0.1 a0_0.2, .float .f32 a0_1] 46 (0, 0))) := ⟨(by rw [hw]; exact (by (with_reducible repeat (first | refine blk_drewN ?_ _ | refine blk_drew ?_ | refine blk_alloc ?_ _)); refine blk_far ?_ NB101_102.out _; (with_reducible repeat (first | refine blk_drewN ?_ _ | refine blk_drew ?_ | refine blk_alloc ?_ _)); refine blk_far ?_ NB101_102.out _; (with_reducible repeat (first | refine blk_drewN ?_ _ | refine blk_drew ?_ | refine blk_alloc ?_ _)); exact BK101.out))⟩; have n2_ : Aside0 (w13.heap[gb102]? = some (.cells #[.complex .f32 ((fop .add .f32 a0_0.1 a1.1, fop .add .f32 a0_0.2 a1.2) : Nat × Nat).1 ((fop .add .f32 a0_0.1 a1.1, fop .add .f32 a0_0.2 a1.2) : Nat × Nat).2, .float .f32 a0_1] 46 (0, 0))) := ⟨(by rw [hw]; exact (by (with_reducible repeat (first | refine blk_drewN ?_ _ | refine blk_drew ?_ | refine blk_alloc ?_ _)); refine blk_put (cs := #[.complex .f32 ((fop .add .f32 a0_0.1 a1.1, fop .add .f32 a0_0.2 a1.2) : Nat × Nat).1 ((fop .add .f32 a0_0.1 a1.1, fop .add .f32 a0_0.2 a1.2) : Nat × Nat).2, .float .f32 0]) ?_ 1 _ rfl; (with_reducible repeat (first | refine blk_drewN ?_ _ | refine blk_drew ?_ | refine blk_alloc ?_ _)); refine blk_put (cs := #[.complex .f32 ((0, 0) : Nat × Nat).1 ((0, 0) : Nat × Nat).2, .float .f32 0]) ?_ 0 _ rfl; (with_reducible repeat (first | refine blk_drewN ?_ _ | refine blk_drew ?_ | refine blk_alloc ?_ _)); exact BK102.out))⟩; have n3_ : Aside0 (Below w.heap.size w w13) := ⟨(by rw [hw]; exact (BW HB))⟩; replace BK1 := n0_; replace BK101 := n1_; replace BK102 := n2_; replace HB := n3_; clear hw; clear n0_ n1_ n2_ n3_)); refine bodyPost_ret (results_cell_row rfl _ _ gb102 46 #[.complex .f32 ((fop .add .f32 a0_0.1 a1.1, fop .add .f32 a0_0.2 a1.2) : Nat × Nat).1 ((fop .add .f32 a0_0.1 a1.1, fop .add .f32 a0_0.2 a1.2) : Nat × Nat).2, .float .f32 a0_1] (0, 0) _ rfl (KS BK102.out) Try.underlying46 rfl (by kernel_rfl)) rfl ?_; exact ⟨by first | rfl | (simp [errW_none, errW_some] <;> rfl) | (simp [*, errW_none, errW_some] <;> rfl), BW HB⟩
    · rw [if_neg c4] at H
      exact absurd H (by simp)
  · rw [if_neg c3] at H
    exact absurd H (by simp)
def impl_remade.l0 : Nat → List (S46) → List (S46) → Int → Int → (Nat × Nat) → Option ((List (S46)) × Bool)
  | 0, _, _, _, _, _ => none
  | k + 1, x6, x13, x14, x15, x3000 => if x15 < x14 then (if 0 ≤ x15 then (if x15 < (x13.length : Int) then ((impl_MoveWhirls_1.f ((rd_T46 x13 x15).f0) ((rd_T46 x13 x15).f1) x3000).bind fun bt109 => (if x6.length < 11728124029610 then (impl_remade.l0 k (x6 ++ [(⟨bt109.1, bt109.2⟩ : S46)]) x13 x14 (wrap64 (x15 + 1)) x3000) else (none))) else (none)) else (none)) else ((S0.impl_toldWhirls.f k x6).bind fun bt114 => (some (bt114.1, bt114.2)))
def impl_remade.f (k : Nat) (l0 : List (S46))  (a2 : (Nat × Nat)) : Option ((List (S46)) × Bool) := (S0.impl_AreWhirls.f k l0).bind fun t103 => (if t103 = true then (impl_remade.l0 k (([] : List (S46))) l0 (l0.length : Int) 0 a2) else (some (([] : List (S46)), false)))
set_option maxHeartbeats 8000000 in
set_option maxRecDepth 100000 in
theorem impl_remade.calls (k : Nat) (A0 : Option Addr) (c0 : Nat) (l0 : List (S46))  (g2 : Nat) (a2 : (Nat × Nat)) (r1 : List (S46)) (r2 : Bool) (w : World) (hr0 : Kd.C k46 w A0 l0.length l0) (hc0 : l0.length ≤ c0) (hb2_ : w.heap[g2]? = some (.cells #[.complex .f32 a2.1 a2.2] 26 (0, 0))) (h : impl_remade.f k l0 a2 = some (r1, r2)) :
    Calls Try.prog 73 #[.slice A0 l0.length c0, .func (.func 98) #[] #[.pointer (some ⟨g2, 0, none⟩)]] w fun e w' => ∃ v0_ : Value, e = .returned (.tuple #[v0_, .bool r2]) ∧ Kd.R k46 46 w' w.heap.size (fun _ => True) v0_ r1 ∧ Below w.heap.size w w' := by
  have hu46 := Try.underlying46; have HR0 := Aside0.mk hr0; have HC0 := Aside0.mk hc0; clear hr0 hc0; have BK2 := Aside0.mk hb2_; clear hb2_; have HB := AS (Below.refl w.heap.size w); have H : ((S0.impl_AreWhirls.f k l0).bind fun t103 => (if t103 = true then (impl_remade.l0 k (([] : List (S46))) l0 (l0.length : Int) 0 a2) else (some (([] : List (S46)), false)))) = some (r1, r2) := h; clear h; replace H := Option.bind_eq_some_iff.mp H; obtain ⟨t103, A40, H⟩ := H; replace H : (if t103 = true then (impl_remade.l0 k (([] : List (S46))) l0 (l0.length : Int) 0 a2) else (some (([] : List (S46)), false))) = some (r1, r2) := H; have A4 := Aside0.mk A40; clear A40; by_cases c5 : t103 = true
  · subst c5
    have H1 : (impl_remade.l0 k (([] : List (S46))) l0 (l0.length : Int) 0 a2) = some (r1, r2) := (by rw [if_pos rfl] at H; exact H); clear H; have H := H1; clear H1; obtain ⟨y104, hy104⟩ : ∃ y_ : List (S46), y_ = (([] : List (S46))) := ⟨_, rfl⟩; replace H : (impl_remade.l0 k y104 l0 (l0.length : Int) 0 a2) = some (r1, r2) := (by first | (rw [hy104]; with_reducible exact H) | (have H2_ := (Option.bind_some _ _).symm.trans H; rw [hy104]; with_reducible exact H2_) | (have H2_ := (Option.bind_some _ _).symm.trans H; with_reducible exact H2_) | with_reducible exact H | (rw [hy104]; exact H) | exact H); have Ny104 := Aside0.mk hy104; clear hy104; have H' := Aside0.mk H; clear H; go_enter Try.func73, Try.ntmps73; go_wp2_with (first | ((with_reducible refine gate_callee (f := 82) rfl ?_); refine goesM 10 Try.func82 #[.slice A0 l0.length c0] ?_; (with_reducible refine (S0.impl_AreWhirls.calls k _ _ l0 true _ ?side1 ?side2 A4.out).mono ?_); (case side1 => exact CS HR0.out); (case side2 => exact HC0.out); rintro e w6 ⟨rfl, hb⟩; refine ⟨_, rfl, ?_⟩; replace BK2 := KB BK2 hb; replace HB := BB HB hb; (try clear hb); (try clear hb2); (try clear hk); (try clear hi)) | ((with_reducible refine gate_dst (N := 12) rfl ?_); refine Kd.R_lit k46 _ 46 ?hg (N := 12) ?hd (xs := ([] : List (S46))) (inner := []) (ok := fun _ => True) (okp := fun _ => True) ?hr ?hp (fun _ hk => hk) trivial (Below.refl _ _) (Nat.le_refl _) (by simp) ?_; (case hd => rfl); (case hg => rfl); (case hr => first | (go_simp; done) | (go_simp; rfl)); (case hp => exact (Reps.none _ _)); intro v105 w7 ho8 hb hg_ hnew_; clear hg_ hnew_; (first | rw [← Ny104.out] at ho8 | (simp only [Int.reduceToNat] at ho8; rw [← Ny104.out] at ho8)); have HO106 := AS (Kd.R_lower ho8 (below_size (BW HB))); replace BK2 := KB BK2 hb; replace HB := BB HB hb; clear hb ho8)); go_loopg [6, 15] k (fun kq v6 v15 w' => ∃ (x6_1 : List (S46)) (x15_1 : Int), v15 = .int .i64 x15_1 ∧ Aside0 (impl_remade.l0 kq x6_1 l0 (l0.length : Int) x15_1 a2 = some (r1, r2)) ∧ Aside0 (kq ≤ k) ∧ Aside0 (Kd.R k46 46 w' w.heap.size (fun _ => True) v6 x6_1) ∧ Aside0 (w'.heap[g2]? = some (.cells #[.complex .f32 a2.1 a2.2] 26 (0, 0))) ∧ Aside0 (Below w.heap.size w w'))
    case atStart => exact ⟨(y104), (0), (by first | rfl | (simp; done) | (simp [*]; done)), H', ⟨Nat.le_refl _⟩, ⟨RS HO106.out⟩, ⟨KS BK2.out⟩, ⟨BW HB⟩⟩
    case round =>
      clear H'; (try clear p2); (try clear c5); (try clear c7); (try clear c8); obtain ⟨x6_1, x15_1, rfl, HA, HK1, HO_6, BK2, HB⟩ := hrel; cases gk with
      | zero => exact absurd HA.out (by simp [impl_remade.l0])
      | succ k1 =>
        have H := HA.out; clear HA; simp only [impl_remade.l0] at H; by_cases c9 : x15_1 < (l0.length : Int)
        · rw [if_pos c9] at H
          have c9b0 : decide (x15_1 < (l0.length : Int)) = true := decide_eq_true c9; clear c9; by_cases c10 : 0 ≤ x15_1
          · rw [if_pos c10] at H
            have c10b0 : decide (0 ≤ x15_1) = true := decide_eq_true c10; clear c10; by_cases c11 : x15_1 < (l0.length : Int)
            · rw [if_pos c11] at H
              have c11b0 : decide (x15_1 < (l0.length : Int)) = true := decide_eq_true c11; clear c11; replace H := Option.bind_eq_some_iff.mp H; obtain ⟨⟨t109, t110⟩, A120, H⟩ := H; replace H : (if x6_1.length < 11728124029610 then (impl_remade.l0 k1 (x6_1 ++ [(⟨t109, t110⟩ : S46)]) l0 (l0.length : Int) (wrap64 (x15_1 + 1)) a2) else (none)) = some (r1, r2) := H; have A12 := Aside0.mk A120; clear A120; by_cases c13 : x6_1.length < 11728124029610
              · rw [if_pos c13] at H
                have LMc13 := Aside0.mk c13; clear c13; obtain ⟨y111, hy111⟩ : ∃ y_ : List (S46), y_ = (x6_1 ++ [(⟨t109, t110⟩ : S46)]) := ⟨_, rfl⟩; replace H : (impl_remade.l0 k1 y111 l0 (l0.length : Int) (wrap64 (x15_1 + 1)) a2) = some (r1, r2) := (by first | (rw [hy111]; with_reducible exact H) | (have H2_ := (Option.bind_some _ _).symm.trans H; rw [hy111]; with_reducible exact H2_) | (have H2_ := (Option.bind_some _ _).symm.trans H; with_reducible exact H2_) | with_reducible exact H | (rw [hy111]; exact H) | exact H); have Ny111 := Aside0.mk hy111; clear hy111; have H' := Aside0.mk H; clear H; have p107 : 0 ≤ (x15_1 : Int) := of_decide_eq_true (by first | (with_reducible assumption) | assumption); have q107 : x15_1 < (l0.length : Int) := of_decide_eq_true (by first | (with_reducible assumption) | assumption); obtain ⟨ad107, e107, hx107_0, hx107_1⟩ := at_T46 HR0.out x15_1 p107 q107; cases e107; replace hx107_0 := (HB.out.cell (World.block_lt_of_cell? w _ hx107_0)).trans hx107_0; replace hx107_1 := (HB.out.cell (World.block_lt_of_cell? w _ hx107_1)).trans hx107_1; replace p107 := eq_true p107; replace q107 := eq_true q107; go_wp2_with (first | ((with_reducible refine gate_dst (N := 8) rfl ?_); refine box_event ?hg (N := 8) ?hd (cs := #[.complex .f32 ((0, 0) : Nat × Nat).1 ((0, 0) : Nat × Nat).2, .float .f32 0]) (t := 46) ?hr ?_; (case hd => rfl); (case hg => rfl); (case hr => first | (go_simp; done) | (go_simp; rfl)); intro gb108 hg w14 hbox hb; have n0_ := AS (Kd.R_below (Kd.R_elderB (RS HO_6.out) gb108 (Nat.le_of_eq hg.symm)) hb); have BK108 := AS (hbox); have GW108 := BG HB hg; have GE108 := BG HB hg; have NB2_108 := KN BK2 hg; have NB108_2 := KM BK2 hg; replace BK2 := KB BK2 hb; replace HB := BB HB hb; replace HO_6 := n0_; clear n0_; clear hb hbox hg; have hnb15 := NB108_2.out; have hnc15 := NB2_108.out; have hcz16_0 : w14.cell? ⟨gb108, 0, none⟩ = some (.complex .f32 ((0, 0) : Nat × Nat).1 ((0, 0) : Nat × Nat).2) := (blk_cell BK108.out 0).trans rfl; have hcz16_1 : w14.cell? ⟨gb108, 1, none⟩ = some (.float .f32 0) := (blk_cell BK108.out 1).trans rfl; have hfz16_0 := blk_frozen BK108.out 0; have hfz16_1 := blk_frozen BK108.out 1) | ((with_reducible refine gate_store (t := 46) (p := 8) rfl ?_); refine store_event (t := 46) (p := 8) (v := ?vo_w17) (w1 := ((w14.setCell ⟨gb108, 0, none⟩ (.complex .f32 ((rd_T46 l0 x15_1).f0).1 ((rd_T46 l0 x15_1).f0).2)).setCell ⟨gb108, 1, none⟩ (.float .f32 ((rd_T46 l0 x15_1).f1)))) ?hg ?ho ?hn ?hr ?_; (case ho => rfl); (case hg => rfl); (case hn => rfl); (case hr => first | (go_simp; done) | (go_simp; rfl)); intro w17 hw; have n0_ : Aside0 (Kd.R k46 46 w17 w.heap.size (fun k_ => k_ ≠ gb108) u6 x6_1) := ⟨(by rw [hw]; exact (RS (Kd.R_mono (Kd.R_far (p := ⟨gb108, 1, none⟩) (Kd.R_far (p := ⟨gb108, 0, none⟩) (Kd.R_mono HO_6.out (fun k_ hk => (⟨hk, hk.2⟩ : _ ∧ k_ ≠ gb108))) (fun _ hk => hk.2) (.complex .f32 ((rd_T46 l0 x15_1).f0).1 ((rd_T46 l0 x15_1).f0).2)) (fun _ hk => hk.2) (.float .f32 ((rd_T46 l0 x15_1).f1))) (fun _ hk => hk.1.2))))⟩; have n1_ : Aside0 (w17.heap[g2]? = some (.cells #[.complex .f32 a2.1 a2.2] 26 (0, 0))) := ⟨(by rw [hw]; exact (by (with_reducible repeat (first | refine blk_drewN ?_ _ | refine blk_drew ?_ | refine blk_alloc ?_ _)); refine blk_far ?_ NB2_108.out _; (with_reducible repeat (first | refine blk_drewN ?_ _ | refine blk_drew ?_ | refine blk_alloc ?_ _)); refine blk_far ?_ NB2_108.out _; (with_reducible repeat (first | refine blk_drewN ?_ _ | refine blk_drew ?_ | refine blk_alloc ?_ _)); exact BK2.out))⟩; have n2_ : Aside0 (w17.heap[gb108]? = some (.cells #[.complex .f32 ((rd_T46 l0 x15_1).f0).1 ((rd_T46 l0 x15_1).f0).2, .float .f32 ((rd_T46 l0 x15_1).f1)] 46 (0, 0))) := ⟨(by rw [hw]; exact (by (with_reducible repeat (first | refine blk_drewN ?_ _ | refine blk_drew ?_ | refine blk_alloc ?_ _)); refine blk_put (cs := #[.complex .f32 ((rd_T46 l0 x15_1).f0).1 ((rd_T46 l0 x15_1).f0).2, .float .f32 0]) ?_ 1 _ rfl; (with_reducible repeat (first | refine blk_drewN ?_ _ | refine blk_drew ?_ | refine blk_alloc ?_ _)); refine blk_put (cs := #[.complex .f32 ((0, 0) : Nat × Nat).1 ((0, 0) : Nat × Nat).2, .float .f32 0]) ?_ 0 _ rfl; (with_reducible repeat (first | refine blk_drewN ?_ _ | refine blk_drew ?_ | refine blk_alloc ?_ _)); exact BK108.out))⟩; have n3_ : Aside0 (Below w.heap.size w w17) := ⟨(by rw [hw]; exact (BW HB))⟩; replace HO_6 := n0_; replace BK2 := n1_; replace BK108 := n2_; replace HB := n3_; clear hw; clear n0_ n1_ n2_ n3_; have hcz18_0 : w17.cell? ⟨gb108, 0, none⟩ = some (.complex .f32 ((rd_T46 l0 x15_1).f0).1 ((rd_T46 l0 x15_1).f0).2) := (blk_cell BK108.out 0).trans rfl; have hcz18_1 : w17.cell? ⟨gb108, 1, none⟩ = some (.float .f32 ((rd_T46 l0 x15_1).f1)) := (blk_cell BK108.out 1).trans rfl; have hfz18_0 := blk_frozen BK108.out 0; have hfz18_1 := blk_frozen BK108.out 1) | (go_at_call 98; (with_reducible refine (impl_MoveWhirls_1.calls ((rd_T46 l0 x15_1).f0) ((rd_T46 l0 x15_1).f1) g2 a2 t109 t110 _ ?side1 A12.out).mono ?_); (case side1 => exact (KS BK2.out)); rintro e w19 ⟨rfl, hb⟩; replace HO_6 := RB HO_6 hb; replace BK2 := KB BK2 hb; replace BK108 := KB BK108 hb; replace HB := BB HB hb; (try clear hb); (try clear hb2); (try clear hk); (try clear hi)) | ((with_reducible refine gate_builtin (b := .append) (xs := #[.tmp 19, .tmp 23]) rfl ?_); at_builtin; refine Kd.R_append k46 (w0 := w) w.heap.size rfl (.tmp 19) (.tmp 23) 24 46 (.agg #[(.complex .f32 0 0), (.float .f32 0)]) 12 rfl Try.underlying24 info46 rfl (by decide) (by omega) u6 x6_1 (⟨t109, t110⟩ : S46) [.complex .f32 t109.1 t109.2, .float .f32 t110] (fun k_ => k_ ≠ gb108) (fun _ => False) rfl rfl ?aP (fun _ hk => hk.elim) ?aF ?aO ?aB ?aS ?aL ?_; (case aP => exact k46_mkM _ _ _ (⟨t109, t110⟩ : S46)); (case aB => exact (BW HB)); (case aF => exact (fun k_ hk => Kd.freshB (g := gb108) (o := .cells #[.complex .f32 ((rd_T46 l0 x15_1).f0).1 ((rd_T46 l0 x15_1).f0).2, .float .f32 ((rd_T46 l0 x15_1).f1)] 46 (0, 0)) (KS BK108.out) k_ hk)); (case aO => exact (RS HO_6.out)); (case aS => exact (below_size (BW HB))); (case aL => have := LMc13.out; omega); intro v112 w20 ho hb hg hat; rw [← Ny111.out] at ho; have n0_ := AS (blk_grown (g := g2) (o := .cells #[.complex .f32 a2.1 a2.2] 26 (0, 0)) (KS BK2.out) hg (Kd.R_ne HO_6.out BK2.out (by decide))); have n1_ := AS (blk_grown (g := gb108) (o := .cells #[.complex .f32 ((rd_T46 l0 x15_1).f0).1 ((rd_T46 l0 x15_1).f0).2, .float .f32 ((rd_T46 l0 x15_1).f1)] 46 (0, 0)) (KS BK108.out) hg (Kd.R_away HO_6.out (fun _ hk => hk))); have n2_ := AS (hb); have HO113 := AS (ho); replace BK2 := n0_; replace BK108 := n1_; replace HB := n2_; clear HO_6; clear n0_ n1_ n2_; clear ho hb hg hat)); go_roundg k1
                case measure => have := HK1.out; omega
                case rel => exact ⟨(y111), (wrap64 (x15_1 + 1)), (by first | rfl | (simp; done) | (simp [*]; done)), H', ⟨by have := HK1.out; omega⟩, ⟨by (with_reducible repeat (first | apply Kd.R_alloc | apply Kd.R_drewN | apply Kd.R_drew)); exact Kd.R_mono HO113.out (fun _ hk => trivial)⟩, ⟨KS BK2.out⟩, ⟨BW HB⟩⟩
              · rw [if_neg c13] at H
                exact absurd H (by simp)
            · rw [if_neg c11] at H
              exact absurd H (by simp)
          · rw [if_neg c10] at H
            exact absurd H (by simp)
        · rw [if_neg c9] at H
          have c9b0 : decide (x15_1 < (l0.length : Int)) = false := decide_eq_false c9; clear c9; replace H := Option.bind_eq_some_iff.mp H; obtain ⟨⟨t114, t117⟩, A210, H⟩ := H; replace H : (some (t114, t117)) = some (r1, r2) := H; have A21 := Aside0.mk A210; clear A210; simp only [Option.some.injEq, Prod.mk.injEq] at H; obtain ⟨rfl, rfl⟩ := H; obtain ⟨Ao22, co22, eo22⟩ := Kd.R_slice HO_6.out; subst eo22; go_wp2_with (first | ((with_reducible refine gate_callee (f := 91) rfl ?_); refine goesM 27 Try.func91 #[.slice Ao22 x6_1.length co22] ?_; (with_reducible refine (S0.impl_toldWhirls.calls k1 (fun k_ => some k_ = (.slice Ao22 x6_1.length co22 : Value).ownBlock) (.slice Ao22 x6_1.length co22) x6_1 t114 t117 w _ ?side1 ?side2 A21.out).mono ?_); (case side1 => repeat (first | (with_reducible first | exact HB.out | apply below_alloc | apply pw_below_drewN | apply below_drew1 | refine below_set ?_ GE2.out) | exact HB.out)); (case side2 => exact Kd.R_tight rfl HO_6.out); rintro e w23 ⟨v115, rfl, ho0, hb, hkp⟩; refine ⟨_, rfl, ?_⟩; have n0_ := AS (blk_kept (KS BK2.out) hkp (fun hs_ => (fun e_ => (Kd.R_ne HO_6.out BK2.out (by decide)) e_) hs_)); have HO116 := AS (Kd.R_mono (ok' := fun k_ => True) ho0 (fun k_ hk_ => trivial)); have n2_ := AS (hb); replace BK2 := n0_; replace HB := n2_; clear HO_6; clear n0_ n2_; (try clear hb); (try clear hkp); (try clear ho0))); go_ret2; exact ⟨_, by first | rfl | (simp [errW_none, errW_some] <;> rfl) | (simp [*, errW_none, errW_some] <;> rfl), by (with_reducible repeat (first | apply Kd.R_alloc | apply Kd.R_drewN | apply Kd.R_drew)); exact HO116.out, BW HB⟩
  · replace c5 := Bool.eq_false_iff.mpr c5
    subst c5; have H1 : (some (([] : List (S46)), false)) = some (r1, r2) := (by rw [if_neg (show ¬ (false = true) by decide)] at H; exact H); clear H; have H := H1; clear H1; simp only [Option.some.injEq, Prod.mk.injEq] at H; obtain ⟨rfl, rfl⟩ := H; go_enter Try.func73, Try.ntmps73; go_wp2_with (first | ((with_reducible refine gate_callee (f := 82) rfl ?_); refine goesM 10 Try.func82 #[.slice A0 l0.length c0] ?_; (with_reducible refine (S0.impl_AreWhirls.calls k _ _ l0 false _ ?side1 ?side2 A4.out).mono ?_); (case side1 => exact CS HR0.out); (case side2 => exact HC0.out); rintro e w24 ⟨rfl, hb⟩; refine ⟨_, rfl, ?_⟩; replace BK2 := KB BK2 hb; replace HB := BB HB hb; (try clear hb); (try clear hb2); (try clear hk); (try clear hi))); go_ret2; exact ⟨_, by first | rfl | (simp [errW_none, errW_some] <;> rfl) | (simp [*, errW_none, errW_some] <;> rfl), by first | exact Kd.R_nil _ _ _ _ _ | exact Kd.N_nil _ _ _ _ _ | exact Kd.V_nil _ _ _ _ _ | exact Kd.Q_nil _ _ _ _ _ | exact Kd.S_nil _ _ _ _ _, BW HB⟩
def impl_MoveWhirls.f (k : Nat) (l0 : List (S46)) (a1 : (Nat × Nat)) : Option ((List (S46)) × Bool) := (XW.IsFiniteComplex.f a1).bind fun t119 => (if t119 = true then ((impl_remade.f k l0 a1).bind fun bt120 => (some (bt120.1, bt120.2))) else (some (([] : List (S46)), false)))
set_option maxHeartbeats 8000000 in
set_option maxRecDepth 100000 in
theorem impl_MoveWhirls.calls (k : Nat) (A0 : Option Addr) (c0 : Nat) (l0 : List (S46)) (a1 : (Nat × Nat)) (r1 : List (S46)) (r2 : Bool) (w : World) (hr0 : Kd.C k46 w A0 l0.length l0) (hc0 : l0.length ≤ c0) (h : impl_MoveWhirls.f k l0 a1 = some (r1, r2)) :
    Calls Try.prog 26 #[.slice A0 l0.length c0, .complex .f32 a1.1 a1.2] w fun e w' => ∃ v0_ : Value, e = .returned (.tuple #[v0_, .bool r2]) ∧ Kd.R k46 46 w' w.heap.size (fun _ => True) v0_ r1 ∧ Below w.heap.size w w' := by
  have HR0 := Aside0.mk hr0; have HC0 := Aside0.mk hc0; clear hr0 hc0; have HB := AS (Below.refl w.heap.size w); have H : ((XW.IsFiniteComplex.f a1).bind fun t119 => (if t119 = true then ((impl_remade.f k l0 a1).bind fun bt120 => (some (bt120.1, bt120.2))) else (some (([] : List (S46)), false)))) = some (r1, r2) := h; clear h; replace H := Option.bind_eq_some_iff.mp H; obtain ⟨t119, A30, H⟩ := H; replace H : (if t119 = true then ((impl_remade.f k l0 a1).bind fun bt120 => (some (bt120.1, bt120.2))) else (some (([] : List (S46)), false))) = some (r1, r2) := H; have A3 := Aside0.mk A30; clear A30; by_cases c4 : t119 = true
  · subst c4
    have H1 : ((impl_remade.f k l0 a1).bind fun bt120 => (some (bt120.1, bt120.2))) = some (r1, r2) := (by rw [if_pos rfl] at H; exact H); clear H; have H := H1; clear H1; replace H := Option.bind_eq_some_iff.mp H; obtain ⟨⟨t120, t123⟩, A50, H⟩ := H; replace H : (some (t120, t123)) = some (r1, r2) := H; have A5 := Aside0.mk A50; clear A50; simp only [Option.some.injEq, Prod.mk.injEq] at H; obtain ⟨rfl, rfl⟩ := H; go_enter Try.func26, Try.ntmps26; go_wp2_with (first | ((with_reducible refine gate_dst (N := 3) rfl ?_); refine box_event ?hg (N := 3) ?hd (cs := #[.complex .f32 a1.1 a1.2]) (t := 26) ?hr ?_; (case hd => rfl); (case hg => rfl); (case hr => first | (go_simp; done) | (go_simp; rfl)); intro gb118 hg w6 hbox hb; have BK118 := AS (hbox); have GW118 := BG HB hg; have GE118 := BG HB hg; replace HB := BB HB hb; clear hb hbox hg; have hcz7_0 : w6.cell? ⟨gb118, 0, none⟩ = some (.complex .f32 a1.1 a1.2) := (blk_cell BK118.out 0).trans rfl; have hfz7_0 := blk_frozen BK118.out 0) | ((with_reducible refine gate_callee (f := 97) rfl ?_); refine goesM 7 Try.func97 #[.complex .f32 a1.1 a1.2] ?_; (with_reducible refine (XW.IsFiniteComplex.calls a1 true _ A3.out).mono ?_); rintro e w8 ⟨rfl, hb⟩; refine ⟨_, rfl, ?_⟩; replace BK118 := KB BK118 hb; replace HB := BB HB hb; (try clear hb); (try clear hb2); (try clear hk); (try clear hi)) | ((with_reducible refine gate_callee (f := 73) rfl ?_); refine goesM 11 Try.func73 #[.slice A0 l0.length c0, .func (.func 98) #[] #[.pointer (some ⟨gb118, 0, none⟩)]] ?_; (with_reducible refine (impl_remade.calls k _ _ l0  gb118 a1 t120 t123 _ ?side1 ?side2 ?side3 A5.out).mono ?_); (case side1 => exact CS (Kd.C_below HR0.out HB.out)); (case side2 => exact HC0.out); (case side3 => exact (KS BK118.out)); rintro e w9 ⟨v121, rfl, ho0, hb⟩; refine ⟨_, rfl, ?_⟩; have HO122 := AS (Kd.R_lower ho0 (below_size (BW HB))); replace BK118 := KB BK118 hb; replace HB := BB HB hb; (try clear hb); (try clear hb2); (try clear hk); (try clear hi); (try clear ho0))); go_ret2; exact ⟨_, by first | rfl | (simp [errW_none, errW_some] <;> rfl) | (simp [*, errW_none, errW_some] <;> rfl), by (with_reducible repeat (first | apply Kd.R_alloc | apply Kd.R_drewN | apply Kd.R_drew)); exact HO122.out, BW HB⟩
  · replace c4 := Bool.eq_false_iff.mpr c4
    subst c4; have H1 : (some (([] : List (S46)), false)) = some (r1, r2) := (by rw [if_neg (show ¬ (false = true) by decide)] at H; exact H); clear H; have H := H1; clear H1; simp only [Option.some.injEq, Prod.mk.injEq] at H; obtain ⟨rfl, rfl⟩ := H; go_enter Try.func26, Try.ntmps26; go_wp2_with (first | ((with_reducible refine gate_dst (N := 3) rfl ?_); refine box_event ?hg (N := 3) ?hd (cs := #[.complex .f32 a1.1 a1.2]) (t := 26) ?hr ?_; (case hd => rfl); (case hg => rfl); (case hr => first | (go_simp; done) | (go_simp; rfl)); intro gb118 hg w10 hbox hb; have BK118 := AS (hbox); have GW118 := BG HB hg; have GE118 := BG HB hg; replace HB := BB HB hb; clear hb hbox hg; have hcz11_0 : w10.cell? ⟨gb118, 0, none⟩ = some (.complex .f32 a1.1 a1.2) := (blk_cell BK118.out 0).trans rfl; have hfz11_0 := blk_frozen BK118.out 0) | ((with_reducible refine gate_callee (f := 97) rfl ?_); refine goesM 7 Try.func97 #[.complex .f32 a1.1 a1.2] ?_; (with_reducible refine (XW.IsFiniteComplex.calls a1 false _ A3.out).mono ?_); rintro e w12 ⟨rfl, hb⟩; refine ⟨_, rfl, ?_⟩; replace BK118 := KB BK118 hb; replace HB := BB HB hb; (try clear hb); (try clear hb2); (try clear hk); (try clear hi))); go_ret2; exact ⟨_, by first | rfl | (simp [errW_none, errW_some] <;> rfl) | (simp [*, errW_none, errW_some] <;> rfl), by first | exact Kd.R_nil _ _ _ _ _ | exact Kd.N_nil _ _ _ _ _ | exact Kd.V_nil _ _ _ _ _ | exact Kd.Q_nil _ _ _ _ _ | exact Kd.S_nil _ _ _ _ _, BW HB⟩
end Go.Proofs.Ytcgaccdiomcglaa.NM
end
section
set_option linter.unusedVariables false
set_option linter.unusedSimpArgs false
namespace Go.Proofs.Ytcgaccdiomcglaa
open Go.RowKit Go.Proofs.YtcgaccdiomcglaaW.PrintWords Go.Proofs.YtcgaccdiomcglaaW.PrintLast Ieee
namespace QA
open FR PU XL
def I (n : Int) : Nat := floatOfInt .f32 n
theorem I_val {n : Int} (h : n.natAbs < 1000) : Fk .f32 (I n) (n : Rat) := int_k n (by rw [show FloatKind.f32.format.binade = 8388608 by decide]; omega)
theorem I_U {n : Int} (h : n.natAbs < 1000) : U (I n) (64 * n) := by
  have := I_val h
  unfold U
  rw [v64, Rat.intCast_mul, show ((64 : Int) : Rat) = 64 from rfl]
  rwa [show (64 * (n : Rat)) * (1 / 64) = (n : Rat) by grind]
set_option maxRecDepth 100000 in
theorem addI_tab : ∀ a : _root_.Fin 33, ∀ b : _root_.Fin 33, floatBits .add .f32 (floatOfInt .f32 ((a.val : Int) - 16)) (floatOfInt .f32 ((b.val : Int) - 16)) = some (floatOfInt .f32 ((a.val : Int) + (b.val : Int) - 32)) := by decide +kernel
theorem addI {a b : Int} (h1 : -16 ≤ a) (h2 : a ≤ 16) (h3 : -16 ≤ b) (h4 : b ≤ 16) : fok .add .f32 (I a) (I b) = true ∧ fop .add .f32 (I a) (I b) = I (a + b) := by
  have := addI_tab ⟨(a + 16).toNat, by omega⟩ ⟨(b + 16).toNat, by omega⟩
  simp only at this
  rw [show (((a + 16).toNat : Nat) : Int) - 16 = a by omega, show (((b + 16).toNat : Nat) : Int) - 16 = b by omega, show (((a + 16).toNat : Nat) : Int) + (((b + 16).toNat : Nat) : Int) - 32 = a + b by omega] at this
  exact fok_of this
structure OkW (l : List S0.S46) (X Y S : Nat → Int) : Prop where
  len : l.length = 4
  at_ : ∀ i : Nat, i < 4 → (S0.rd_T46 l (i : Int)).f0 = (I (X i), I (Y i))
  spin : ∀ i : Nat, i < 4 → U (S0.rd_T46 l (i : Int)).f1 (32 * S i)
  xb : ∀ i : Nat, i < 4 → -3 ≤ X i ∧ X i ≤ 8
  yb : ∀ i : Nat, i < 4 → -4 ≤ Y i ∧ Y i ≤ 4
  sb : ∀ i : Nat, i < 4 → -8 ≤ S i ∧ S i ≤ 8
  inc : ∀ i j : Nat, i < j → j < 4 → X i < X j
def Dn (w : S0.S46) (x y s : Int) : Prop := w.f0 = (I x, I y) ∧ U w.f1 (32 * s) ∧ (-4 ≤ y ∧ y ≤ 4) ∧ (-8 ≤ s ∧ s ≤ 8)
theorem draw4 {l : List Int} (hl : okS l) : ∀ (r n m : Nat) (c a s : Int) (acc : List S0.S46) (X Y S : Nat → Int), n + r = 4 → acc.length = n → 0 ≤ a → a + 20 * (r : Int) ≤ 1000 → (-4 ≤ c ∧ c ≤ -4 + 3 * (n : Int)) → (∀ i : Nat, i < n → Dn (S0.rd_T46 acc (i : Int)) (X i) (Y i) (S i) ∧ -3 ≤ X i ∧ X i ≤ c) → (∀ i j : Nat, i < j → j < n → X i < X j) →
    Ret (N0.spec_R8Whirls.l0 (r + 1 + m) (r : Int) acc (I c) l a s) (fun q => ∃ X Y S, OkW q X Y S) := by
  intro r
  induction r with
  | zero =>
    intro n m c a s acc X Y S hn ha h0 h1 hc hp hi
    rw [show 0 + 1 + m = m + 1 by omega]
    unfold N0.spec_R8Whirls.l0
    rw [if_neg (by omega)]
    refine Ret.of ⟨X, Y, S, by omega, fun i hi' => (hp i (by omega)).1.1, fun i hi' => (hp i (by omega)).1.2.1, fun i hi' => ?_, fun i hi' => (hp i (by omega)).1.2.2.1, fun i hi' => (hp i (by omega)).1.2.2.2, fun i j h2 h3 => hi i j h2 (by omega)⟩
    have := (hp i (by omega)).2
    omega
  | succ r ih =>
    intro n m c a s acc X Y S hn ha h0 h1 hc hp hi
    rw [show r + 1 + 1 + m = (r + 1 + m) + 1 by omega]
    unfold N0.spec_R8Whirls.l0
    obtain ⟨v1, a1, s1, e1, v10, v11, b10, b11⟩ := pick_ok hl a s 3 h0 (by omega) (by decide)
    obtain ⟨v2, a2, s2, e2, v20, v21, b20, b21⟩ := pick_ok hl a1 s1 9 b10 (by omega) (by decide)
    obtain ⟨v3, a3, s3, e3, v30, v31, b30, b31⟩ := pick_ok hl a2 s2 8 b20 (by omega) (by decide)
    obtain ⟨v4, a4, s4, e4, v40, v41, b40, b41⟩ := pick_ok hl a3 s3 2 b30 (by omega) (by decide)
    rw [if_pos (by omega), e1]
    simp only [Option.bind_some]
    obtain ⟨g1, g2⟩ := addI (a := c) (b := 1 + v1) (by omega) (by omega) (by omega) (by omega)
    unfold I at g1 g2
    rw [w64 (n := 1 + v1) (by omega) (by omega)]
    unfold I
    rw [if_pos g1, g2, e2]
    simp only [Option.bind_some]
    rw [e3]
    simp only [Option.bind_some]
    obtain ⟨q1, q2⟩ := U_quo (n := 1 + v3) (j := 1) (by decide) f_two' (by omega)
    rw [w64 (n := 1 + v3) (by omega) (by omega), if_pos q1]
    unfold S0.spec_l00Src_one.f
    rw [e4]
    simp only [Option.bind_some]
    have hadd : ∀ w : S0.S46, ∀ i : Nat, i < n + 1 → S0.rd_T46 (acc ++ [w]) (i : Int) = if i < n then S0.rd_T46 acc (i : Int) else w := by
      intro w i hi'
      rw [rdW (by simp; omega)]
      by_cases c1 : i < n
      · rw [if_pos c1, rdW (by omega), List.getElem_append_left (by omega)]
      · rw [if_neg c1, List.getElem_append_right (by omega)]
        have : i - acc.length = 0 := by omega
        simp [this]
    have next : ∀ (w : S0.S46) (sp : Int), Dn w (c + (1 + v1)) (v2 - 4) sp → Ret (N0.spec_R8Whirls.l0 (r + 1 + m) (r : Int) (acc ++ [w]) (I (c + (1 + v1))) l a4 s4) (fun q => ∃ X Y S, OkW q X Y S) := by
      intro w sp hw
      refine ih (n + 1) m (c + (1 + v1)) a4 s4 (acc ++ [w]) (fun i => if i < n then X i else c + (1 + v1)) (fun i => if i < n then Y i else v2 - 4) (fun i => if i < n then S i else sp) (by omega) (by simp [ha]) b40 (by omega) (by omega) (fun i hi' => ?_) (fun i j h2 h3 => ?_)
      · rw [hadd w i hi']
        by_cases c1 : i < n
        · simp only [if_pos c1]
          have := hp i c1
          exact ⟨this.1, by omega, by omega⟩
        · simp only [if_neg c1]
          exact ⟨hw, by omega, by omega⟩
      · by_cases c1 : j < n
        · have c2 : i < n := by omega
          simp only [if_pos c1, if_pos c2]
          exact hi i j h2 c1
        · have c2 : i < n := by omega
          simp only [if_neg c1, if_pos c2]
          have := (hp i c2).2
          omega
    rw [show (((r + 1 : Nat) : Int) - 1) = (r : Int) by omega, w64 (n := (r : Int)) (by omega) (by omega), w64 (n := v2 - 4) (by omega) (by omega)]
    rw [show (1 + v3) * 2 ^ (6 - 1) = 32 * (1 + v3) by omega] at q2
    by_cases c4 : (v4 == 0) = true
    · rw [if_pos c4, if_pos (by omega)]
      refine next _ (-(1 + v3)) ⟨rfl, ?_, by omega, by omega⟩
      have := U_neg q2
      rwa [show -(32 * (1 + v3)) = 32 * -(1 + v3) by omega] at this
    · rw [if_neg c4, if_pos (by omega)]
      exact next _ (1 + v3) ⟨rfl, q2, by omega, by omega⟩
theorem whirls4 {l : List Int} (hl : okS l) {k : Nat} (hk : 20 ≤ k) : Ret (N0.spec_R8Whirls.f k l 4) (fun q => ∃ X Y S, OkW q X Y S) := by
  unfold N0.spec_R8Whirls.f S0.spec_l00From.f
  simp only [Option.bind_some]
  have e : (3229614080 : Nat) = I (-4) := by decide +kernel
  have := draw4 hl 4 0 (k - 5) (-4) 0 0 [] (fun _ => 0) (fun _ => 0) (fun _ => 0) rfl rfl (by decide) (by decide) (by decide) (fun i hi => absurd hi (by omega)) (fun i j h1 h2 => absurd h2 (by omega))
  rw [show 4 + 1 + (k - 5) = k by omega] at this
  rw [e]
  exact this
theorem long2_of {x y : Nat} {a b : Int} (hx : U x (64 * a)) (hy : U y (64 * b)) (ha : 1 ≤ a ∧ a ≤ 14) (hb : -14 ≤ b ∧ b ≤ 14) : Ret (S0.impl_LongOf.f (x, y)) (fun r => ∃ v, Fk .f32 r v ∧ 9 / 10 ≤ v ∧ v ≤ 21) := by
  have e (a : Int) : ((64 * a : Int) : Rat) * (2 : Rat) ^ (-6 : Int) = (a : Rat) := by
    rw [v64, Rat.intCast_mul, show ((64 : Int) : Rat) = 64 from rfl]
    grind
  unfold U at hx hy
  rw [e] at hx hy
  have m1 := mul_bound (M := 14) (a := a) (b := a) (by omega) (by omega) (by omega) (by omega)
  have m2 := mul_bound (M := 14) (a := b) (b := b) (by omega) (by omega) (by omega) (by omega)
  have n1 : 1 ≤ a * a := by
    have := Int.mul_le_mul ha.1 ha.1 (by decide) (by omega)
    omega
  have n2 : 0 ≤ b * b := by
    rcases Int.le_total 0 b with h | h
    · exact Int.mul_nonneg h h
    · exact Int.mul_nonneg_of_nonpos_of_nonpos h h
  have rp : ∀ z : Int, z.natAbs < 1000 → Rep double (z : Rat) := fun z hz => ⟨z, 0, (by rw [show (2 : Rat) ^ (0 : Int) = 1 from p0, Rat.mul_one]), (by rw [show double.binade = 4503599627370496 by decide]; omega), by decide⟩
  have bd : ∀ z : Int, -1000 < z → z < 1000 → Bd 18 (z : Rat) := fun z z1 z2 => by
    have a1 := int_le (show z ≤ 1000 by omega)
    have a2 := int_le (show -1000 ≤ z by omega)
    rw [show ((1000 : Int) : Rat) = 1000 from rfl] at a1
    rw [show ((-1000 : Int) : Rat) = -1000 from rfl] at a2
    unfold Bd
    rw [show (2 : Rat) ^ (18 : Int) = 262144 by decide +kernel]
    constructor <;> grind
  obtain ⟨w1, w2⟩ := wide hx
  obtain ⟨u1, u2⟩ := wide hy
  obtain ⟨r1, c1, a1, a2, -, a4⟩ := mul_val (f := double) (.inr rfl) w2 w2 (J := 18) (by rw [← Rat.intCast_mul]; exact bd _ (by omega) (by omega)) (by decide)
  rw [← Rat.intCast_mul] at a4
  have := a4 (rp _ (by omega))
  subst this
  obtain ⟨r2, c2, b1, b2, -, b4⟩ := mul_val (f := double) (.inr rfl) u2 u2 (J := 18) (by rw [← Rat.intCast_mul]; exact bd _ (by omega) (by omega)) (by decide)
  rw [← Rat.intCast_mul] at b4
  have := b4 (rp _ (by omega))
  subst this
  obtain ⟨r3, c3, d1, d2, -, d4⟩ := add_val (f := double) (.inr rfl) a2 b2 (J := 18) (by rw [← Rat.intCast_add]; exact bd _ (by omega) (by omega)) (by decide)
  rw [← Rat.intCast_add] at d4
  have := d4 (rp _ (by omega))
  subst this
  obtain ⟨f1, f2⟩ := fok_of (op := .mul) (k := .f64) a1
  obtain ⟨g1, g2⟩ := fok_of (op := .mul) (k := .f64) b1
  obtain ⟨i1, i2⟩ := fok_of (op := .add) (k := .f64) d1
  have q0 := int_le (show 1 ≤ a * a + b * b by omega)
  have q1 := int_le (show a * a + b * b ≤ 400 by omega)
  rw [show ((1 : Int) : Rat) = 1 from rfl] at q0
  rw [show ((400 : Int) : Rat) = 400 from rfl] at q1
  obtain ⟨r4, c4, j1, j2, j3, j4, j5, -⟩ := root_val (f := double) (.inr rfl) d2 (by grind) (J := 6) (by rw [p6]; grind) (by decide)
  have k1 := j5 20 (by decide +kernel) (by grind)
  have k2 := j4 1 (by decide +kernel) (by grind)
  have := h64
  obtain ⟨r5, c5, l1, l2, l3, -⟩ := narrow_val (x := r4) (v := c4) j2 (J := 6) (by unfold Bd; rw [p6]; constructor <;> grind) (by decide)
  have := hs6
  unfold Nr at l3
  unfold S0.impl_LongOf.f S0.impl_power.f S0.impl_wide.f
  dsimp only
  rw [if_pos w1, if_pos u1]
  simp only [Option.bind_some]
  rw [if_pos f1, if_pos g1, f2, g2, if_pos i1, i2]
  simp only [Option.bind_some]
  unfold XR.Sqrt.f
  rw [show FloatKind.f64.format.sqrt r3 = some r4 from j1]
  simp only [Option.bind_some]
  unfold cok cvt
  rw [l1]
  exact ⟨_, rfl, c5, l2, by grind, by grind⟩
def dif (l : List S0.S46) (a b : Nat) : Nat × Nat := (fop .sub .f32 ((S0.rd_T46 l (b : Int)).f0).1 ((S0.rd_T46 l (a : Int)).f0).1, fop .sub .f32 ((S0.rd_T46 l (b : Int)).f0).2 ((S0.rd_T46 l (a : Int)).f0).2)
structure Far (l : List S0.S46) (D : Nat → Nat → Nat) (V : Nat → Nat → Rat) : Prop where
  ok : ∀ a b : Nat, a < b → b < 4 → fok .sub .f32 ((S0.rd_T46 l (b : Int)).f0).1 ((S0.rd_T46 l (a : Int)).f0).1 = true ∧ fok .sub .f32 ((S0.rd_T46 l (b : Int)).f0).2 ((S0.rd_T46 l (a : Int)).f0).2 = true ∧ S0.impl_LongOf.f (dif l a b) = some (D a b)
  val : ∀ a b : Nat, a < b → b < 4 → Fk .f32 (D a b) (V a b) ∧ 9 / 10 ≤ V a b ∧ V a b ≤ 21
theorem far_of {l : List S0.S46} {X Y S : Nat → Int} (h : OkW l X Y S) : ∃ D V, Far l D V := by
  have key : ∀ a b : Nat, ∃ q : Nat × Rat, a < b → b < 4 → (fok .sub .f32 ((S0.rd_T46 l (b : Int)).f0).1 ((S0.rd_T46 l (a : Int)).f0).1 = true ∧ fok .sub .f32 ((S0.rd_T46 l (b : Int)).f0).2 ((S0.rd_T46 l (a : Int)).f0).2 = true ∧ S0.impl_LongOf.f (dif l a b) = some q.1) ∧ (Fk .f32 q.1 q.2 ∧ 9 / 10 ≤ q.2 ∧ q.2 ≤ 21) := by
    intro a b
    by_cases c : a < b ∧ b < 4
    · have h1 := h.at_ a (by omega)
      have h2 := h.at_ b c.2
      have x1 := h.xb a (by omega)
      have x2 := h.xb b c.2
      have y1 := h.yb a (by omega)
      have y2 := h.yb b c.2
      have i1 := h.inc a b c.1 c.2
      obtain ⟨g1, g2⟩ := U_sub (I_U (n := X b) (by omega)) (I_U (n := X a) (by omega)) (by omega)
      obtain ⟨k1, k2⟩ := U_sub (I_U (n := Y b) (by omega)) (I_U (n := Y a) (by omega)) (by omega)
      rw [show 64 * X b - 64 * X a = 64 * (X b - X a) by omega] at g2
      rw [show 64 * Y b - 64 * Y a = 64 * (Y b - Y a) by omega] at k2
      obtain ⟨r, hr, v, v1, v2, v3⟩ := long2_of g2 k2 (by omega) (by omega)
      refine ⟨(r, v), fun _ _ => ⟨⟨?_, ?_, ?_⟩, v1, v2, v3⟩⟩
      · rw [h1, h2]; exact g1
      · rw [h1, h2]; exact k1
      · unfold dif
        rw [h1, h2]
        exact hr
    · exact ⟨(0, 0), fun h1 h2 => absurd ⟨h1, h2⟩ c⟩
  exact ⟨fun a b => (Classical.choose (key a b)).1, fun a b => (Classical.choose (key a b)).2, fun a b h1 h2 => (Classical.choose_spec (key a b) h1 h2).1, fun a b h1 h2 => (Classical.choose_spec (key a b) h1 h2).2⟩
theorem lt_iff {x y : Nat} {a b : Rat} (hx : Fk .f32 x a) (hy : Fk .f32 y b) : (FloatKind.f32.format.order x y == some .lt) = true ↔ a < b := by
  rw [order32 hx hy]
  unfold FR.cmp
  by_cases h1 : a < b
  · rw [if_pos h1]
    exact ⟨fun _ => h1, fun _ => rfl⟩
  · rw [if_neg h1]
    by_cases h2 : a = b
    · rw [if_pos h2]
      exact ⟨fun h => absurd h (by decide), fun h => absurd h h1⟩
    · rw [if_neg h2]
      exact ⟨fun h => absurd h (by decide), fun h => absurd h h1⟩
def Least (V : Nat → Nat → Rat) (p q : Nat) : Prop := ∀ a b : Nat, a < b → b < 4 → V p q ≤ V a b
theorem near_in {l : List S0.S46} (hl : l.length = 4) {D : Nat → Nat → Nat} {V : Nat → Nat → Rat} (h : Far l D V) {Q : Int × Int × Nat → Prop} (a K : Nat) (ha : a < 4)
    (hout : ∀ k p q : Nat, K ≤ k → p < q → q < 4 → (∀ x y : Nat, x ≤ a → x < y → y < 4 → V p q ≤ V x y) → Ret (N0.impl_nearest.l0 k l (p : Int) (q : Int) (D p q) (l.length : Int) ((a + 1 : Nat) : Int)) Q) :
    ∀ (r b k p q : Nat), b + r = 4 → a < b → K + r + 1 ≤ k → p < q → q < 4 → (∀ x y : Nat, x < a → x < y → y < 4 → V p q ≤ V x y) → (∀ y : Nat, a < y → y < b → V p q ≤ V a y) → Ret (N0.impl_nearest.l1 k l (p : Int) (q : Int) (D p q) (a : Int) (b : Int) (l.length : Int) (a : Int)) Q := by
  intro r
  induction r with
  | zero =>
    intro b k p q hb hab hk hp hq h1 h2
    obtain ⟨j, rfl⟩ : ∃ j, k = j + 1 := ⟨k - 1, by omega⟩
    unfold N0.impl_nearest.l1
    rw [if_neg (by omega), w64 (by omega) (by omega)]
    refine hout j p q (by omega) hp hq (fun x y h3 h4 h5 => ?_)
    by_cases c : x < a
    · exact h1 x y c h4 h5
    · rw [show x = a by omega]
      exact h2 y (by omega) (by omega)
  | succ r ih =>
    intro b k p q hb hab hk hp hq h1 h2
    obtain ⟨j, rfl⟩ : ∃ j, k = j + 1 := ⟨k - 1, by omega⟩
    unfold N0.impl_nearest.l1
    obtain ⟨o1, o2, o3⟩ := h.ok a b hab (by omega)
    unfold dif at o3
    rw [if_pos (by omega), if_pos (by omega), if_pos (by omega), if_pos (by omega), if_pos o1, if_pos o2, o3]
    simp only [Option.bind_some]
    have g := lt_iff (h.val a b hab (by omega)).1 (h.val p q hp hq).1
    rw [w64 (by omega) (by omega)]
    by_cases c : V a b < V p q
    · rw [if_pos (g.2 c)]
      refine ih (b + 1) j a b (by omega) (by omega) (by omega) hab (by omega) (fun x y h3 h4 h5 => ?_) (fun y h3 h4 => ?_)
      · have := h1 x y h3 h4 h5
        grind
      · by_cases cy : y < b
        · have := h2 y h3 cy
          grind
        · rw [show y = b by omega]
          exact Rat.le_refl
    · rw [if_neg (fun hh => c (g.1 hh))]
      refine ih (b + 1) j p q (by omega) (by omega) (by omega) hp hq h1 (fun y h3 h4 => ?_)
      by_cases cy : y < b
      · exact h2 y h3 cy
      · rw [show y = b by omega]
        exact Rat.not_lt.1 c
theorem near_out {l : List S0.S46} (hl : l.length = 4) {D : Nat → Nat → Nat} {V : Nat → Nat → Rat} (h : Far l D V) :
    ∀ (r a k p q : Nat), a + r = 4 → 8 * r + 2 ≤ k → p < q → q < 4 → (∀ x y : Nat, x < a → x < y → y < 4 → V p q ≤ V x y) → Ret (N0.impl_nearest.l0 k l (p : Int) (q : Int) (D p q) (l.length : Int) (a : Int)) (fun t => ∃ p q : Nat, t = ((p : Int), (q : Int), D p q) ∧ p < q ∧ q < 4 ∧ Least V p q) := by
  intro r
  induction r with
  | zero =>
    intro a k p q ha hk hp hq h1
    obtain ⟨j, rfl⟩ : ∃ j, k = j + 1 := ⟨k - 1, by omega⟩
    unfold N0.impl_nearest.l0
    rw [if_neg (by omega)]
    exact Ret.of ⟨p, q, rfl, hp, hq, fun x y h2 h3 => h1 x y (by omega) h2 h3⟩
  | succ r ih =>
    intro a k p q ha hk hp hq h1
    obtain ⟨j, rfl⟩ : ∃ j, k = j + 1 := ⟨k - 1, by omega⟩
    unfold N0.impl_nearest.l0
    rw [if_pos (by omega), w64 (by omega) (by omega)]
    have := near_in hl h a (8 * r + 2) (by omega) (fun k p q k1 k2 k3 k4 => ih (a + 1) k p q (by omega) k1 k2 k3 (fun x y h2 h3 h4 => k4 x y (by omega) h3 h4)) (4 - (a + 1)) (a + 1) j p q (by omega) (by omega) (by omega) hp hq h1 (fun y h2 h3 => absurd h3 (by omega))
    rwa [show ((a + 1 : Nat) : Int) = (a : Int) + 1 by omega] at this
theorem nearest_of {l : List S0.S46} (hl : l.length = 4) {D : Nat → Nat → Nat} {V : Nat → Nat → Rat} (h : Far l D V) {k : Nat} (hk : 40 ≤ k) : ∃ p q : Nat, N0.impl_nearest.f k l = some ((p : Int), (q : Int), D p q) ∧ p < q ∧ q < 4 ∧ Least V p q := by
  obtain ⟨o1, o2, o3⟩ := h.ok 0 1 (by decide) (by decide)
  unfold dif at o3
  have := near_out hl h 4 0 k 0 1 rfl (by omega) (by decide) (by decide) (fun x y h1 h2 h3 => absurd h1 (by omega))
  obtain ⟨t, e, p, q, rfl, h1, h2, h3⟩ := this
  refine ⟨p, q, ?_, h1, h2, h3⟩
  unfold N0.impl_nearest.f
  rw [if_pos (by omega), if_pos (by omega)]
  rw [show ((1 : Nat) : Int) = 1 from rfl, show ((0 : Nat) : Int) = 0 from rfl] at o1 o2 o3 e
  rw [if_pos o1, if_pos o2, o3]
  exact e
end QA
end Go.Proofs.Ytcgaccdiomcglaa
end
section
namespace Go.Proofs.Ytcgaccdiomcglaa.N1
open Go.Proofs.Ytcgaccdiomcglaa.S0 Go.Proofs.Ytcgaccdiomcglaa.N0
open Go.RowKit Go.Proofs.YtcgaccdiomcglaaW.PrintWords Go.Proofs.YtcgaccdiomcglaaW.PrintLast Go.Proofs.YtcgaccdiomcglaaW.PrintMore
attribute [local go_sem] max2_int min2_int max_two min_two max_three min_three max_four min_four
set_option linter.unusedVariables false
set_option linter.unusedSimpArgs false
attribute [local go_sem high] binOp_fge binOp_fle
mutual
def impl_HalvedWhirls.j0 : Nat → List (S46) → Nat → Nat → Nat → Bool → Option ((List (S46)) × Int × Bool)
  | 0, _, _, _, _, _ => none
  | k + 1, x0, x1, x2, x3, x28 => if x28 = true then (some (([] : List (S46)), 0, false)) else (impl_HalvedWhirls.l0 k x0 x1 x2 x3 1)
def impl_HalvedWhirls.l0 : Nat → List (S46) → Nat → Nat → Nat → Int → Option ((List (S46)) × Int × Bool)
  | 0, _, _, _, _, _ => none
  | k + 1, x0, x1, x2, x3, x11 => if x11 < 64 then (if fok .quo .f32 x2 (floatOfInt .f32 x11) = true then ((impl_steps.f k x0 x1 (fop .quo .f32 x2 (floatOfInt .f32 x11)) x11).bind fun bt154 => (if fok .quo .f32 x2 (floatOfInt .f32 (wrap64 (2 * x11))) = true then ((impl_steps.f k x0 x1 (fop .quo .f32 x2 (floatOfInt .f32 (wrap64 (2 * x11)))) (wrap64 (2 * x11))).bind fun bt158 => (if bt154.2 = true then (impl_HalvedWhirls.j2 k x0 x1 x2 x3 x11 bt154.1 bt158.1 (!bt158.2)) else (impl_HalvedWhirls.j2 k x0 x1 x2 x3 x11 bt154.1 bt158.1 true))) else (none))) else (none)) else (some (([] : List (S46)), 0, false))
def impl_HalvedWhirls.j2 : Nat → List (S46) → Nat → Nat → Nat → Int → List (S46) → List (S46) → Bool → Option ((List (S46)) × Int × Bool)
  | 0, _, _, _, _, _, _, _, _ => none
  | k + 1, x0, x1, x2, x3, x11, x12, x14, x62 => if x62 = true then (impl_HalvedWhirls.l0 k x0 x1 x2 x3 (wrap64 (x11 * 2))) else (impl_HalvedWhirls.l1 k x0 x1 x2 x3 x11 x12 x14 false (x12.length : Int) 0)
def impl_HalvedWhirls.l1 : Nat → List (S46) → Nat → Nat → Nat → Int → List (S46) → List (S46) → Bool → Int → Int → Option ((List (S46)) × Int × Bool)
  | 0, _, _, _, _, _, _, _, _, _, _ => none
  | k + 1, x0, x1, x2, x3, x11, x12, x14, x16, x64, x65 => if x65 < x64 then (if x16 = true then (impl_HalvedWhirls.l1 k x0 x1 x2 x3 x11 x12 x14 true x64 (wrap64 (x65 + 1))) else (if 0 ≤ x65 then (if x65 < (x12.length : Int) then (if x65 < (x14.length : Int) then (if fok .sub .f32 ((rd_T46 x12 x65).f0).1 ((rd_T46 x14 x65).f0).1 = true then (if fok .sub .f32 ((rd_T46 x12 x65).f0).2 ((rd_T46 x14 x65).f0).2 = true then ((S0.impl_LongOf.f ((fop .sub .f32 ((rd_T46 x12 x65).f0).1 ((rd_T46 x14 x65).f0).1, fop .sub .f32 ((rd_T46 x12 x65).f0).2 ((rd_T46 x14 x65).f0).2) : Nat × Nat)).bind fun t164 => (impl_HalvedWhirls.l1 k x0 x1 x2 x3 x11 x12 x14 (FloatKind.f32.format.order t164 x3 == some .gt) x64 (wrap64 (x65 + 1)))) else (none)) else (none)) else (none)) else (none)) else (none))) else (if x16 = true then (impl_HalvedWhirls.l0 k x0 x1 x2 x3 (wrap64 (x11 * 2))) else (some (x14, x11, true)))
end
def impl_HalvedWhirls.f (k : Nat) (l0 : List (S46)) (a1 : Nat) (a2 : Nat) (a3 : Nat) : Option ((List (S46)) × Int × Bool) := (N0.impl_stepOk.f k l0 a1 a2).bind fun t149 => (if t149 = true then ((XW.levelOk.f (([a3] : List Nat))).bind fun t153 => (impl_HalvedWhirls.j0 k l0 a1 a2 a3 (!t153))) else (impl_HalvedWhirls.j0 k l0 a1 a2 a3 true))
def impl_HalvedWhirls.T13 : Bool × List (List Nat × List Nat) := (true, [([], []), ([0], [0]), ([1], [1]), ([1], [1]), ([2, 3, 1], [1, 2, 3]), ([4, 1], [1, 4]), ([5, 1], [1, 5]), ([1], [1]), ([1], [1]), ([7, 8, 1], [1, 7, 8]), ([9, 1], [1, 9]), ([10, 1], [1, 10]), ([6, 11, 1], [1, 6, 11]), ([12, 1, 1], [1, 12]), ([1], [1]), ([13, 14, 1], [1, 13, 14]), ([1, 15], [1, 15]), ([16, 13, 0, 1, 2, 3, 4, 5, 6, 7, 8, 9, 10, 11, 12, 13, 14, 15, 16], [0, 16])])
def impl_HalvedWhirls.B13 : List Nat := [0, 1, 3, 3, 15, 31, 63, 3, 3, 387, 899, 1923, 4095, 8191, 3, 32767, 65535, 131071]
theorem impl_HalvedWhirls.tab13 : rtab .any (opsOf Try.f27 13) = impl_HalvedWhirls.T13 := by kernel_rfl
theorem impl_HalvedWhirls.bits13 : waitsOk impl_HalvedWhirls.T13.2 impl_HalvedWhirls.B13 = true := by kernel_rfl
set_option maxHeartbeats 8000000 in
set_option maxRecDepth 100000 in
theorem impl_HalvedWhirls.calls (k : Nat) (A0 : Option Addr) (c0 : Nat) (l0 : List (S46)) (a1 : Nat) (a2 : Nat) (a3 : Nat) (r1 : List (S46)) (r2 : Int) (r3 : Bool) (w : World) (hr0 : Kd.C k46 w A0 l0.length l0) (hc0 : l0.length ≤ c0) (h : impl_HalvedWhirls.f k l0 a1 a2 a3 = some (r1, r2, r3)) :
    Calls Try.prog 27 #[.slice A0 l0.length c0, .float .f32 a1, .float .f32 a2, .float .f32 a3] w fun e w' => ∃ v0_ : Value, e = .returned (.tuple #[v0_, .int .i64 r2, .bool r3]) ∧ Kd.R k46 46 w' w.heap.size (fun _ => True) v0_ r1 ∧ Below w.heap.size w w' := by
  have HR0 := Aside0.mk hr0; have HC0 := Aside0.mk hc0; clear hr0 hc0; have HB := AS (Below.refl w.heap.size w); have H : ((N0.impl_stepOk.f k l0 a1 a2).bind fun t149 => (if t149 = true then ((XW.levelOk.f (([a3] : List Nat))).bind fun t153 => (impl_HalvedWhirls.j0 k l0 a1 a2 a3 (!t153))) else (impl_HalvedWhirls.j0 k l0 a1 a2 a3 true))) = some (r1, r2, r3) := h; clear h; have HC5 := Aside0.mk H; clear H; go_enter Try.func27, Try.ntmps27; (go_upto_region 1 with (fail)); go_cut [28] (fun v28 wc => ∃ (kq : Nat) (x28_4 : Bool), v28 = .bool x28_4 ∧ Aside0 (impl_HalvedWhirls.j0 kq l0 a1 a2 a3 x28_4 = some (r1, r2, r3)) ∧ Aside0 (kq ≤ k) ∧ Aside0 (Below w.heap.size w wc))
  case first =>
    have H := HC5.out; clear HC5; replace H := Option.bind_eq_some_iff.mp H; obtain ⟨t149, A60, H⟩ := H; replace H : (if t149 = true then ((XW.levelOk.f (([a3] : List Nat))).bind fun t153 => (impl_HalvedWhirls.j0 k l0 a1 a2 a3 (!t153))) else (impl_HalvedWhirls.j0 k l0 a1 a2 a3 true)) = some (r1, r2, r3) := H; have A6 := Aside0.mk A60; clear A60; by_cases c7 : t149 = true
    · subst c7
      have H1 : ((XW.levelOk.f (([a3] : List Nat))).bind fun t153 => (impl_HalvedWhirls.j0 k l0 a1 a2 a3 (!t153))) = some (r1, r2, r3) := (by rw [if_pos rfl] at H; exact H); clear H; have H := H1; clear H1; obtain ⟨y150, hy150⟩ : ∃ y_ : List Nat, y_ = (([a3] : List Nat)) := ⟨_, rfl⟩; replace H : ((XW.levelOk.f y150).bind fun t153 => (impl_HalvedWhirls.j0 k l0 a1 a2 a3 (!t153))) = some (r1, r2, r3) := (by first | (rw [hy150]; with_reducible exact H) | (have H2_ := (Option.bind_some _ _).symm.trans H; rw [hy150]; with_reducible exact H2_) | (have H2_ := (Option.bind_some _ _).symm.trans H; with_reducible exact H2_) | with_reducible exact H | (rw [hy150]; exact H) | exact H); have Ny150 := Aside0.mk hy150; clear hy150; replace H := Option.bind_eq_some_iff.mp H; obtain ⟨t153, A80, H⟩ := H; replace H : (impl_HalvedWhirls.j0 k l0 a1 a2 a3 (!t153)) = some (r1, r2, r3) := H; have A8 := Aside0.mk A80; clear A80; have H' := Aside0.mk H; clear H; go_wp2_with (first | ((with_reducible refine gate_callee (f := 99) rfl ?_); refine goesM 21 Try.func99 #[.slice A0 l0.length c0, .float .f32 a1, .float .f32 a2] ?_; (with_reducible refine (N0.impl_stepOk.calls k _ _ l0 a1 a2 true _ ?side1 ?side2 A6.out).mono ?_); (case side1 => exact CS (Kd.C_below HR0.out HB.out)); (case side2 => exact HC0.out); rintro e w9 ⟨rfl, hb⟩; refine ⟨_, rfl, ?_⟩; replace HB := BB HB hb; (try clear hb); (try clear hb2); (try clear hk); (try clear hi)) | ((with_reducible refine gate_dst (N := 25) rfl ?_); (try (refine gate_guard (by rfl) ?_; dsimp only)); refine Kd.R_lit (Kd.float .f32) _ 27 ?hg (N := 25) ?hd (xs := ([a3] : List Nat)) (inner := [.float .f32 a3]) (ok := fun _ => True) (okp := fun _ => True) ?hr ?hp (fun _ hk => hk) trivial (Below.refl _ _) (Nat.le_refl _) (by simp) ?_; (case hd => rfl); (case hg => rfl); (case hr => first | (go_simp; done) | (go_simp; rfl)); (case hp => exact (Reps.one (show Kd.M (Kd.float .f32) _ _ _ a3 [.float .f32 a3] from rfl) (Reps.none _ _))); intro v151 w10 ho11 hb hg_ hnew_; clear hg_ hnew_; (first | rw [← Ny150.out] at ho11 | (simp only [Int.reduceToNat] at ho11; rw [← Ny150.out] at ho11)); have HO152 := AS (Kd.R_lower ho11 (below_size (BW HB))); replace HB := BB HB hb; clear hb ho11; obtain ⟨Ao12, co12, eo12⟩ := Kd.R_slice HO152.out; subst eo12) | (go_at_call 83; (with_reducible refine (XW.levelOk.calls _ _ y150 t153 _ ?side1 ?side2 A8.out).mono ?_); (case side1 => repeat (first | exact (Kd.R_reads' HO152.out).2.2 | (with_reducible refine Kd.C_alloc ?_ _) | (with_reducible refine Kd.C_drewN ?_ _) | (with_reducible refine Kd.C_drew ?_))); (case side2 => exact (Kd.R_reads' HO152.out).2.1); rintro e w13 ⟨rfl, hb⟩; replace HO152 := RB HO152 hb; replace HB := BB HB hb; (try clear hb); (try clear hb2); (try clear hk); (try clear hi))); go_meet
      case rel => exact ⟨_, (!t153), (by first | rfl | (simp; done) | (simp [*]; done)), H', ⟨by first | omega | exact Nat.le_refl _⟩, ⟨BW HB⟩⟩
    · replace c7 := Bool.eq_false_iff.mpr c7
      subst c7; have H1 : (impl_HalvedWhirls.j0 k l0 a1 a2 a3 true) = some (r1, r2, r3) := (by rw [if_neg (show ¬ (false = true) by decide)] at H; exact H); clear H; have H := H1; clear H1; have H' := Aside0.mk H; clear H; go_wp2_with (first | ((with_reducible refine gate_callee (f := 99) rfl ?_); refine goesM 21 Try.func99 #[.slice A0 l0.length c0, .float .f32 a1, .float .f32 a2] ?_; (with_reducible refine (N0.impl_stepOk.calls k _ _ l0 a1 a2 false _ ?side1 ?side2 A6.out).mono ?_); (case side1 => exact CS (Kd.C_below HR0.out HB.out)); (case side2 => exact HC0.out); rintro e w14 ⟨rfl, hb⟩; refine ⟨_, rfl, ?_⟩; replace HB := BB HB hb; (try clear hb); (try clear hb2); (try clear hk); (try clear hi))); go_meet
      case rel => exact ⟨_, (true), (by first | rfl | (simp; done) | (simp [*]; done)), H', ⟨by first | omega | exact Nat.le_refl _⟩, ⟨BW HB⟩⟩
  case rest =>
    clear HC5; (try clear c2); (try clear p2); (try clear c7); (try clear c9); obtain ⟨kq, x28_4, rfl, HA, HJ4, HB⟩ := hcut; cases kq with
    | zero => exact absurd HA.out (by simp [impl_HalvedWhirls.j0])
    | succ kj4 =>
      have H := HA.out; clear HA; simp only [impl_HalvedWhirls.j0] at H; by_cases c15 : x28_4 = true
      · subst c15
        have H1 : (some (([] : List (S46)), 0, false)) = some (r1, r2, r3) := (by rw [if_pos rfl] at H; exact H); clear H; have H := H1; clear H1; simp only [Option.some.injEq, Prod.mk.injEq] at H; obtain ⟨rfl, rfl, rfl⟩ := H; go_wp2; go_ret3; exact ⟨_, by first | rfl | (simp [errW_none, errW_some] <;> rfl) | (simp [*, errW_none, errW_some] <;> rfl), by first | exact Kd.R_nil _ _ _ _ _ | exact Kd.N_nil _ _ _ _ _ | exact Kd.V_nil _ _ _ _ _ | exact Kd.Q_nil _ _ _ _ _ | exact Kd.S_nil _ _ _ _ _, BW HB⟩
      · replace c15 := Bool.eq_false_iff.mpr c15
        subst c15; have H1 : (impl_HalvedWhirls.l0 kj4 l0 a1 a2 a3 1) = some (r1, r2, r3) := (by rw [if_neg (show ¬ (false = true) by decide)] at H; exact H); clear H; have H := H1; clear H1; have H' := Aside0.mk H; clear H; go_wp2; go_loopg [11] kj4 (fun kq v11 w' => ∃ (x11_2 : Int), v11 = .int .i64 x11_2 ∧ Aside0 (impl_HalvedWhirls.l0 kq l0 a1 a2 a3 x11_2 = some (r1, r2, r3)) ∧ Aside0 (kq ≤ kj4) ∧ Aside0 (Below w.heap.size w w'))
        case atStart => exact ⟨(1), (by first | rfl | (simp; done) | (simp [*]; done)), H', ⟨Nat.le_refl _⟩, ⟨BW HB⟩⟩
        case round =>
          clear H'; (try clear c1); (try clear c2); (try clear p2); (try clear c7); (try clear c9); (try clear c15); (try clear p2); obtain ⟨x11_2, rfl, HA, HK2, HB⟩ := hrel; cases gk with
          | zero => exact absurd HA.out (by simp [impl_HalvedWhirls.l0])
          | succ k2 =>
            have H := HA.out; clear HA; simp only [impl_HalvedWhirls.l0] at H; by_cases c16 : x11_2 < 64
            · rw [if_pos c16] at H
              have c16b0 : decide (x11_2 < 64) = true := decide_eq_true c16; clear c16; by_cases c17 : fok .quo .f32 a2 (floatOfInt .f32 x11_2) = true
              · rw [if_pos c17] at H
                have c17b0 := eq_true c17; have c17b1 : decide (fok .quo .f32 a2 (floatOfInt .f32 x11_2) = true) = true := decide_eq_true c17; clear c17; replace H := Option.bind_eq_some_iff.mp H; obtain ⟨⟨t154, t155⟩, A180, H⟩ := H; (try dsimp only at H); have A18 := Aside0.mk A180; clear A180; by_cases c19 : fok .quo .f32 a2 (floatOfInt .f32 (wrap64 (2 * x11_2))) = true
                · rw [if_pos c19] at H
                  have c19b0 := eq_true c19; have c19b1 : decide (fok .quo .f32 a2 (floatOfInt .f32 (wrap64 (2 * x11_2))) = true) = true := decide_eq_true c19; clear c19; replace H := Option.bind_eq_some_iff.mp H; obtain ⟨⟨t158, t159⟩, A200, H⟩ := H; replace H : (if t155 = true then (impl_HalvedWhirls.j2 k2 l0 a1 a2 a3 x11_2 t154 t158 (!t159)) else (impl_HalvedWhirls.j2 k2 l0 a1 a2 a3 x11_2 t154 t158 true)) = some (r1, r2, r3) := H; have A20 := Aside0.mk A200; clear A200; have HC21 := Aside0.mk H; clear H; (go_upto_region 8 with (first | ((with_reducible refine gate_callee (f := 100) rfl ?_); refine goesM 41 Try.func100 #[.slice A0 l0.length c0, .float .f32 a1, .float .f32 (fop .quo .f32 a2 (floatOfInt .f32 x11_2)), .int .i64 x11_2] ?_; (with_reducible refine (impl_steps.calls k2 _ _ l0 a1 (fop .quo .f32 a2 (floatOfInt .f32 x11_2)) x11_2 t154 t155 _ ?side1 ?side2 A18.out).mono ?_); (case side1 => exact CS (Kd.C_below HR0.out HB.out)); (case side2 => exact HC0.out); rintro e w22 ⟨v156, rfl, ho0, hb⟩; refine ⟨_, rfl, ?_⟩; have HO157 := AS (Kd.R_lower ho0 (below_size (BW HB))); replace HB := BB HB hb; (try clear hb); (try clear hb2); (try clear hk); (try clear hi); (try clear ho0)) | ((with_reducible refine gate_callee (f := 100) rfl ?_); refine goesM 54 Try.func100 #[.slice A0 l0.length c0, .float .f32 a1, .float .f32 (fop .quo .f32 a2 (floatOfInt .f32 (wrap64 (2 * x11_2)))), .int .i64 (wrap64 (2 * x11_2))] ?_; (with_reducible refine (impl_steps.calls k2 _ _ l0 a1 (fop .quo .f32 a2 (floatOfInt .f32 (wrap64 (2 * x11_2)))) (wrap64 (2 * x11_2)) t158 t159 _ ?side1 ?side2 A20.out).mono ?_); (case side1 => exact CS (Kd.C_below HR0.out HB.out)); (case side2 => exact HC0.out); rintro e w23 ⟨v160, rfl, ho0, hb⟩; refine ⟨_, rfl, ?_⟩; have n0_ := AS (Kd.R_elder' (RS HO157.out) (Kd.R_base ho0) hb); have HO161 := AS (Kd.R_lower (Kd.R_new' ho0 (Kd.R_lt (RS HO157.out))) (below_size (BW HB))); replace HB := BB HB hb; replace HO157 := n0_; clear n0_; (try clear hb); (try clear hb2); (try clear hk); (try clear hi); (try clear ho0)))); (try simp only [Act.put, List.setIfInBounds_toArray, List.set_cons_zero, List.set_cons_succ]); go_cut [62] (fun v62 wc => ∃ (kq : Nat) (x62_20 : Bool), v62 = .bool x62_20 ∧ Aside0 (impl_HalvedWhirls.j2 kq l0 a1 a2 a3 x11_2 t154 t158 x62_20 = some (r1, r2, r3)) ∧ Aside0 (kq ≤ k2) ∧ Aside0 (Kd.R k46 46 wc w.heap.size (fun k_ => some k_ ≠ (v160 : Value).ownBlock) v156 t154) ∧ Aside0 (Kd.R k46 46 wc w.heap.size (fun k_ => some k_ ≠ (v156 : Value).ownBlock) v160 t158) ∧ Aside0 (Below w.heap.size w wc))
                  case first =>
                    have H := HC21.out; clear HC21; by_cases c24 : t155 = true
                    · subst c24
                      have H1 : (impl_HalvedWhirls.j2 k2 l0 a1 a2 a3 x11_2 t154 t158 (!t159)) = some (r1, r2, r3) := (by rw [if_pos rfl] at H; exact H); clear H; have H := H1; clear H1; have H' := Aside0.mk H; clear H; go_wp2; go_meet
                      case rel => exact ⟨_, (!t159), (by first | rfl | (simp; done) | (simp [*]; done)), H', ⟨by have := HJ4.out; have := HK2.out; first | omega | exact Nat.le_refl _⟩, ⟨by (with_reducible repeat (first | apply Kd.R_alloc | apply Kd.R_drewN | apply Kd.R_drew)); exact Kd.R_mono HO157.out (fun _ hk => hk.2)⟩, ⟨by (with_reducible repeat (first | apply Kd.R_alloc | apply Kd.R_drewN | apply Kd.R_drew)); exact Kd.R_mono HO161.out (fun _ hk => hk.2)⟩, ⟨BW HB⟩⟩
                    · replace c24 := Bool.eq_false_iff.mpr c24
                      subst c24; have H1 : (impl_HalvedWhirls.j2 k2 l0 a1 a2 a3 x11_2 t154 t158 true) = some (r1, r2, r3) := (by rw [if_neg (show ¬ (false = true) by decide)] at H; exact H); clear H; have H := H1; clear H1; have H' := Aside0.mk H; clear H; go_wp2; go_meet
                      case rel => exact ⟨_, (true), (by first | rfl | (simp; done) | (simp [*]; done)), H', ⟨by have := HJ4.out; have := HK2.out; first | omega | exact Nat.le_refl _⟩, ⟨by (with_reducible repeat (first | apply Kd.R_alloc | apply Kd.R_drewN | apply Kd.R_drew)); exact Kd.R_mono HO157.out (fun _ hk => hk.2)⟩, ⟨by (with_reducible repeat (first | apply Kd.R_alloc | apply Kd.R_drewN | apply Kd.R_drew)); exact Kd.R_mono HO161.out (fun _ hk => hk.2)⟩, ⟨BW HB⟩⟩
                  case rest =>
                    clear HC21; (try clear c1); (try clear c2); (try clear p2); (try clear p6); (try clear c7); (try clear c9); (try clear c10); (try clear c15); (try clear c16); (try clear c16b0); (try clear c17); (try clear c17b0); (try clear c17b1); (try clear c19); (try clear c19b0); (try clear c19b1); (try clear c24); (try clear p2); obtain ⟨kq, x62_20, rfl, HA, HJ20, HO_12, HO_14, HB⟩ := hcut; cases kq with
                    | zero => exact absurd HA.out (by simp [impl_HalvedWhirls.j2])
                    | succ kj20 =>
                      have H := HA.out; clear HA; simp only [impl_HalvedWhirls.j2] at H; by_cases c25 : x62_20 = true
                      · subst c25
                        have H1 : (impl_HalvedWhirls.l0 kj20 l0 a1 a2 a3 (wrap64 (x11_2 * 2))) = some (r1, r2, r3) := (by rw [if_pos rfl] at H; exact H); clear H; have H := H1; clear H1; have H' := Aside0.mk H; clear H; go_wp2; go_roundg kj20
                        case measure => have := HJ4.out; have := HK2.out; have := HJ20.out; omega
                        case rel => exact ⟨(wrap64 (x11_2 * 2)), (by first | rfl | (simp; done) | (simp [*]; done)), H', ⟨by have := HJ4.out; have := HK2.out; have := HJ20.out; omega⟩, ⟨BW HB⟩⟩
                      · replace c25 := Bool.eq_false_iff.mpr c25
                        subst c25; have H1 : (impl_HalvedWhirls.l1 kj20 l0 a1 a2 a3 x11_2 t154 t158 false (t154.length : Int) 0) = some (r1, r2, r3) := (by rw [if_neg (show ¬ (false = true) by decide)] at H; exact H); clear H; have H := H1; clear H1; have H' := Aside0.mk H; clear H; obtain ⟨Ao26, co26, eo26⟩ := Kd.R_slice HO_12.out; subst eo26; go_wp2; go_loopg [16, 65] kj20 (fun kq v16 v65 w' => ∃ (x16_4 : Bool) (x65_4 : Int), v16 = .bool x16_4 ∧ v65 = .int .i64 x65_4 ∧ Aside0 (impl_HalvedWhirls.l1 kq l0 a1 a2 a3 x11_2 t154 t158 x16_4 (t154.length : Int) x65_4 = some (r1, r2, r3)) ∧ Aside0 (kq ≤ kj20) ∧ Aside0 (Kd.R k46 46 w' w.heap.size (fun k_ => some k_ ≠ (v160 : Value).ownBlock) (.slice Ao26 t154.length co26) t154) ∧ Aside0 (Kd.R k46 46 w' w.heap.size (fun k_ => some k_ ≠ ((.slice Ao26 t154.length co26) : Value).ownBlock) v160 t158) ∧ Aside0 (Below w.heap.size w w'))
                        case atStart => exact ⟨(false), (0), (by first | rfl | (simp; done) | (simp [*]; done)), (by first | rfl | (simp; done) | (simp [*]; done)), H', ⟨Nat.le_refl _⟩, ⟨RS HO_12.out⟩, ⟨RS HO_14.out⟩, ⟨BW HB⟩⟩
                        case round =>
                          clear H'; (try clear c1); (try clear c2); (try clear p2); (try clear p6); (try clear c7); (try clear c9); (try clear c10); (try clear c15); (try clear c16); (try clear c16b0); (try clear c17); (try clear c17b0); (try clear c17b1); (try clear c19); (try clear c19b0); (try clear c19b1); (try clear c24); (try clear c25); (try clear p2); (try clear p6); obtain ⟨x16_4, x65_4, rfl, rfl, HA, HK4, HO_12, HO_14, HB⟩ := hrel; cases gk with
                          | zero => exact absurd HA.out (by simp [impl_HalvedWhirls.l1])
                          | succ k4 =>
                            have H := HA.out; clear HA; simp only [impl_HalvedWhirls.l1] at H; by_cases c27 : x65_4 < (t154.length : Int)
                            · rw [if_pos c27] at H
                              have c27b0 : decide (x65_4 < (t154.length : Int)) = true := decide_eq_true c27; clear c27; by_cases c28 : x16_4 = true
                              · subst c28
                                have H1 : (impl_HalvedWhirls.l1 k4 l0 a1 a2 a3 x11_2 t154 t158 true (t154.length : Int) (wrap64 (x65_4 + 1))) = some (r1, r2, r3) := (by rw [if_pos rfl] at H; exact H); clear H; have H := H1; clear H1; have H' := Aside0.mk H; clear H; (try go_wp2); have n0_ := AS (Kd.R_drew HO_12.out); have n1_ := AS (Kd.R_drew HO_14.out); have n2_ := AS (below_drew1 HB.out); replace HO_12 := n0_; replace HO_14 := n1_; replace HB := n2_; clear n0_ n1_ n2_; refine start_ (n := 18) (S := fun w' => True) (ds := []) #[false, false, false, false, false, false, false, false, false, false, false, false, false, false, false, false, false, false] (by kernel_rfl) rfl rfl trivial (fun hHeld => ?_); refine with_tabW impl_HalvedWhirls.tab13 impl_HalvedWhirls.bits13 (fun HT_ HW_ => ?_); generalize wr.drew = w29 at HO_12 HO_14 HB hHeld ⊢; refine pureT 0 68 HT_.out ?_; refine pureT 1 69 HT_.out ?_; refine pureS (i := 2) (N := some 70) (v := undef) (a' := ?_) rfl rfl (any_of HT_.out (by kernel_rfl)) (fun _ _ _ h => h) (Or.inr ⟨by rfl, rfl⟩) ?_ ?_; rotate_left; (· simp only [Act.put, List.setIfInBounds_toArray, List.set_cons_zero, List.set_cons_succ, i64_w, i32_w]; rfl); refine pureS (i := 3) (N := some 71) (v := undef) (a' := ?_) rfl rfl (any_of HT_.out (by kernel_rfl)) (fun _ _ _ h => h) (Or.inr ⟨by rfl, rfl⟩) ?_ ?_; rotate_left; (· simp only [Act.put, List.setIfInBounds_toArray, List.set_cons_zero, List.set_cons_succ, i64_w, i32_w]; rfl); refine pureS (i := 4) (N := some 72) (v := undef) (a' := ?_) rfl rfl (any_of HT_.out (by kernel_rfl)) (fun _ _ _ h => h) (Or.inr ⟨by rfl, rfl⟩) ?_ ?_; rotate_left; (· simp only [Act.put, List.setIfInBounds_toArray, List.set_cons_zero, List.set_cons_succ, i64_w, i32_w]; rfl); refine pureS (i := 5) (N := some 73) (v := undef) (a' := ?_) rfl rfl (any_of HT_.out (by kernel_rfl)) (fun _ _ _ h => h) (Or.inr ⟨by rfl, rfl⟩) ?_ ?_; rotate_left; (· simp only [Act.put, List.setIfInBounds_toArray, List.set_cons_zero, List.set_cons_succ, i64_w, i32_w]; rfl); refine pureS (i := 6) (N := some 74) (v := undef) (a' := ?_) rfl rfl (any_of HT_.out (by kernel_rfl)) (fun _ _ _ h => h) (Or.inr ⟨by rfl, rfl⟩) ?_ ?_; rotate_left; (· simp only [Act.put, List.setIfInBounds_toArray, List.set_cons_zero, List.set_cons_succ, i64_w, i32_w]; rfl); refine pureS (i := 7) (N := some 75) (v := undef) (a' := ?_) rfl rfl (any_of HT_.out (by kernel_rfl)) (fun _ _ _ h => h) (Or.inr ⟨by rfl, rfl⟩) ?_ ?_; rotate_left; (· simp only [Act.put, List.setIfInBounds_toArray, List.set_cons_zero, List.set_cons_succ, i64_w, i32_w]; rfl); refine pureS (i := 8) (N := some 76) (v := undef) (a' := ?_) rfl rfl (any_of HT_.out (by kernel_rfl)) (fun _ _ _ h => h) (Or.inr ⟨by rfl, rfl⟩) ?_ ?_; rotate_left; (· simp only [Act.put, List.setIfInBounds_toArray, List.set_cons_zero, List.set_cons_succ, i64_w, i32_w]; rfl); refine pureS (i := 9) (N := some 77) (v := undef) (a' := ?_) rfl rfl (any_of HT_.out (by kernel_rfl)) (fun _ _ _ h => h) (Or.inr ⟨by rfl, rfl⟩) ?_ ?_; rotate_left; (· simp only [Act.put, List.setIfInBounds_toArray, List.set_cons_zero, List.set_cons_succ, i64_w, i32_w]; rfl); refine pureS (i := 10) (N := some 78) (v := undef) (a' := ?_) rfl rfl (any_of HT_.out (by kernel_rfl)) (fun _ _ _ h => h) (Or.inr ⟨by rfl, rfl⟩) ?_ ?_; rotate_left; (· simp only [Act.put, List.setIfInBounds_toArray, List.set_cons_zero, List.set_cons_succ, i64_w, i32_w]; rfl); refine pureS (i := 11) (N := some 79) (v := undef) (a' := ?_) rfl rfl (any_of HT_.out (by kernel_rfl)) (fun _ _ _ h => h) (Or.inr ⟨by rfl, rfl⟩) ?_ ?_; rotate_left; (· simp only [Act.put, List.setIfInBounds_toArray, List.set_cons_zero, List.set_cons_succ, i64_w, i32_w]; rfl); refine pureS (i := 12) (N := some 80) (v := undef) (a' := ?_) rfl rfl (any_of HT_.out (by kernel_rfl)) (fun _ _ _ h => h) (Or.inr ⟨by rfl, rfl⟩) ?_ ?_; rotate_left; (· simp only [Act.put, List.setIfInBounds_toArray, List.set_cons_zero, List.set_cons_succ, i64_w, i32_w]; rfl); refine pureS (i := 13) (N := some 81) (v := undef) (a' := ?_) rfl rfl (any_of HT_.out (by kernel_rfl)) (fun _ _ _ h => h) (Or.inr ⟨by rfl, rfl⟩) ?_ ?_; rotate_left; (· simp only [Act.put, List.setIfInBounds_toArray, List.set_cons_zero, List.set_cons_succ, i64_w, i32_w]; rfl); refine pureS (i := 14) (N := some 82) (v := undef) (a' := ?_) rfl rfl (any_of HT_.out (by kernel_rfl)) (fun _ _ _ h => h) (Or.inr ⟨by rfl, rfl⟩) ?_ ?_; rotate_left; (· simp only [Act.put, List.setIfInBounds_toArray, List.set_cons_zero, List.set_cons_succ, i64_w, i32_w]; rfl); refine pureS (i := 15) (N := some 83) (v := undef) (a' := ?_) rfl rfl (any_of HT_.out (by kernel_rfl)) (fun _ _ _ h => h) (Or.inr ⟨by rfl, rfl⟩) ?_ ?_; rotate_left; (· simp only [Act.put, List.setIfInBounds_toArray, List.set_cons_zero, List.set_cons_succ, i64_w, i32_w]; rfl); refine pureT 16 84 HT_.out ?_; refine pureT 17 16 HT_.out ?_; refine done_ (done_of HT_.out (by kernel_rfl)) ?_; (try go_wp2); go_roundg k4
                                case measure => have := HJ4.out; have := HK2.out; have := HJ20.out; have := HK4.out; omega
                                case rel => exact ⟨(true), (wrap64 (x65_4 + 1)), (by first | rfl | (simp; done) | (simp [*]; done)), (by first | rfl | (simp; done) | (simp [*]; done)), H', ⟨by have := HJ4.out; have := HK2.out; have := HJ20.out; have := HK4.out; omega⟩, ⟨RS HO_12.out⟩, ⟨RS HO_14.out⟩, ⟨BW HB⟩⟩
                              · replace c28 := Bool.eq_false_iff.mpr c28
                                subst c28; rw [if_neg (show ¬ (false = true) by decide)] at H; by_cases c30 : 0 ≤ x65_4
                                · rw [if_pos c30] at H
                                  have c30b0 : decide (0 ≤ x65_4) = true := decide_eq_true c30; clear c30; by_cases c31 : x65_4 < (t154.length : Int)
                                  · rw [if_pos c31] at H
                                    have c31b0 : decide (x65_4 < (t154.length : Int)) = true := decide_eq_true c31; clear c31; by_cases c32 : x65_4 < (t158.length : Int)
                                    · rw [if_pos c32] at H
                                      have c32b0 : decide (x65_4 < (t158.length : Int)) = true := decide_eq_true c32; clear c32; by_cases c33 : fok .sub .f32 ((rd_T46 t154 x65_4).f0).1 ((rd_T46 t158 x65_4).f0).1 = true
                                      · rw [if_pos c33] at H
                                        have c33b0 := eq_true c33; have c33b1 : decide (fok .sub .f32 ((rd_T46 t154 x65_4).f0).1 ((rd_T46 t158 x65_4).f0).1 = true) = true := decide_eq_true c33; clear c33; by_cases c34 : fok .sub .f32 ((rd_T46 t154 x65_4).f0).2 ((rd_T46 t158 x65_4).f0).2 = true
                                        · rw [if_pos c34] at H
                                          have c34b0 := eq_true c34; have c34b1 : decide (fok .sub .f32 ((rd_T46 t154 x65_4).f0).2 ((rd_T46 t158 x65_4).f0).2 = true) = true := decide_eq_true c34; clear c34; replace H := Option.bind_eq_some_iff.mp H; obtain ⟨t164, A350, H⟩ := H; replace H : (impl_HalvedWhirls.l1 k4 l0 a1 a2 a3 x11_2 t154 t158 (FloatKind.f32.format.order t164 a3 == some .gt) (t154.length : Int) (wrap64 (x65_4 + 1))) = some (r1, r2, r3) := H; have A35 := Aside0.mk A350; clear A350; have H' := Aside0.mk H; clear H; (try go_wp2); have n0_ := AS (Kd.R_drew HO_12.out); have n1_ := AS (Kd.R_drew HO_14.out); have n2_ := AS (below_drew1 HB.out); replace HO_12 := n0_; replace HO_14 := n1_; replace HB := n2_; clear n0_ n1_ n2_; have p162 : 0 ≤ (x65_4 : Int) := of_decide_eq_true (by first | (with_reducible assumption) | assumption); have q162 : x65_4 < (t154.length : Int) := of_decide_eq_true (by first | (with_reducible assumption) | assumption); obtain ⟨ad162, e162, hx162_0, hx162_1⟩ := at_T46 (Kd.R_reads' HO_12.out).2.2 x65_4 p162 q162; cases e162; replace p162 := eq_true p162; replace q162 := eq_true q162; obtain ⟨Ao37, co37, eo37⟩ := Kd.R_slice HO_14.out; (first | subst eo37 | (injection eo37 with f1_ f2_ f3_; have f4_ := f1_.symm; have f5_ := f3_.symm; clear f1_ f2_ f3_; subst f4_; subst f5_)); have p163 : 0 ≤ (x65_4 : Int) := of_decide_eq_true (by first | (with_reducible assumption) | assumption); have q163 : x65_4 < (t158.length : Int) := of_decide_eq_true (by first | (with_reducible assumption) | assumption); obtain ⟨ad163, e163, hx163_0, hx163_1⟩ := at_T46 (Kd.R_reads' HO_14.out).2.2 x65_4 p163 q163; cases e163; replace p163 := eq_true p163; replace q163 := eq_true q163; refine start_ (n := 18) (S := fun w' => w'.cell? (ad162.add ((x65_4).toNat * 2)) = some (.complex .f32 ((rd_T46 t154 x65_4).f0).1 ((rd_T46 t154 x65_4).f0).2) ∧ w'.cell? ⟨(ad162.add ((x65_4).toNat * 2)).block, (ad162.add ((x65_4).toNat * 2)).off + 1, none⟩ = some (.float .f32 ((rd_T46 t154 x65_4).f1)) ∧ w'.cell? (ad163.add ((x65_4).toNat * 2)) = some (.complex .f32 ((rd_T46 t158 x65_4).f0).1 ((rd_T46 t158 x65_4).f0).2) ∧ w'.cell? ⟨(ad163.add ((x65_4).toNat * 2)).block, (ad163.add ((x65_4).toNat * 2)).off + 1, none⟩ = some (.float .f32 ((rd_T46 t158 x65_4).f1))) (ds := []) #[false, false, false, false, false, false, false, false, false, false, false, false, false, false, false, false, false, false] (by kernel_rfl) rfl rfl ⟨hx162_0, hx162_1, hx163_0, hx163_1⟩ (fun hHeld => ?_); refine with_tabW impl_HalvedWhirls.tab13 impl_HalvedWhirls.bits13 (fun HT_ HW_ => ?_); generalize wr.drew = w36 at HO_12 HO_14 HB hx162_0 hx162_1 hx163_0 hx163_1 hHeld ⊢; refine pureT 0 68 HT_.out ?_; refine pureT 1 69 HT_.out ?_; refine pureT 2 70 HT_.out ?_; refine pureT 3 71 HT_.out ?_; refine pureT 4 72 HT_.out ?_; refine pureT 5 73 HT_.out ?_; refine pureT 7 75 HT_.out ?_; refine pureT 8 76 HT_.out ?_; refine pureT 9 77 HT_.out ?_; refine pureT 10 78 HT_.out ?_; refine pureT 14 82 HT_.out ?_; refine takeS (i := 6) (N := some 74) (v := ?_) (a' := ?_) rfl rfl (take_ofW HT_.out HW_.out (by kernel_rfl)) (fun _ _ _ h => h) (Or.inl ⟨by rfl, ?_⟩) hHeld ?_ ?_; rotate_left; (· rintro w' ⟨s0, s1, s2, s3⟩; go_simp; with_reducible rfl); rotate_left; (· simp only [Act.put, List.setIfInBounds_toArray, List.set_cons_zero, List.set_cons_succ, i64_w, i32_w]; rfl); refine takeS (i := 11) (N := some 79) (v := ?_) (a' := ?_) rfl rfl (take_ofW HT_.out HW_.out (by kernel_rfl)) (fun _ _ _ h => h) (Or.inl ⟨by rfl, ?_⟩) hHeld ?_ ?_; rotate_left; (· rintro w' ⟨s0, s1, s2, s3⟩; go_simp; with_reducible rfl); rotate_left; (· simp only [Act.put, List.setIfInBounds_toArray, List.set_cons_zero, List.set_cons_succ, i64_w, i32_w]; rfl); refine pureT 12 80 HT_.out ?_; refine one_ (i := 13) (N := some 81) #[true, true, true, true, true, true, true, true, true, true, true, true, true, true, true, false, false, false] rfl rfl (one_of HT_.out (by kernel_rfl)) (by decide) (fun K hK => ?_); refine goes_ Try.func13 (by kernel_rfl) rfl #[.complex .f32 ((fop .sub .f32 ((rd_T46 t154 x65_4).f0).1 ((rd_T46 t158 x65_4).f0).1, fop .sub .f32 ((rd_T46 t154 x65_4).f0).2 ((rd_T46 t158 x65_4).f0).2) : Nat × Nat).1 ((fop .sub .f32 ((rd_T46 t154 x65_4).f0).1 ((rd_T46 t158 x65_4).f0).1, fop .sub .f32 ((rd_T46 t154 x65_4).f0).2 ((rd_T46 t158 x65_4).f0).2) : Nat × Nat).2] (by rfl) rfl rfl (by (try simp only [List.map_toArray, List.map_cons, List.map_nil]); first | done | rfl | (simp only [List.length_drop, List.length_take]; rfl)) ?_; (with_reducible refine (S0.impl_LongOf.calls ((fop .sub .f32 ((rd_T46 t154 x65_4).f0).1 ((rd_T46 t158 x65_4).f0).1, fop .sub .f32 ((rd_T46 t154 x65_4).f0).2 ((rd_T46 t158 x65_4).f0).2) : Nat × Nat) t164 _ A35.out).mono ?_); rintro e w38 ⟨rfl, hb⟩; have HS0_ := (hb.cell (World.block_lt_of_cell? _ _ (hHeld.1))).trans (hHeld.1); have HS1_ := (hb.cell (World.block_lt_of_cell? _ _ (hHeld.2.1))).trans (hHeld.2.1); have HS2_ := (hb.cell (World.block_lt_of_cell? _ _ (hHeld.2.2.1))).trans (hHeld.2.2.1); have HS3_ := (hb.cell (World.block_lt_of_cell? _ _ (hHeld.2.2.2))).trans (hHeld.2.2.2); refine ⟨_, rfl, ?_⟩; replace HO_12 := RB HO_12 hb; replace HO_14 := RB HO_14 hb; replace HB := BB HB hb; (try clear hb); (try clear hb2); (try clear hk); (try clear hi); refine hK.out _ _ ⟨HS0_, HS1_, HS2_, HS3_⟩ (fun hHeld => ?_); clear hK K; refine norm_ (a' := ?_) ?_ ?_; rotate_left
                                          · show Act.put _ (some 81) _ = _
                                            simp only [Act.put, List.setIfInBounds_toArray, List.set_cons_zero, List.set_cons_succ, i64_w, i32_w]; rfl
                                          refine pureT 15 83 HT_.out ?_; refine pureT 16 84 HT_.out ?_; refine pureT 17 16 HT_.out ?_; refine done_ (done_of HT_.out (by kernel_rfl)) ?_; (try go_wp2); go_roundg k4
                                          case measure => have := HJ4.out; have := HK2.out; have := HJ20.out; have := HK4.out; omega
                                          case rel => exact ⟨((FloatKind.f32.format.order t164 a3 == some .gt)), (wrap64 (x65_4 + 1)), (by first | rfl | (simp; done) | (simp [*]; done)), (by first | rfl | (simp; done) | (simp [*]; done)), H', ⟨by have := HJ4.out; have := HK2.out; have := HJ20.out; have := HK4.out; omega⟩, ⟨RS HO_12.out⟩, ⟨RS HO_14.out⟩, ⟨BW HB⟩⟩
                                        · rw [if_neg c34] at H
                                          exact absurd H (by simp)
                                      · rw [if_neg c33] at H
                                        exact absurd H (by simp)
                                    · rw [if_neg c32] at H
                                      exact absurd H (by simp)
                                  · rw [if_neg c31] at H
                                    exact absurd H (by simp)
                                · rw [if_neg c30] at H
                                  exact absurd H (by simp)
                            · rw [if_neg c27] at H
                              have c27b0 : decide (x65_4 < (t154.length : Int)) = false := decide_eq_false c27; clear c27; by_cases c39 : x16_4 = true
                              · subst c39
                                have H1 : (impl_HalvedWhirls.l0 k4 l0 a1 a2 a3 (wrap64 (x11_2 * 2))) = some (r1, r2, r3) := (by rw [if_pos rfl] at H; exact H); clear H; have H := H1; clear H1; have H' := Aside0.mk H; clear H; go_wp2; go_roundg k4
                                case measure => have := HJ4.out; have := HK2.out; have := HJ20.out; have := HK4.out; omega
                                case rel => exact ⟨(wrap64 (x11_2 * 2)), (by first | rfl | (simp; done) | (simp [*]; done)), H', ⟨by have := HJ4.out; have := HK2.out; have := HJ20.out; have := HK4.out; omega⟩, ⟨BW HB⟩⟩
                              · replace c39 := Bool.eq_false_iff.mpr c39
                                subst c39; have H1 : (some (t158, x11_2, true)) = some (r1, r2, r3) := (by rw [if_neg (show ¬ (false = true) by decide)] at H; exact H); clear H; have H := H1; clear H1; simp only [Option.some.injEq, Prod.mk.injEq] at H; obtain ⟨rfl, rfl, rfl⟩ := H; go_wp2; go_ret3; exact ⟨_, by first | rfl | (simp [errW_none, errW_some] <;> rfl) | (simp [*, errW_none, errW_some] <;> rfl), by (with_reducible repeat (first | apply Kd.R_alloc | apply Kd.R_drewN | apply Kd.R_drew)); exact Kd.R_mono HO_14.out (fun _ hk => trivial), BW HB⟩
                · rw [if_neg c19] at H
                  exact absurd H (by simp)
              · rw [if_neg c17] at H
                exact absurd H (by simp)
            · rw [if_neg c16] at H
              have c16b0 : decide (x11_2 < 64) = false := decide_eq_false c16; clear c16; simp only [Option.some.injEq, Prod.mk.injEq] at H; obtain ⟨rfl, rfl, rfl⟩ := H; go_wp2; go_ret3; exact ⟨_, by first | rfl | (simp [errW_none, errW_some] <;> rfl) | (simp [*, errW_none, errW_some] <;> rfl), by first | exact Kd.R_nil _ _ _ _ _ | exact Kd.N_nil _ _ _ _ _ | exact Kd.V_nil _ _ _ _ _ | exact Kd.Q_nil _ _ _ _ _ | exact Kd.S_nil _ _ _ _ _, BW HB⟩
end Go.Proofs.Ytcgaccdiomcglaa.N1
end
section
namespace Go.Proofs.Ytcgaccdiomcglaa.LW
open Go.Proofs.Ytcgaccdiomcglaa.S0 Go.Proofs.Ytcgaccdiomcglaa.SG Go.Proofs.Ytcgaccdiomcglaa.SB Go.Proofs.Ytcgaccdiomcglaa.SM Go.Proofs.Ytcgaccdiomcglaa.SC Go.Proofs.Ytcgaccdiomcglaa.SJ Go.Proofs.Ytcgaccdiomcglaa.SF
open Go.RowKit Go.Proofs.YtcgaccdiomcglaaW.PrintWords Go.Proofs.YtcgaccdiomcglaaW.PrintLast Go.Proofs.YtcgaccdiomcglaaW.PrintMore
attribute [local go_sem] max2_int min2_int max_two min_two max_three min_three max_four min_four
set_option linter.unusedVariables false
set_option linter.unusedSimpArgs false
attribute [local go_sem high] binOp_fge binOp_fle
def errW : Option Int → Value
  | none => .nilIface
  | some c => .iface 0 (.int .i64 c)
theorem errW_none : errW none = .nilIface := rfl
theorem errW_some (c : Int) : errW (some c) = .iface 0 (.int .i64 c) := rfl
end Go.Proofs.Ytcgaccdiomcglaa.LW
end
section
namespace Go.Proofs.Ytcgaccdiomcglaa.LW
open Go.Proofs.Ytcgaccdiomcglaa.S0 Go.Proofs.Ytcgaccdiomcglaa.SG Go.Proofs.Ytcgaccdiomcglaa.SB Go.Proofs.Ytcgaccdiomcglaa.SM Go.Proofs.Ytcgaccdiomcglaa.SC Go.Proofs.Ytcgaccdiomcglaa.SJ Go.Proofs.Ytcgaccdiomcglaa.SF
open Go.RowKit Go.Proofs.YtcgaccdiomcglaaW.PrintWords Go.Proofs.YtcgaccdiomcglaaW.PrintLast Go.Proofs.YtcgaccdiomcglaaW.PrintMore
attribute [local go_sem] max2_int min2_int max_two min_two max_three min_three max_four min_four
set_option linter.unusedVariables false
set_option linter.unusedSimpArgs false
attribute [local go_sem high] binOp_fge binOp_fle
end Go.Proofs.Ytcgaccdiomcglaa.LW
end
section
set_option linter.unusedVariables false
set_option linter.unusedSimpArgs false
namespace Go.Proofs.Ytcgaccdiomcglaa
open Go.RowKit Go.Proofs.YtcgaccdiomcglaaW.PrintWords Go.Proofs.YtcgaccdiomcglaaW.PrintLast Ieee
namespace QA
open FR PU XL
theorem smn_self (x : Nat) : XM.smn x x = true := by
  unfold XM.smn
  cases XF.isn .f32 x <;> simp
theorem up {α : Type} {g : Nat → Option α} (hm : ∀ k, LeO (g k) (g (k + 1))) {a : α} {n : Nat} (h : g n = some a) : ∀ m, g (n + m) = some a
  | 0 => h
  | m + 1 => hm _ _ (up hm h m)
theorem one64 : Fk .f64 4607182418800017408 (1 : Rat) := ⟨false, 4503599627370496, -52, by decide, by decide +kernel⟩
end QA
end Go.Proofs.Ytcgaccdiomcglaa
end
section
set_option linter.unusedVariables false
set_option linter.unusedSimpArgs false
namespace Go.Proofs.Ytcgaccdiomcglaa
open Go.RowKit Go.Proofs.YtcgaccdiomcglaaW.PrintWords Go.Proofs.YtcgaccdiomcglaaW.PrintLast Ieee
namespace QA
open FR PU XL
def Zs (g : Nat) : Nat → Nat
  | 0 => 9000
  | n + 1 => Zs g n * g / 10000 + 30
theorem grow {τ : Rat} {g : Nat} (h0 : 0 ≤ τ) (h1 : τ ≤ 1 / 4) (hA : (1 + 162 / 10 * τ + 13122 / 100 * (τ * τ)) * 10000 ≤ (g : Rat)) : ∀ n, IT τ n ≤ (Zs g n : Rat) / 1000 := by
  intro n
  induction n with
  | zero => simp only [IT, Zs]; decide +kernel
  | succ n ih =>
    have p := IT_pos h0 n
    simp only [IT]
    obtain ⟨P, hP⟩ : ∃ P, P = IT τ n := ⟨_, rfl⟩
    rw [← hP] at ih p ⊢
    have tt : τ * τ ≤ 1 / 16 := by
      have := Rat.mul_le_mul_of_nonneg_left h1 h0
      grind
    have t0 : 0 ≤ τ * τ := Rat.mul_nonneg h0 h0
    have e : ST τ P = P * (1 + 162 / 10 * τ + 13122 / 100 * (τ * τ)) + ((162 / 10) * (1 / 500) * τ + (162 / 10) * (141 / 20000) * (τ * τ) + 141 / 10000 * τ + 1 / 500) := by
      unfold ST MID FF TT
      grind
    have a := Rat.mul_le_mul_of_nonneg_left hA p
    have g0 : (0 : Rat) ≤ (g : Rat) := by exact_mod_cast Nat.zero_le g
    have b := Rat.mul_le_mul_of_nonneg_right ih g0
    have f : ((Zs g n * g : Nat) : Rat) ≤ ((Zs g n * g / 10000 * 10000 + 9999 : Nat) : Rat) := le_rat (by omega)
    rw [Rat.natCast_add, Rat.natCast_mul, Rat.natCast_mul] at f
    rw [show ((10000 : Nat) : Rat) = 10000 from rfl, show ((9999 : Nat) : Rat) = 9999 from rfl] at f
    simp only [Zs]
    rw [Rat.natCast_add, show ((30 : Nat) : Rat) = 30 from rfl, e]
    obtain ⟨Z, hZ⟩ : ∃ Z, Z = ((Zs g n : Nat) : Rat) := ⟨_, rfl⟩
    obtain ⟨Q, hQ⟩ : ∃ Q, Q = ((Zs g n * g / 10000 : Nat) : Rat) := ⟨_, rfl⟩
    obtain ⟨A, hA'⟩ : ∃ A, A = 1 + 162 / 10 * τ + 13122 / 100 * (τ * τ) := ⟨_, rfl⟩
    obtain ⟨G, hG⟩ : ∃ G, G = ((g : Nat) : Rat) := ⟨_, rfl⟩
    rw [← hZ, ← hG] at b f
    rw [← hQ] at f ⊢
    rw [← hA', ← hG] at a
    rw [← hA']
    have b' : P * G ≤ Z * G / 1000 := by
      have : Z / 1000 * G = Z * G / 1000 := by grind
      rwa [this] at b
    clear hQ hZ hA' hG e hA
    grind
theorem mid_of {τ : Rat} {h Z : Nat} {P : Rat} (h0 : 0 ≤ τ) (h1 : τ ≤ 1 / 4) (hB : (1 + 81 / 10 * τ) * 10000 ≤ (h : Rat)) (p : 0 ≤ P) (ih : P ≤ (Z : Rat) / 1000) (hz : Z * h ≤ 9990000000) : MID τ P ≤ 1000 := by
  have e : MID τ P = P * (1 + 81 / 10 * τ) + (141 / 20000 * τ + 1 / 500) := by
    unfold MID FF TT
    grind
  have g0 : (0 : Rat) ≤ (h : Rat) := by exact_mod_cast Nat.zero_le h
  have a := Rat.mul_le_mul_of_nonneg_left hB p
  have b := Rat.mul_le_mul_of_nonneg_right ih g0
  have f : ((Z * h : Nat) : Rat) ≤ ((9990000000 : Nat) : Rat) := le_rat hz
  rw [Rat.natCast_mul, show ((9990000000 : Nat) : Rat) = 9990000000 from rfl] at f
  rw [e]
  obtain ⟨z, hZ⟩ : ∃ z, z = ((Z : Nat) : Rat) := ⟨_, rfl⟩
  obtain ⟨A, hA'⟩ : ∃ A, A = 1 + 81 / 10 * τ := ⟨_, rfl⟩
  obtain ⟨G, hG⟩ : ∃ G, G = ((h : Nat) : Rat) := ⟨_, rfl⟩
  rw [← hZ, ← hG] at b f
  rw [← hA', ← hG] at a
  rw [← hA']
  have b' : P * G ≤ z * G / 1000 := by
    have : z / 1000 * G = z * G / 1000 := by grind
    rwa [this] at b
  clear hZ hA' hG e hB
  grind
def tick (e : Nat) : Nat := fop .quo .f32 1048576000 (floatOfInt .f32 ((2 ^ e : Nat) : Int))
def OkL (a : List S0.S46) : Prop := a.length = 4 ∧ ∀ w ∈ a, BW 1000 w
theorem BW.mono {P Q : Rat} {w : S0.S46} (h : BW P w) (hk : P ≤ Q) : BW Q w := ⟨h.1.mono hk, h.2.1.mono hk, h.2.2⟩
theorem steps_case {e g h : Nat} {τ : Rat} (hτ : τ = (2 : Rat) ^ (-((2 + e : Nat) : Int))) (ht : Fk .f32 (tick e) τ) (h1 : τ ≤ 1 / 4) (he : e ≤ 6) (hA : (1 + 162 / 10 * τ + 13122 / 100 * (τ * τ)) * 10000 ≤ (g : Rat)) (hB : (1 + 81 / 10 * τ) * 10000 ≤ (h : Rat))
    (hz : ∀ n, n < 2 ^ e → Zs g n * h ≤ 9990000000) (hf : Zs g (2 ^ e) ≤ 1000000) {l : List S0.S46} (hl : l.length = 4) (hw : ∀ w ∈ l, BW 9 w) :
    ∃ a, OkL a ∧ ∀ k, 200 ≤ k → N1.impl_steps.f k l 1056964608 (tick e) ((2 ^ e : Nat) : Int) = some (a, true) := by
  have h0 : 0 ≤ τ := by rw [hτ]; exact Rat.le_of_lt (pw_pos _)
  have he' : 2 ^ e ≤ 100 := by
    have : 2 ^ e ≤ 2 ^ 6 := Nat.pow_le_pow_right (by decide) he
    omega
  have gr := grow h0 h1 hA
  obtain ⟨⟨a, b⟩, e1, e2, e3, e4⟩ := steps_of (j := 2 + e) (by omega) hτ ht he' (fun n hn => mid_of h0 h1 hB (IT_pos h0 n) (gr n) (hz n hn)) hl hw (Nat.le_refl 200)
  have e2' : b = true := e2
  subst e2'
  have hb : IT τ (2 ^ e) ≤ 1000 := by
    have a := gr (2 ^ e)
    have f := le_rat hf
    rw [show ((1000000 : Nat) : Rat) = 1000000 from rfl] at f
    clear hA hB gr
    grind
  refine ⟨a, ⟨e3, fun w hw => (e4 w hw).mono hb⟩, fun k hk => ?_⟩
  have := up (fun k => N1.impl_steps.mono l 1056964608 (tick e) ((2 ^ e : Nat) : Int) k) e1 (k - 200)
  rwa [show 200 + (k - 200) = k by omega] at this
theorem steps_all {e : Nat} (he : e ≤ 6) {l : List S0.S46} (hl : l.length = 4) (hw : ∀ w ∈ l, BW 9 w) :
    fok .quo .f32 1048576000 (floatOfInt .f32 ((2 ^ e : Nat) : Int)) = true ∧ ∃ a, OkL a ∧ ∀ k, 200 ≤ k → N1.impl_steps.f k l 1056964608 (tick e) ((2 ^ e : Nat) : Int) = some (a, true) := by
  have c : e = 0 ∨ e = 1 ∨ e = 2 ∨ e = 3 ∨ e = 4 ∨ e = 5 ∨ e = 6 := by omega
  rcases c with rfl | rfl | rfl | rfl | rfl | rfl | rfl
  · exact ⟨by decide +kernel, steps_case (g := 132600) (h := 30300) rfl ⟨false, 8388608, -25, by decide +kernel, by decide +kernel⟩ (by decide +kernel) (by omega) (by decide +kernel) (by decide +kernel) (by decide +kernel) (by decide +kernel) hl hw⟩
  · exact ⟨by decide +kernel, steps_case (g := 50900) (h := 20300) rfl ⟨false, 8388608, -26, by decide +kernel, by decide +kernel⟩ (by decide +kernel) (by omega) (by decide +kernel) (by decide +kernel) (by decide +kernel) (by decide +kernel) hl hw⟩
  · exact ⟨by decide +kernel, steps_case (g := 25400) (h := 15100) rfl ⟨false, 8388608, -27, by decide +kernel, by decide +kernel⟩ (by decide +kernel) (by omega) (by decide +kernel) (by decide +kernel) (by decide +kernel) (by decide +kernel) hl hw⟩
  · exact ⟨by decide +kernel, steps_case (g := 16500) (h := 12600) rfl ⟨false, 8388608, -28, by decide +kernel, by decide +kernel⟩ (by decide +kernel) (by omega) (by decide +kernel) (by decide +kernel) (by decide +kernel) (by decide +kernel) hl hw⟩
  · exact ⟨by decide +kernel, steps_case (g := 12900) (h := 11300) rfl ⟨false, 8388608, -29, by decide +kernel, by decide +kernel⟩ (by decide +kernel) (by omega) (by decide +kernel) (by decide +kernel) (by decide +kernel) (by decide +kernel) hl hw⟩
  · exact ⟨by decide +kernel, steps_case (g := 11400) (h := 10700) rfl ⟨false, 8388608, -30, by decide +kernel, by decide +kernel⟩ (by decide +kernel) (by omega) (by decide +kernel) (by decide +kernel) (by decide +kernel) (by decide +kernel) hl hw⟩
  · exact ⟨by decide +kernel, steps_case (g := 10700) (h := 10400) rfl ⟨false, 8388608, -31, by decide +kernel, by decide +kernel⟩ (by decide +kernel) (by omega) (by decide +kernel) (by decide +kernel) (by decide +kernel) (by decide +kernel) hl hw⟩
theorem sq_grid {x : Nat} {a : Rat} (h : Fk .f32 x a) : Rep double (a * a) ∧ ∃ z : Nat, a * a = (z : Rat) * (2 : Rat) ^ (-298 : Int) := by
  obtain ⟨n, t, e, h1, h2⟩ := Fv.rep (.inl rfl) h
  rw [show 2 * single.binade = 16777216 by decide] at h1
  rw [show single.leastPlace = -149 by decide] at h2
  have nn : ((n.natAbs * n.natAbs : Nat) : Int) = n * n := Int.natAbs_mul_self
  have b : n.natAbs * n.natAbs ≤ 16777216 * 16777216 := Nat.mul_le_mul (by omega) (by omega)
  refine ⟨⟨n * n, t + t, ?_, ?_, ?_⟩, n.natAbs * n.natAbs * 2 ^ (2 * t + 298).toNat, ?_⟩
  · rw [e, pw_add, Rat.intCast_mul]
    grind
  · rw [Int.natAbs_mul, show 2 * double.binade = 9007199254740992 by decide]
    omega
  · rw [show double.leastPlace = -1074 by decide]
    omega
  · have q : (2 : Rat) ^ t * (2 : Rat) ^ t = ((2 ^ (2 * t + 298).toNat : Nat) : Rat) * (2 : Rat) ^ (-298 : Int) := by
      rw [← pw_nat, ← pw_add, ← pw_add]
      congr 1
      omega
    have m : (n : Rat) * (n : Rat) = ((n.natAbs * n.natAbs : Nat) : Rat) := by
      rw [← Rat.intCast_mul, ← nn]
      rfl
    rw [Rat.natCast_mul, ← m, Rat.mul_assoc, ← q, e]
    grind
theorem sum_pos {x y z1 z2 : Nat} {a b : Rat} (hx : Fk .f64 x a) (hy : Fk .f64 y b) (ha : a = (z1 : Rat) * (2 : Rat) ^ (-298 : Int)) (hb : b = (z2 : Rat) * (2 : Rat) ^ (-298 : Int)) (hs : a + b ≤ 16777216) :
    ∃ r c, floatBits .add .f64 x y = some r ∧ Fk .f64 r c ∧ 0 ≤ c ∧ c ≤ 33554432 := by
  have e : a + b = ((z1 + z2 : Nat) : Rat) * (2 : Rat) ^ (-298 : Int) := by
    rw [ha, hb, Rat.natCast_add, Rat.add_mul]
  have pp := pw_pos (-298)
  by_cases c0 : z1 + z2 = 0
  · rw [c0] at e
    have e0 : a + b = 0 := by rw [e]; exact Rat.zero_mul _
    obtain ⟨r, c, h1, h2, -, h4⟩ := add_val (f := double) (.inr rfl) hx hy (J := 1) (by rw [e0]; unfold Bd; rw [p1]; constructor <;> decide +kernel) (by decide)
    have := h4 (by rw [e0]; exact ⟨0, 0, by decide +kernel, by decide, by decide⟩)
    exact ⟨r, c, h1, h2, by rw [this, e0]; exact Rat.le_refl, by rw [this, e0]; decide +kernel⟩
  · obtain ⟨z, hz⟩ : ∃ z, z = z1 + z2 := ⟨_, rfl⟩
    rw [← hz] at e c0
    have l1 : 2 ^ z.log2 ≤ z := Nat.log2_self_le c0
    have l2 : z < 2 ^ (z.log2 + 1) := Nat.lt_log2_self
    have l1' := le_rat l1
    have l2' : (z : Rat) < ((2 ^ (z.log2 + 1) : Nat) : Rat) := by exact_mod_cast l2
    rw [← pw_nat] at l1' l2'
    have m1 : (2 : Rat) ^ ((z.log2 : Int) + (-298)) ≤ a + b := by
      rw [e, pw_add]
      exact Rat.mul_le_mul_of_nonneg_right l1' (Rat.le_of_lt pp)
    have m2 : a + b < (2 : Rat) ^ ((z.log2 : Int) + 1 + (-298)) := by
      rw [e, pw_add, pw_add]
      rw [show ((z.log2 + 1 : Nat) : Int) = (z.log2 : Int) + 1 from rfl, pw_add] at l2'
      exact Rat.mul_lt_mul_of_pos_right l2' pp
    have m3 : (2 : Rat) ^ ((z.log2 : Int) + (-298)) ≤ (2 : Rat) ^ (24 : Int) := by rw [p24]; grind
    have m4 : (z.log2 : Int) + (-298) < 25 := pw_lt (by have : (2 : Rat) ^ (25 : Int) = 33554432 := p25; rw [p24] at m3; grind)
    have q0 := pw_pos ((z.log2 : Int) + (-298))
    obtain ⟨r, c, h1, h2, h3, -⟩ := add_val (f := double) (.inr rfl) hx hy (J := (z.log2 : Int) + 1 + (-298)) ⟨by have := pw_pos ((z.log2 : Int) + 1 + (-298)); grind, m2⟩ (by rw [show top double = 1023 by decide]; omega)
    have hh : hu double ((z.log2 : Int) + 1 + (-298)) ≤ (2 : Rat) ^ ((z.log2 : Int) + (-298)) := by
      unfold hu
      refine pw_mono ?_
      rw [show double.fractionBits = 52 by decide, show double.leastPlace = -1074 by decide]
      omega
    unfold Nr at h3
    exact ⟨r, c, h1, h2, by grind, by grind⟩
theorem hd13 : hu double 13 ≤ 1 / 1000000 := by decide +kernel
theorem hs14 : hu single 14 ≤ 1 / 1000 := by decide +kernel
theorem p14 : (2 : Rat) ^ (14 : Int) = 16384 := by decide +kernel
theorem long_def {x y : Nat} (hx : B 2100 x) (hy : B 2100 y) : Ret (S0.impl_LongOf.f (x, y)) (fun r => ∃ v, Fk .f32 r v ∧ -(1 / 1000) ≤ v ∧ v ≤ 9000) := by
  obtain ⟨a, a1, a2, a3⟩ := hx
  obtain ⟨b, b1, b2, b3⟩ := hy
  obtain ⟨w1, w2⟩ := wide a1
  obtain ⟨u1, u2⟩ := wide b1
  obtain ⟨ra, za, ga⟩ := sq_grid a1
  obtain ⟨rb, zb, gb⟩ := sq_grid b1
  have s1 := sq_bd a2 a3
  have s2 := sq_bd b2 b3
  obtain ⟨r1, c1, d1, d2, -, d4⟩ := mul_val (f := double) (.inr rfl) w2 w2 (J := 23) (by unfold Bd; rw [p23]; constructor <;> grind) (by decide)
  have := d4 ra
  subst this
  obtain ⟨r2, c2, f1, f2, -, f4⟩ := mul_val (f := double) (.inr rfl) u2 u2 (J := 23) (by unfold Bd; rw [p23]; constructor <;> grind) (by decide)
  have := f4 rb
  subst this
  obtain ⟨r3, c3, g1, g2, g3, g4⟩ := sum_pos d2 f2 ga gb (by grind)
  obtain ⟨i1, i2⟩ := fok_of (op := .mul) (k := .f64) d1
  obtain ⟨j1, j2⟩ := fok_of (op := .mul) (k := .f64) f1
  obtain ⟨k1, k2⟩ := fok_of (op := .add) (k := .f64) g1
  obtain ⟨r4, c4, l1, l2, l3, -, l5, -⟩ := root_val (f := double) (.inr rfl) g2 g3 (J := 13) (by rw [show (2 : Rat) ^ (13 : Int) * (2 : Rat) ^ (13 : Int) = 67108864 by decide +kernel]; grind) (by decide)
  have q := l5 6000 (by decide +kernel) (by grind)
  have hd := hd13
  obtain ⟨r5, c5, m1, m2, m3, -⟩ := narrow_val (x := r4) (v := c4) l2 (J := 14) (by unfold Bd; rw [p14]; constructor <;> grind) (by decide)
  have hs := hs14
  unfold Nr at m3
  unfold S0.impl_LongOf.f S0.impl_power.f S0.impl_wide.f
  dsimp only
  rw [if_pos w1, if_pos u1]
  simp only [Option.bind_some]
  rw [if_pos i1, if_pos j1, i2, j2, if_pos k1, k2]
  simp only [Option.bind_some]
  unfold XR.Sqrt.f
  rw [show FloatKind.f64.format.sqrt r3 = some r4 from l1]
  simp only [Option.bind_some]
  unfold cok cvt
  rw [m1]
  exact ⟨_, rfl, c5, m2, by grind, by grind⟩
structure Near (a b : List S0.S46) (near : Nat) (i : Nat) : Prop where
  s1 : fok .sub .f32 ((S0.rd_T46 a (i : Int)).f0).1 ((S0.rd_T46 b (i : Int)).f0).1 = true
  s2 : fok .sub .f32 ((S0.rd_T46 a (i : Int)).f0).2 ((S0.rd_T46 b (i : Int)).f0).2 = true
  ok : ∃ t, S0.impl_LongOf.f (fop .sub .f32 ((S0.rd_T46 a (i : Int)).f0).1 ((S0.rd_T46 b (i : Int)).f0).1, fop .sub .f32 ((S0.rd_T46 a (i : Int)).f0).2 ((S0.rd_T46 b (i : Int)).f0).2) = some t ∧ (FloatKind.f32.format.order t near == some .gt) = false
def HR (l : List S0.S46) (near : Nat) (r : List S0.S46 × Int × Bool) : Prop :=
  r.2.2 = false ∨ ∃ e : Nat, e ≤ 5 ∧ r.2.2 = true ∧ r.2.1 = ((2 ^ e : Nat) : Int) ∧ r.1.length = 4 ∧ ∃ a : List S0.S46, a.length = 4 ∧ (∀ k, 200 ≤ k → N1.impl_steps.f k l 1056964608 (tick e) ((2 ^ e : Nat) : Int) = some (a, true)) ∧ ∀ i : Nat, i < 4 → Near a r.1 near i
theorem rd_mem {a : List S0.S46} (h : OkL a) {i : Nat} (hi : i < 4) : BW 1000 (S0.rd_T46 a (i : Int)) := by
  have := h.1
  rw [rdW (by omega)]
  exact h.2 _ (List.getElem_mem _)
theorem near_loop {l a b : List S0.S46} {near m : Nat} (hm : (m : Int) ≤ 100) (ha : OkL a) (hb : OkL b) {K : Nat} {Q : List S0.S46 × Int × Bool → Prop} (hout : ∀ k, K ≤ k → Ret (N1.impl_HalvedWhirls.l0 k l 1056964608 1048576000 near ((m : Int) * 2)) Q)
    (hin : (∀ i : Nat, i < 4 → Near a b near i) → Q (b, (m : Int), true)) :
    ∀ (r i k : Nat) (flag : Bool), i + r = 4 → K + r + 1 ≤ k → (flag = false → ∀ j : Nat, j < i → Near a b near j) → Ret (N1.impl_HalvedWhirls.l1 k l 1056964608 1048576000 near (m : Int) a b flag (a.length : Int) (i : Int)) Q := by
  have la := ha.1
  have lb := hb.1
  intro r
  induction r with
  | zero =>
    intro i k flag hi hk hf
    obtain ⟨q, rfl⟩ : ∃ q, k = q + 1 := ⟨k - 1, by omega⟩
    unfold N1.impl_HalvedWhirls.l1
    rw [if_neg (by omega)]
    cases flag with
    | true =>
      rw [if_pos rfl, w64 (by omega) (by omega)]
      exact hout q (by omega)
    | false =>
      rw [if_neg (by decide)]
      exact Ret.of (hin fun j hj => hf rfl j (by omega))
  | succ r ih =>
    intro i k flag hi hk hf
    obtain ⟨q, rfl⟩ : ∃ q, k = q + 1 := ⟨k - 1, by omega⟩
    unfold N1.impl_HalvedWhirls.l1
    rw [if_pos (by omega), w64 (n := (i : Int) + 1) (by omega) (by omega)]
    cases flag with
    | true =>
      rw [if_pos rfl]
      exact ih (i + 1) q true (by omega) (by omega) (fun h => absurd h (by decide))
    | false =>
      obtain ⟨x1, x2, -⟩ := rd_mem ha (show i < 4 by omega)
      obtain ⟨y1, y2, -⟩ := rd_mem hb (show i < 4 by omega)
      obtain ⟨f1, f2⟩ := B_sub x1 y1 (by decide +kernel)
      obtain ⟨g1, g2⟩ := B_sub x2 y2 (by decide +kernel)
      obtain ⟨t, ht, -⟩ := long_def (f2.mono (by decide +kernel)) (g2.mono (by decide +kernel))
      rw [if_neg (by decide), if_pos (by omega), if_pos (by omega), if_pos (by omega), if_pos f1, if_pos g1, ht]
      simp only [Option.bind_some]
      refine ih (i + 1) q _ (by omega) (by omega) (fun hfl j hj => ?_)
      by_cases c : j < i
      · exact hf rfl j c
      · obtain rfl : j = i := by omega
        exact ⟨f1, g1, t, ht, hfl⟩
end QA
end Go.Proofs.Ytcgaccdiomcglaa
end
section
set_option linter.unusedVariables false
set_option linter.unusedSimpArgs false
namespace Go.Proofs.Ytcgaccdiomcglaa
open Go.RowKit Go.Proofs.YtcgaccdiomcglaaW.PrintWords Go.Proofs.YtcgaccdiomcglaaW.PrintLast Ieee
namespace QA
open FR PU XL
theorem halved_loop {l : List S0.S46} {near : Nat} (hl : l.length = 4) (hw : ∀ w ∈ l, BW 9 w) : ∀ (r e k : Nat), e + r = 6 → 300 + 10 * r ≤ k → Ret (N1.impl_HalvedWhirls.l0 k l 1056964608 1048576000 near ((2 ^ e : Nat) : Int)) (HR l near) := by
  intro r
  induction r with
  | zero =>
    intro e k he hk
    obtain ⟨q, rfl⟩ : ∃ q, k = q + 1 := ⟨k - 1, by omega⟩
    obtain rfl : e = 6 := by omega
    unfold N1.impl_HalvedWhirls.l0
    rw [if_neg (by decide)]
    exact Ret.of (.inl rfl)
  | succ r ih =>
    intro e k he hk
    obtain ⟨q, rfl⟩ : ∃ q, k = q + 1 := ⟨k - 1, by omega⟩
    have b : 2 ^ e ≤ 2 ^ 5 := Nat.pow_le_pow_right (by decide) (by omega)
    have b1 : 1 ≤ 2 ^ e := Nat.one_le_two_pow
    have e2 : (2 : Nat) ^ (e + 1) = 2 ^ e * 2 := by omega
    obtain ⟨f1, a, a1, a2⟩ := steps_all (show e ≤ 6 by omega) hl hw
    obtain ⟨g1, c, c1, c2⟩ := steps_all (show e + 1 ≤ 6 by omega) hl hw
    unfold tick at a2 c2
    unfold N1.impl_HalvedWhirls.l0
    rw [if_pos (by omega), if_pos f1, a2 q (by omega), Option.bind_some]
    rw [show wrap64 (2 * ((2 ^ e : Nat) : Int)) = ((2 ^ (e + 1) : Nat) : Int) by rw [w64 (by omega) (by omega)]; omega]
    rw [if_pos g1, c2 q (by omega), Option.bind_some, if_pos rfl]
    obtain ⟨p, rfl⟩ : ∃ p, q = p + 1 := ⟨q - 1, by omega⟩
    unfold N1.impl_HalvedWhirls.j2
    rw [if_neg (show ¬ ((!true) = true) by decide)]
    refine near_loop (K := 300 + 10 * r) (by omega) a1 c1 (fun k hk => ?_) (fun hn => ?_) 4 0 p false rfl (by omega) (fun _ j hj => absurd hj (by omega))
    · rw [show ((2 ^ e : Nat) : Int) * 2 = ((2 ^ (e + 1) : Nat) : Int) by omega]
      exact ih (e + 1) k (by omega) hk
    · exact .inr ⟨e, by omega, rfl, rfl, c1.1, a, a1.1, a2, hn⟩
end QA
end Go.Proofs.Ytcgaccdiomcglaa
end
section
set_option linter.unusedVariables false
set_option linter.unusedSimpArgs false
namespace Go.Proofs.Ytcgaccdiomcglaa
open Go.RowKit Go.Proofs.YtcgaccdiomcglaaW.PrintWords Go.Proofs.YtcgaccdiomcglaaW.PrintLast Ieee
namespace QA
open FR PU XL
theorem int_B {z M : Int} (h1 : -M ≤ z) (h2 : z ≤ M) : -(M : Rat) ≤ (z : Rat) ∧ (z : Rat) ≤ (M : Rat) := by
  have a := int_le h2
  have b := int_le h1
  rw [Rat.intCast_neg] at b
  exact ⟨b, a⟩
theorem halfI_of (t : Int) : ((32 * t : Int) : Rat) * (2 : Rat) ^ (-6 : Int) = (t : Rat) / 2 := by
  rw [v64, Rat.intCast_mul, show ((32 : Int) : Rat) = 32 from rfl]
  grind
theorem U_half {x : Nat} {t : Int} (h : U x (32 * t)) : Fk .f32 x ((t : Rat) / 2) := by
  unfold U at h
  rwa [halfI_of] at h
theorem BW_of {l : List S0.S46} {X Y S : Nat → Int} (h : OkW l X Y S) : ∀ w ∈ l, BW 9 w := by
  intro w hw
  obtain ⟨i, hi, rfl⟩ := List.getElem_of_mem hw
  have hl := h.len
  have a := h.at_ i (by omega)
  have s := h.spin i (by omega)
  have xb := h.xb i (by omega)
  have yb := h.yb i (by omega)
  have sb := h.sb i (by omega)
  rw [rdW hi] at a s
  have x9 := int_B (M := 9) (z := X i) (by omega) (by omega)
  have y9 := int_B (M := 9) (z := Y i) (by omega) (by omega)
  have s8 := int_B (M := 8) (z := S i) (by omega) (by omega)
  rw [show ((9 : Int) : Rat) = 9 from rfl] at x9 y9
  rw [show ((8 : Int) : Rat) = 8 from rfl] at s8
  refine ⟨?_, ?_, ⟨_, U_half s, by grind, by grind⟩⟩
  · rw [a]; exact ⟨_, I_val (by omega), x9.1, x9.2⟩
  · rw [a]; exact ⟨_, I_val (by omega), y9.1, y9.2⟩
def FinW (l : List S0.S46) : Prop := ∀ w ∈ l, FinC w.f0 ∧ Fin w.f1
theorem are_of {l : List S0.S46} (h : FinW l) (hl : l.length ≤ 20) {k : Nat} (hk : 60 ≤ k) : S0.impl_AreWhirls.f k l = some true := by
  unfold S0.impl_AreWhirls.f
  rw [if_pos (by omega), finWh_of h hl hk]
  rfl
theorem toldW_of {l : List S0.S46} (h : FinW l) (hl : l.length ≤ 20) {k : Nat} (hk : 60 ≤ k) : S0.impl_toldWhirls.f k l = some (l, true) := by
  unfold S0.impl_toldWhirls.f
  rw [are_of h hl hk]
  rfl
def Ap (x : Nat) (v e : Rat) : Prop := ∃ c, Fk .f32 x c ∧ c ≤ v + e ∧ v ≤ c + e
structure Wt (w : S0.S46) (t : Int) (u v : Rat) : Prop where
  spin : U w.f1 (32 * t)
  tb : -16 ≤ t ∧ t ≤ 16
  fin : FinC w.f0
  sc : ∃ a b, N0.impl_ScaleComplex.f w.f0 w.f1 = some (a, b) ∧ Ap a u (1 / 800) ∧ Ap b v (1 / 800)
  ub : -64 ≤ u ∧ u ≤ 64
  vb : -64 ≤ v ∧ v ≤ 64
def SumI (T : Nat → Int) : Nat → Int
  | 0 => 0
  | n + 1 => SumI T n + T n
def SumQ (u : Nat → Rat) : Nat → Rat
  | 0 => 0
  | n + 1 => SumQ u n + u n
theorem SumI_bd {T : Nat → Int} : ∀ n, (∀ i, i < n → -16 ≤ T i ∧ T i ≤ 16) → -(16 * (n : Int)) ≤ SumI T n ∧ SumI T n ≤ 16 * (n : Int)
  | 0, _ => by simp [SumI]
  | n + 1, h => by
    have a := SumI_bd n fun i hi => h i (by omega)
    have b := h n (by omega)
    simp only [SumI]
    omega
theorem SumQ_bd {u : Nat → Rat} : ∀ n, (∀ i, i < n → -64 ≤ u i ∧ u i ≤ 64) → -(64 * (n : Rat)) ≤ SumQ u n ∧ SumQ u n ≤ 64 * (n : Rat)
  | 0, _ => by simp only [SumQ]; constructor <;> decide +kernel
  | n + 1, h => by
    have a := SumQ_bd n fun i hi => h i (by omega)
    have b := h n (by omega)
    simp only [SumQ]
    rw [Rat.natCast_add, show ((1 : Nat) : Rat) = 1 from rfl]
    constructor <;> grind
theorem tot_loop {M : List S0.S46} {T : Nat → Int} (hM : M.length ≤ 4) (h : ∀ i : Nat, i < M.length → U (S0.rd_T46 M (i : Int)).f1 (32 * T i) ∧ -16 ≤ T i ∧ T i ≤ 16) :
    ∀ (r i k x : Nat), i + r = M.length → r + 1 ≤ k → U x (32 * SumI T i) → Ret (N0.impl_totalSpin.l0 k x M (M.length : Int) (i : Int)) (fun t => U t (32 * SumI T M.length)) := by
  intro r
  induction r with
  | zero =>
    intro i k x hi hk hx
    obtain ⟨q, rfl⟩ : ∃ q, k = q + 1 := ⟨k - 1, by omega⟩
    unfold N0.impl_totalSpin.l0
    rw [if_neg (by omega)]
    rw [Nat.add_zero] at hi
    rw [hi] at hx
    exact Ret.of hx
  | succ r ih =>
    intro i k x hi hk hx
    obtain ⟨q, rfl⟩ : ∃ q, k = q + 1 := ⟨k - 1, by omega⟩
    unfold N0.impl_totalSpin.l0
    obtain ⟨h1, h2, h3⟩ := h i (by omega)
    have bd := SumI_bd (T := T) i fun j hj => (h j (by omega)).2
    obtain ⟨g1, g2⟩ := U_add hx h1 (by omega)
    rw [if_pos (by omega), if_pos (by omega), if_pos (by omega), if_pos g1, w64 (by omega) (by omega)]
    exact ih (i + 1) q _ (by omega) (by omega) (by simp only [SumI]; rwa [Int.mul_add])
theorem tot_of {M : List S0.S46} {T : Nat → Int} (hf : FinW M) (hM : M.length ≤ 4) (h : ∀ i : Nat, i < M.length → U (S0.rd_T46 M (i : Int)).f1 (32 * T i) ∧ -16 ≤ T i ∧ T i ≤ 16) {k : Nat} (hk : 60 ≤ k) :
    Ret (N0.impl_TotalSpin.f k M) (fun t => t.2 = true ∧ U t.1 (32 * SumI T M.length)) := by
  unfold N0.impl_TotalSpin.f N0.impl_totalSpin.f
  rw [are_of hf (by omega) hk]
  simp only [Option.bind_some]
  rw [if_pos trivial]
  obtain ⟨t, e, ht⟩ := tot_loop hM h M.length 0 k 0 (by omega) (by omega) (by simp only [SumI]; exact U_zero)
  rw [show ((0 : Nat) : Int) = 0 from rfl] at e
  rw [e]
  simp only [Option.bind_some]
  unfold S0.impl_toldNumber.f XL.IsFinite.f
  rw [fin_of' ⟨_, ht⟩]
  exact ⟨_, rfl, rfl, ht⟩
theorem hs9 : hu single 9 ≤ 1 / 50000 := by decide +kernel
theorem p9 : (2 : Rat) ^ (9 : Int) = 512 := by decide +kernel
theorem Ap_add {x y : Nat} {a b e f : Rat} (hx : Ap x a e) (hy : Ap y b f) (h1 : -300 ≤ a + b) (h2 : a + b ≤ 300) (he : e ≤ 1) (hf : f ≤ 1) : fok .add .f32 x y = true ∧ Ap (fop .add .f32 x y) (a + b) (e + f + 1 / 50000) := by
  obtain ⟨c, c1, c2, c3⟩ := hx
  obtain ⟨d, d1, d2, d3⟩ := hy
  obtain ⟨r, z, g1, g2, g3, -⟩ := add_val (f := single) (.inl rfl) c1 d1 (J := 9) (by unfold Bd; rw [p9]; constructor <;> grind) (by decide)
  have := hs9
  unfold Nr at g3
  obtain ⟨i1, i2⟩ := fok_of (op := .add) (k := .f32) g1
  rw [i2]
  exact ⟨i1, z, g2, by grind, by grind⟩
theorem imp_loop {M : List S0.S46} {T : Nat → Int} {u v : Nat → Rat} (hM : M.length ≤ 4) (h : ∀ i : Nat, i < M.length → Wt (S0.rd_T46 M (i : Int)) (T i) (u i) (v i)) :
    ∀ (r i k x y : Nat), i + r = M.length → r + 1 ≤ k → Ap x (SumQ u i) ((i : Rat) * (127 / 100000)) → Ap y (SumQ v i) ((i : Rat) * (127 / 100000)) →
      Ret (N0.impl_ImpulseOf.l0 k (x, y) M (M.length : Int) (i : Int)) (fun t => t.2 = true ∧ Ap t.1.1 (SumQ u M.length) ((M.length : Rat) * (127 / 100000)) ∧ Ap t.1.2 (SumQ v M.length) ((M.length : Rat) * (127 / 100000))) := by
  intro r
  induction r with
  | zero =>
    intro i k x y hi hk hx hy
    obtain ⟨q, rfl⟩ : ∃ q, k = q + 1 := ⟨k - 1, by omega⟩
    unfold N0.impl_ImpulseOf.l0
    rw [if_neg (by omega)]
    rw [Nat.add_zero] at hi
    rw [hi] at hx hy
    have fx : Fin x := by obtain ⟨c, c1, -⟩ := hx; exact ⟨c, c1⟩
    have fy : Fin y := by obtain ⟨c, c1, -⟩ := hy; exact ⟨c, c1⟩
    unfold N0.impl_toldComplex.f XW.IsFiniteComplex.f XW.cfin
    rw [fin_of' fx, fin_of' fy]
    exact ⟨_, rfl, rfl, hx, hy⟩
  | succ r ih =>
    intro i k x y hi hk hx hy
    obtain ⟨q, rfl⟩ : ∃ q, k = q + 1 := ⟨k - 1, by omega⟩
    unfold N0.impl_ImpulseOf.l0
    have hw := h i (by omega)
    obtain ⟨a, b, e, ha, hb⟩ := hw.sc
    have i3 := le_rat (show i ≤ 3 by omega)
    have i0 := le_rat (Nat.zero_le i)
    rw [show ((3 : Nat) : Rat) = 3 from rfl] at i3
    rw [show ((0 : Nat) : Rat) = 0 from rfl] at i0
    have ub := SumQ_bd (u := u) i fun j hj => (h j (by omega)).ub
    have vb := SumQ_bd (u := v) i fun j hj => (h j (by omega)).vb
    have u1 := hw.ub
    have v1 := hw.vb
    obtain ⟨g1, g2⟩ := Ap_add hx ha (by grind) (by grind) (by grind) (by grind)
    obtain ⟨k1, k2⟩ := Ap_add hy hb (by grind) (by grind) (by grind) (by grind)
    rw [if_pos (by omega), if_pos (by omega), if_pos (by omega), e]
    simp only [Option.bind_some]
    rw [if_pos g1, if_pos k1, w64 (by omega) (by omega)]
    have ei : (((i + 1 : Nat) : Rat)) * (127 / 100000) = (i : Rat) * (127 / 100000) + 1 / 800 + 1 / 50000 := by
      rw [Rat.natCast_add, show ((1 : Nat) : Rat) = 1 from rfl]
      grind
    refine ih (i + 1) q _ _ (by omega) (by omega) ?_ ?_
    · rw [ei]; simp only [SumQ]; exact g2
    · rw [ei]; simp only [SumQ]; exact k2
theorem imp_of {M : List S0.S46} {T : Nat → Int} {u v : Nat → Rat} (hf : FinW M) (hM : M.length ≤ 4) (h : ∀ i : Nat, i < M.length → Wt (S0.rd_T46 M (i : Int)) (T i) (u i) (v i)) {k : Nat} (hk : 60 ≤ k) :
    Ret (N0.impl_ImpulseOf.f k M) (fun t => t.2 = true ∧ Ap t.1.1 (SumQ u M.length) ((M.length : Rat) * (127 / 100000)) ∧ Ap t.1.2 (SumQ v M.length) ((M.length : Rat) * (127 / 100000))) := by
  unfold N0.impl_ImpulseOf.f
  rw [are_of hf (by omega) hk]
  simp only [Option.bind_some]
  rw [if_pos trivial]
  have z : Ap 0 0 (((0 : Nat) : Rat) * (127 / 100000)) := ⟨0, f_zero, by decide +kernel, by decide +kernel⟩
  exact imp_loop hM h M.length 0 k 0 0 (by omega) (by omega) z z
theorem hd10' : hu double 10 ≤ 1 / 1000000000 := by decide +kernel
theorem hd12 : hu double 12 ≤ 1 / 1000000000 := by decide +kernel
theorem hs12 : hu single 12 ≤ 13 / 100000 := by decide +kernel
theorem hs7 : hu single 7 ≤ 1 / 100000 := by decide +kernel
theorem p7 : (2 : Rat) ^ (7 : Int) = 128 := by decide +kernel
theorem p10 : (2 : Rat) ^ (10 : Int) = 1024 := by decide +kernel
theorem p12 : (2 : Rat) ^ (12 : Int) = 4096 := by decide +kernel
theorem quo_core {R P : Nat} {ρ σ v : Rat} (hR : Fk .f64 R ρ) (hP : Fk .f64 P (σ * σ)) (h1 : 1 / 4 ≤ σ * σ) (s1 : -8 ≤ σ) (s2 : σ ≤ 8) (v1 : -64 ≤ v) (v2 : v ≤ 64) (r1 : ρ ≤ v * σ + 1 / 100000000) (r2 : v * σ ≤ ρ + 1 / 100000000) :
    fok .quo .f64 R P = true ∧ cok .f64 (fop .quo .f64 R P) .f32 = true ∧ ∃ c, Fk .f32 (cvt .f64 (fop .quo .f64 R P) .f32) c ∧ c * σ ≤ v + 11 / 10000 ∧ v ≤ c * σ + 11 / 10000 := by
  obtain ⟨p, hp⟩ : ∃ p, p = σ * σ := ⟨_, rfl⟩
  rw [← hp] at hP h1
  have p0 : 0 < p := by grind
  have pn : p ≠ 0 := by grind
  have vs := mul_bd v1 v2 s1 s2
  obtain ⟨q, hq⟩ : ∃ q, q = ρ / p := ⟨_, rfl⟩
  have e : q * p = ρ := by rw [hq]; exact Rat.div_mul_cancel pn
  have q1 : q ≤ 2060 := Rat.le_of_mul_le_mul_right (by rw [e]; grind) p0
  have q2 : -2060 ≤ q := Rat.le_of_mul_le_mul_right (by rw [e]; grind) p0
  obtain ⟨r, c, a1, a2, a3, -⟩ := quo_val (f := double) (.inr rfl) hR hP pn e (J := 12) (by unfold Bd; rw [p12]; constructor <;> grind) (by decide)
  have d1 := hd12
  unfold Nr at a3
  obtain ⟨r', c', b1, b2, b3, -⟩ := narrow_val a2 (J := 12) (by unfold Bd; rw [p12]; constructor <;> grind) (by decide)
  have d2 := hs12
  unfold Nr at b3
  obtain ⟨f1, f2⟩ := fok_of (op := .quo) (k := .f64) a1
  rw [f2]
  unfold cok cvt
  rw [b1]
  obtain ⟨D, hD⟩ : ∃ D, D = c' - q := ⟨_, rfl⟩
  have D1 := mul_bd (M := 131 / 1000000) (a := D) (b := σ) (K := 8) (by grind) (by grind) s1 s2
  obtain ⟨E, hE⟩ : ∃ E, E = ρ - v * σ := ⟨_, rfl⟩
  have E1 := mul_bd (M := 1 / 100000000) (a := E) (b := σ) (K := 8) (by grind) (by grind) s1 s2
  obtain ⟨G, hG⟩ : ∃ G, G = q * σ - v := ⟨_, rfl⟩
  have eG : G * p = E * σ := by
    have : G * p = (q * p) * σ - v * p := by rw [hG]; grind
    rw [this, e, hE, hp]
    grind
  have G1 : G ≤ 1 / 1000000 := Rat.le_of_mul_le_mul_right (by rw [eG]; grind) p0
  have G2 : -(1 / 1000000) ≤ G := Rat.le_of_mul_le_mul_right (by rw [eG]; grind) p0
  have ec : c' * σ = D * σ + (G + v) := by rw [hD, hG]; grind
  refine ⟨f1, rfl, c', b2, ?_, ?_⟩
  · rw [ec]; grind
  · rw [ec]; grind
set_option maxRecDepth 20000 in
theorem quot_of {x y s : Nat} {v w σ : Rat} (hx : Fk .f32 x v) (hy : Fk .f32 y w) (hs : Fk .f32 s σ) (v1 : -64 ≤ v) (v2 : v ≤ 64) (w1 : -64 ≤ w) (w2 : w ≤ 64) (s1 : -8 ≤ σ) (s2 : σ ≤ 8) (h1 : 1 / 4 ≤ σ * σ) :
    Ret (N0.impl_QuotientOf.f (x, y) (s, 0)) (fun q => ∃ c d, Fk .f32 q.1 c ∧ c * σ ≤ v + 11 / 10000 ∧ v ≤ c * σ + 11 / 10000 ∧ Fk .f32 q.2 d ∧ d * σ ≤ w + 11 / 10000 ∧ w ≤ d * σ + 11 / 10000) := by
  have h0 : Fk .f32 (Op.negFloat .f32 0) (-0) := neg_val f_zero
  rw [show (-0 : Rat) = 0 by decide +kernel] at h0
  obtain ⟨zz, hz⟩ : ∃ z, z = Op.negFloat .f32 0 := ⟨_, rfl⟩
  rw [← hz] at h0
  obtain ⟨X1, X2⟩ := wide hx
  obtain ⟨Y1, Y2⟩ := wide hy
  obtain ⟨S1, S2⟩ := wide hs
  obtain ⟨Z1, Z2⟩ := wide h0
  obtain ⟨O1, O2⟩ := wide f_zero
  obtain ⟨O, hO⟩ : ∃ O, O = cvt .f32 0 .f64 := ⟨_, rfl⟩
  rw [← hO] at O2
  have vs := mul_bd v1 v2 s1 s2
  have ws := mul_bd w1 w2 s1 s2
  have ss := mul_bd s1 s2 s1 s2
  have d0 := hd10'
  have zr : Rep double (0 : Rat) := ⟨0, 0, by decide +kernel, by decide, by decide⟩
  obtain ⟨ra, a, a1, a2, a3, -⟩ := mul_val (f := double) (.inr rfl) X2 S2 (J := 10) (by unfold Bd; rw [p10]; constructor <;> grind) (by decide)
  obtain ⟨rb, b, b1, b2, -, b3⟩ := mul_val (f := double) (.inr rfl) Y2 Z2 (J := 10) (by rw [Rat.mul_zero]; unfold Bd; rw [p10]; constructor <;> decide +kernel) (by decide)
  have b4 := b3 (by rw [Rat.mul_zero]; exact zr)
  rw [Rat.mul_zero] at b4
  subst b4
  unfold Nr at a3
  obtain ⟨rc, c, c1, c2, c3, -⟩ := sub_val (f := double) (.inr rfl) a2 b2 (J := 10) (by unfold Bd; rw [p10]; constructor <;> grind) (by decide)
  unfold Nr at c3
  obtain ⟨re, e, e1, e2, -, e3⟩ := mul_val (f := double) (.inr rfl) X2 Z2 (J := 10) (by rw [Rat.mul_zero]; unfold Bd; rw [p10]; constructor <;> decide +kernel) (by decide)
  have e4 := e3 (by rw [Rat.mul_zero]; exact zr)
  rw [Rat.mul_zero] at e4
  subst e4
  obtain ⟨rf, f, f1, f2, f3, -⟩ := mul_val (f := double) (.inr rfl) Y2 S2 (J := 10) (by unfold Bd; rw [p10]; constructor <;> grind) (by decide)
  unfold Nr at f3
  obtain ⟨rg, g, g1, g2, g3, -⟩ := add_val (f := double) (.inr rfl) e2 f2 (J := 10) (by unfold Bd; rw [p10]; constructor <;> grind) (by decide)
  unfold Nr at g3
  obtain ⟨ri, i, i1, i2, -, i3⟩ := mul_val (f := double) (.inr rfl) S2 S2 (J := 10) (by unfold Bd; rw [p10]; constructor <;> grind) (by decide)
  have i4 := i3 (sq_grid hs).1
  subst i4
  obtain ⟨rj, j, j1, j2, -, j3⟩ := mul_val (f := double) (.inr rfl) O2 O2 (J := 10) (by rw [Rat.mul_zero]; unfold Bd; rw [p10]; constructor <;> decide +kernel) (by decide)
  have j4 := j3 (by rw [Rat.mul_zero]; exact zr)
  rw [Rat.mul_zero] at j4
  subst j4
  obtain ⟨rk, k, k1, k2, -, k3⟩ := add_val (f := double) (.inr rfl) i2 j2 (J := 10) (by rw [Rat.add_zero]; unfold Bd; rw [p10]; constructor <;> grind) (by decide)
  have k4 := k3 (by rw [Rat.add_zero]; exact (sq_grid hs).1)
  rw [Rat.add_zero] at k4
  subst k4
  obtain ⟨A1, A2⟩ := fok_of (op := .mul) (k := .f64) a1
  obtain ⟨B1, B2⟩ := fok_of (op := .mul) (k := .f64) b1
  obtain ⟨C1, C2⟩ := fok_of (op := .sub) (k := .f64) c1
  obtain ⟨E1, E2⟩ := fok_of (op := .mul) (k := .f64) e1
  obtain ⟨F1, F2⟩ := fok_of (op := .mul) (k := .f64) f1
  obtain ⟨G1, G2⟩ := fok_of (op := .add) (k := .f64) g1
  obtain ⟨I1, I2⟩ := fok_of (op := .mul) (k := .f64) i1
  obtain ⟨J1, J2⟩ := fok_of (op := .mul) (k := .f64) j1
  obtain ⟨K1, K2⟩ := fok_of (op := .add) (k := .f64) k1
  obtain ⟨L1, L2, L, L3, L4, L5⟩ := quo_core c2 k2 h1 s1 s2 v1 v2 (by grind) (by grind)
  obtain ⟨M1, M2, M, M3, M4, M5⟩ := quo_core g2 k2 h1 s1 s2 w1 w2 (by grind) (by grind)
  unfold N0.impl_QuotientOf.f S0.impl_wide.f N0.impl_ConjugateOf.f S0.impl_power.f S0.impl_wide.f
  dsimp only
  rw [← hz, if_pos X1, if_pos Y1, Option.bind_some, Option.bind_some, if_pos S1, if_pos Z1, Option.bind_some, if_pos O1, if_pos S1, Option.bind_some, ← hO]
  dsimp only
  rw [if_pos I1]
  rw [if_pos J1]
  rw [I2, J2]
  rw [if_pos K1, K2, Option.bind_some]
  rw [if_pos A1, if_pos B1, A2, B2, if_pos C1, C2, if_pos E1, if_pos F1, E2, F2, if_pos G1, G2, if_pos L1, if_pos L2, if_pos M1, if_pos M2]
  exact ⟨_, rfl, L, M, L3, L4, L5, M3, M4, M5⟩
end QA
end Go.Proofs.Ytcgaccdiomcglaa
end
section
set_option linter.unusedVariables false
set_option linter.unusedSimpArgs false
namespace Go.Proofs.Ytcgaccdiomcglaa
open Go.RowKit Go.Proofs.YtcgaccdiomcglaaW.PrintWords Go.Proofs.YtcgaccdiomcglaaW.PrintLast Ieee
namespace QA
open FR PU XL
def hv (z : Int) : Rat := (z : Rat) / 2
theorem hv_b {z : Int} (h : -128 ≤ z ∧ z ≤ 128) : -64 ≤ hv z ∧ hv z ≤ 64 := by
  have a := int_B (M := 128) h.1 h.2
  rw [show ((128 : Int) : Rat) = 128 from rfl] at a
  unfold hv
  constructor <;> grind
theorem Ap_self {x : Nat} {v e : Rat} (h : Fk .f32 x v) (he : 0 ≤ e) : Ap x v e := ⟨v, h, by grind, by grind⟩
theorem wt_of {l : List S0.S46} {X Y S : Nat → Int} (h : OkW l X Y S) (i : Nat) (hi : i < 4) :
    Wt (S0.rd_T46 l (i : Int)) (S i) (hv (X i * S i)) (hv (Y i * S i)) := by
  have a := h.at_ i hi
  have s := h.spin i hi
  have xb := h.xb i hi
  have yb := h.yb i hi
  have sb := h.sb i hi
  have mx := mul_bound (M := 8) (a := X i) (b := S i) (by omega) (by omega) (by omega) (by omega)
  have my := mul_bound (M := 8) (a := Y i) (b := S i) (by omega) (by omega) (by omega) (by omega)
  obtain ⟨g1, g2⟩ := U_mul' (I_val (n := X i) (by omega)) s (by rw [Int.mul_left_comm]; omega)
  obtain ⟨k1, k2⟩ := U_mul' (I_val (n := Y i) (by omega)) s (by rw [Int.mul_left_comm]; omega)
  rw [Int.mul_left_comm] at g2 k2
  refine ⟨s, by omega, ?_, ⟨_, _, ?_, Ap_self (U_half g2) (by decide +kernel), Ap_self (U_half k2) (by decide +kernel)⟩, hv_b (by omega), hv_b (by omega)⟩
  · rw [a]
    exact ⟨⟨_, I_val (n := X i) (by omega)⟩, ⟨_, I_val (n := Y i) (by omega)⟩⟩
  · unfold N0.impl_ScaleComplex.f
    rw [a, if_pos g1, if_pos k1]
theorem wt_merged {q : Nat × Nat} {s : Nat} {z a b : Int} {c d : Rat} (hs : U s (32 * z)) (hz : -16 ≤ z ∧ z ≤ 16) (ha : -128 ≤ a ∧ a ≤ 128) (hb : -128 ≤ b ∧ b ≤ 128)
    (c0 : Fk .f32 q.1 c) (c1 : c * hv z ≤ hv a + 11 / 10000) (c2 : hv a ≤ c * hv z + 11 / 10000) (d0 : Fk .f32 q.2 d) (d1 : d * hv z ≤ hv b + 11 / 10000) (d2 : hv b ≤ d * hv z + 11 / 10000) :
    Wt ⟨q, s⟩ z (hv a) (hv b) := by
  have ab := hv_b ha
  have bb := hv_b hb
  have e7 := hs7
  have hs' : Fk .f32 s (hv z) := U_half hs
  obtain ⟨r, t, e1, e2, e3, -⟩ := mul_val (f := single) (.inl rfl) c0 hs' (J := 7) (by unfold Bd; rw [p7]; constructor <;> grind) (by decide)
  obtain ⟨r', t', f1, f2, f3, -⟩ := mul_val (f := single) (.inl rfl) d0 hs' (J := 7) (by unfold Bd; rw [p7]; constructor <;> grind) (by decide)
  unfold Nr at e3 f3
  obtain ⟨g1, g2⟩ := fok_of (op := .mul) (k := .f32) e1
  obtain ⟨k1, k2⟩ := fok_of (op := .mul) (k := .f32) f1
  refine ⟨hs, hz, ⟨⟨_, c0⟩, ⟨_, d0⟩⟩, ⟨r, r', ?_, ⟨t, e2, ?_, ?_⟩, ⟨t', f2, ?_, ?_⟩⟩, ab, bb⟩
  · unfold N0.impl_ScaleComplex.f
    dsimp only
    rw [if_pos g1, if_pos k1, g2, k2]
  · grind
  · grind
  · grind
  · grind
theorem sq_quarter {z : Int} (h : z ≠ 0) : 1 / 4 ≤ hv z * hv z := by
  have : 1 ≤ z * z := by
    rcases Int.lt_or_lt_of_ne h with c | c
    · have t : 0 ≤ (z + 1) * z := Int.mul_nonneg_of_nonpos_of_nonpos (by omega) (by omega)
      rw [Int.add_mul] at t
      omega
    · have t : 0 ≤ (z - 1) * z := Int.mul_nonneg (by omega) (by omega)
      rw [Int.sub_mul] at t
      omega
  have a := int_le this
  rw [Rat.intCast_mul, show ((1 : Int) : Rat) = 1 from rfl] at a
  unfold hv
  grind
theorem le_self {x : Nat} {v : Rat} (h : Fk .f32 x v) : fle .f32 x x = true := by
  unfold fle
  rw [(eq_iff h h).2 rfl, Bool.or_true]
def Merged (l : List S0.S46) (X Y S : Nat → Int) (p q : Nat) (M : List S0.S46) : Prop :=
  (S p + S q = 0 ∧ M = (l.eraseIdx q).eraseIdx p) ∨ ∃ m, M = (l.eraseIdx q).set p m ∧ Wt m (S p + S q) (hv (X p * S p + X q * S q)) (hv (Y p * S p + Y q * S q))
theorem finW_of {l : List S0.S46} {X Y S : Nat → Int} (h : OkW l X Y S) : FinW l := fun w hw => (BW_of h w hw).fin
theorem merge_yes {l : List S0.S46} {X Y S : Nat → Int} (h : OkW l X Y S) {p q : Nat} (hp : p < q) (hq : q < 4) {k x : Nat} (hk : 100 ≤ k) : Ret (N2.impl_MergeNearest.j0 k l l (p : Int) (q : Int) false) (fun r => r.2 = true ∧ Merged l X Y S p q r.1) := by
  obtain ⟨k', rfl⟩ : ∃ k', k = k' + 1 := ⟨k - 1, by omega⟩
  have hl := h.len
  have hw := finW_of h
  have sp := h.sb p (by omega)
  have sq := h.sb q hq
  have xp := h.xb p (by omega)
  have xq := h.xb q hq
  have yp := h.yb p (by omega)
  have yq := h.yb q hq
  have wp := wt_of h p (by omega)
  have wq := wt_of h q hq
  obtain ⟨g1, g2⟩ := U_add wp.spin wq.spin (by omega)
  rw [← Int.mul_add] at g2
  rw [N2.impl_MergeNearest.j0, if_neg (by decide), if_pos (by omega), if_pos (by omega), if_pos (by omega), if_pos (by omega), if_pos g1, w64 (n := (q : Int) + 1) (by omega) (by omega), w64 (n := (p : Int) + 1) (by omega) (by omega)]
  unfold XD.delW.f
  rw [if_pos (by omega), Option.bind_some, Int.toNat_natCast, Int.toNat_natCast]
  have le : (l.eraseIdx q).length = 3 := by rw [List.length_eraseIdx_of_lt (by omega)]; omega
  have o := U_order g2 U_zero
  obtain ⟨w, hw0⟩ : ∃ w, w = FloatKind.f32.format.order (fop .add .f32 (S0.rd_T46 l (p : Int)).f1 (S0.rd_T46 l (q : Int)).f1) 0 := ⟨_, rfl⟩
  rw [← hw0] at o ⊢
  by_cases c : S p + S q = 0
  · have ow : w = some .eq := by rw [o, if_neg (by omega), if_pos (by omega)]
    rw [ow, if_pos (by rfl), if_pos (by omega)]
    exact ⟨_, rfl, rfl, .inl ⟨c, rfl⟩⟩
  · have ow : w ≠ some .eq := by
      rw [o]
      by_cases c1 : 32 * (S p + S q) < 0
      · rw [if_pos c1]; decide
      · rw [if_neg c1, if_neg (by omega)]; decide
    rw [if_neg (fun hh => ow (by simpa using hh))]
    have ax := mul_bound (M := 8) (a := X p) (b := S p) (by omega) (by omega) (by omega) (by omega)
    have bx := mul_bound (M := 8) (a := X q) (b := S q) (by omega) (by omega) (by omega) (by omega)
    have ay := mul_bound (M := 8) (a := Y p) (b := S p) (by omega) (by omega) (by omega) (by omega)
    have by' := mul_bound (M := 8) (a := Y q) (b := S q) (by omega) (by omega) (by omega) (by omega)
    have sc : ∀ i : Nat, i < 4 → ∃ a b, N0.impl_ScaleComplex.f (S0.rd_T46 l (i : Int)).f0 (S0.rd_T46 l (i : Int)).f1 = some (a, b) ∧ U a (32 * (X i * S i)) ∧ U b (32 * (Y i * S i)) := by
      intro i hi
      have a := h.at_ i hi
      have s := h.spin i hi
      have xb := h.xb i hi
      have yb := h.yb i hi
      have sb := h.sb i hi
      have mx := mul_bound (M := 8) (a := X i) (b := S i) (by omega) (by omega) (by omega) (by omega)
      have my := mul_bound (M := 8) (a := Y i) (b := S i) (by omega) (by omega) (by omega) (by omega)
      obtain ⟨g1, g2⟩ := U_mul' (I_val (n := X i) (by omega)) s (by rw [Int.mul_left_comm]; omega)
      obtain ⟨k1, k2⟩ := U_mul' (I_val (n := Y i) (by omega)) s (by rw [Int.mul_left_comm]; omega)
      rw [Int.mul_left_comm] at g2 k2
      refine ⟨_, _, ?_, g2, k2⟩
      unfold N0.impl_ScaleComplex.f
      rw [a, if_pos g1, if_pos k1]
    obtain ⟨a1, b1, e1, u1, v1⟩ := sc p (by omega)
    obtain ⟨a2, b2, e2, u2, v2⟩ := sc q hq
    obtain ⟨m1, m2⟩ := U_add u1 u2 (by omega)
    obtain ⟨n1, n2⟩ := U_add v1 v2 (by omega)
    rw [← Int.mul_add] at m2 n2
    have bm := hv_b (z := X p * S p + X q * S q) (by omega)
    have bn := hv_b (z := Y p * S p + Y q * S q) (by omega)
    have bs := int_B (M := 16) (z := S p + S q) (by omega) (by omega)
    rw [show ((16 : Int) : Rat) = 16 from rfl] at bs
    obtain ⟨Q, e3, c', d', c0, c1, c2, d0, d1, d2⟩ := quot_of (U_half m2) (U_half n2) (U_half g2) bm.1 bm.2 bn.1 bn.2 (by grind) (by grind) (sq_quarter c)
    have wm := wt_merged (q := Q) g2 (by omega) (by omega) (by omega) c0 c1 c2 d0 d1 d2
    rw [e1, Option.bind_some, e2, Option.bind_some]
    dsimp only
    rw [if_pos m1, if_pos n1, e3, Option.bind_some, if_pos (by omega)]
    rw [toldW_of (l := (l.eraseIdx q).set p ⟨Q, _⟩) (fun w hw' => ?_) (by rw [List.length_set]; omega) (by omega)]
    · exact ⟨_, rfl, rfl, .inr ⟨_, rfl, wm⟩⟩
    · rcases List.mem_or_eq_of_mem_set hw' with g | rfl
      · exact hw w (List.mem_of_mem_eraseIdx g)
      · exact ⟨wm.fin, ⟨_, U_half g2⟩⟩
theorem merge_of {l : List S0.S46} {X Y S : Nat → Int} (h : OkW l X Y S) {D : Nat → Nat → Nat} {V : Nat → Nat → Rat} (hf : Far l D V) {p q : Nat} (e : ∀ k, 40 ≤ k → N0.impl_nearest.f k l = some ((p : Int), (q : Int), D p q)) (hp : p < q) (hq : q < 4) {k : Nat} (hk : 100 ≤ k) :
    Ret (N2.impl_MergeNearest.f k l (D p q)) (fun r => r.2 = true ∧ Merged l X Y S p q r.1) ∧ fok .quo .f32 (D p q) 1073741824 = true ∧ N2.impl_MergeNearest.f k l (fop .quo .f32 (D p q) 1073741824) = some (l, true) := by
  have hl := h.len
  obtain ⟨d1, d2, d3⟩ := hf.val p q hp hq
  have fd : fin (D p q) = true := fin_of' ⟨_, d1⟩
  have ar := are_of (finW_of h) (by omega) (show 60 ≤ k by omega)
  obtain ⟨v, hv⟩ : ∃ v, v = V p q := ⟨_, rfl⟩
  rw [← hv] at d1 d2 d3
  have q5 : hu single 5 ≤ 1 / 100000 := by decide +kernel
  obtain ⟨r, c, a1, a2, a3, -⟩ := quo_val (f := single) (.inl rfl) d1 two_ (by decide) (q := v / 2) (Rat.div_mul_cancel (by decide)) (J := 5) (by unfold Bd; rw [show (2 : Rat) ^ (5 : Int) = 32 by decide +kernel]; constructor <;> grind) (by decide)
  unfold Nr at a3
  obtain ⟨g1, g2⟩ := fok_of (op := .quo) (k := .f32) a1
  refine ⟨?_, g1, ?_⟩
  · unfold N2.impl_MergeNearest.f XK2.cloneW.f XL.IsFinite.f
    rw [ar, Option.bind_some, if_pos rfl, if_pos (by omega), Option.bind_some, if_neg (by omega), e k (by omega), Option.bind_some]
    dsimp only
    rw [fd, Option.bind_some, if_pos rfl, le_self d1]
    exact merge_yes (x := 0) h hp hq hk
  · unfold N2.impl_MergeNearest.f XK2.cloneW.f XL.IsFinite.f
    rw [ar, Option.bind_some, if_pos rfl, if_pos (by omega), Option.bind_some, if_neg (by omega), e k (by omega), Option.bind_some]
    dsimp only
    rw [fd, Option.bind_some, if_pos rfl, g2]
    have no : fle .f32 (D p q) r = false := by
      unfold fle
      rw [order32 d1 a2]
      unfold FR.cmp
      rw [if_neg (by grind), if_neg (by grind)]
      rfl
    rw [no]
    obtain ⟨k', rfl⟩ : ∃ k', k = k' + 1 := ⟨k - 1, by omega⟩
    unfold N2.impl_MergeNearest.j0
    rfl
end QA
end Go.Proofs.Ytcgaccdiomcglaa
end
