import Derived.Test.YtofjblebffflhaaRows
import Derived.Test.YtofjblebffflhaaA6
import Derived.WalkKit
import Derived.ProofKit
import Derived.OpenShut
import Derived.ShutString
import Derived.ChangeOld
import Derived.Below
set_option linter.all false
/- The row of CountRegions. -/
namespace Go.Proofs.Ytofjblebffflhaa
open Go Go.Ab Go.ChangeShapes Go.WideShapes Go.ChangeAt Go.RowKit
set_option linter.unusedVariables false

theorem countRegions_own : ownKnob Try.prog.godebug = Option.none := by kernel_rfl
theorem countRegions_laidOut : laidOutB Try.prog = true := by kernel_rfl

theorem countRegions_walk (x y z s : Int) (a : Option Addr) (len cap : Nat) (cs : List Cell) (w : World) (h : RowOf w a len cap cs) :
    Calls Try.prog 5 #[.agg #[.int .i64 x, .int .i64 y, .int .i64 z, .slice a len cap], .int .i64 s] w fun e w' => e = .returned (.bool true) ∧ Below w.heap.size w w' := by
  obtain ⟨G, _, hi, hno, hv⟩ := (Inv.none w).addCells NoOwn.none h
  have hl := h.1
  have hm : cs.length ≤ 9223372036854775807 := by
    obtain ⟨h1, h2, h3, _⟩ := h
    have : maxLen ≤ 9223372036854775807 := by unfold maxLen; omega
    omega
  have hT : Tri ([] ++ [some (Blk.row (triL cs) false 3)]) 0 0 cs := Has.new (M := [])
  subst hl
  exact law_calls (xs := [.agg #[.int .i64 x, .int .i64 y, .int .i64 z, .slice a cs.length cap], .int .i64 s]) (l_CountRegions (x := x) (y := y) (z := z) (s := s) hT hm) hi hno
    ⟨⟨[.int .i64 x, .int .i64 y, .int .i64 z, .slice a cs.length cap], rfl, ⟨rfl, rfl⟩, ⟨rfl, rfl⟩, ⟨rfl, rfl⟩, hv, trivial⟩, ⟨rfl, rfl⟩, trivial⟩

set_option maxRecDepth 100000 in
theorem countRegions_lifted (os : Os) (started : os.Started) (H : Type) (enc : TypeId × Value → H) :
    ReturnsInHanded {} Try.checked os 5 .any (Rows.fnExactCountRegionsSpec.pre6 enc Try.prog Try.f5 Rows.fnExactCountRegionsRow.domain false) (Rows.fnExactCountRegionsSpec.post enc Try.prog Try.f5 false true false false) := by
  refine returnsInHanded_of_change (C := Try.checked) countRegions_own started (by kernel_rfl) Try.func5
    (ChangeSpec.witness6 (enc := enc) (C := Try.checked) false ⟨#[], #[.agg #[.int .i64 0, .int .i64 0, .int .i64 0, .slice none 0 0], .int .i64 0], []⟩ 8 (by kernel_rfl) (by kernel_rfl) (by kernel_rfl) (by kernel_rfl)) ?_
  intro W base args ds gs before hval0 hW hcnd _
  have hval : ∀ (j : Nat) t v, Try.f5.params[j]? = some t → args[j]? = some v → Value.okWide Try.prog W .any base t v := hval0
  have hW' := hW
  obtain ⟨p, q, hA0, hV, rfl, hfz, hnd⟩ := hW
  have hA : DataW.TrodAll enc Try.prog W 0 (fun _ => true) true Try.f5.params.toList args.toList ds p := hA0
  rw [Try.params5] at hA hval
  obtain ⟨v0, vs0, d0, ds0, p0, q0, hargs, rfl, rfl, h0, r0⟩ := trodAll_cons hA
  obtain ⟨v1, vs1, d1, ds1, p1, q1, rfl, rfl, rfl, h1, r1⟩ := trodAll_cons r0
  obtain ⟨rfl, rfl, rfl⟩ := trodAll_nil r1
  obtain rfl : args = #[v0, v1] := by cases args; simp_all
  obtain ⟨rfl, rfl⟩ := trodVars_none hV
  have k0 := h0
  have lt0 : ∀ x ∈ p0, x.block < W.heap.size := by obtain ⟨m, hm⟩ := k0; exact DataW.trod_lt m _ _ _ hm
  obtain ⟨c0, c1, c2, c3, y0, y1, y2, y3, n, rfl, e1, e2, g0, g1, g2, g3⟩ := Go.Joins.open_agg4 Try.underlying24 (by kernel_rfl) (by kernel_rfl) (hval 0 24 v0 rfl rfl) h0
  obtain ⟨x, rfl⟩ : ∃ x, c0 = .int .i64 x := by
    obtain ⟨z, hz, _⟩ := DataW.trod_int Try.underlying3 g0; exact ⟨z, by injection hz⟩
  obtain ⟨y, rfl⟩ : ∃ x, c1 = .int .i64 x := by
    obtain ⟨z, hz, _⟩ := DataW.trod_int Try.underlying3 g1; exact ⟨z, by injection hz⟩
  obtain ⟨z, rfl⟩ : ∃ x, c2 = .int .i64 x := by
    obtain ⟨z, hz, _⟩ := DataW.trod_int Try.underlying3 g2; exact ⟨z, by injection hz⟩
  obtain ⟨a, len, cap, cs, hcs, hrow⟩ := open_cells (ts := 22) (ta := 100) (ti := 3) Try.underlying22 Try.underlying100 Try.underlying3 (by kernel_rfl) (by kernel_rfl) g3
  simp only [List.cons.injEq, and_true] at hcs
  subst hcs
  obtain ⟨s, rfl, rfl, rfl, w1⟩ := open_int Try.underlying3 (hval 1 3 v1 rfl rfl) h1
  clear hA0 hval0
  refine (countRegions_walk x y z s a len cap cs W hrow).mono fun e W' ⟨he, bel⟩ => ?_
  subst he
  exact ⟨_, rfl, _, _, _, [], _, [], hW', trodAll_mk1 (shut_bool Try.underlying4 _), (trodAll_cons_mk (Below.trod countRegions_laidOut (by kernel_rfl) (of_decide_eq_true (by kernel_rfl)) k0 bel lt0) (trodAll_cons_mk (shut_int Try.underlying3 w1) trodAll_mk0)), rfl, bel.frame _, fun h => by cases h⟩

theorem countRegions_over : Rows.fnExactCountRegionsRow.holds Try.pinned (OpenSpec.ofChange Rows.fnExactCountRegionsSpec) :=
  OpenClaim.holds_of_wide 5 Try.f5 rfl rfl rfl rfl rfl rfl rfl ⟨rfl, rfl, rfl, rfl, rfl⟩ rfl rfl rfl rfl rfl (by kernel_rfl) Try.func5 (by kernel_rfl)
    (of_decide_eq_true (by kernel_rfl)) (by unfold Func.isWrapper; first | (rw [if_pos (by decide +kernel)]; kernel_rfl) | (rw [if_neg (by decide +kernel)]; exact ⟨rfl, rfl⟩))
    (fun os started H enc _ => countRegions_lifted os started H enc)

theorem countRegions_proved : Rows.FnExactCountRegionsSaid := countRegions_over
#print axioms countRegions_proved
end Go.Proofs.Ytofjblebffflhaa
