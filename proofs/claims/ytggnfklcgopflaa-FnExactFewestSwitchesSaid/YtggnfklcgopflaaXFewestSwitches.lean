import Derived.Test.YtggnfklcgopflaaRows
import Derived.Test.YtggnfklcgopflaaA10
import Derived.Test.YtggnfklcgopflaaA6
import Derived.WalkKit
import Derived.ProofKit
import Derived.OpenShut
import Derived.ShutString
import Derived.ChangeOld
import Derived.Below
set_option linter.all false
/- The row of FewestSwitches: what the program's function returns is what the reference's returns, for all arguments. -/
namespace Go.Proofs.Ytggnfklcgopflaa
open Go Go.Ab Go.ChangeShapes Go.WideShapes Go.ChangeAt Go.RowKit
set_option linter.unusedVariables false

theorem fewestSwitches_own : ownKnob Try.prog.godebug = Option.none := by kernel_rfl
theorem fewestSwitches_laidOut : laidOutB Try.prog = true := by kernel_rfl

theorem fewestSwitches_walk (x0 y0 z0 : Int) (a0 : Option Addr) (len0 cap0 : Nat) (cs0 : List Cell) (x1 y1 z1 : Int) (a1 : Option Addr) (len1 cap1 : Nat) (cs1 : List Cell) (s2 : Int) (s3 : Int) (w : World) (hr0 : RowOf w a0 len0 cap0 cs0) (hr1 : RowOf w a1 len1 cap1 cs1) :
    Calls Try.prog 10 #[.agg #[.int .i64 x0, .int .i64 y0, .int .i64 z0, .slice a0 len0 cap0], .agg #[.int .i64 x1, .int .i64 y1, .int .i64 z1, .slice a1 len1 cap1], .int .i64 s2, .int .i64 s3] w fun e w' => e = .returned (.bool true) ∧ Below w.heap.size w w' := by
  obtain ⟨G0, hx0, hi0, hno0, hv0⟩ := (Inv.none w).addCells NoOwn.none hr0
  obtain ⟨G1, hx1, hi1, hno1, hv1⟩ := hi0.addCells hno0 hr1
  have hl0 := hr0.1
  have hm0 : cs0.length ≤ 9223372036854775807 := by
    obtain ⟨h1, h2, h3, _⟩ := hr0
    have : maxLen ≤ 9223372036854775807 := by unfold maxLen; omega
    omega
  have hl1 := hr1.1
  have hm1 : cs1.length ≤ 9223372036854775807 := by
    obtain ⟨h1, h2, h3, _⟩ := hr1
    have : maxLen ≤ 9223372036854775807 := by unfold maxLen; omega
    omega
  have hT0 : Tri (([] ++ [some (Blk.row (triL cs0) false 3)]) ++ [some (Blk.row (triL cs1) false 3)]) 0 0 cs0 := (Has.new (M := [])).app
  have hT1 : Tri (([] ++ [some (Blk.row (triL cs0) false 3)]) ++ [some (Blk.row (triL cs1) false 3)]) 1 0 cs1 := Has.new (M := ([] ++ [some (Blk.row (triL cs0) false 3)]))
  subst hl0
  subst hl1
  exact law_callsR (xs := [.agg #[.int .i64 x0, .int .i64 y0, .int .i64 z0, .slice a0 cs0.length cap0], .agg #[.int .i64 x1, .int .i64 y1, .int .i64 z1, .slice a1 cs1.length cap1], .int .i64 s2, .int .i64 s3]) (l_FewestSwitches hT0 hm0 hT1 hm1) hi1 hno1
    ⟨⟨[.int .i64 x0, .int .i64 y0, .int .i64 z0, .slice a0 cs0.length cap0], rfl, ⟨rfl, rfl⟩, ⟨rfl, rfl⟩, ⟨rfl, rfl⟩, (hv0.ext hx1), trivial⟩, ⟨[.int .i64 x1, .int .i64 y1, .int .i64 z1, .slice a1 cs1.length cap1], rfl, ⟨rfl, rfl⟩, ⟨rfl, rfl⟩, ⟨rfl, rfl⟩, hv1, trivial⟩, ⟨rfl, rfl⟩, ⟨rfl, rfl⟩, trivial⟩

set_option maxRecDepth 100000 in
theorem fewestSwitches_lifted (os : Os) (started : os.Started) (H : Type) (enc : TypeId × Value → H) :
    ReturnsInHanded {} Try.checked os 10 .any (Rows.fnExactFewestSwitchesSpec.pre6 enc Try.prog Try.f10 Rows.fnExactFewestSwitchesRow.domain false) (Rows.fnExactFewestSwitchesSpec.post enc Try.prog Try.f10 false true false false) := by
  refine returnsInHanded_of_change (C := Try.checked) fewestSwitches_own started (by kernel_rfl) Try.func10
    (ChangeSpec.witness6 (enc := enc) (C := Try.checked) false ⟨#[], #[.agg #[.int .i64 0, .int .i64 0, .int .i64 0, .slice none 0 0], .agg #[.int .i64 0, .int .i64 0, .int .i64 0, .slice none 0 0], .int .i64 0, .int .i64 0], []⟩ 8 (by kernel_rfl) (by kernel_rfl) (by kernel_rfl) (by kernel_rfl)) ?_
  intro W base args ds gs before hval0 hW hcnd _
  have hval : ∀ (j : Nat) t v, Try.f10.params[j]? = some t → args[j]? = some v → Value.okWide Try.prog W .any base t v := hval0
  have hW' := hW
  obtain ⟨p, q, hA0, hV, rfl, hfz, hnd⟩ := hW
  have hA : DataW.TrodAll enc Try.prog W 0 (fun _ => true) true Try.f10.params.toList args.toList ds p := hA0
  rw [Try.params10] at hA hval
  obtain ⟨v0, vs0, d0, ds0, p0, q0, hargs, rfl, rfl, h0, r0⟩ := trodAll_cons hA
  obtain ⟨v1, vs1, d1, ds1, p1, q1, rfl, rfl, rfl, h1, r1⟩ := trodAll_cons r0
  obtain ⟨v2, vs2, d2, ds2, p2, q2, rfl, rfl, rfl, h2, r2⟩ := trodAll_cons r1
  obtain ⟨v3, vs3, d3, ds3, p3, q3, rfl, rfl, rfl, h3, r3⟩ := trodAll_cons r2
  obtain ⟨rfl, rfl, rfl⟩ := trodAll_nil r3
  obtain rfl : args = #[v0, v1, v2, v3] := by cases args; simp_all
  obtain ⟨rfl, rfl⟩ := trodVars_none hV
  have k0 := h0
  have lt0 : ∀ x ∈ p0, x.block < W.heap.size := by obtain ⟨m, hm⟩ := k0; exact DataW.trod_lt m _ _ _ hm
  obtain ⟨c00, c01, c02, c03, u00, u01, u02, u03, n0, rfl, e01, e02, g00, g01, g02, g03⟩ := Go.Joins.open_agg4 Try.underlying76 (by kernel_rfl) (by kernel_rfl) (hval 0 76 v0 rfl rfl) h0
  obtain ⟨x0, rfl⟩ : ∃ x, c00 = .int .i64 x := by
    obtain ⟨z, hz, _⟩ := DataW.trod_int Try.underlying3 g00; exact ⟨z, by injection hz⟩
  obtain ⟨y0, rfl⟩ : ∃ x, c01 = .int .i64 x := by
    obtain ⟨z, hz, _⟩ := DataW.trod_int Try.underlying3 g01; exact ⟨z, by injection hz⟩
  obtain ⟨z0, rfl⟩ : ∃ x, c02 = .int .i64 x := by
    obtain ⟨z, hz, _⟩ := DataW.trod_int Try.underlying3 g02; exact ⟨z, by injection hz⟩
  obtain ⟨a0, len0, cap0, cs0, hcs0, hrow0⟩ := open_cells (ts := 24) (ta := 37) (ti := 3) Try.underlying24 Try.underlying37 Try.underlying3 (by kernel_rfl) (by kernel_rfl) g03
  simp only [List.cons.injEq, and_true] at hcs0
  subst hcs0
  have k1 := h1
  have lt1 : ∀ x ∈ p1, x.block < W.heap.size := by obtain ⟨m, hm⟩ := k1; exact DataW.trod_lt m _ _ _ hm
  obtain ⟨c10, c11, c12, c13, u10, u11, u12, u13, n1, rfl, e11, e12, g10, g11, g12, g13⟩ := Go.Joins.open_agg4 Try.underlying76 (by kernel_rfl) (by kernel_rfl) (hval 1 76 v1 rfl rfl) h1
  obtain ⟨x1, rfl⟩ : ∃ x, c10 = .int .i64 x := by
    obtain ⟨z, hz, _⟩ := DataW.trod_int Try.underlying3 g10; exact ⟨z, by injection hz⟩
  obtain ⟨y1, rfl⟩ : ∃ x, c11 = .int .i64 x := by
    obtain ⟨z, hz, _⟩ := DataW.trod_int Try.underlying3 g11; exact ⟨z, by injection hz⟩
  obtain ⟨z1, rfl⟩ : ∃ x, c12 = .int .i64 x := by
    obtain ⟨z, hz, _⟩ := DataW.trod_int Try.underlying3 g12; exact ⟨z, by injection hz⟩
  obtain ⟨a1, len1, cap1, cs1, hcs1, hrow1⟩ := open_cells (ts := 24) (ta := 37) (ti := 3) Try.underlying24 Try.underlying37 Try.underlying3 (by kernel_rfl) (by kernel_rfl) g13
  simp only [List.cons.injEq, and_true] at hcs1
  subst hcs1
  obtain ⟨s2, rfl, rfl, rfl, w2⟩ := open_int Try.underlying3 (hval 2 3 v2 rfl rfl) h2
  obtain ⟨s3, rfl, rfl, rfl, w3⟩ := open_int Try.underlying3 (hval 3 3 v3 rfl rfl) h3
  clear hA0 hval0
  refine (fewestSwitches_walk x0 y0 z0 a0 len0 cap0 cs0 x1 y1 z1 a1 len1 cap1 cs1 s2 s3 W hrow0 hrow1).mono fun e W' ⟨he, bel⟩ => ?_
  subst he
  exact ⟨_, rfl, _, _, _, [], _, [], hW', trodAll_mk1 (shut_bool Try.underlying4 _), (trodAll_cons_mk (Below.trod fewestSwitches_laidOut (by kernel_rfl) (of_decide_eq_true (by kernel_rfl)) k0 bel lt0) (trodAll_cons_mk (Below.trod fewestSwitches_laidOut (by kernel_rfl) (of_decide_eq_true (by kernel_rfl)) k1 bel lt1) (trodAll_cons_mk (shut_int Try.underlying3 w2) (trodAll_cons_mk (shut_int Try.underlying3 w3) trodAll_mk0)))), rfl, bel.frame _, fun h => by cases h⟩

theorem fewestSwitches_over : Rows.fnExactFewestSwitchesRow.holds Try.pinned (OpenSpec.ofChange Rows.fnExactFewestSwitchesSpec) :=
  OpenClaim.holds_of_wide 10 Try.f10 rfl rfl rfl rfl rfl rfl rfl ⟨rfl, rfl, rfl, rfl, rfl⟩ rfl rfl rfl rfl rfl (by kernel_rfl) Try.func10 (by kernel_rfl)
    (of_decide_eq_true (by kernel_rfl)) (by unfold Func.isWrapper; first | (rw [if_pos (by decide +kernel)]; kernel_rfl) | (rw [if_neg (by decide +kernel)]; exact ⟨rfl, rfl⟩))
    (fun os started H enc _ => fewestSwitches_lifted os started H enc)

theorem fewestSwitches_proved : Rows.FnExactFewestSwitchesSaid := fewestSwitches_over
#print axioms fewestSwitches_proved
end Go.Proofs.Ytggnfklcgopflaa
