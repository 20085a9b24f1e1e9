import Derived.Test.YtjndofbhdogblaaRows
import Derived.Test.YtjndofbhdogblaaA9
import Derived.Test.YtjndofbhdogblaaA5
import Derived.WalkKit
import Derived.ProofKit
import Derived.OpenShut
import Derived.ShutString
import Derived.ChangeOld
import Derived.Below
set_option linter.all false
/- The row of FirstPacking: what the program's function returns is what the reference's returns, for all arguments. -/
namespace Go.Proofs.Ytjndofbhdogblaa
open Go Go.Ab Go.ChangeShapes Go.WideShapes Go.ChangeAt Go.RowKit
set_option linter.unusedVariables false

theorem firstPacking_own : ownKnob Try.prog.godebug = Option.none := by kernel_rfl
theorem firstPacking_laidOut : laidOutB Try.prog = true := by kernel_rfl

theorem firstPacking_walk (s0_0 : Int) (s0_1 : Int) (s0_2 : Int) (a0_3 : Option Addr) (len0_3 cap0_3 : Nat) (l0_3 : List Cell) (a1_0 : Option Addr) (len1_0 cap1_0 : Nat) (l1_0 : List (List Cell)) (w : World) (hr0_3 : RowOf w a0_3 len0_3 cap0_3 l0_3) (hr1_0 : RowOfSS w a1_0 len1_0 cap1_0 l1_0) :
    Calls Try.prog 7 #[.agg #[.int .i64 s0_0, .int .i64 s0_1, .int .i64 s0_2, .slice a0_3 len0_3 cap0_3], .slice a1_0 len1_0 cap1_0] w fun e w' => e = .returned (.bool true) ∧ Below w.heap.size w w' := by
  obtain ⟨G0_3, N0_3, u0_3, hx0_3, hi0_3, hno0_3, hp0_3, hv0_3, hT0_3⟩ := (Inv.none w).addCells' NoOwn.none hr0_3
  obtain ⟨G1_0, N1_0, u1_0, hx1_0, hi1_0, hno1_0, hp1_0, hv1_0, hT1_0⟩ := hi0_3.addSS' hno0_3 hr1_0
  have hl0_3 := hr0_3.1
  have hm0_3 := hr0_3.le
  have hl1_0 := hr1_0.1
  have hm1_0 := hr1_0.le
  subst hl0_3
  subst hl1_0
  exact law_callsR (xs := [.agg #[.int .i64 s0_0, .int .i64 s0_1, .int .i64 s0_2, .slice a0_3 l0_3.length cap0_3], .slice a1_0 l1_0.length cap1_0]) (l_FirstPacking (hT0_3.pre hp1_0) hm0_3 hT1_0 hm1_0) hi1_0 hno1_0
    ⟨⟨[.int .i64 s0_0, .int .i64 s0_1, .int .i64 s0_2, .slice a0_3 l0_3.length cap0_3], rfl, ⟨rfl, rfl⟩, ⟨rfl, rfl⟩, ⟨rfl, rfl⟩, (hv0_3.ext hx1_0), trivial⟩, hv1_0, trivial⟩

set_option maxRecDepth 100000 in
theorem firstPacking_lifted (os : Os) (started : os.Started) (H : Type) (enc : TypeId × Value → H) :
    ReturnsInHanded {} Try.checked os 7 .any (Rows.fnExactFirstPackingSpec.pre6 enc Try.prog Try.f7 Rows.fnExactFirstPackingRow.domain false) (Rows.fnExactFirstPackingSpec.post enc Try.prog Try.f7 false true false false) := by
  refine returnsInHanded_of_change (C := Try.checked) firstPacking_own started (by kernel_rfl) Try.func7
    (ChangeSpec.witness6 (enc := enc) (C := Try.checked) false ⟨#[], #[.agg #[.int .i64 0, .int .i64 0, .int .i64 0, .slice none 0 0], .slice none 0 0], []⟩ 8 (by kernel_rfl) (by kernel_rfl) (by kernel_rfl) (by kernel_rfl)) ?_
  intro W base args ds gs before hval0 hW hcnd _
  have hval : ∀ (j : Nat) t v, Try.f7.params[j]? = some t → args[j]? = some v → Value.okWide Try.prog W .any base t v := hval0
  have hW' := hW
  obtain ⟨p, q, hA0, hV, rfl, hfz, hnd⟩ := hW
  have hA : DataW.TrodAll enc Try.prog W 0 (fun _ => true) true Try.f7.params.toList args.toList ds p := hA0
  rw [Try.params7] at hA hval
  obtain ⟨v0, vs0, d0, ds0, p0, q0, hargs, rfl, rfl, h0, r0⟩ := trodAll_cons hA
  obtain ⟨v1, vs1, d1, ds1, p1, q1, rfl, rfl, rfl, h1, r1⟩ := trodAll_cons r0
  obtain ⟨rfl, rfl, rfl⟩ := trodAll_nil r1
  obtain rfl : args = #[v0, v1] := by cases args; simp_all
  obtain ⟨rfl, rfl⟩ := trodVars_none hV
  have k0 := h0
  have lt0 : ∀ x ∈ p0, x.block < W.heap.size := by obtain ⟨m, hm⟩ := k0; exact DataW.trod_lt m _ _ _ hm
  obtain ⟨c0_0, c0_1, c0_2, c0_3, u0_0, u0_1, u0_2, u0_3, n0, rfl, e0_1, e0_2, g0_0, g0_1, g0_2, g0_3⟩ := Go.Joins.open_agg4 Try.underlying24 (by kernel_rfl) (by kernel_rfl) (hval 0 24 v0 rfl rfl) h0
  obtain ⟨s0_0, rfl⟩ : ∃ x, c0_0 = .int .i64 x := by
    obtain ⟨z, hz, _⟩ := DataW.trod_int Try.underlying3 g0_0; exact ⟨z, by injection hz⟩
  obtain ⟨s0_1, rfl⟩ : ∃ x, c0_1 = .int .i64 x := by
    obtain ⟨z, hz, _⟩ := DataW.trod_int Try.underlying3 g0_1; exact ⟨z, by injection hz⟩
  obtain ⟨s0_2, rfl⟩ : ∃ x, c0_2 = .int .i64 x := by
    obtain ⟨z, hz, _⟩ := DataW.trod_int Try.underlying3 g0_2; exact ⟨z, by injection hz⟩
  obtain ⟨a0_3, len0_3, cap0_3, l0_3, hcs0_3, hrow0_3⟩ := open_cells (ts := 22) (ta := 72) (ti := 3) Try.underlying22 Try.underlying72 Try.underlying3 (by kernel_rfl) (by kernel_rfl) g0_3
  simp only [List.cons.injEq, and_true] at hcs0_3
  subst hcs0_3
  have k1 := h1
  have lt1 : ∀ x ∈ p1, x.block < W.heap.size := by obtain ⟨m, hm⟩ := k1; exact DataW.trod_lt m _ _ _ hm
  obtain ⟨a1_0, len1_0, cap1_0, rfl⟩ := okWide_slice Try.underlying25 (hval 1 25 v1 rfl rfl)
  obtain ⟨n1_0, g1_0⟩ := h1
  obtain ⟨b1_0, blen1_0, bcap1_0, l1_0, hcs1_0, hrow1_0⟩ := open_cellsS (tss := 25) (ts := 22) (ta := 72) (ti := 3) Try.underlying25 Try.underlying22 Try.underlying72 Try.underlying3 (by kernel_rfl) (by kernel_rfl) (by kernel_rfl) g1_0
  simp only [Value.cells, List.cons.injEq, and_true, Value.slice.injEq] at hcs1_0
  obtain ⟨rfl, rfl, rfl⟩ := hcs1_0
  clear hA0 hval0
  refine (firstPacking_walk s0_0 s0_1 s0_2 a0_3 len0_3 cap0_3 l0_3 a1_0 len1_0 cap1_0 l1_0 W hrow0_3 hrow1_0).mono fun e W' ⟨he, bel⟩ => ?_
  subst he
  exact ⟨_, rfl, _, _, _, [], _, [], hW', trodAll_mk1 (shut_bool Try.underlying4 _), (trodAll_cons_mk (Below.trod firstPacking_laidOut (by kernel_rfl) (of_decide_eq_true (by kernel_rfl)) k0 bel lt0) (trodAll_cons_mk (Below.trod firstPacking_laidOut (by kernel_rfl) (of_decide_eq_true (by kernel_rfl)) k1 bel lt1) trodAll_mk0)), rfl, bel.frame _, fun h => by cases h⟩

theorem firstPacking_over : Rows.fnExactFirstPackingRow.holds Try.pinned (OpenSpec.ofChange Rows.fnExactFirstPackingSpec) :=
  OpenClaim.holds_of_wide 7 Try.f7 rfl rfl rfl rfl rfl rfl rfl ⟨rfl, rfl, rfl, rfl, rfl⟩ rfl rfl rfl rfl rfl (by kernel_rfl) Try.func7 (by kernel_rfl)
    (of_decide_eq_true (by kernel_rfl)) (by unfold Func.isWrapper; first | (rw [if_pos (by decide +kernel)]; kernel_rfl) | (rw [if_neg (by decide +kernel)]; exact ⟨rfl, rfl⟩))
    (fun os started H enc _ => firstPacking_lifted os started H enc)

theorem firstPacking_proved : Rows.FnExactFirstPackingSaid := firstPacking_over
#print axioms firstPacking_proved
end Go.Proofs.Ytjndofbhdogblaa
