import Derived.Test.YtggnfklcgopflaaRows
import Derived.Test.YtggnfklcgopflaaA10
import Derived.Test.YtggnfklcgopflaaA7
import Derived.WalkKit
import Derived.ProofKit
import Derived.OpenShut
import Derived.ShutString
import Derived.ChangeOld
import Derived.Below
set_option linter.all false
/- The row of FirstAlike: what the program's function returns is what the reference's returns, for all arguments. -/
namespace Go.Proofs.Ytggnfklcgopflaa
open Go Go.Ab Go.ChangeShapes Go.WideShapes Go.ChangeAt Go.RowKit
set_option linter.unusedVariables false

theorem firstAlike_own : ownKnob Try.prog.godebug = Option.none := by kernel_rfl
theorem firstAlike_laidOut : laidOutB Try.prog = true := by kernel_rfl

theorem firstAlike_walk (x0 y0 z0 : Int) (a0 : Option Addr) (len0 cap0 : Nat) (cs0 : List Cell) (s1 : Int) (s2 : Int) (w : World) (hr0 : RowOf w a0 len0 cap0 cs0) :
    Calls Try.prog 9 #[.agg #[.int .i64 x0, .int .i64 y0, .int .i64 z0, .slice a0 len0 cap0], .int .i64 s1, .int .i64 s2] w fun e w' => e = .returned (.bool true) ∧ Below w.heap.size w w' := by
  obtain ⟨G0, hx0, hi0, hno0, hv0⟩ := (Inv.none w).addCells NoOwn.none hr0
  have hl0 := hr0.1
  have hm0 : cs0.length ≤ 9223372036854775807 := by
    obtain ⟨h1, h2, h3, _⟩ := hr0
    have : maxLen ≤ 9223372036854775807 := by unfold maxLen; omega
    omega
  have hT0 : Tri ([] ++ [some (Blk.row (triL cs0) false 3)]) 0 0 cs0 := Has.new (M := [])
  subst hl0
  exact law_callsR (xs := [.agg #[.int .i64 x0, .int .i64 y0, .int .i64 z0, .slice a0 cs0.length cap0], .int .i64 s1, .int .i64 s2]) (l_FirstAlike hT0 hm0) hi0 hno0
    ⟨⟨[.int .i64 x0, .int .i64 y0, .int .i64 z0, .slice a0 cs0.length cap0], rfl, ⟨rfl, rfl⟩, ⟨rfl, rfl⟩, ⟨rfl, rfl⟩, hv0, trivial⟩, ⟨rfl, rfl⟩, ⟨rfl, rfl⟩, trivial⟩

set_option maxRecDepth 100000 in
theorem firstAlike_lifted (os : Os) (started : os.Started) (H : Type) (enc : TypeId × Value → H) :
    ReturnsInHanded {} Try.checked os 9 .any (Rows.fnExactFirstAlikeSpec.pre6 enc Try.prog Try.f9 Rows.fnExactFirstAlikeRow.domain false) (Rows.fnExactFirstAlikeSpec.post enc Try.prog Try.f9 false true false false) := by
  refine returnsInHanded_of_change (C := Try.checked) firstAlike_own started (by kernel_rfl) Try.func9
    (ChangeSpec.witness6 (enc := enc) (C := Try.checked) false ⟨#[], #[.agg #[.int .i64 0, .int .i64 0, .int .i64 0, .slice none 0 0], .int .i64 0, .int .i64 0], []⟩ 8 (by kernel_rfl) (by kernel_rfl) (by kernel_rfl) (by kernel_rfl)) ?_
  intro W base args ds gs before hval0 hW hcnd _
  have hval : ∀ (j : Nat) t v, Try.f9.params[j]? = some t → args[j]? = some v → Value.okWide Try.prog W .any base t v := hval0
  have hW' := hW
  obtain ⟨p, q, hA0, hV, rfl, hfz, hnd⟩ := hW
  have hA : DataW.TrodAll enc Try.prog W 0 (fun _ => true) true Try.f9.params.toList args.toList ds p := hA0
  rw [Try.params9] at hA hval
  obtain ⟨v0, vs0, d0, ds0, p0, q0, hargs, rfl, rfl, h0, r0⟩ := trodAll_cons hA
  obtain ⟨v1, vs1, d1, ds1, p1, q1, rfl, rfl, rfl, h1, r1⟩ := trodAll_cons r0
  obtain ⟨v2, vs2, d2, ds2, p2, q2, rfl, rfl, rfl, h2, r2⟩ := trodAll_cons r1
  obtain ⟨rfl, rfl, rfl⟩ := trodAll_nil r2
  obtain rfl : args = #[v0, v1, v2] := by cases args; simp_all
  obtain ⟨rfl, rfl⟩ := trodVars_none hV
  have k0 := h0
  have lt0 : ∀ x ∈ p0, x.block < W.heap.size := by obtain ⟨m, hm⟩ := k0; exact DataW.trod_lt m _ _ _ hm
  obtain ⟨c00, c01, c02, c03, u00, u01, u02, u03, n0, rfl, e01, e02, g00, g01, g02, g03⟩ := Go.Joins.open_agg4 Try.underlying76 (by kernel_rfl) (by kernel_rfl) (hval 0 76 v0 rfl rfl) h0
  obtain ⟨x0, rfl⟩ : ∃ x, c00 = .int .i64 x := by
    obtain ⟨z, hz, _⟩ := DataW.trod_int Try.underlying3 g00; exact ⟨z, by injection hz⟩
  obtain ⟨y0, rfl⟩ : ∃ x, c01 = .int .i64 x := by
    obtain ⟨z, hz, _⟩ := DataW.trod_int Try.underlying3 g01; exact ⟨z, by injection hz⟩
  obtain ⟨z0, rfl⟩ : ∃ x, c02 = .int .i64 x := by
    obtain ⟨z, hz, _⟩ := DataW.trod_int Try.underlying3 g02; exact ⟨z, by injection hz⟩
  obtain ⟨a0, len0, cap0, cs0, hcs0, hrow0⟩ := open_cells (ts := 24) (ta := 37) (ti := 3) Try.underlying24 Try.underlying37 Try.underlying3 (by kernel_rfl) (by kernel_rfl) g03
  simp only [List.cons.injEq, and_true] at hcs0
  subst hcs0
  obtain ⟨s1, rfl, rfl, rfl, w1⟩ := open_int Try.underlying3 (hval 1 3 v1 rfl rfl) h1
  obtain ⟨s2, rfl, rfl, rfl, w2⟩ := open_int Try.underlying3 (hval 2 3 v2 rfl rfl) h2
  clear hA0 hval0
  refine (firstAlike_walk x0 y0 z0 a0 len0 cap0 cs0 s1 s2 W hrow0).mono fun e W' ⟨he, bel⟩ => ?_
  subst he
  exact ⟨_, rfl, _, _, _, [], _, [], hW', trodAll_mk1 (shut_bool Try.underlying4 _), (trodAll_cons_mk (Below.trod firstAlike_laidOut (by kernel_rfl) (of_decide_eq_true (by kernel_rfl)) k0 bel lt0) (trodAll_cons_mk (shut_int Try.underlying3 w1) (trodAll_cons_mk (shut_int Try.underlying3 w2) trodAll_mk0))), rfl, bel.frame _, fun h => by cases h⟩

theorem firstAlike_over : Rows.fnExactFirstAlikeRow.holds Try.pinned (OpenSpec.ofChange Rows.fnExactFirstAlikeSpec) :=
  OpenClaim.holds_of_wide 9 Try.f9 rfl rfl rfl rfl rfl rfl rfl ⟨rfl, rfl, rfl, rfl, rfl⟩ rfl rfl rfl rfl rfl (by kernel_rfl) Try.func9 (by kernel_rfl)
    (of_decide_eq_true (by kernel_rfl)) (by unfold Func.isWrapper; first | (rw [if_pos (by decide +kernel)]; kernel_rfl) | (rw [if_neg (by decide +kernel)]; exact ⟨rfl, rfl⟩))
    (fun os started H enc _ => firstAlike_lifted os started H enc)

theorem firstAlike_proved : Rows.FnExactFirstAlikeSaid := firstAlike_over
#print axioms firstAlike_proved
end Go.Proofs.Ytggnfklcgopflaa
