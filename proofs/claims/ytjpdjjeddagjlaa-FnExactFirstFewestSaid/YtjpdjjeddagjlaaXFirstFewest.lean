import Derived.Test.YtjpdjjeddagjlaaRows
import Derived.Test.YtjpdjjeddagjlaaA9
import Derived.WalkKit
import Derived.ProofKit
import Derived.OpenShut
import Derived.ShutString
import Derived.ChangeOld
import Derived.Below
set_option linter.all false
/- The row of FirstFewest: what the program's function returns is what the reference's returns, for all arguments. -/
namespace Go.Proofs.Ytjpdjjeddagjlaa
open Go Go.Ab Go.ChangeShapes Go.WideShapes Go.ChangeAt Go.RowKit
set_option linter.unusedVariables false

theorem firstFewest_own : ownKnob Try.prog.godebug = Option.none := by kernel_rfl
theorem firstFewest_laidOut : laidOutB Try.prog = true := by kernel_rfl

theorem firstFewest_walk (s0_0 : Int) (s0_1 : Int) (s0_2 : Int) (a0_3 : Option Addr) (len0_3 cap0_3 : Nat) (l0_3 : List Int) (a0_4 : Option Addr) (len0_4 cap0_4 : Nat) (l0_4 : List Int) (a0_5 : Option Addr) (len0_5 cap0_5 : Nat) (l0_5 : List Int) (w : World) (hr0_3 : RowOfI w a0_3 len0_3 cap0_3 l0_3) (hr0_4 : RowOfI w a0_4 len0_4 cap0_4 l0_4) (hr0_5 : RowOfI w a0_5 len0_5 cap0_5 l0_5) :
    Calls Try.prog 8 #[.agg #[.int .i64 s0_0, .int .i64 s0_1, .int .i64 s0_2, .slice a0_3 len0_3 cap0_3, .slice a0_4 len0_4 cap0_4, .slice a0_5 len0_5 cap0_5]] w fun e w' => e = .returned (.bool true) ∧ Below w.heap.size w w' := by
  obtain ⟨G0_3, hx0_3, hi0_3, hno0_3, hv0_3⟩ := (Inv.none w).addInts NoOwn.none hr0_3
  obtain ⟨G0_4, hx0_4, hi0_4, hno0_4, hv0_4⟩ := hi0_3.addInts hno0_3 hr0_4
  obtain ⟨G0_5, hx0_5, hi0_5, hno0_5, hv0_5⟩ := hi0_4.addInts hno0_4 hr0_5
  have hl0_3 := hr0_3.1
  have hm0_3 : l0_3.length ≤ 9223372036854775807 := by
    obtain ⟨h1, h2, h3, _⟩ := hr0_3
    have : maxLen ≤ 9223372036854775807 := by unfold maxLen; omega
    omega
  have hl0_4 := hr0_4.1
  have hm0_4 : l0_4.length ≤ 9223372036854775807 := by
    obtain ⟨h1, h2, h3, _⟩ := hr0_4
    have : maxLen ≤ 9223372036854775807 := by unfold maxLen; omega
    omega
  have hl0_5 := hr0_5.1
  have hm0_5 : l0_5.length ≤ 9223372036854775807 := by
    obtain ⟨h1, h2, h3, _⟩ := hr0_5
    have : maxLen ≤ 9223372036854775807 := by unfold maxLen; omega
    omega
  have hT0_3 : Ints ((([] ++ [some (Blk.row (intL l0_3) false 1)]) ++ [some (Blk.row (intL l0_4) false 1)]) ++ [some (Blk.row (intL l0_5) false 1)]) 0 0 l0_3 := ((Has.new (M := [])).app).app
  have hT0_4 : Ints ((([] ++ [some (Blk.row (intL l0_3) false 1)]) ++ [some (Blk.row (intL l0_4) false 1)]) ++ [some (Blk.row (intL l0_5) false 1)]) 1 0 l0_4 := (Has.new (M := ([] ++ [some (Blk.row (intL l0_3) false 1)]))).app
  have hT0_5 : Ints ((([] ++ [some (Blk.row (intL l0_3) false 1)]) ++ [some (Blk.row (intL l0_4) false 1)]) ++ [some (Blk.row (intL l0_5) false 1)]) 2 0 l0_5 := Has.new (M := (([] ++ [some (Blk.row (intL l0_3) false 1)]) ++ [some (Blk.row (intL l0_4) false 1)]))
  subst hl0_3
  subst hl0_4
  subst hl0_5
  exact law_callsR (xs := [.agg #[.int .i64 s0_0, .int .i64 s0_1, .int .i64 s0_2, .slice a0_3 l0_3.length cap0_3, .slice a0_4 l0_4.length cap0_4, .slice a0_5 l0_5.length cap0_5]]) (l_FirstFewest hT0_3 hm0_3 hT0_4 hm0_4 hT0_5 hm0_5) hi0_5 hno0_5
    ⟨⟨[.int .i64 s0_0, .int .i64 s0_1, .int .i64 s0_2, .slice a0_3 l0_3.length cap0_3, .slice a0_4 l0_4.length cap0_4, .slice a0_5 l0_5.length cap0_5], rfl, ⟨rfl, rfl⟩, ⟨rfl, rfl⟩, ⟨rfl, rfl⟩, ((hv0_3.ext hx0_4).ext hx0_5), (hv0_4.ext hx0_5), hv0_5, trivial⟩, trivial⟩

set_option maxRecDepth 100000 in
theorem firstFewest_lifted (os : Os) (started : os.Started) (H : Type) (enc : TypeId × Value → H) :
    ReturnsInHanded {} Try.checked os 8 .any (Rows.fnExactFirstFewestSpec.pre6 enc Try.prog Try.f8 Rows.fnExactFirstFewestRow.domain false) (Rows.fnExactFirstFewestSpec.post enc Try.prog Try.f8 false true false false) := by
  refine returnsInHanded_of_change (C := Try.checked) firstFewest_own started (by kernel_rfl) Try.func8
    (ChangeSpec.witness6 (enc := enc) (C := Try.checked) false ⟨#[], #[.agg #[.int .i64 0, .int .i64 0, .int .i64 0, .slice none 0 0, .slice none 0 0, .slice none 0 0]], []⟩ 8 (by kernel_rfl) (by kernel_rfl) (by kernel_rfl) (by kernel_rfl)) ?_
  intro W base args ds gs before hval0 hW hcnd _
  have hval : ∀ (j : Nat) t v, Try.f8.params[j]? = some t → args[j]? = some v → Value.okWide Try.prog W .any base t v := hval0
  have hW' := hW
  obtain ⟨p, q, hA0, hV, rfl, hfz, hnd⟩ := hW
  have hA : DataW.TrodAll enc Try.prog W 0 (fun _ => true) true Try.f8.params.toList args.toList ds p := hA0
  rw [Try.params8] at hA hval
  obtain ⟨v0, vs0, d0, ds0, p0, q0, hargs, rfl, rfl, h0, r0⟩ := trodAll_cons hA
  obtain ⟨rfl, rfl, rfl⟩ := trodAll_nil r0
  obtain rfl : args = #[v0] := by cases args; simp_all
  obtain ⟨rfl, rfl⟩ := trodVars_none hV
  have k0 := h0
  have lt0 : ∀ x ∈ p0, x.block < W.heap.size := by obtain ⟨m, hm⟩ := k0; exact DataW.trod_lt m _ _ _ hm
  obtain ⟨c0_0, c0_1, c0_2, c0_3, c0_4, c0_5, u0_0, u0_1, u0_2, u0_3, u0_4, u0_5, n0, rfl, e0_1, e0_2, g0_0, g0_1, g0_2, g0_3, g0_4, g0_5⟩ := Go.Ab.open_agg6 Try.underlying24 (by kernel_rfl) (by kernel_rfl) (hval 0 24 v0 rfl rfl) h0
  obtain ⟨s0_0, rfl⟩ : ∃ x, c0_0 = .int .i64 x := by
    obtain ⟨z, hz, _⟩ := DataW.trod_int Try.underlying3 g0_0; exact ⟨z, by injection hz⟩
  obtain ⟨s0_1, rfl⟩ : ∃ x, c0_1 = .int .i64 x := by
    obtain ⟨z, hz, _⟩ := DataW.trod_int Try.underlying3 g0_1; exact ⟨z, by injection hz⟩
  obtain ⟨s0_2, rfl⟩ : ∃ x, c0_2 = .int .i64 x := by
    obtain ⟨z, hz, _⟩ := DataW.trod_int Try.underlying3 g0_2; exact ⟨z, by injection hz⟩
  obtain ⟨a0_3, len0_3, cap0_3, l0_3, hcs0_3, hrow0_3⟩ := open_intsI (ts := 22) (ti := 3) Try.underlying22 Try.underlying3 (by kernel_rfl) g0_3
  simp only [List.cons.injEq, and_true] at hcs0_3
  subst hcs0_3
  obtain ⟨a0_4, len0_4, cap0_4, l0_4, hcs0_4, hrow0_4⟩ := open_intsI (ts := 22) (ti := 3) Try.underlying22 Try.underlying3 (by kernel_rfl) g0_4
  simp only [List.cons.injEq, and_true] at hcs0_4
  subst hcs0_4
  obtain ⟨a0_5, len0_5, cap0_5, l0_5, hcs0_5, hrow0_5⟩ := open_intsI (ts := 22) (ti := 3) Try.underlying22 Try.underlying3 (by kernel_rfl) g0_5
  simp only [List.cons.injEq, and_true] at hcs0_5
  subst hcs0_5
  clear hA0 hval0
  refine (firstFewest_walk s0_0 s0_1 s0_2 a0_3 len0_3 cap0_3 l0_3 a0_4 len0_4 cap0_4 l0_4 a0_5 len0_5 cap0_5 l0_5 W hrow0_3 hrow0_4 hrow0_5).mono fun e W' ⟨he, bel⟩ => ?_
  subst he
  exact ⟨_, rfl, _, _, _, [], _, [], hW', trodAll_mk1 (shut_bool Try.underlying4 _), (trodAll_cons_mk (Below.trod firstFewest_laidOut (by kernel_rfl) (of_decide_eq_true (by kernel_rfl)) k0 bel lt0) trodAll_mk0), rfl, bel.frame _, fun h => by cases h⟩

theorem firstFewest_over : Rows.fnExactFirstFewestRow.holds Try.pinned (OpenSpec.ofChange Rows.fnExactFirstFewestSpec) :=
  OpenClaim.holds_of_wide 8 Try.f8 rfl rfl rfl rfl rfl rfl rfl ⟨rfl, rfl, rfl, rfl, rfl⟩ rfl rfl rfl rfl rfl (by kernel_rfl) Try.func8 (by kernel_rfl)
    (of_decide_eq_true (by kernel_rfl)) (by unfold Func.isWrapper; first | (rw [if_pos (by decide +kernel)]; kernel_rfl) | (rw [if_neg (by decide +kernel)]; exact ⟨rfl, rfl⟩))
    (fun os started H enc _ => firstFewest_lifted os started H enc)

theorem firstFewest_proved : Rows.FnExactFirstFewestSaid := firstFewest_over
#print axioms firstFewest_proved
end Go.Proofs.Ytjpdjjeddagjlaa
