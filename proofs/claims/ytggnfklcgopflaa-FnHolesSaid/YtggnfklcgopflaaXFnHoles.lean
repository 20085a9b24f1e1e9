import Derived.Test.YtggnfklcgopflaaRows
import Derived.Test.YtggnfklcgopflaaA11
import Derived.WalkKit
import Derived.ProofKit
import Derived.OpenShut
import Derived.ShutString
import Derived.ChangeOld
import Derived.Below
set_option linter.all false
/- The row of FnHoles: what the program's function returns is what the reference's returns, for all arguments. -/
namespace Go.Proofs.Ytggnfklcgopflaa
open Go Go.Ab Go.ChangeShapes Go.WideShapes Go.ChangeAt Go.RowKit
set_option linter.unusedVariables false

theorem fnHoles_own : ownKnob Try.prog.godebug = Option.none := by kernel_rfl
theorem fnHoles_laidOut : laidOutB Try.prog = true := by kernel_rfl

theorem fnHoles_walk (a0_0 : Option Addr) (len0_0 cap0_0 : Nat) (l0_0 : List Nat) (w : World) (hr0_0 : RowOfB w a0_0 len0_0 cap0_0 l0_0) :
    Calls Try.prog 4 #[.slice a0_0 len0_0 cap0_0] w fun e w' => e = .returned (.bool true) ∧ Below w.heap.size w w' := by
  obtain ⟨G0_0, N0_0, u0_0, hx0_0, hi0_0, hno0_0, hp0_0, hv0_0, hT0_0⟩ := (Inv.none w).addBytes' NoOwn.none hr0_0
  have hl0_0 := hr0_0.1
  have hm0_0 := hr0_0.le
  subst hl0_0
  exact law_callsR (xs := [.slice a0_0 l0_0.length cap0_0]) (l_FnHoles hT0_0 hm0_0) hi0_0 hno0_0
    ⟨hv0_0, trivial⟩

set_option maxRecDepth 100000 in
theorem fnHoles_lifted (os : Os) (started : os.Started) (H : Type) (enc : TypeId × Value → H) :
    ReturnsInHanded {} Try.checked os 4 .any (Rows.fnHolesSpec.pre6 enc Try.prog Try.f4 Rows.fnHolesRow.domain false) (Rows.fnHolesSpec.post enc Try.prog Try.f4 false true false false) := by
  refine returnsInHanded_of_change (C := Try.checked) fnHoles_own started (by kernel_rfl) Try.func4
    (ChangeSpec.witness6 (enc := enc) (C := Try.checked) false ⟨#[], #[.slice none 0 0], []⟩ 8 (by kernel_rfl) (by kernel_rfl) (by kernel_rfl) (by kernel_rfl)) ?_
  intro W base args ds gs before hval0 hW hcnd _
  have hval : ∀ (j : Nat) t v, Try.f4.params[j]? = some t → args[j]? = some v → Value.okWide Try.prog W .any base t v := hval0
  have hW' := hW
  obtain ⟨p, q, hA0, hV, rfl, hfz, hnd⟩ := hW
  have hA : DataW.TrodAll enc Try.prog W 0 (fun _ => true) true Try.f4.params.toList args.toList ds p := hA0
  rw [Try.params4] at hA hval
  obtain ⟨v0, vs0, d0, ds0, p0, q0, hargs, rfl, rfl, h0, r0⟩ := trodAll_cons hA
  obtain ⟨rfl, rfl, rfl⟩ := trodAll_nil r0
  obtain rfl : args = #[v0] := by cases args; simp_all
  obtain ⟨rfl, rfl⟩ := trodVars_none hV
  have k0 := h0
  have lt0 : ∀ x ∈ p0, x.block < W.heap.size := by obtain ⟨m, hm⟩ := k0; exact DataW.trod_lt m _ _ _ hm
  obtain ⟨a0_0, len0_0, cap0_0, rfl⟩ := okWide_slice Try.underlying22 (hval 0 22 v0 rfl rfl)
  obtain ⟨n0_0, g0_0⟩ := h0
  obtain ⟨b0_0, blen0_0, bcap0_0, l0_0, hcs0_0, hrow0_0⟩ := open_bytesB (ts := 22) (ti := 5) Try.underlying22 Try.underlying5 (by kernel_rfl) g0_0
  simp only [Value.cells, List.cons.injEq, and_true, Value.slice.injEq] at hcs0_0
  obtain ⟨rfl, rfl, rfl⟩ := hcs0_0
  clear hA0 hval0
  refine (fnHoles_walk a0_0 len0_0 cap0_0 l0_0 W hrow0_0).mono fun e W' ⟨he, bel⟩ => ?_
  subst he
  exact ⟨_, rfl, _, _, _, [], _, [], hW', trodAll_mk1 (shut_bool Try.underlying4 _), (trodAll_cons_mk (Below.trod fnHoles_laidOut (by kernel_rfl) (of_decide_eq_true (by kernel_rfl)) k0 bel lt0) trodAll_mk0), rfl, bel.frame _, fun h => by cases h⟩

theorem fnHoles_over : Rows.fnHolesRow.holds Try.pinned (OpenSpec.ofChange Rows.fnHolesSpec) :=
  OpenClaim.holds_of_wide 4 Try.f4 rfl rfl rfl rfl rfl rfl rfl ⟨rfl, rfl, rfl, rfl, rfl⟩ rfl rfl rfl rfl rfl (by kernel_rfl) Try.func4 (by kernel_rfl)
    (of_decide_eq_true (by kernel_rfl)) (by unfold Func.isWrapper; first | (rw [if_pos (by decide +kernel)]; kernel_rfl) | (rw [if_neg (by decide +kernel)]; exact ⟨rfl, rfl⟩))
    (fun os started H enc _ => fnHoles_lifted os started H enc)

theorem fnHoles_proved : Rows.FnHolesSaid := fnHoles_over
#print axioms fnHoles_proved
end Go.Proofs.Ytggnfklcgopflaa
