import Derived.Test.YtggnfklcgopflaaDoorRows
import Derived.Test.YtggnfklcgopflaaDoorCards
import Derived.Test.YtggnfklcgopflaaDoorTie
import Derived.LaidMore
import Derived.Stop.Joined
import Derived.SevenTiedAt
import Derived.Test.YtggnfklcgopflaaDoorA5
import Derived.WalkKit
import Derived.ProofKit
import Derived.OpenShut
import Derived.ShutString
import Derived.ChangeOld
import Derived.Below
set_option linter.all false
/- The row of HeapText: what the program's function returns is what the reference's returns, for all arguments. -/
namespace Go.Proofs.YtggnfklcgopflaaDoor
open Go Go.Ab Go.ChangeShapes Go.WideShapes Go.ChangeAt Go.RowKit
set_option linter.unusedVariables false

theorem heapText_own : ownKnob Tryd.prog.godebug = Option.none := by kernel_rfl
theorem heapText_laidOut : laidOutB Tryd.prog = true := by kernel_rfl

theorem heapText_walk (x0 y0 z0 : Int) (a0 : Option Addr) (len0 cap0 : Nat) (cs0 : List Cell) (w : World) (hr0 : RowOf w a0 len0 cap0 cs0) :
    Calls Tryd.prog 3 #[.agg #[.int .i64 x0, .int .i64 y0, .int .i64 z0, .slice a0 len0 cap0]] w fun e w' => e = .returned (.bool true) ∧ Below w.heap.size w w' := by
  obtain ⟨G0, hx0, hi0, hno0, hv0⟩ := (Inv.none w).addCells NoOwn.none hr0
  have hl0 := hr0.1
  have hm0 : cs0.length ≤ 9223372036854775807 := by
    obtain ⟨h1, h2, h3, _⟩ := hr0
    have : maxLen ≤ 9223372036854775807 := by unfold maxLen; omega
    omega
  have hT0 : Tri ([] ++ [some (Blk.row (triL cs0) false 3)]) 0 0 cs0 := Has.new (M := [])
  subst hl0
  exact law_callsR (xs := [.agg #[.int .i64 x0, .int .i64 y0, .int .i64 z0, .slice a0 cs0.length cap0]]) (l_HeapText hT0 hm0) hi0 hno0
    ⟨⟨[.int .i64 x0, .int .i64 y0, .int .i64 z0, .slice a0 cs0.length cap0], rfl, ⟨rfl, rfl⟩, ⟨rfl, rfl⟩, ⟨rfl, rfl⟩, hv0, trivial⟩, trivial⟩

/-- The door's own heap meets the condition. -/
theorem heapText_door (os : Os) (args : Array Value) : laidMetH Tryd.prog Rows.fnExactHeapTextRow.laid ((World.doorLaid Tryd.prog 400 os).forCall (fun _ _ => 0) ⟨#[], args, []⟩).memory :=
  laidMetH_of_parts3 (fuel := 8) (laidMet_of_run' 8 (by kernel_rfl) (by kernel_rfl)) (by kernel_rfl) (by kernel_rfl)

set_option maxRecDepth 100000 in
theorem heapText_lifted (os : Os) (started : os.Started) (H : Type) (enc : TypeId × Value → H) :
    ReturnsInHanded {} Tryd.checked os 3 .any (fun w args => (Rows.fnExactHeapTextSpec.pre enc Tryd.prog Tryd.f3 [] false w args ∧ laidMetH Tryd.prog Rows.fnExactHeapTextRow.laid w) ∧ sizedMet enc Tryd.prog Tryd.f3 (OpenSpec.ofChange Rows.fnExactHeapTextSpec) false w args) (Rows.fnExactHeapTextSpec.post enc Tryd.prog Tryd.f3 false true false false) := by
  refine returnsInHanded_of_change_and (C := Tryd.checked) (X := fun w _ => laidMetH Tryd.prog Rows.fnExactHeapTextRow.laid w) (fun _ _ _ hh h => h.of_heap hh) heapText_own started (by kernel_rfl) Tryd.func3
    (ChangeSpec.witness_shaped (enc := enc) (C := Tryd.checked) (os := os) (X := fun w _ => laidMetH Tryd.prog Rows.fnExactHeapTextRow.laid w) false (World.doorLaid Tryd.prog 400 os) #[.agg #[.int .i64 0, .int .i64 0, .int .i64 0, .slice none 0 0]] 8 rfl (World.shaped_of_RefB (by kernel_rfl) (by kernel_rfl)) (by kernel_rfl) (by kernel_rfl) (by kernel_rfl) (heapText_door os _)) ?_
  intro W base args ds gs before hval0 hW hcnd _ _ _
  have hval : ∀ (j : Nat) t v, Tryd.f3.params[j]? = some t → args[j]? = some v → Value.okWide Tryd.prog W .any base t v := hval0
  have hW' := hW
  obtain ⟨p, q, hA0, hV, rfl, hfz, hnd⟩ := hW
  have hA : DataW.TrodAll enc Tryd.prog W 0 (fun _ => true) true Tryd.f3.params.toList args.toList ds p := hA0
  rw [Tryd.params3] at hA hval
  obtain ⟨v0, vs0, d0, ds0, p0, q0, hargs, rfl, rfl, h0, r0⟩ := trodAll_cons hA
  obtain ⟨rfl, rfl, rfl⟩ := trodAll_nil r0
  obtain rfl : args = #[v0] := by cases args; simp_all
  obtain ⟨rfl, rfl⟩ := trodVars_none hV
  have k0 := h0
  have lt0 : ∀ x ∈ p0, x.block < W.heap.size := by obtain ⟨m, hm⟩ := k0; exact DataW.trod_lt m _ _ _ hm
  obtain ⟨c00, c01, c02, c03, u00, u01, u02, u03, n0, rfl, e01, e02, g00, g01, g02, g03⟩ := Go.Joins.open_agg4 Tryd.underlying24 (by kernel_rfl) (by kernel_rfl) (hval 0 24 v0 rfl rfl) h0
  obtain ⟨x0, rfl⟩ : ∃ x, c00 = .int .i64 x := by
    obtain ⟨z, hz, _⟩ := DataW.trod_int Tryd.underlying3 g00; exact ⟨z, by injection hz⟩
  obtain ⟨y0, rfl⟩ : ∃ x, c01 = .int .i64 x := by
    obtain ⟨z, hz, _⟩ := DataW.trod_int Tryd.underlying3 g01; exact ⟨z, by injection hz⟩
  obtain ⟨z0, rfl⟩ : ∃ x, c02 = .int .i64 x := by
    obtain ⟨z, hz, _⟩ := DataW.trod_int Tryd.underlying3 g02; exact ⟨z, by injection hz⟩
  obtain ⟨a0, len0, cap0, cs0, hcs0, hrow0⟩ := open_cells (ts := 22) (ta := 43) (ti := 3) Tryd.underlying22 Tryd.underlying43 Tryd.underlying3 (by kernel_rfl) (by kernel_rfl) g03
  simp only [List.cons.injEq, and_true] at hcs0
  subst hcs0
  clear hA0 hval0
  refine (heapText_walk x0 y0 z0 a0 len0 cap0 cs0 W hrow0).mono fun e W' ⟨he, bel⟩ => ?_
  subst he
  exact ⟨_, rfl, _, _, _, [], _, [], hW', trodAll_mk1 (shut_bool Tryd.underlying4 _), (trodAll_cons_mk (Below.trod heapText_laidOut (by kernel_rfl) (of_decide_eq_true (by kernel_rfl)) k0 bel lt0) trodAll_mk0), rfl, bel.frame _, fun h => by cases h⟩

theorem heapText_over : Rows.fnExactHeapTextRow.holds Tryd.pinned (OpenSpec.ofChange Rows.fnExactHeapTextSpec) :=
  OpenClaim.holds_of_wide 3 Tryd.f3 rfl rfl rfl rfl rfl rfl rfl ⟨rfl, rfl, rfl, rfl, rfl⟩ rfl rfl rfl rfl rfl (by kernel_rfl) Tryd.func3 (by kernel_rfl)
    (of_decide_eq_true (by kernel_rfl)) (by unfold Func.isWrapper; first | (rw [if_pos (by decide +kernel)]; kernel_rfl) | (rw [if_neg (by decide +kernel)]; exact ⟨rfl, rfl⟩))
    (fun os started H enc _ => heapText_lifted os started H enc)

theorem heapText_card : Rows.FnExactHeapTextCardSaid :=
  Claim7.holds_tied_plain_at .later [] [.data, .data, .data] true (true, "57d4c422bb3050a03478c7257890687235b1dc3e1242363979465d60aa6e67ee") false
    heapText_over (fun _ h => by cases h) (by kernel_rfl) (fun _ h => by cases h) fnExactHeapText_row_tie rfl ⟨rfl, rfl⟩ (by kernel_rfl) rfl
    (fun f fn hf hfn => by
      obtain rfl : f = 3 := Option.some.inj ((show Tryd.prog.funcNamed "loop.example/g01166/laws.FnExactHeapText" = some 3 by kernel_rfl).symm.trans hf) |>.symm
      obtain rfl : fn = Tryd.f3 := (Option.some.inj (Tryd.func3.symm.trans hfn)).symm
      exact ⟨by kernel_rfl, fun j t ht => by
        rw [Tryd.params3] at ht
        have hm : t ∈ [24] := by simpa using Array.mem_of_getElem? ht
        have hall : ([24].all fun u => !Tryd.prog.wantsStandIn u) = true := by kernel_rfl
        exact (show Tryd.prog.wantsStandIn t = false by simpa using List.all_eq_true.1 hall t hm)⟩)
    (by kernel_rfl)
#print axioms heapText_card
end Go.Proofs.YtggnfklcgopflaaDoor
