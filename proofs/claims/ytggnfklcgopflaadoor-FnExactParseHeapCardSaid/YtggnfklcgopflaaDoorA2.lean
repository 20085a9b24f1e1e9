/- Parts of the proof of FnExactParseHeapCardSaid: Li Lj Lk Ll Ln Lo Lp Lq Lr. -/
import Derived.Test.YtggnfklcgopflaaDoorA1
import Derived.Laws.MakeOwn
import Derived.Laws.Tables
import Derived.Orders
set_option linter.all false
namespace Go.Ab
open Go Go.RowKit

section
variable {P : Program} {G : Gh} {fr : Fr} {M : Mem} {ρ : Operand → Value} {w : World} {d : Nat} {c : Prop} {ao : AOp}

def SndA (P : Program) (G : Gh) (M : Mem) (ρ : Operand → Value) (w : World) (o : Oper) (d : Nat) (lv : Nat → LV) (blk : Blk) : Prop :=
  ∃ x w' β, o.dst = some d ∧ (execOp ρ o).run P w = .ok (.value x) w' ∧ But none w w' ∧ (β.virt = true ∨ w.heap.size ≤ β.b) ∧ EmbB G w' blk β ∧ blk.isOwn = true ∧
    ∀ (G' : Gh) (t : Nat), Ext G G' → G' t = some β → VR G' (lv t) x

theorem alloc_emb {w : World} {c : Array Value} {e : TypeId} {cs : List LV} {esz : Nat} (h : All2 (VR1 G) cs (c.toList.take cs.length)) (hl : cs.length ≤ c.size) :
    EmbB G (w.alloc (.cells c e)) (.row cs true esz) ⟨w.heap.size, 0, esz, c.size, false⟩ := by
  refine ⟨rfl, .inr ⟨rfl, c, e, (0, 0), heap_alloc_new w _, fun _ => ⟨rfl, by simp⟩, hl, fun j l hj => ?_⟩⟩
  obtain ⟨b, hb1, hb2⟩ := h.get hj
  rw [List.getElem?_take] at hb1
  split at hb1
  · exact ⟨b, by simpa using hb1, hb2⟩
  · cases hb1

theorem flat_get {α : Type} (z : List α) : ∀ (l j : Nat), j < l * z.length → (List.replicate l z).flatten[j]? = z[j % z.length]?
  | 0, j, h => by simp at h
  | l + 1, j, h => by
    simp only [List.replicate_succ, List.flatten_cons]
    by_cases hj : j < z.length
    · rw [List.getElem?_append_left hj, Nat.mod_eq_of_lt hj]
    · have hs : (l + 1) * z.length = l * z.length + z.length := Nat.succ_mul _ _
      rw [hs] at h
      rw [List.getElem?_append_right (by omega), flat_get z l (j - z.length) (by omega)]
      congr 1
      exact (Nat.mod_eq_sub_mod (by omega)).symm

theorem made_flat (z : Array Value) (l : Nat) : (madeCells z (l * z.size)).toList = (List.replicate l z.toList).flatten := by
  apply List.ext_getElem?
  intro j
  by_cases hj : j < l * z.size
  · rw [flat_get z.toList l j (by simpa using hj)]
    have hz : 0 < z.size := by
      rcases Nat.eq_zero_or_pos z.size with h | h
      · rw [h] at hj; simp at hj
      · exact h
    have hm : j % z.size < z.size := Nat.mod_lt _ hz
    simp [madeCells, hj, hm]
  · rw [List.getElem?_eq_none (by simp [madeCells]; omega), List.getElem?_eq_none (by simp; omega)]

theorem aop_sound {o : Oper} {lv : Nat → LV} {blk : Blk} (hp : prepO P o = some ao) (hs : aop ao fr M = some (d, lv, blk, c)) (hc : c) (h : Rd0 G fr M ρ w o.op.operands) : SndA P G M ρ w o d lv blk := by
  obtain ⟨dst, op, ty, pos, after, guard⟩ := o
  cases dst with
  | none =>
    cases op <;> simp only [prepO] at hp <;> try (cases hp; done)
    case store t a x => split at hp <;> cases hp; simp [aop] at hs
    case mapUpdate t m k v => split at hp <;> (try cases hp); obtain ⟨_, _, rfl⟩ := map_some' hp; simp [aop] at hs
    case insert t m k v => split at hp <;> (try cases hp); obtain ⟨_, _, rfl⟩ := map_some' hp; simp [aop] at hs
    case call cl =>
      unfold prepCall at hp
      split at hp
      · split at hp
        · obtain ⟨ys, _, rfl⟩ := map_some' hp; simp [aop] at hs
        · cases hp
      · split at hp
        · cases hp; simp [aop] at hs
        · cases hp
      · split at hp
        · split at hp
          · split at hp <;> cases hp; simp [aop] at hs
          · cases hp
        · cases hp
      · rename_i b _ _; cases b <;> simp at hp
      · cases hp
  | some d0 =>
    cases op <;> try (simp only [prepO] at hp; cases hp; done)
    case lookup t m k okc =>
      simp only [prepO] at hp
      split at hp
      · split at hp
        · cases hp; simp [aop] at hs
        · cases hp
      · cases hp
    case alloc t =>
      simp only [prepO] at hp
      obtain ⟨z, hz, rfl⟩ := map_some' hp
      simp only [aop] at hs
      cases hs
      obtain ⟨zv, hz1, hz2, hz3, hz4, i, hi, hiz, hsz⟩ := zeroC_run (w := w) hz
      have hall : All2 (VR1 G) (z.map .val) z := All2.map_left (All2.of_get rfl fun i a b e1 e2 => by rw [e1] at e2; cases e2; exact ⟨rfl, hz3 _ (List.mem_of_getElem? e1)⟩)
      refine ⟨.pointer (some ⟨w.heap.size, 0, none⟩), w.alloc (.cells zv.cells t), ⟨w.heap.size, 0, 0, zv.cells.size, false⟩, rfl, ?_, But.alloc w _, .inr (Nat.le_refl _),
        alloc_emb (by rw [hz2, List.length_map, List.take_length]; exact hall) (by rw [← Array.length_toList, hz2]; simp), rfl, fun G' t' _ hg => ⟨_, hg, rfl, rfl⟩⟩
      simp only [execOp, Instr.alloc, Sem.run_bind, hz1, Result.andThen_ok, newVar, newRow, run_newObj, Sem.run_pure]
      rfl
    case box t x =>
      simp only [prepO] at hp
      obtain ⟨y, hy, rfl⟩ := map_some' hp
      simp only [aop] at hs
      obtain ⟨cs, hcs, he⟩ := map_some' hs
      cases he
      have hall := vr_cells (h.op x (by simp [Op.operands]) y hy) hcs
      refine ⟨.pointer (some ⟨w.heap.size, 0, none⟩), w.alloc (.cells (ρ x).cells t), ⟨w.heap.size, 0, 0, (ρ x).cells.size, false⟩, rfl, ?_, But.alloc w _, .inr (Nat.le_refl _),
        alloc_emb (by rw [hall.length, List.take_length]; exact hall) (by rw [← Array.length_toList, hall.length]; exact Nat.le_refl _), rfl, fun G' t' _ hg => ⟨_, hg, rfl, rfl⟩⟩
      simp only [execOp, Instr.box, Sem.run_bind, Result.andThen_ok, newVar, newRow, run_newObj, Sem.run_pure]
      rfl
    case buildSlice t n ps =>
      simp only [prepO] at hp
      split at hp
      · rename_i e hu
        split at hp
        · rename_i s z hse hz
          split at hp
          · rename_i hsm
            obtain ⟨qs, hq, rfl⟩ := map_some' hp
            simp only [aop] at hs
            obtain ⟨cs, hcs, he⟩ := map_some' hs
            cases he
            -- the zero cells
            obtain ⟨i, hi, his, _⟩ := sizeT_info hse
            have hz' : ∃ zc : Array Value, ((n * s = 0 ∧ zc = #[]) ∨ (n * s ≠ 0 ∧ ∃ zz, (zeroValue e).run P w = .ok zz w ∧ zc = zz.cells)) ∧
                All2 (VR1 G) z ((Array.range (n * s)).map fun j => zc[j % zc.size]!).toList := by
              unfold zeroSl at hz
              rw [hi] at hz
              simp only at hz
              split at hz
              · rename_i h0
                cases hz
                rw [his] at h0
                exact ⟨#[], .inl ⟨h0, rfl⟩, by simp [h0, All2, Array.range_zero']⟩
              · rename_i h0
                rw [his] at h0
                split at hz
                · rename_i zz hzz
                  split at hz
                  · rename_i hcc
                    cases hz
                    simp only [Bool.and_eq_true, decide_eq_true_eq] at hcc
                    refine ⟨zz.cells, .inr ⟨h0, zz, by simp [zeroValue, typeInfo, hi, hzz], rfl⟩, ?_⟩
                    rw [his]
                    refine All2.map_left (All2.of_get rfl fun j a b e1 e2 => ?_)
                    rw [e1] at e2; cases e2
                    refine ⟨rfl, ?_⟩
                    have hmem := List.mem_of_getElem? e1
                    simp at hmem
                    obtain ⟨k, _, rfl⟩ := hmem
                    have hlt : k % zz.cells.size < zz.cells.size := Nat.mod_lt _ hcc.2
                    have := List.all_eq_true.1 hcc.1 (zz.cells[k % zz.cells.size]!) (by simp [hlt])
                    exact this
                  · cases hz
                · cases hz
            obtain ⟨zc, hzr, hzall⟩ := hz'
            obtain ⟨cv, hf1, hf2⟩ := fill_run (place := fun i => some (i * s, s)) hq (fun x hx => h.op x (by simpa [Op.operands] using hx)) hcs hzall
            have hpm : (ps.map fun (i, x) => (i, ρ x)).toList = ps.toList.map fun (i, x) => (i, ρ x) := by simp
            have hcsl : cs.length = cv.size := by rw [hf2.length, Array.length_toList]
            have hns : n * s ≤ cv.size := by
              have h1 : z.length = n * s := by rw [hzall.length]; simp
              have key : ∀ (qs : List (Nat × Nat × LV)) (z cs : List LV), fillC z qs = some cs → z.length = cs.length := by
                intro qs
                induction qs with
                | nil => intro z cs h; simp [fillC] at h; rw [h]
                | cons q qs ih =>
                  intro z cs h
                  obtain ⟨o, m, v⟩ := q
                  simp only [fillC] at h
                  split at h
                  · split at h
                    · rename_i hh
                      have := ih _ _ h
                      rw [← this]
                      simp [splice]
                      omega
                    · cases h
                  · cases h
              rw [← hcsl, ← key _ _ _ hcs, h1]
              exact Nat.le_refl _
            refine ⟨.slice (some ⟨w.heap.size, 0, none⟩) n n, w.alloc (.cells cv e), ⟨w.heap.size, 0, s, cv.size, false⟩, rfl, ?_, But.alloc w _, .inr (Nat.le_refl _),
              alloc_emb (by rw [hf2.length, List.take_length]; exact hf2) (by rw [hcsl]; exact Nat.le_refl _), rfl, fun G' t' _ hg => ⟨_, hg, _, _, rfl, .inr ⟨rfl, rfl, Nat.le_refl _, by simpa using hns⟩⟩⟩
            have hsm' : ¬ (n * s > 2 ^ 24) := by omega
            rcases hzr with ⟨h0, rfl⟩ | ⟨h0, zz, hzz, rfl⟩
            · simp only [execOp, Instr.buildSlice, Sem.run_bind, run_underlying hu, Result.andThen_ok, sizeT_run hse, hsm', if_false, Sem.run_pure]
              rw [if_pos h0]
              simp only [Sem.run_bind, Sem.run_pure, Result.andThen_ok, hpm, hf1, newRow, run_newObj]
              rfl
            · simp only [execOp, Instr.buildSlice, Sem.run_bind, run_underlying hu, Result.andThen_ok, sizeT_run hse, hsm', if_false, Sem.run_pure]
              rw [if_neg h0]
              simp only [Sem.run_bind, hzz, Sem.run_pure, Result.andThen_ok, hpm, hf1, newRow, run_newObj]
              rfl
          · cases hp
        · cases hp
      · cases hp
    case makeMap t r =>
      cases r <;> simp only [prepO] at hp <;> cases hp
      simp only [aop] at hs
      cases hs
      refine ⟨.map (some w.heap.size), w.alloc (.map #[] 0), ⟨w.heap.size, 0, 0, 0, false⟩, rfl, ?_, But.alloc w _, .inr (Nat.le_refl _), ⟨rfl, #[], 0, heap_alloc_new w _, trivial⟩, rfl, fun G' t' _ hg => ⟨_, hg, rfl, rfl⟩⟩
      simp only [execOp, Instr.makeMap, Sem.run_bind, Option.map_none, Sem.run_pure, Result.andThen_ok, run_newObj]
      rfl
    case makeSlice t l cp =>
      simp only [prepO] at hp
      split at hp
      · rename_i e hu
        split at hp
        · rename_i i z l' c' hi hz hl hcp
          split at hp
          · rename_i hsz
            cases hp
            simp only [aop] at hs
            split at hs
            · rename_i ln cn hln hcn
              cases hs
              obtain ⟨h0, rfl, hby, h63⟩ := hc
              obtain ⟨k1, hk1⟩ := intV_vr hln (h.op l (by simp [Op.operands]) l' hl)
              obtain ⟨k2, hk2⟩ := intV_vr hcn (h.op cp (by simp [Op.operands]) c' hcp)
              obtain ⟨zv, hz1, hz2, hz3, hz4, i', hi', hiz, hszz⟩ := zeroC_run (w := w) hz
              rw [hi] at hi'; cases hi'
              have hmf := made_flat zv.cells cn.toNat
              have hall : All2 (VR1 G) ((List.replicate cn.toNat (z.map .val)).flatten) (madeCells zv.cells (cn.toNat * i.size)).toList := by
                rw [← hszz, hmf, hz2]
                exact All2.flatten (All2.replicate _ (All2.map_left (All2.of_get rfl fun i a b e1 e2 => by rw [e1] at e2; cases e2; exact ⟨rfl, hz3 _ (List.mem_of_getElem? e1)⟩)))
              refine ⟨.slice (some ⟨w.heap.size, 0, none⟩) cn.toNat cn.toNat, w.alloc (.cells (madeCells zv.cells (cn.toNat * i.size)) e), ⟨w.heap.size, 0, i.size, (madeCells zv.cells (cn.toNat * i.size)).size, false⟩, rfl, ?_, But.alloc w _,
                .inr (Nat.le_refl _), alloc_emb (by rw [hall.length, List.take_length]; exact hall) (by rw [hall.length, Array.length_toList]; exact Nat.le_refl _), rfl, fun G' t' _ hg => ⟨_, hg, _, _, rfl, .inr ⟨rfl, rfl, Nat.le_refl _, by simp [size_madeCells]⟩⟩⟩
              simp only [execOp, hk1, hk2, Sem.run_bind, run_make (P := P) w t e i zv hu hi hiz k1 k2 cn cn h0 (Int.le_refl _) hby h63, Result.andThen_ok, Sem.run_pure]
            · cases hs
          · cases hp
        · cases hp
      · cases hp
    case slice t x lo hi mx =>
      simp only [prepO] at hp
      split at hp
      · rename_i e y lo' hi' hu hx hlo hhi
        cases hse : sizeT P e with
        | none => rw [hse] at hp; cases hp
        | some s =>
          rw [hse] at hp
          simp only at hp
          cases mx with
          | none => cases hp; simp [aop] at hs
          | some m =>
            simp only at hp
            split at hp
            · rename_i hcond
              cases hp
              simp only [Bool.and_eq_true, Bool.or_eq_true] at hcond
              obtain ⟨⟨h1, h2⟩, h3⟩ := hcond
              have zero : ∀ x : Option Operand, constInt0 x = true → ∃ k, x = some (.const (.int k 0)) := fun x hx => by
                unfold constInt0 at hx
                split at hx
                · rename_i k n; simp at hx; subst hx; exact ⟨k, rfl⟩
                · cases hx
              obtain ⟨k1, rfl⟩ := zero _ h1
              obtain ⟨k2, hm2⟩ := zero _ h2
              cases hm2
              have hlo0 : lo = none ∨ ∃ k, lo = some (.const (.int k 0)) := by
                rcases h3 with h3 | h3
                · left; simpa using h3
                · exact .inr (zero _ h3)
              have hvx := h.op x (by simp [Op.operands]) y hx
              have hcst : ∀ k, (lo = some (.const (.int k 0)) ∨ k = k1 ∨ k = k2) → ρ (.const (.int k 0)) = .int k 0 := fun k hk => by
                have := h.op (.const (.int k 0)) (by simp only [Op.operands]; rcases hk with rfl | rfl | rfl <;> simp) (.c (.val (.int k 0))) rfl
                exact (vr_val this).1
              have hsb : ∀ (k : IntKind) (top : Nat) (code : BoundsCode), (Instr.sliceBound (.int k 0) top code).run P w = .ok 0 w := fun k top code => by
                have := run_sliceBound (P := P) w k 0 top code (Int.le_refl _) (by omega)
                simpa using this
              have hbd : ∀ (len cap : Nat), (Instr.sliceBounds true len cap (lo.map ρ) ((some (Operand.const (.int k1 0))).map ρ) ((some (Operand.const (.int k2 0))).map ρ)).run P w = .ok (0, 0, 0) w := by
                intro len cap
                unfold Instr.sliceBounds
                rcases hlo0 with rfl | ⟨k, rfl⟩
                · simp only [Option.map_some, Option.map_none, hcst k1 (.inr (.inl rfl)), hcst k2 (.inr (.inr rfl)), Sem.run_bind, hsb, Result.andThen_ok, Sem.run_pure]
                · simp only [Option.map_some, hcst k1 (.inr (.inl rfl)), hcst k2 (.inr (.inr rfl)), hcst k (.inl rfl), Sem.run_bind, hsb, Result.andThen_ok, Sem.run_pure]
              have fin : ∀ (a : Option Addr) (ln cap : Nat), ρ x = .slice a ln cap → SndA P G M ρ w ⟨some d0, .slice t x lo (some (.const (.int k1 0))) (some (.const (.int k2 0))), ty, pos, after, guard⟩ d0 (.ref · 0 0) (.row [] true s) := by
                intro a ln cap hxv
                refine ⟨.slice a 0 0, w, ⟨0, 0, s, 0, true⟩, rfl, ?_, But.refl _ _, .inl rfl, ⟨rfl, .inl ⟨rfl, rfl⟩⟩, rfl, fun G' t' _ hg => ⟨_, hg, _, _, rfl, .inl ⟨rfl, rfl⟩⟩⟩
                simp only [execOp, Sem.run_bind, Instr.sliceAt, run_underlying hu, Result.andThen_ok, Instr.slice, hxv, hbd, sizeT_run hse, Sem.run_pure]
                simp
              simp only [aop] at hs
              split at hs
              · rename_i t0 o0 n0 hy0
                cases hs
                rw [hy0] at hvx
                obtain ⟨β, hg, a, cap, hxv, _⟩ := vr_ref hvx
                exact fin a _ cap hxv
              · rename_i hy0
                cases hs
                rw [hy0] at hvx
                exact fin _ _ _ (vr_val hvx).1
              · cases hs
            · cases hp
      · rename_i n e y lo' hi' hu hx hlo hhi
        cases hse : sizeT P e with
        | none => rw [hse] at hp; cases hp
        | some s => rw [hse] at hp; cases mx <;> cases hp; simp [aop] at hs
      · cases mx <;> cases hp; simp [aop] at hs
      · cases hp
    case move x => simp only [prepO] at hp; obtain ⟨y, hy, rfl⟩ := map_some' hp; simp [aop] at hs
    case assign x => simp only [prepO] at hp; obtain ⟨y, hy, rfl⟩ := map_some' hp; simp [aop] at hs
    case pick cc a b => simp only [prepO] at hp; split at hp <;> cases hp; simp [aop] at hs
    case build t ps =>
      simp only [prepO] at hp
      split at hp
      · split at hp <;> cases hp; simp [aop] at hs
      · cases hp
    case load t x =>
      simp only [prepO] at hp
      split at hp
      · split at hp <;> cases hp <;> simp [aop] at hs
      · cases hp
    case nilCheck x => simp only [prepO] at hp; obtain ⟨y, hy, rfl⟩ := map_some' hp; simp [aop] at hs
    case binOp bo t x y yt =>
      simp only [prepO] at hp
      split at hp
      · cases hp; simp [aop] at hs
      · cases hp; simp [aop] at hs
      · split at hp
        · cases hp
        · cases bo <;> simp only at hp <;> cases hp <;> simp [aop] at hs
      · split at hp
        · cases bo <;> simp only at hp <;> cases hp <;> simp [aop] at hs
        · cases hp
      · split at hp
        · split at hp <;> cases hp <;> simp [aop] at hs
        · cases hp
      · cases hp
    case unOp uo t x => simp only [prepO] at hp; obtain ⟨y, hy, rfl⟩ := map_some' hp; simp [aop] at hs
    case convert sT tT x => simp only [prepO] at hp; split at hp <;> cases hp; simp [aop] at hs
    case makeFunc fn fi ca =>
      cases fn <;> simp only [prepO] at hp <;> try (cases hp; done)
      split at hp
      · obtain ⟨y, hy, rfl⟩ := map_some' hp; simp [aop] at hs
      · cases hp
    case fieldAddr t x f =>
      simp only [prepO] at hp
      split at hp
      · split at hp
        · split at hp
          · split at hp <;> cases hp; simp [aop] at hs
          · cases hp
        · cases hp
      · cases hp
    case field t x f =>
      simp only [prepO] at hp
      split at hp
      · split at hp
        · split at hp <;> cases hp; simp [aop] at hs
        · cases hp
      · cases hp
    case indexAddr t x i =>
      simp only [prepO] at hp
      split at hp
      · obtain ⟨y, hy, rfl⟩ := map_some' hp; simp [aop] at hs
      · obtain ⟨y, hy, rfl⟩ := map_some' hp; simp [aop] at hs
      · cases hp
    case index t x i =>
      simp only [prepO] at hp
      split at hp
      · obtain ⟨y, hy, rfl⟩ := map_some' hp; simp [aop] at hs
      · cases hp; simp [aop] at hs
      · cases hp
    case extract x i => simp only [prepO] at hp; obtain ⟨y, hy, rfl⟩ := map_some' hp; simp [aop] at hs
    case call cl =>
      simp only [prepO] at hp
      unfold prepCall at hp
      split at hp
      · split at hp
        · obtain ⟨ys, _, rfl⟩ := map_some' hp; simp [aop] at hs
        · cases hp
      · split at hp
        · cases hp; simp [aop] at hs
        · cases hp
      · split at hp
        · split at hp
          · split at hp <;> cases hp; simp [aop] at hs
          · cases hp
        · cases hp
      · split at hp
        · split at hp <;> cases hp <;> simp [aop] at hs
        · split at hp
          · split at hp
            · split at hp <;> cases hp; simp [aop] at hs
            · cases hp
          · cases hp
        · split at hp
          · split at hp
            · obtain ⟨_, _, rfl⟩ := map_some' hp; simp [aop] at hs
            · cases hp
          · cases hp
        · obtain ⟨_, _, rfl⟩ := map_some' hp; simp [aop] at hs
        · obtain ⟨_, _, rfl⟩ := map_some' hp; simp [aop] at hs
        · cases hp
      · cases hp
end
end Go.Ab

namespace Go.Ab
open Go Go.RowKit

section
variable {P : Program} {G : Gh} {M : Mem} {w : World}

theorem But.setRow (w : World) (g : Nat) (cs : Array Value) : But (some g) w (w.setRow g cs) :=
  ⟨by simp, rfl, rfl, rfl, fun k _ hne => setRow_other w g k cs (fun e => hne (by rw [e]))⟩

theorem splice_get {cs vs : List LV} {off j : Nat} (h : off + vs.length ≤ cs.length) : (splice cs off vs)[j]? = if off ≤ j ∧ j < off + vs.length then vs[j - off]? else cs[j]? := by
  unfold splice
  by_cases h1 : j < off
  · rw [List.append_assoc, List.getElem?_append_left (by simp; omega), List.getElem?_take, if_pos h1, if_neg (by omega)]
  · rw [List.append_assoc, List.getElem?_append_right (by simp; omega)]
    have : (cs.take off).length = off := by simp; omega
    rw [this]
    by_cases h2 : j < off + vs.length
    · rw [List.getElem?_append_left (by omega), if_pos (by omega)]
    · rw [List.getElem?_append_right (by omega), List.getElem?_drop, if_neg (by omega)]
      congr 1; omega

theorem splice_length {cs vs : List LV} {off : Nat} (h : off + vs.length ≤ cs.length) : (splice cs off vs).length = cs.length := by
  simp [splice]; omega

theorem arr_splice_get {c : Array Value} {vs : List Value} {k j : Nat} (h : k + vs.length ≤ c.size) :
    (c.toList.take k ++ vs ++ c.toList.drop (k + vs.length)).toArray[j]? = if k ≤ j ∧ j < k + vs.length then vs[j - k]? else c[j]? := by
  rw [List.getElem?_toArray]
  by_cases h1 : j < k
  · rw [List.append_assoc, List.getElem?_append_left (by simp; omega), List.getElem?_take, if_pos h1, if_neg (by omega)]; simp
  · rw [List.append_assoc, List.getElem?_append_right (by simp; omega)]
    have : (c.toList.take k).length = k := by simp; omega
    rw [this]
    by_cases h2 : j < k + vs.length
    · rw [List.getElem?_append_left (by omega), if_pos (by omega)]
    · rw [List.getElem?_append_right (by omega), List.getElem?_drop, if_neg (by omega)]
      rw [Array.getElem?_toList]
      congr 1; omega

theorem all2_one {cs : List LV} {vs : List Value} (h : All2 (VR1 G) cs vs) : ∀ v ∈ vs, v.oneCell' = true := by
  induction cs generalizing vs with
  | nil => cases vs with
    | nil => simp
    | cons => exact h.elim
  | cons c cs ih => cases vs with
    | nil => exact h.elim
    | cons x vs =>
      intro v hv
      rcases List.mem_cons.1 hv with rfl | hv
      · exact h.1.one
      · exact ih h.2 v hv

theorem store_cells (hi : Inv G M w) {t off : Nat} {cs M' : List LV} {vs : List Value} {N : Mem} (hs : setCells M t off cs = some N) {x : Value} (hp : VRp G t off x) (hall : All2 (VR1 G) cs vs) :
    ∃ b o w', x = .pointer (some ⟨b, o, none⟩) ∧ (storeCells ⟨b, o, none⟩ vs).run P w = .ok () w' ∧ Inv G N w' ∧ Step G M w G N w' := by
  obtain ⟨β, hg, hv, rfl⟩ := hp
  unfold setCells at hs
  split at hs
  · rename_i c0 e hm
    split at hs
    · rename_i hle
      cases hs
      have hl : Live M t (.row c0 true e) := hm
      obtain ⟨β', hg', hez, hor⟩ := hi.emb t _ hl
      rw [hg] at hg'; cases hg'
      rcases hor with h | ⟨_, c, ty, fz, h1, h2, h3, h4⟩
      · rw [hv] at h; cases h.1
      · obtain ⟨rfl, hsz⟩ := h2 rfl
        have hvl := hall.length
        have hrun := run_storeCells_at P β.b (β.o + off) ty vs 0 c w h1 (by omega) (all2_one hall)
        simp only [Nat.add_zero] at hrun
        refine ⟨β.b, β.o + off, _, rfl, hrun, hi.set hl rfl rfl hg (But.setRow w _ _) ⟨hez, .inr ⟨hv, _, ty, (0, 0), setRow_heap w β.b c _ ty _ h1, fun _ => ⟨rfl, by simp; omega⟩, by rw [splice_length hle]; exact h3, fun j l hj => ?_⟩⟩ hv⟩
        rw [splice_get hle] at hj
        rw [arr_splice_get (by omega)]
        split at hj
        · rename_i hin
          rw [if_pos (by omega)]
          obtain ⟨u, hu1, hu2⟩ := hall.get hj
          exact ⟨u, by rw [← hu1]; congr 1; omega, hu2⟩
        · rename_i hout
          rw [if_neg (by omega)]
          exact h4 j l hj
    · cases hs
  · cases hs

theorem win_cells (he : EmbA G M w) {esz n : Nat} {l : LV} {x : Value} {new : List LV} (hx : VR G l x) (hn : lenS l = some n) (hw : winC M esz l = some new) (h0 : 0 < n) :
    ∃ b o cap us, x = .slice (some ⟨b, o, none⟩) n cap ∧ us.length = n * esz ∧ (∀ j v, us[j]? = some v → w.cell? ⟨b, o + j, none⟩ = some v) ∧ All2 (VR1 G) new us := by
  unfold lenS at hn
  split at hn
  · rename_i t off m
    injection hn with hn
    subst hn
    simp only [winC] at hw
    rw [if_neg (by omega)] at hw
    obtain ⟨β, hg, a, cap, rfl, hor⟩ := vr_ref hx
    rcases hor with ⟨h1, _⟩ | ⟨hv, rfl, _, _⟩
    · omega
    · obtain ⟨b, o, us, e1, h1, h2, h3⟩ := emba_cells he (t := t) (off := off) (n := m * esz) (ls := new) ⟨β, hg, hv, rfl⟩ hw
      cases e1
      exact ⟨β.b, β.o + off, cap, us, rfl, h1, h2, h3⟩
  · cases hn; omega
  · cases hn

theorem lenS_vr {l : LV} {x : Value} {n : Nat} (hx : VR G l x) (hn : lenS l = some n) : ∃ a cap, x = .slice a n cap ∧ n ≤ cap := by
  unfold lenS at hn
  split at hn
  · cases hn
    obtain ⟨β, hg, a, cap, rfl, hor⟩ := vr_ref hx
    exact ⟨a, cap, rfl, by rcases hor with ⟨h1, h2⟩ | ⟨_, _, h3, _⟩ <;> omega⟩
  · cases hn; exact ⟨none, 0, (vr_val hx).1, Nat.le_refl _⟩
  · cases hn

theorem grown_emb {esz need newCap : Nat} {olds news : List Value} {z : Value} {e : TypeId} {oc nc : List LV} (ho : All2 (VR1 G) oc olds) (hn : All2 (VR1 G) nc news) (hz : z.cells.size = esz)
    (hl : (olds ++ news).length = need * esz) (hc : need ≤ newCap) (w : World) :
    EmbB G (w.alloc (.cells (olds.toArray ++ news.toArray ++ Builtin.zeroCells z.cells (newCap - need)) e)) (.row (oc ++ nc) true esz) ⟨w.heap.size, 0, esz, newCap * esz, false⟩ := by
  have hall := ho.append hn
  have hsz : (olds.toArray ++ news.toArray ++ Builtin.zeroCells z.cells (newCap - need)).size = newCap * esz := by
    have e1 : (olds.toArray ++ news.toArray).size = need * esz := by rw [← hl]; simp
    rw [Array.size_append, e1, size_zeroCells, hz, ← Nat.add_mul]
    congr 1; omega
  have := alloc_emb (G := G) (w := w) (c := olds.toArray ++ news.toArray ++ Builtin.zeroCells z.cells (newCap - need)) (e := e) (cs := oc ++ nc) (esz := esz)
    (by rw [hall.length]; simp only [Array.toList_append]; rw [List.take_left' (by simp)]; exact hall) (by rw [hall.length, hl, hsz]; exact Nat.mul_le_mul_right _ hc)
  rw [hsz] at this
  exact this

theorem append_sound (hi : Inv G M w) {ts ty e : TypeId} {i : TypeInfo} (hu : P.underlying ts = some (.slice e)) (hie : P.info? e = some i) (hsz : 0 < i.size) {zc : List Value} (hz : zeroC P e = some zc)
    {ls lx lv : LV} {s x : Value} {m n : Nat} {new : List LV} {N : Mem} (hs : VR G ls s) (hx : VR G lx x) (hm : lenS ls = some m) (hn : lenS lx = some n) (hw : winC M i.size lx = some new)
    (hby : (m + n) * i.bytes ≤ 140737488355328) (h63 : m + n ≤ 9223372036854775807) (ha : appV M i.size ls n new = some (lv, N)) :
    ∃ v w' G', (Builtin.append_ #[ts, ts] ty #[s, x]).run P w = .ok v w' ∧ VR G' lv v ∧ Inv G' N w' ∧ Step G M w G' N w' := by
  obtain ⟨zv, hz1, hz2, hz3, hz4, i', hi', hiz, hszz⟩ := zeroC_run (w := w) hz
  rw [hie] at hi'; cases hi'
  unfold appV at ha
  by_cases hn0 : n = 0
  · -- nothing is appended
    subst hn0
    rw [if_pos rfl] at ha
    cases ha
    obtain ⟨a, cap, rfl, hle⟩ := lenS_vr hs hm
    obtain ⟨a', cap', rfl, _⟩ := lenS_vr hx hn
    refine ⟨_, w, G, ?_, hs, hi, Step.refl⟩
    have hf : (Builtin.firstCells i.size 0 (.slice a' 0 cap')).run P w = .ok #[] w := by
      cases a' <;> simp [Builtin.firstCells, loadCells, loadCellsFrom]
    cases a <;> simp [Builtin.append_, run_underlying hu, sizeOf, typeInfo, hie, Builtin.lenOf, hle, hf, storeCells]
  · rw [if_neg hn0] at ha
    obtain ⟨b2, o2, cap2, us, rfl, hul, hucell, huall⟩ := win_cells hi.emba hx hn hw (by omega)
    have hucell' : ∀ j v, us[j]? = some v → w.cell? ((⟨b2, o2, none⟩ : Addr).add j) = some v := fun j v hj => by rw [addr_add]; exact hucell j v hj
    -- a new block
    have fresh : ∀ (olds : List Value) (oc : List LV) (old : Nat) (Mk : Mem), All2 (VR1 G) oc olds → olds.length = m * i.size → old < m + n → Inv G Mk w → Step G M w G Mk w → Mk.length = M.length →
        ∃ G', VR G' (.ref M.length 0 (m + n)) (.slice (some ⟨w.heap.size, 0, none⟩) (m + n) (grownCap w (m + n) old e)) ∧
          Inv G' (Mk ++ [some (.row (oc ++ new) true i.size)]) (w.drew.alloc (.cells (olds.toArray ++ us.toArray ++ Builtin.zeroCells zv.cells (grownCap w (m + n) old e - (m + n))) e)) ∧
          Step G M w G' (Mk ++ [some (.row (oc ++ new) true i.size)]) (w.drew.alloc (.cells (olds.toArray ++ us.toArray ++ Builtin.zeroCells zv.cells (grownCap w (m + n) old e - (m + n))) e)) := by
      intro olds oc old Mk ho hol hlt hik hsk hkl
      have hge := grownCap_ge w (m + n) old e
      have hemb := grown_emb (G := G) (esz := i.size) (need := m + n) (newCap := grownCap w (m + n) old e) (z := zv) (e := e) ho huall hszz (by rw [List.length_append, hol, hul, Nat.add_mul]) hge w.drew
      obtain ⟨h1, h2⟩ := hik.push (β := ⟨w.heap.size, 0, i.size, grownCap w (m + n) old e * i.size, false⟩) ((But.drew w).trans (But.alloc w.drew _)) (.inr (Nat.le_refl _)) hemb rfl
      refine ⟨_, ?_, h1, hsk.trans h2⟩
      rw [hkl]
      exact ⟨⟨w.heap.size, 0, i.size, grownCap w (m + n) old e * i.size, false⟩, by simp [Gh.put], _, _, rfl, .inr ⟨rfl, by simp, hge, by simp⟩⟩
    split at ha
    · -- onto nil
      cases ha
      simp only [lenS] at hm; cases hm
      obtain ⟨rfl, _⟩ := vr_val hs
      obtain ⟨G', h1, h2, h3⟩ := fresh [] [] 0 M trivial (by simp) (by omega) hi Step.refl rfl
      simp only [Nat.zero_add] at h1 h2 h3 hby h63
      have hr := run_append_nil (P := P) w ts ty e i zv hu hie hiz ⟨b2, o2, none⟩ n cap2 us hul hucell' (by omega) (by omega) (by omega)
      refine ⟨_, _, G', hr, h1, ?_, ?_⟩
      · simpa using h2
      · simpa using h3
    · rename_i t off len
      simp only [lenS] at hm
      injection hm with hm
      subst hm
      split at ha
      · rename_i c0 e0 hlm
        split at ha
        · rename_i hcond
          obtain ⟨rfl, hle0⟩ := hcond
          cases ha
          have hl : Live M t (.row c0 true i.size) := hlm
          obtain ⟨β, hg, a, cap, rfl, hor⟩ := vr_ref hs
          obtain ⟨β', hg', hez, hemb⟩ := hi.emb t _ hl
          rw [hg] at hg'; cases hg'
          obtain ⟨hk1, hk2⟩ := hi.kill t
          rcases hor with ⟨rfl, rfl⟩ | ⟨hv, rfl, hlc, hcap⟩
          · -- no capacity
            obtain ⟨G', h1, h2, h3⟩ := fresh [] [] 0 (M.set t none) trivial (by simp) (by omega) hk1 hk2 (by simp)
            simp only [Nat.zero_mul, List.take_zero, Nat.zero_add] at h1 h2 h3 hby h63 ⊢
            cases a with
            | none =>
              have hr := run_append_nil (P := P) w ts ty e i zv hu hie hiz ⟨b2, o2, none⟩ n cap2 us hul hucell' (by omega) (by omega) (by omega)
              exact ⟨_, _, G', hr, h1, by simpa using h2, by simpa using h3⟩
            | some a =>
              have hr := run_append_grow (P := P) w ts ty e i zv hu hie hiz a 0 0 [] (by simp) (by simp) ⟨b2, o2, none⟩ n cap2 us hul hucell' (by omega) (by omega) (growslice_fits (by omega) (by simpa using hby))
              simp only [Nat.zero_add] at hr
              exact ⟨_, _, G', hr, h1, h2, h3⟩
          · rcases hemb with h | ⟨_, c, tye, fz, g1, g2, g3, g4⟩
            · rw [hv] at h; cases h.1
            · obtain ⟨rfl, hcs⟩ := g2 rfl
              -- the old cells
              have hold : ∃ olds : List Value, olds.length = len * i.size ∧ (∀ j v, olds[j]? = some v → w.cell? ⟨β.b, β.o + off + j, none⟩ = some v ∧ c[β.o + off + j]? = some v) ∧ All2 (VR1 G) ((c0.drop off).take (len * i.size)) olds := by
                have hget : ∀ j, j < len * i.size → ∃ u, c[β.o + off + j]? = some u := fun j hj => by
                  obtain ⟨u, hu, _⟩ := g4 (off + j) c0[off + j] (List.getElem?_eq_getElem (by omega))
                  exact ⟨u, by rw [← hu]; congr 1; omega⟩
                have hat : ∀ (j : Nat) (v : Value), ((List.range (len * i.size)).map fun j => c[β.o + off + j]?.getD undef)[j]? = some v → j < len * i.size ∧ v = c[β.o + off + j]?.getD undef := fun j v hj => by
                  rw [List.getElem?_map] at hj
                  by_cases hjn : j < len * i.size
                  · rw [List.getElem?_range hjn] at hj; cases hj; exact ⟨hjn, rfl⟩
                  · rw [List.getElem?_eq_none (by simp; omega)] at hj; cases hj
                refine ⟨(List.range (len * i.size)).map fun j => c[β.o + off + j]?.getD undef, by simp, fun j v hj => ?_, All2.of_get (by simp; omega) fun j l v hl hv => ?_⟩
                · obtain ⟨hk, rfl⟩ := hat j v hj
                  obtain ⟨u, hu⟩ := hget j hk
                  simp [World.cell?, g1, hu]
                · obtain ⟨hk, rfl⟩ := hat j v hv
                  rw [List.getElem?_take, if_pos hk, List.getElem?_drop] at hl
                  obtain ⟨u', hu1, hu2⟩ := g4 _ l hl
                  have : c[β.o + off + j]? = some u' := by rw [← hu1]; congr 1; omega
                  rw [this]; exact hu2
              obtain ⟨olds, hol, hocell, hoall⟩ := hold
              by_cases hroom : len + n ≤ cap
              · -- in place
                have hfit : β.o + off + len * i.size + us.length ≤ c.size := by
                  rw [hul, hcs]
                  have : (len + n) * i.size ≤ cap * i.size := Nat.mul_le_mul_right _ hroom
                  rw [Nat.add_mul] at this
                  rw [hez] at hcap
                  omega
                have hf := run_firstCells_some (P := P) w i.size n ⟨b2, o2, none⟩ n cap2 us hul hucell'
                have hst := run_storeCells_at P β.b (β.o + off + len * i.size) tye us 0 c w g1 (by simpa using hfit) (all2_one huall)
                simp only [Nat.add_zero] at hst
                have hrun : (Builtin.append_ #[ts, ts] ty #[.slice (some ⟨β.b, β.o + off, none⟩) len cap, .slice (some ⟨b2, o2, none⟩) n cap2]).run P w =
                    .ok (.slice (some ⟨β.b, β.o + off, none⟩) (len + n) cap) (w.setRow β.b (c.toList.take (β.o + off + len * i.size) ++ us ++ c.toList.drop (β.o + off + len * i.size + us.length)).toArray) := by
                  simp [Builtin.append_, run_underlying hu, sizeOf, typeInfo, hie, Builtin.lenOf, hroom, hf, addr_add, hst]
                have hwl : ((c0.drop off).take (len * i.size)).length = len * i.size := by rw [hoall.length, hol]
                have hemb' : EmbB G (w.setRow β.b (c.toList.take (β.o + off + len * i.size) ++ us ++ c.toList.drop (β.o + off + len * i.size + us.length)).toArray)
                    (.row ((c0.drop off).take (len * i.size) ++ new) true i.size) ⟨β.b, β.o + off, i.size, β.tot - off, false⟩ := by
                  refine ⟨rfl, .inr ⟨rfl, _, tye, (0, 0), setRow_heap w β.b c _ tye _ g1, fun _ => ⟨rfl, ?_⟩, ?_, fun j l hj => ?_⟩⟩
                  · simp; omega
                  · rw [List.length_append, hwl, huall.length]
                    have := hfit
                    rw [hcs] at this
                    simp only
                    omega
                  · rw [arr_splice_get hfit]
                    by_cases hjo : j < len * i.size
                    · rw [if_neg (by simp only; omega)]
                      rw [List.getElem?_append_left (by omega)] at hj
                      obtain ⟨u, hu1, hu2⟩ := hoall.get hj
                      exact ⟨u, (hocell j u hu1).2, hu2⟩
                    · rw [List.getElem?_append_right (by omega), hwl] at hj
                      obtain ⟨u, hu1, hu2⟩ := huall.get hj
                      have hlt := (List.getElem?_eq_some_iff.1 hu1).1
                      rw [if_pos (by simp only; omega)]
                      exact ⟨u, by rw [← hu1]; congr 1; simp only; omega, hu2⟩
                obtain ⟨h1, h2⟩ := hi.take hl rfl hg (But.setRow w β.b _) hv (β' := ⟨β.b, β.o + off, i.size, β.tot - off, false⟩) rfl hemb' rfl
                refine ⟨_, _, _, hrun, ⟨⟨β.b, β.o + off, i.size, β.tot - off, false⟩, by simp [Gh.put], _, _, rfl, .inr ⟨rfl, by simp, hroom, ?_⟩⟩, h1, h2⟩
                simp only [Nat.zero_add]
                rw [hez] at hcap
                omega
              · obtain ⟨G', h1, h2, h3⟩ := fresh olds _ cap (M.set t none) hoall hol (by omega) hk1 hk2 (by simp)
                have hr := run_append_grow (P := P) w ts ty e i zv hu hie hiz ⟨β.b, β.o + off, none⟩ len cap olds hol (fun j v hj => by rw [addr_add]; exact (hocell j v hj).1) ⟨b2, o2, none⟩ n cap2 us hul hucell'
                  (by omega) (by omega) (growslice_fits (by omega) hby)
                exact ⟨_, _, G', hr, h1, h2, h3⟩
        · cases ha
      · cases ha
    · cases ha

theorem appendS_sound (hi : Inv G M w) {ts ty e : TypeId} {i : TypeInfo} (hu : P.underlying ts = some (.slice e)) (hie : P.info? e = some i) (hsz : 0 < i.size) {zc : List Value} (hz : zeroC P e = some zc)
    {ls lx : LV} {s x : Value} {m n : Nat} {new : List LV} {K : LV → Mem → Prop} (hs : VR G ls s) (hx : VR G lx x) (hm : lenS ls = some m) (hn : lenS lx = some n) (hw : winC M i.size lx = some new)
    (hby : (m + n) * i.bytes ≤ 140737488355328) (h63 : m + n ≤ 9223372036854775807) (ha : appS M i.size ls n new K) :
    ∃ lv N, K lv N ∧ ∃ v w' G', (Builtin.append_ #[ts, ts] ty #[s, x]).run P w = .ok v w' ∧ VR G' lv v ∧ Inv G' N w' ∧ Step G M w G' N w' := by
  obtain ⟨zv, hz1, hz2, hz3, hz4, i', hi', hiz, hszz⟩ := zeroC_run (w := w) hz
  rw [hie] at hi'; cases hi'
  unfold appS at ha
  split at ha
  · rename_i t off len
    simp only [lenS] at hm
    injection hm with hm
    subst hm
    split at ha
    · rename_i c0 e0 hlm
      obtain ⟨hn0, rfl, hle0, hin, hnew⟩ := ha
      obtain ⟨b2, o2, cap2, us, rfl, hul, hucell, huall⟩ := win_cells hi.emba hx hn hw (by omega)
      have hucell' : ∀ j v, us[j]? = some v → w.cell? ((⟨b2, o2, none⟩ : Addr).add j) = some v := fun j v hj => by rw [addr_add]; exact hucell j v hj
      have fresh : ∀ (olds : List Value) (oc : List LV) (old : Nat), All2 (VR1 G) oc olds → olds.length = len * i.size → old < len + n →
          ∃ G', VR G' (.ref M.length 0 (len + n)) (.slice (some ⟨w.heap.size, 0, none⟩) (len + n) (grownCap w (len + n) old e)) ∧
            Inv G' (M ++ [some (.row (oc ++ new) true i.size)]) (w.drew.alloc (.cells (olds.toArray ++ us.toArray ++ Builtin.zeroCells zv.cells (grownCap w (len + n) old e - (len + n))) e)) ∧
            Step G M w G' (M ++ [some (.row (oc ++ new) true i.size)]) (w.drew.alloc (.cells (olds.toArray ++ us.toArray ++ Builtin.zeroCells zv.cells (grownCap w (len + n) old e - (len + n))) e)) := by
        intro olds oc old ho hol hlt
        have hge := grownCap_ge w (len + n) old e
        have hemb := grown_emb (G := G) (esz := i.size) (need := len + n) (newCap := grownCap w (len + n) old e) (z := zv) (e := e) ho huall hszz (by rw [List.length_append, hol, hul, Nat.add_mul]) hge w.drew
        obtain ⟨h1, h2⟩ := hi.push (β := ⟨w.heap.size, 0, i.size, grownCap w (len + n) old e * i.size, false⟩) ((But.drew w).trans (But.alloc w.drew _)) (.inr (Nat.le_refl _)) hemb rfl
        exact ⟨_, ⟨⟨w.heap.size, 0, i.size, grownCap w (len + n) old e * i.size, false⟩, by simp [Gh.put], _, _, rfl, .inr ⟨rfl, by simp, hge, by simp⟩⟩, h1, h2⟩
      have hl : Live M t (.row c0 true i.size) := hlm
      obtain ⟨β, hg, a, cap, rfl, hor⟩ := vr_ref hs
      obtain ⟨β', hg', hez, hemb⟩ := hi.emb t _ hl
      rw [hg] at hg'; cases hg'
      rcases hor with ⟨rfl, rfl⟩ | ⟨hv, rfl, hlc, hcap⟩
      · -- no capacity
        refine ⟨_, _, hnew, ?_⟩
        obtain ⟨G', h1, h2, h3⟩ := fresh [] [] 0 trivial (by simp) (by omega)
        simp only [Nat.zero_mul, List.take_zero, Nat.zero_add] at h1 h2 h3 hby h63 ⊢
        cases a with
        | none =>
          have hr := run_append_nil (P := P) w ts ty e i zv hu hie hiz ⟨b2, o2, none⟩ n cap2 us hul hucell' (by omega) (by omega) (by omega)
          exact ⟨_, _, G', hr, h1, by simpa using h2, by simpa using h3⟩
        | some a =>
          have hr := run_append_grow (P := P) w ts ty e i zv hu hie hiz a 0 0 [] (by simp) (by simp) ⟨b2, o2, none⟩ n cap2 us hul hucell' (by omega) (by omega) (growslice_fits (by omega) (by simpa using hby))
          simp only [Nat.zero_add] at hr
          exact ⟨_, _, G', hr, h1, h2, h3⟩
      · rcases hemb with h | ⟨_, c, tye, fz, g1, g2, g3, g4⟩
        · rw [hv] at h; cases h.1
        · obtain ⟨rfl, hcs⟩ := g2 rfl
          by_cases hroom : len + n ≤ cap
          · -- in place
            refine ⟨_, _, hin, ?_⟩
            have hnl := huall.length
            have hfit : β.b = β.b ∧ off + len * i.size + us.length ≤ β.tot := by
              refine ⟨rfl, ?_⟩
              rw [hul]
              have : (len + n) * i.size ≤ cap * i.size := Nat.mul_le_mul_right _ hroom
              rw [Nat.add_mul] at this
              rw [hez] at hcap
              omega
            replace hfit := hfit.2
            have hfit' : β.o + off + len * i.size + us.length ≤ c.size := by rw [hcs]; omega
            have hf := run_firstCells_some (P := P) w i.size n ⟨b2, o2, none⟩ n cap2 us hul hucell'
            have hst := run_storeCells_at P β.b (β.o + off + len * i.size) tye us 0 c w g1 (by simpa using hfit') (all2_one huall)
            simp only [Nat.add_zero] at hst
            have hrun : (Builtin.append_ #[ts, ts] ty #[.slice (some ⟨β.b, β.o + off, none⟩) len cap, .slice (some ⟨b2, o2, none⟩) n cap2]).run P w =
                .ok (.slice (some ⟨β.b, β.o + off, none⟩) (len + n) cap) (w.setRow β.b (c.toList.take (β.o + off + len * i.size) ++ us ++ c.toList.drop (β.o + off + len * i.size + us.length)).toArray) := by
              simp [Builtin.append_, run_underlying hu, sizeOf, typeInfo, hie, Builtin.lenOf, hroom, hf, addr_add, hst]
            refine ⟨_, _, G, hrun, ⟨β, hg, _, _, rfl, .inr ⟨hv, rfl, hroom, hcap⟩⟩, hi.set hl rfl rfl hg (But.setRow w _ _) ⟨hez, .inr ⟨hv, _, tye, (0, 0), setRow_heap w β.b c _ tye _ g1, fun _ => ⟨rfl, by simp; omega⟩, ?_, fun j l hj => ?_⟩⟩ hv⟩
            · simp only [List.length_append, List.length_take, List.length_drop]
              omega
            · rw [arr_splice_get hfit']
              have htl : (c0.take (off + len * i.size)).length = off + len * i.size := by simp; omega
              by_cases h1 : j < off + len * i.size
              · rw [if_neg (by omega)]
                rw [List.append_assoc, List.getElem?_append_left (by omega), List.getElem?_take, if_pos h1] at hj
                exact g4 j l hj
              · by_cases h2 : j < off + len * i.size + us.length
                · rw [if_pos (by omega)]
                  rw [List.append_assoc, List.getElem?_append_right (by omega), htl, List.getElem?_append_left (by omega)] at hj
                  obtain ⟨u, hu1, hu2⟩ := huall.get hj
                  exact ⟨u, by rw [← hu1]; congr 1; omega, hu2⟩
                · rw [if_neg (by omega)]
                  rw [List.append_assoc, List.getElem?_append_right (by omega), htl, List.getElem?_append_right (by omega), List.getElem?_drop] at hj
                  have : off + len * i.size + new.length + (j - (off + len * i.size) - new.length) = j := by omega
                  rw [this] at hj
                  exact g4 j l hj
          · refine ⟨_, _, hnew, ?_⟩
            have hold : ∃ olds : List Value, olds.length = len * i.size ∧ (∀ j v, olds[j]? = some v → w.cell? ⟨β.b, β.o + off + j, none⟩ = some v ∧ c[β.o + off + j]? = some v) ∧ All2 (VR1 G) ((c0.drop off).take (len * i.size)) olds := by
              have hget : ∀ j, j < len * i.size → ∃ u, c[β.o + off + j]? = some u := fun j hj => by
                obtain ⟨u, hu, _⟩ := g4 (off + j) c0[off + j] (List.getElem?_eq_getElem (by omega))
                exact ⟨u, by rw [← hu]; congr 1; omega⟩
              have hat : ∀ (j : Nat) (v : Value), ((List.range (len * i.size)).map fun j => c[β.o + off + j]?.getD undef)[j]? = some v → j < len * i.size ∧ v = c[β.o + off + j]?.getD undef := fun j v hj => by
                rw [List.getElem?_map] at hj
                by_cases hjn : j < len * i.size
                · rw [List.getElem?_range hjn] at hj; cases hj; exact ⟨hjn, rfl⟩
                · rw [List.getElem?_eq_none (by simp; omega)] at hj; cases hj
              refine ⟨(List.range (len * i.size)).map fun j => c[β.o + off + j]?.getD undef, by simp, fun j v hj => ?_, All2.of_get (by simp; omega) fun j l v hl hv => ?_⟩
              · obtain ⟨hk, rfl⟩ := hat j v hj
                obtain ⟨u, hu⟩ := hget j hk
                simp [World.cell?, g1, hu]
              · obtain ⟨hk, rfl⟩ := hat j v hv
                rw [List.getElem?_take, if_pos hk, List.getElem?_drop] at hl
                obtain ⟨u', hu1, hu2⟩ := g4 _ l hl
                have : c[β.o + off + j]? = some u' := by rw [← hu1]; congr 1; omega
                rw [this]; exact hu2
            obtain ⟨olds, hol, hocell, hoall⟩ := hold
            obtain ⟨G', h1, h2, h3⟩ := fresh olds _ cap hoall hol (by omega)
            have hr := run_append_grow (P := P) w ts ty e i zv hu hie hiz ⟨β.b, β.o + off, none⟩ len cap olds hol (fun j v hj => by rw [addr_add]; exact (hocell j v hj).1) ⟨b2, o2, none⟩ n cap2 us hul hucell'
              (by omega) (by omega) (growslice_fits (by omega) hby)
            exact ⟨_, _, G', hr, h1, h2, h3⟩
    · exact ha.elim
  · exact ha.elim
end
end Go.Ab

namespace Go.Ab
open Go Go.RowKit

def AOp.special : AOp → Bool
  | .store _ _ _ | .append _ _ _ _ _ | .copy _ _ _ _ | .clear _ _ _ _ | .mupd _ _ _ _ | .call _ _ _ | .callV _ _ _ => true
  | _ => false

section
variable {P : Program} {N : Nat}

theorem hasText_of {f : FuncId} (h : hasTextB P f = true) : HasText P f := by
  unfold hasTextB at h
  split at h
  · rename_i fn hf
    simp only [Bool.and_eq_true, Bool.not_eq_true'] at h
    exact ⟨fn, hf, h.1, h.2⟩
  · cases h

theorem Rel.rd0 {G : Gh} {fr : Fr} {M : Mem} {a : Act} {w : World} (h : Rel N G fr M a w) (xs : Array Operand) : Rd0 G fr M a.eval w xs := ⟨fun x _ y hy => h.opd hy, h.inv.emba⟩

theorem gen_sound {o : Oper} {ao : AOp} (hp : prepO P o = some ao) (hd : dstOK N ao = true) (hdd : ao.dst = o.dst) (hsp : ao.special = false) : Snd P N o ao := by
  intro G fr M a w K Q hr hev
  have hev' : match sop ao fr M with
    | some (d, v, c) => c ∧ K (upd fr d v) M
    | none => match aop ao fr M with
      | some (d, v, blk, c) => c ∧ K (upd fr d (v M.length)) (M ++ [some blk])
      | none => False := by
    cases ao <;> first | exact hev | cases hsp
  clear hev
  split at hev'
  · rename_i d v c hs
    obtain ⟨x, h1, h2, h3⟩ := sop_sound hp hs hev'.1 (hr.rd0 _)
    have hdN : d < N := by rw [← hdd] at h1; simp only [dstOK, h1, decide_eq_true_eq] at hd; exact hd
    exact wp_of_value hr h1 hdN h2 h3 hr.inv Step.refl hev'.2
  · split at hev'
    · rename_i d lv blk c hs
      obtain ⟨x, w', β, h1, h2, h3, h4, h5, h5o, h6⟩ := aop_sound hp hs hev'.1 (hr.rd0 _)
      have hdN : d < N := by rw [← hdd] at h1; simp only [dstOK, h1, decide_eq_true_eq] at hd; exact hd
      obtain ⟨k1, k2⟩ := hr.inv.push h3 h4 h5 h5o
      exact wp_of_value hr h1 hdN h2 (h6 _ _ (Gh.put_ext (hr.inv.top _ (Nat.le_refl _))) (by simp [Gh.put])) k1 k2 hev'.2
    · exact hev'.elim

theorem Rel.putO {G G' : Gh} {fr : Fr} {M M' : Mem} {a : Act} {w w' : World} (h : Rel N G fr M a w) (hx : Ext G G') (hi : Inv G' M' w') {d : Option Nat} (hd : ∀ k, d = some k → k < N) {v : LV} {x : Value} (hv : VR G' v x) :
    Rel N G' (putO fr d v) M' (a.put d x) w' := by
  cases d with
  | none => exact h.move hx hi
  | some k => exact h.put hx hi (hd k rfl) hv

theorem wp_of_call {o : Oper} {G : Gh} {fr : Fr} {M : Mem} {a : Act} {w : World} {K : Fr → Mem → Prop} {Q : Exit → Act → World → Prop} {f : FuncId} {args : List LV} {xs : List Value}
    (hr : Rel N G fr M a w) (hd : ∀ k, o.dst = some k → k < N) (hrun : (execOp a.eval o).run P w = .ok (.enter f xs.toArray) w) (hxs : All2 (VR G) args xs) (hc : CallsR P f args M fun v M' => K (putO fr o.dst v) M') : o.wp P a w (Nx N G M w K) Q := by
  unfold Oper.wp
  rw [hrun, Oper.upon_enter]
  refine (hc.2 G w xs hr.inv hxs).mono ?_
  rintro e w' ⟨v, M', x, G', hk, rfl, h1, h2, h3⟩
  exact ⟨_, _, _, hk, hr.putO (h3.ext hr.inv) h2 hd h1, h3⟩

theorem setCells_nil {M M' : Mem} {t off : Nat} (hset : setCells M t off [] = some M') : M' = M := by
  unfold setCells at hset
  split at hset
  · rename_i c0 e0 hlm
    split at hset
    · rename_i hle
      cases hset
      simp only [splice, List.append_nil, List.length_nil, Nat.add_zero, List.take_append_drop]
      apply List.ext_getElem?
      intro j
      by_cases hj : t = j
      · subst hj; rw [List.getElem?_set]; simp only [if_true]; split
        · exact hlm.symm
        · rename_i h; rw [List.getElem?_eq_none (by omega)] at hlm; cases hlm
      · rw [List.getElem?_set_ne hj]
    · cases hset
  · cases hset

theorem callFunc_run {f : FuncId} (h : HasText P f) (xs : Array Value) (w : World) : (callFunc f xs).run P w = .ok (.enter f xs) w := by
  obtain ⟨fn, h1, h2, h3⟩ := h
  simp only [callFunc, Sem.run_bind, run_program, Result.andThen_ok, h1, h2, h3, Bool.false_eq_true, if_false, Sem.run_pure]

theorem call_sound {dst : Option Nat} {ty : TypeId} {pos : String} {after : Array Edge} {guard : Option (Nat × Bool)} {cl : Call} {ao : AOp} (hp : prepCall P cl dst = some ao)
    (hd : dstOK N ao = true) (hdd : ao.dst = dst) : Snd P N ⟨dst, .call cl, ty, pos, after, guard⟩ ao := by
  by_cases hsp : ao.special = false
  · exact gen_sound (by simpa only [prepO] using hp) hd hdd hsp
  · intro G fr M a w K Q hr hev
    have hdN : ∀ k, dst = some k → k < N := fun k hk => by rw [hk] at hdd; simp only [dstOK, hdd, decide_eq_true_eq] at hd; exact hd
    obtain ⟨callee, args, argTypes⟩ := cl
    unfold prepCall at hp
    simp only at hp
    split at hp
    · rename_i f
      split at hp
      · rename_i ht
        obtain ⟨ys, hy, rfl⟩ := map_some' hp
        simp only [AOp.dst] at hdd
        simp only [EvOp] at hev
        refine wp_of_call (xs := args.toList.map a.eval) hr hdN ?_ (hr.opds hy) hev
        simp only [execOp, resolve, Act.eval, Deferred.ofValue, Sem.run_bind, Sem.run_pure, Result.andThen_ok, invoke]
        rw [callFunc_run (hasText_of ht)]
        congr 2
        apply Array.ext'
        simp
      · cases hp
    · rename_i xo _
      split at hp
      · rename_i y ys hx hy
        cases hp
        simp only [AOp.dst] at hdd
        simp only [EvOp] at hev
        split at hev
        · rename_i f caps hclo
          have hv := hr.opd hx
          rw [hclo] at hv
          obtain ⟨cs, hxv, hcs⟩ := vr_clo hv
          have hcaps : All2 (VR G) (caps.map fun p => LV.ptr p.1 p.2) cs := All2.map_left (hcs.mono fun _ _ h => h)
          refine wp_of_call (xs := args.toList.map a.eval ++ cs) hr hdN ?_ ((hr.opds hy).append hcaps) hev
          simp only [execOp, resolve, hxv, Deferred.ofValue, Sem.run_bind, Sem.run_pure, Result.andThen_ok, invoke]
          rw [callFunc_run hev.1]
          congr 2
          apply Array.ext'
          simp
        · exact hev.elim
      · cases hp
    · split at hp
      · rename_i x tx e1 e2
        have ea : args = #[x] := by apply Array.ext'; exact e1
        have et : argTypes = #[tx] := by apply Array.ext'; exact e2
        subst ea; subst et
        split at hp
        · rename_i y e hx hu
          split at hp
          · rename_i z hz
            cases hp
            simp only [AOp.dst] at hdd
            simp only [EvOp] at hev
            split at hev
            · rename_i t off m hy
              obtain ⟨hzl, hev⟩ := hev
              split at hev
              · rename_i M' hset
                have hv := hr.opd hx
                rw [hy] at hv
                obtain ⟨β, hg, ad, cap, hxv, hor⟩ := vr_ref hv
                obtain ⟨zv, hz1, hz2, hz3, hz4, i, hi, hiz, hsz⟩ := zeroC_run (w := w) hz
                have hall : All2 (VR1 G) ((List.replicate m (z.map .val)).flatten) ((List.replicate m z).flatten) :=
                  All2.flatten (All2.replicate _ (All2.map_left (All2.of_get rfl fun i a b e1 e2 => by rw [e1] at e2; cases e2; exact ⟨rfl, hz3 _ (List.mem_of_getElem? e1)⟩)))
                have fin : ∀ w' G', (Builtin.clear_ #[tx] ty #[a.eval x]).run P w = .ok (.tuple #[]) w' → Inv G' M' w' → Step G M w G' M' w' → Oper.wp P ⟨dst, .call ⟨.builtin .clear, #[x], #[tx]⟩, ty, pos, after, guard⟩ a w (Nx N G M w K) Q := by
                  intro w' G' h1 h2 h3
                  unfold Oper.wp
                  have : (execOp a.eval ⟨dst, .call ⟨.builtin .clear, #[x], #[tx]⟩, ty, pos, after, guard⟩).run P w = .ok (.value undef) w' := by
                    have h1' : (Builtin.clear_ #[tx] ty (Array.map a.eval #[x])).run P w = .ok (.tuple #[]) w' := by simpa using h1
                    simp only [execOp, resolve, Sem.run_bind, Sem.run_pure, Result.andThen_ok, invoke, builtin, h1']
                    rfl
                  rw [this, Oper.upon_value]
                  exact ⟨_, _, _, hev, hr.putO (h3.ext hr.inv) h2 hdN (vr_undef G'), h3⟩
                by_cases hm : m = 0
                · subst hm
                  simp only [List.replicate_zero, List.flatten_nil] at hset
                  have hMM := setCells_nil hset
                  subst hMM
                  refine fin w G ?_ hr.inv Step.refl
                  rw [hxv]
                  cases ad <;> simp [Builtin.clear_, run_underlying hu]
                · rcases hor with ⟨h0, _⟩ | ⟨hvt, rfl, _, _⟩
                  · exact absurd h0 hm
                  · obtain ⟨b, o, w', e3, h1, h2, h3⟩ := store_cells (P := P) hr.inv (M' := []) hset (x := .pointer (some ⟨β.b, β.o + off, none⟩)) ⟨β, hg, hvt, rfl⟩ hall
                    cases e3
                    refine fin w' G ?_ h2 h3
                    rw [hxv]
                    have hzc : (Builtin.zeroCells zv.cells m).toList = (List.replicate m z).flatten := by
                      have := made_flat zv.cells m
                      rw [hz2] at this
                      rw [← this]
                      rfl
                    obtain ⟨m, rfl⟩ : ∃ q, m = q + 1 := ⟨m - 1, by omega⟩
                    simp only [Builtin.clear_, Sem.run_bind]
                    simp [run_underlying hu, hz1, hzc, h1]
              · exact hev.elim
            · exact hev.elim
          · cases hp
        · cases hp
      · cases hp
    · rename_i b _
      split at hp
      · split at hp <;> cases hp <;> exact absurd rfl hsp
      · rename_i dd s x ts tx e1 e2 _
        have ea : args = #[s, x] := by apply Array.ext'; exact e1
        have et : argTypes = #[ts, tx] := by apply Array.ext'; exact e2
        subst ea; subst et
        split at hp
        · rename_i s' x' e e' hs hx hus hux
          split at hp
          · rename_i i hi
            split at hp
            · rename_i hcond
              simp only [Bool.and_eq_true, decide_eq_true_eq, beq_iff_eq] at hcond
              obtain ⟨⟨hsz, hz⟩, rfl⟩ := hcond
              obtain ⟨zc, hz⟩ := Option.isSome_iff_exists.1 hz
              cases hp
              simp only [EvOp] at hev
              split at hev
              · rename_i m n new hm hn hw
                obtain ⟨hby, h63, hev⟩ := hev
                rcases hev with hev | hev
                · split at hev
                  · rename_i v M' ha
                    obtain ⟨u, w', G', h1, h2, h3, h4⟩ := append_sound (P := P) (ty := ty) hr.inv hus hi hsz hz (hr.opd hs) (hr.opd hx) hm hn hw hby h63 ha
                    refine wp_of_value hr rfl (hdN _ rfl) ?_ h2 h3 h4 hev
                    have h1' : (Builtin.append_ #[ts, ts] ty (Array.map a.eval #[s, x])).run P w = .ok u w' := by simpa using h1
                    simp only [execOp, resolve, Sem.run_bind, Sem.run_pure, Result.andThen_ok, invoke, builtin, h1']
                  · exact hev.elim
                · obtain ⟨lv, N, hk, u, w', G', h1, h2, h3, h4⟩ := appendS_sound (P := P) (ty := ty) hr.inv hus hi hsz hz (hr.opd hs) (hr.opd hx) hm hn hw hby h63 hev
                  refine wp_of_value hr rfl (hdN _ rfl) ?_ h2 h3 h4 hk
                  have h1' : (Builtin.append_ #[ts, ts] ty (Array.map a.eval #[s, x])).run P w = .ok u w' := by simpa using h1
                  simp only [execOp, resolve, Sem.run_bind, Sem.run_pure, Result.andThen_ok, invoke, builtin, h1']
              · exact hev.elim
            · cases hp
          · cases hp
        · cases hp
      · rename_i dd s x ts tx e1 e2 _
        have ea : args = #[s, x] := by apply Array.ext'; exact e1
        have et : argTypes = #[ts, tx] := by apply Array.ext'; exact e2
        subst ea; subst et
        split at hp
        · rename_i s' x' e e' hs hx hus hux
          split at hp
          · obtain ⟨esz, hse, rfl⟩ := map_some' hp
            simp only [EvOp] at hev
            split at hev
            · rename_i t off m n new hs' hn hw
              split at hev
              · rename_i M' hset
                have hvs := hr.opd hs
                have hvx := hr.opd hx
                rw [hs'] at hvs
                obtain ⟨β, hg, ad, cap, hsv, hor⟩ := vr_ref hvs
                have fin : ∀ w' G', (Builtin.copy_ #[ts, tx] ty #[a.eval s, a.eval x]).run P w = .ok (.int .i64 ((min n m : Nat) : Int)) w' → Inv G' M' w' → Step G M w G' M' w' →
                    Oper.wp P ⟨some dd, .call ⟨.builtin .copy, #[s, x], #[ts, tx]⟩, ty, pos, after, guard⟩ a w (Nx N G M w K) Q := by
                  intro w' G' h1 h2 h3
                  refine wp_of_value (v := .I ((min n m : Nat) : Int)) hr rfl (hdN _ rfl) ?_ ⟨rfl, rfl⟩ h2 h3 hev
                  have h1' : (Builtin.copy_ #[ts, tx] ty (Array.map a.eval #[s, x])).run P w = .ok (.int .i64 ((min n m : Nat) : Int)) w' := by simpa using h1
                  simp only [execOp, resolve, Sem.run_bind, Sem.run_pure, Result.andThen_ok, invoke, builtin, h1']
                by_cases h0 : min n m = 0
                · rw [h0] at hset
                  simp only [Nat.zero_mul, List.take_zero] at hset
                  have hMM := setCells_nil hset
                  subst hMM
                  obtain ⟨ax, cx, hxv, _⟩ := lenS_vr hvx hn
                  refine fin w G ?_ hr.inv Step.refl
                  rw [hsv, hxv]
                  have hf : (Builtin.firstCells esz 0 (.slice ax n cx)).run P w = .ok #[] w := by
                    cases ax <;> simp [Builtin.firstCells, loadCells, loadCellsFrom]
                  have h0' : Nat.min n m = 0 := h0
                  cases ad <;> simp [Builtin.copy_, run_underlying hus, Builtin.lenOf, sizeT_run hse, h0, h0', hf, storeCells, goInt]
                · have hn0 : 0 < n := by omega
                  have hm0 : 0 < m := by omega
                  rcases hor with ⟨h1, _⟩ | ⟨hvt, rfl, _, _⟩
                  · omega
                  · obtain ⟨b2, o2, cap2, us, hxv, hul, hucell, huall⟩ := win_cells hr.inv.emba hvx hn hw hn0
                    have hle : min n m * esz ≤ us.length := by rw [hul]; exact Nat.mul_le_mul_right _ (by omega)
                    obtain ⟨b, o, w', e3, h1, h2, h3⟩ := store_cells (P := P) hr.inv (M' := []) hset (x := .pointer (some ⟨β.b, β.o + off, none⟩)) ⟨β, hg, hvt, rfl⟩ (huall.take _)
                    cases e3
                    refine fin w' G ?_ h2 h3
                    rw [hsv, hxv]
                    have hf := run_firstCells_some (P := P) w esz (min n m) ⟨b2, o2, none⟩ n cap2 (us.take (min n m * esz)) (by rw [List.length_take]; omega) (fun j v hj => by
                      rw [addr_add]
                      rw [List.getElem?_take] at hj
                      split at hj
                      · exact hucell j v hj
                      · cases hj)
                    have hmin : Nat.min n m = min n m := rfl
                    simp only [Builtin.copy_, Sem.run_bind]
                    simp [run_underlying hus, Builtin.lenOf, sizeT_run hse, hmin, hf, h1, goInt]
              · exact hev.elim
            · exact hev.elim
          · cases hp
        · cases hp
      · obtain ⟨_, _, rfl⟩ := map_some' hp; exact absurd rfl hsp
      · obtain ⟨_, _, rfl⟩ := map_some' hp; exact absurd rfl hsp
      · cases hp
    · cases hp
end
end Go.Ab

namespace Go.Ab
open Go Go.RowKit

section
variable {P : Program} {N : Nat}

theorem store_sound {t : TypeId} {a0 x0 : Operand} {ty : TypeId} {pos : String} {after : Array Edge} {guard : Option (Nat × Bool)} {ao : AOp} (hp : prepO P ⟨none, .store t a0 x0, ty, pos, after, guard⟩ = some ao) :
    Snd P N ⟨none, .store t a0 x0, ty, pos, after, guard⟩ ao := by
  intro G fr M a w K Q hr hev
  simp only [prepO] at hp
  split at hp
  · rename_i a' x' n ha hx hn
    cases hp
    simp only [EvOp] at hev
    split at hev
    · rename_i t' off cs hpt hcs
      obtain ⟨hlen, hev⟩ := hev
      split at hev
      · rename_i M' hset
        have hva := hr.opd ha
        rw [hpt] at hva
        have hall := vr_cells (hr.opd hx) hcs
        obtain ⟨b, o, w', e1, h1, h2, h3⟩ := store_cells (P := P) hr.inv (M' := []) hset (vr_ptr hva) hall
        refine wp_of_skip hr rfl ?_ h2 h3 hev
        have hsz : (a.eval x0).cells.size = n := by rw [← hlen, hall.length]; simp
        simp only [execOp, Instr.storeAt, e1, Instr.sureAddr, Sem.run_bind, Sem.run_pure, Result.andThen_ok, storeVar, sizeT_run hn, ne_eq, hsz, not_true_eq_false, if_false, h1]
      · exact hev.elim
    · exact hev.elim
  · cases hp

theorem all2_set {R : LV × LV → MapEntry → Prop} {a : LV × LV} {b : MapEntry} (h : R a b) : ∀ {as : List (LV × LV)} {bs : List MapEntry} (j : Nat), All2 R as bs → All2 R (as.set j a) (bs.set j b)
  | [], [], _, _ => trivial
  | [], _ :: _, _, hh => hh.elim
  | _ :: _, [], _, hh => hh.elim
  | _ :: _, _ :: _, 0, hh => ⟨h, hh.2⟩
  | _ :: _, _ :: _, j + 1, hh => ⟨hh.1, all2_set h j hh.2⟩

theorem one_vr1 {G : Gh} {l : LV} {x : Value} (h : l.one = true) (hv : VR G l x) : VR1 G l x := by
  cases l <;> first | exact hv | cases h

theorem keyN_vr0 {G : Gh} {n : Nat} {l : LV} {x : Value} (h : keyN n l = true) (hv : VR G l x) : VR0 G l x := by
  cases l <;> first | exact hv | cases h

theorem mupd_run {t : TypeId} {kt et : TypeId} {n : Nat} {G : Gh} {M M' : Mem} {w : World} {ml kl vl : LV} {mx kx vx : Value} (hi : Inv G M w) (hu : P.underlying t = some (.map kt et)) (hkt : keyT P kt = some n)
    (hm : VR G ml mx) (hk : VR G kl kx) (hv : VR G vl vx) (hp : putM n ml kl vl M = some M') : ∃ w', (Instr.mapUpdate t mx kx vx).run P w = .ok () w' ∧ Inv G M' w' ∧ Step G M w G M' w' := by
  unfold putM at hp
  split at hp
  · rename_i t'
    split at hp
    · rename_i es hl
      split at hp
      · rename_i hc
        simp only [Bool.and_eq_true] at hc
        obtain ⟨es', h1, h2⟩ := map_some' hp
        subst h2
        obtain ⟨β, en, clock, hg, hvt, rfl, hb, hall⟩ := map_live hi.emba hm hl
        obtain ⟨r, hr⟩ := put_find h1
        obtain ⟨q, h3, h4⟩ := find_run (P := P) (w := w) hkt hc.1 hk hall hr
        have hck := check_run (P := P) (w := w) (em := false) hkt hc.1 hk
        have hk0 := keyN_vr0 hc.1 hk
        have hv1 := one_vr1 hc.2 hv
        have hbut : ∀ o : Obj, But (some β.b) w { w with heap := w.heap.setIfInBounds β.b o } := fun o =>
          ⟨by simp, rfl, rfl, rfl, fun k _ hne => (MapKept.heap_set hb (o' := o)).2 k (fun e => hne (by rw [e]))⟩
        unfold Found at h4
        split at h4
        · have he := h4 vl
          rw [h1] at he; cases he
          refine ⟨{ w with heap := w.heap.setIfInBounds β.b (.map (en.push { key := kx, val := vx, born := clock }) (clock + 1)) }, by simp only [Instr.mapUpdate, Sem.run_bind, run_underlying hu, Result.andThen_ok, MapKept.run_getObj_map hb, hck, h3, MapKept.run_setObj_map _ hb], hi.set hl rfl rfl hg (hbut _) ⟨hvt, _, clock + 1, (MapKept.heap_set hb).1, ?_⟩ hvt⟩
          rw [Array.toList_push]
          exact hall.append ⟨⟨hk0, hv1⟩, trivial⟩
        · rename_i u i0 y
          obtain ⟨j, e, hj, he1, he2, _, he3, he4, he5⟩ := h4
          have he := he5 vl
          rw [h1] at he; cases he
          simp only [Nat.zero_add] at hj
          subst hj
          have hej : en[i0]? = some e := by rw [← Array.getElem?_toList]; exact he1
          refine ⟨{ w with heap := w.heap.setIfInBounds β.b (.map (en.modify i0 fun e => { e with key := kx, val := vx }) clock) }, by simp only [Instr.mapUpdate, Sem.run_bind, run_underlying hu, Result.andThen_ok, MapKept.run_getObj_map hb, hck, h3, hej, Option.map_some, Option.getD_some, he3, Instr.keyThatStays, he4, if_true, Sem.run_pure, MapKept.run_setObj_map _ hb], hi.set hl rfl rfl hg (hbut _) ⟨hvt, _, clock, (MapKept.heap_set hb).1, ?_⟩ hvt⟩
          have : (en.modify i0 fun e => { e with key := kx, val := vx }).toList = en.toList.set i0 { e with key := kx, val := vx } := by
            rw [Array.toList_modify]
            apply List.ext_getElem?
            intro m
            rw [List.getElem?_modify, List.getElem?_set]
            by_cases hm2 : i0 = m
            · subst hm2
              have : i0 < en.toList.length := by have := (List.getElem?_eq_some_iff.1 he1).1; exact this
              rw [if_pos rfl, if_pos this, he1]
              simp
            · rw [if_neg hm2]; simp [hm2]
          rw [this]
          exact all2_set (a := (kl, vl)) (b := { e with key := kx, val := vx }) ⟨hk0, hv1⟩ i0 hall
        · exact h4.elim
      · cases hp
    · cases hp
  · cases hp

theorem mupd_sound {t : TypeId} {m0 k0 v0 : Operand} {op : Op} {ty : TypeId} {pos : String} {after : Array Edge} {guard : Option (Nat × Bool)} {ao : AOp} (hop : op = .mapUpdate t m0 k0 v0 ∨ op = .insert t m0 k0 v0)
    (hp : prepO P ⟨none, op, ty, pos, after, guard⟩ = some ao) : Snd P N ⟨none, op, ty, pos, after, guard⟩ ao := by
  have hp' : ∃ kt et m k v n, P.underlying t = some (.map kt et) ∧ prepX m0 = some m ∧ prepX k0 = some k ∧ prepX v0 = some v ∧ keyT P kt = some n ∧ ao = .mupd n m k v := by
    rcases hop with rfl | rfl
    · simp only [prepO] at hp
      split at hp
      · rename_i kt et m' k' v' hu hm hk hv
        obtain ⟨n, hn, rfl⟩ := map_some' hp
        exact ⟨_, _, _, _, _, n, hu, hm, hk, hv, hn, rfl⟩
      · cases hp
    · simp only [prepO] at hp
      split at hp
      · rename_i kt et m' k' v' hu hm hk hv
        obtain ⟨n, hn, rfl⟩ := map_some' hp
        exact ⟨_, _, _, _, _, n, hu, hm, hk, hv, hn, rfl⟩
      · cases hp
  obtain ⟨kt, et, m', k', v', n, hu, hm, hk, hv, hn, rfl⟩ := hp'
  intro G fr M a w K Q hr hev
  simp only [EvOp] at hev
  split at hev
  · rename_i M' hpm
    obtain ⟨w', h1, h2, h3⟩ := mupd_run hr.inv hu hn (hr.opd hm) (hr.opd hk) (hr.opd hv) hpm
    refine wp_of_skip hr rfl ?_ h2 h3 hev
    rcases hop with rfl | rfl <;> simp only [execOp, h1, Sem.run_bind, Result.andThen_ok, Sem.run_pure]
  · exact hev.elim

theorem evop_sound {o : Oper} {ao : AOp} (hp : prepO P o = some ao) (hd : dstOK N ao = true) (hdd : ao.dst = o.dst) : Snd P N o ao := by
  by_cases hsp : ao.special = false
  · exact gen_sound hp hd hdd hsp
  · obtain ⟨dst, op, ty, pos, after, guard⟩ := o
    cases dst with
    | none =>
      cases op
      case call cl => exact call_sound (by simpa only [prepO] using hp) hd hdd
      case store t a x => exact store_sound hp
      case mapUpdate t m k v => exact mupd_sound (.inl rfl) hp
      case insert t m k v => exact mupd_sound (.inr rfl) hp
      all_goals (simp only [prepO] at hp; cases hp)
    | some d =>
      cases op
      case call cl => exact call_sound (by simpa only [prepO] using hp) hd hdd
      all_goals (exfalso; apply hsp; clear hsp hd hdd; try (simp only [prepO] at hp; cases hp; done))
      case move x => simp only [prepO] at hp; obtain ⟨y, hy, rfl⟩ := map_some' hp; rfl
      case assign x => simp only [prepO] at hp; obtain ⟨y, hy, rfl⟩ := map_some' hp; rfl
      case pick cc a b => simp only [prepO] at hp; split at hp <;> cases hp; rfl
      case alloc t => simp only [prepO] at hp; obtain ⟨y, hy, rfl⟩ := map_some' hp; rfl
      case lookup t m k okc =>
        simp only [prepO] at hp
        split at hp
        · split at hp <;> cases hp; rfl
        · cases hp
      case box t x => simp only [prepO] at hp; obtain ⟨y, hy, rfl⟩ := map_some' hp; rfl
      case build t ps =>
        simp only [prepO] at hp
        split at hp
        · split at hp <;> cases hp; rfl
        · cases hp
      case buildSlice t n ps =>
        simp only [prepO] at hp
        split at hp
        · split at hp
          · split at hp
            · obtain ⟨_, _, rfl⟩ := map_some' hp; rfl
            · cases hp
          · cases hp
        · cases hp
      case load t x =>
        simp only [prepO] at hp
        split at hp
        · split at hp <;> cases hp <;> rfl
        · cases hp
      case nilCheck x => simp only [prepO] at hp; obtain ⟨y, hy, rfl⟩ := map_some' hp; rfl
      case binOp bo t x y yt =>
        simp only [prepO] at hp
        split at hp
        · cases hp; rfl
        · cases hp; rfl
        · split at hp
          · cases hp
          · cases bo <;> simp only at hp <;> cases hp <;> rfl
        · split at hp
          · cases bo <;> simp only at hp <;> cases hp <;> rfl
          · cases hp
        · split at hp
          · split at hp <;> cases hp <;> rfl
          · cases hp
        · cases hp
      case unOp uo t x => simp only [prepO] at hp; obtain ⟨y, hy, rfl⟩ := map_some' hp; rfl
      case convert sT tT x => simp only [prepO] at hp; split at hp <;> cases hp; rfl
      case makeFunc fn fi ca =>
        cases fn <;> simp only [prepO] at hp <;> try (cases hp; done)
        split at hp
        · obtain ⟨y, hy, rfl⟩ := map_some' hp; rfl
        · cases hp
      case makeMap t r => cases r <;> simp only [prepO] at hp <;> cases hp; rfl
      case makeSlice t l cp =>
        simp only [prepO] at hp
        split at hp
        · split at hp
          · split at hp <;> cases hp; rfl
          · cases hp
        · cases hp
      case slice t x lo hi mx =>
        simp only [prepO] at hp
        split at hp
        · split at hp
          · cases mx with
            | none => cases hp; rfl
            | some m => simp only at hp; split at hp <;> cases hp; rfl
          · cases hp
        · split at hp
          · cases hp; rfl
          · cases hp
        · cases mx <;> cases hp; rfl
        · cases hp
      case fieldAddr t x f =>
        simp only [prepO] at hp
        split at hp
        · split at hp
          · split at hp
            · split at hp <;> cases hp; rfl
            · cases hp
          · cases hp
        · cases hp
      case field t x f =>
        simp only [prepO] at hp
        split at hp
        · split at hp
          · split at hp <;> cases hp; rfl
          · cases hp
        · cases hp
      case indexAddr t x i =>
        simp only [prepO] at hp
        split at hp
        · obtain ⟨y, hy, rfl⟩ := map_some' hp; rfl
        · obtain ⟨y, hy, rfl⟩ := map_some' hp; rfl
        · cases hp
      case index t x i =>
        simp only [prepO] at hp
        split at hp
        · obtain ⟨y, hy, rfl⟩ := map_some' hp; rfl
        · cases hp; rfl
        · cases hp
      case extract x i => simp only [prepO] at hp; obtain ⟨y, hy, rfl⟩ := map_some' hp; rfl

theorem evg_sound {ops : Array Oper} {o : Oper} {G : Gh} {fr : Fr} {M : Mem} {a : Act} {w : World} {K : Fr → Mem → Prop} {K' : Act → World → Prop} {Q : Exit → Act → World → Prop}
    (hr : Rel N G fr M a w) (hev : EvG P (prepG P N ops o) fr M K) (hk : ∀ a' w', Nx N G M w K a' w' → K' a' w') :
    if Region.wanted o (yielded ops a.tmps) then o.wp P a w K' Q ∨ (o.asks P a w ∧ LetsOut Q) else K' (a.put o.dst undef) w := by
  have bad : ∀ (fr : Fr) (M : Mem) (K : Fr → Mem → Prop), ¬ EvG P (none, AOp.bad) fr M K := fun fr M K h => h
  unfold prepG at hev
  split at hev
  · rename_i ao hp
    split at hev
    · rename_i hc
      simp only [Bool.and_eq_true, beq_iff_eq] at hc
      obtain ⟨hd, hdd⟩ := hc
      have run : EvOp P ao fr M K → o.wp P a w K' Q := fun h => Oper.wp_mono hk (evop_sound (N := N) hp hd hdd G fr M a w K Q hr h)
      have hdN : ∀ k, o.dst = some k → k < N := fun k hk => by rw [hk] at hdd; simp only [dstOK, hdd, decide_eq_true_eq] at hd; exact hd
      have skip : K (putO fr ao.dst undefL) M → K' (a.put o.dst undef) w := fun h => hk _ _ ⟨_, _, G, h, by rw [hdd]; exact hr.putO (Ext.refl G) hr.inv hdN (vr_undef G), Step.refl⟩
      split at hev
      · rename_i hg
        have hw : Region.wanted o (yielded ops a.tmps) = true := by simp [Region.wanted, hg]
        rw [if_pos hw]
        exact .inl (run hev)
      · rename_i j want hg
        split at hev
        · rename_i s hs
          split at hev
          · rename_i hsN
            have hslot := hr.slots s
            have hget : a.tmps.getD s undef = a.tmps[s]'(by rw [hr.size]; exact hsN) := by simp [hr.size, hsN]
            have hy : yielded ops a.tmps j = match some (a.tmps.getD s undef) with | some (.bool b) => some b | _ => none := by
              unfold yielded
              rw [hs, hget]
              simp [hr.size, hsN]
              rfl
            simp only [EvG] at hev
            split at hev
            · rename_i b hb
              rw [hb] at hslot
              rw [(vr_val hslot).1] at hy
              simp only at hy
              by_cases hbw : b = want
              · have hw : Region.wanted o (yielded ops a.tmps) = true := by simp [Region.wanted, hg, hy, hbw]
                rw [if_pos hw]
                exact .inl (run (hev.1 hbw))
              · have hw : Region.wanted o (yielded ops a.tmps) = false := by simp [Region.wanted, hg, hy, hbw]
                rw [if_neg (by simp [hw])]
                exact skip (hev.2 hbw)
            · rename_i hb
              rw [hb] at hslot
              obtain ⟨xs, hx1, hx2⟩ := vr_tup hslot
              have : xs = [] := by cases xs with | nil => rfl | cons => exact hx2.elim
              subst this
              rw [hx1] at hy
              simp only at hy
              have hw : Region.wanted o (yielded ops a.tmps) = false := by simp [Region.wanted, hg, hy]
              rw [if_neg (by simp [hw])]
              exact skip hev
            · exact hev.elim
          · exact (bad _ _ _ hev).elim
        · exact (bad _ _ _ hev).elim
    · exact (bad _ _ _ hev).elim
  · exact (bad _ _ _ hev).elim

theorem ops_sound (ops : Array Oper) {Q : Exit → Act → World → Prop} : ∀ (l : List Nat) (G : Gh) (fr : Fr) (M : Mem) (a : Act) (w : World) (K : Fr → Mem → Prop), (∀ i ∈ l, i < ops.size) → Rel N G fr M a w →
    EvOps P (l.map fun i => prepG P N ops (ops.getD i default)) fr M K → (∀ a' w', Nx N G M w K a' w' → Q .normal a' w') → wpOps P ops Q l a w
  | [], G, fr, M, a, w, K, _, hr, hev, hq => hq a w ⟨fr, M, G, hev, hr, Step.refl⟩
  | i :: l, G, fr, M, a, w, K, hl, hr, hev, hq => by
    have hi := hl i (by simp)
    have ho : ops[i]? = some ops[i] := getElem?_pos ops i hi
    have hgd : ops.getD i default = ops[i] := by simp [hi]
    simp only [List.map_cons, EvOps, hgd] at hev
    simp only [wpOps, ho]
    refine evg_sound hr hev fun a' w' hn => ?_
    obtain ⟨fr', M', G', h1, h2, h3⟩ := hn
    refine ops_sound ops l G' fr' M' a' w' K (fun j hj => hl j (by simp [hj])) h2 h1 fun a'' w'' hn' => hq a'' w'' ?_
    obtain ⟨fr'', M'', G'', k1, k2, k3⟩ := hn'
    exact ⟨fr'', M'', G'', k1, k2, h3.trans k3⟩

end
end Go.Ab

namespace Go.Ab
open Go Go.RowKit

def Opd.slots : Opd → List Nat
  | .t i => [i]
  | .c _ => []

def optL : Option Opd → List Opd
  | none => []
  | some x => [x]

def AOp.opds : AOp → List Opd
  | .mv _ x | .un _ _ x | .conv _ _ x | .box _ x | .load1 _ x | .loadN _ _ x | .nilck _ x | .sl0 _ _ x | .fieldAddr _ x _ | .field _ x _ _ | .extract _ x _ | .len _ x | .lenT _ x | .clear _ _ _ x => [x]
  | .bin _ _ x y | .eqs _ _ _ x y | .eqb _ _ x y | .store _ x y | .mksl _ _ _ _ x y | .idxS _ _ x y | .idxA _ _ _ x y | .index _ _ _ _ x y | .idxT _ x y | .append _ _ _ x y | .copy _ _ x y => [x, y]
  | .lookup _ _ x y _ _ => [x, y]
  | .pick _ c a b => [c, a, b]
  | .mupd _ m k v => [m, k, v]
  | .alloc _ _ | .mkmap _ | .any _ | .bad => []
  | .build _ _ ps | .buildSl _ _ _ _ ps => ps.map fun p => p.2.2
  | .mkf _ _ xs | .mm _ _ xs | .call _ _ xs => xs
  | .callV _ x xs => x :: xs
  | .slS _ _ x lo hi | .slA _ _ _ x lo hi | .slT _ x lo hi => x :: (optL lo ++ optL hi)

def Agree (o : AOp) (fr fr' : Fr) : Prop := ∀ x ∈ o.opds, x.ev fr = x.ev fr'

theorem parts_congr {fr fr' : Fr} (ps : List (Nat × Nat × Opd)) (h : ∀ x ∈ ps.map (fun p => p.2.2), x.ev fr = x.ev fr') :
    (ps.map fun (o, n, x) => (o, n, x.ev fr)) = (ps.map fun (o, n, x) => (o, n, x.ev fr')) := by
  apply List.map_congr_left
  intro p hp
  simp only [h p.2.2 (List.mem_map.2 ⟨p, hp, rfl⟩)]

theorem caps_congr {fr fr' : Fr} : ∀ (xs : List Opd), (∀ x ∈ xs, x.ev fr = x.ev fr') → capOf xs fr = capOf xs fr'
  | [], _ => rfl
  | x :: r, h => by
    have h1 := h x (by simp)
    have h2 := caps_congr r fun y hy => h y (by simp [hy])
    simp only [capOf, h1, h2]

theorem bounds_congr {fr fr' : Fr} {n : Nat} {lo hi : Option Opd} (h : ∀ x ∈ optL lo ++ optL hi, x.ev fr = x.ev fr') : slBounds fr n lo hi = slBounds fr' n lo hi := by
  unfold slBounds
  cases lo <;> cases hi <;> simp [optL] at h ⊢ <;> simp [h]

theorem eqo_congr {ng : Bool} {x y : Opd} {fr fr' : Fr} (h : x.ev fr = x.ev fr' ∧ y.ev fr = y.ev fr') : eqoV ng x y fr = eqoV ng x y fr' := by
  unfold eqoV
  split
  · rw [h.1]
  · rw [h.1, h.2]
theorem sop_congr {o : AOp} {fr fr' : Fr} {M : Mem} (h : Agree o fr fr') : sop o fr M = sop o fr' M := by
  unfold Agree at h
  cases o <;> simp only [AOp.opds, List.mem_cons, List.mem_nil_iff, or_false, forall_eq_or_imp, forall_eq, List.not_mem_nil, false_imp_iff, implies_true] at h <;>
    simp only [sop] <;> try (simp only [h]; done)
  case eqb d ng x y => rw [eqo_congr h]
  case build d z ps => rw [parts_congr ps h]
  case mkf d f xs => rw [caps_congr xs h]
  case mm d mx xs => rw [List.map_congr_left h]
  case slS d e x lo hi => rw [h.1]; simp only [bounds_congr h.2]
  case slA d n e x lo hi => rw [h.1]; simp only [bounds_congr h.2]
  case slT d x lo hi => rw [h.1]; simp only [bounds_congr h.2]

theorem aop_congr {o : AOp} {fr fr' : Fr} {M M' : Mem} (h : Agree o fr fr') : aop o fr M = aop o fr' M' := by
  unfold Agree at h
  cases o <;> simp only [AOp.opds, List.mem_cons, List.mem_nil_iff, or_false, forall_eq_or_imp, forall_eq, List.not_mem_nil, false_imp_iff, implies_true] at h <;>
    simp only [aop] <;> try (simp only [h]; done)
  case buildSl d n e z ps => rw [parts_congr ps h]

theorem live_getRow {M M' : Mem} {t : Nat} {b : Blk} (h : M[t]? = some (some b)) (h' : M'[t]? = some (some b)) : getRow M' t = getRow M t := by
  unfold getRow; rw [h, h']

theorem sop_mem {o : AOp} {fr : Fr} {M M' : Mem} {r : Nat × LV × Prop} (h : sop o fr M = some r) (hk : ∀ k b, keyOf o fr = some k → M[k]? = some (some b) → M'[k]? = some (some b)) : sop o fr M' = some r := by
  have row : ∀ {t cs}, getRow M t = some cs → keyOf o fr = some t → getRow M' t = some cs := fun {t cs} hr hkk => by
    obtain ⟨own, e, hl⟩ := getRow_live hr
    rw [live_getRow hl (hk _ _ hkk hl)]; exact hr
  cases o <;> simp only [sop] at h ⊢ <;> try (first | exact h | (cases h; done))
  case load1 d x =>
    split at h
    · rename_i t off hx
      cases hc : getCell M t off with
      | none => rw [hc] at h; cases h
      | some c =>
        have hg : ∃ cs, getRow M t = some cs := by
          unfold getCell at hc; cases hr : getRow M t with
          | none => rw [hr] at hc; cases hc
          | some cs => exact ⟨cs, rfl⟩
        obtain ⟨cs, hg⟩ := hg
        have := row hg (by simp [keyOf, hx])
        rw [← h]; unfold getCell; rw [hg, this]
    · cases h
  case loadN d n x =>
    split at h
    · rename_i t off hx
      cases hc : getCells M t off n with
      | none => rw [hc] at h; cases h
      | some c =>
        have hg : ∃ cs, getRow M t = some cs := by
          unfold getCells at hc; cases hr : getRow M t with
          | none => rw [hr] at hc; cases hc
          | some cs => exact ⟨cs, rfl⟩
        obtain ⟨cs, hg⟩ := hg
        have := row hg (by simp [keyOf, hx])
        rw [← h]; unfold getCells; rw [hg, this]
    · cases h
  case slS d e x lo hi =>
    split at h
    · exact h
    · rename_i t off n hx
      split at h
      · rename_i he
        have hl : ∃ b, M[t]? = some (some b) := by
          unfold getEsz at he; split at he
          · rename_i hh; exact ⟨_, hh⟩
          · cases he
        obtain ⟨b, hl⟩ := hl
        have hl' := hk t b (by simp [keyOf, hx]) hl
        have : getEsz M' t = getEsz M t := by unfold getEsz; rw [hl, hl']
        rw [this, if_pos he]; exact h
      · cases h
    · cases h
  case slA d n e x lo hi =>
    split at h
    · rename_i t off hx
      split at h
      · rename_i he
        have hl : ∃ b, M[t]? = some (some b) := by
          have he := he.1
          unfold getEsz at he; split at he
          · rename_i hh; exact ⟨_, hh⟩
          · cases he
        obtain ⟨b, hl⟩ := hl
        have hl' := hk t b (by simp [keyOf, hx]) hl
        have h1 : getEsz M' t = getEsz M t := by unfold getEsz; rw [hl, hl']
        have h2 : getCells M' t off (n * e) = getCells M t off (n * e) := by unfold getCells; rw [live_getRow hl hl']
        rw [h1, h2, if_pos he]; exact h
      · cases h
    · cases h
  case lookup d n m k z ok =>
    obtain ⟨r, h1, h2⟩ := map_some' h
    unfold lookM at h1
    split at h1
    · rename_i t hx
      split at h1
      · rename_i es hl
        have hl' := hk t _ (by simp [keyOf, hx]) hl
        have : lookM n (m.ev fr) (k.ev fr) M' = some r := by unfold lookM; rw [hx]; simp only [hl']; exact h1
        rw [this, h2]; rfl
      · cases h1
    · cases h1

theorem sop_dst {o : AOp} {fr : Fr} {M : Mem} {d : Nat} {v : LV} {c : Prop} (h : sop o fr M = some (d, v, c)) : o.dst = some d := by
  cases o <;> simp only [sop] at h <;> simp only [AOp.dst] <;> try (cases h; done)
  all_goals (first | (cases h; rfl) | skip)
  all_goals (repeat' split at h)
  all_goals (first | (cases h; done) | (cases h; rfl) | (obtain ⟨_, _, h⟩ := map_some' h; cases h; rfl))

theorem aop_dst {o : AOp} {fr : Fr} {M : Mem} {d : Nat} {v : Nat → LV} {b : Blk} {c : Prop} (h : aop o fr M = some (d, v, b, c)) : o.dst = some d := by
  cases o <;> simp only [aop] at h <;> simp only [AOp.dst] <;> try (cases h; done)
  all_goals (first | (cases h; rfl) | skip)
  all_goals (repeat' split at h)
  all_goals (first | (cases h; done) | (cases h; rfl) | (obtain ⟨_, _, h⟩ := map_some' h; cases h; rfl))

def Opd.plain : Opd → Bool
  | .c (.ref _ _ _) | .c (.ptr _ _) | .c (.mp _) => false
  | _ => true

theorem key_vr {o : AOp} {fr : Fr} {G : Gh} {k : Nat} (hk : keyOf o fr = some k) (hpl : ∀ x ∈ o.opds, x.plain = true) (hv : ∀ i, ∃ y, VR G (fr i) y) : ∃ β, G k = some β := by
  have hp : ∀ {x : Opd} {l : LV}, x ∈ o.opds → x.ev fr = l → (∃ y, VR G l y) ∨ x = .c l := fun {x l} hx he => by
    cases x with
    | t i => obtain ⟨y, hy⟩ := hv i; exact .inl ⟨y, by rw [← he]; exact hy⟩
    | c v => exact .inr (by simp only [Opd.ev] at he; rw [he])
  have hptr : ∀ {x : Opd} {t off}, x ∈ o.opds → x.ev fr = .ptr t off → ∃ β, G t = some β := fun {x t off} hx he => by
    rcases hp hx he with ⟨y, hy⟩ | h
    · obtain ⟨β, h1, _⟩ := vr_ptr hy; exact ⟨β, h1⟩
    · have := hpl x hx; rw [h] at this; cases this
  cases o <;> simp only [keyOf] at hk <;> try (cases hk; done)
  case load1 d x => split at hk <;> cases hk; rename_i he; exact hptr (by simp [AOp.opds]) he
  case loadN d n x => split at hk <;> cases hk; rename_i he; exact hptr (by simp [AOp.opds]) he
  case slA d n e x lo hi => split at hk <;> cases hk; rename_i he; exact hptr (by simp [AOp.opds]) he
  case slS d e x lo hi =>
    split at hk <;> cases hk
    rename_i he
    rcases hp (x := x) (by simp [AOp.opds]) he with ⟨y, hy⟩ | h
    · obtain ⟨β, h1, _⟩ := vr_ref hy; exact ⟨β, h1⟩
    · have := hpl x (by simp [AOp.opds]); rw [h] at this; cases this
  case lookup d nn m kk z ok =>
    split at hk <;> cases hk
    rename_i he
    rcases hp (x := m) (by simp [AOp.opds]) he with ⟨y, hy⟩ | h
    · obtain ⟨β, h1, _⟩ := vr_mp hy; exact ⟨β, h1⟩
    · have := hpl m (by simp [AOp.opds]); rw [h] at this; cases this

theorem kind_special {o : AOp} (h : o.special = true) : o.kind = 2 := by
  cases o <;> first | rfl | cases h

theorem kind0_aop {o : AOp} {fr : Fr} {M : Mem} (h : o.kind = 0) : aop o fr M = none := by
  cases o <;> first | rfl | cases h

theorem kind1_sop {o : AOp} {fr : Fr} {M : Mem} (h : o.kind = 1) : sop o fr M = none := by
  cases o <;> first | rfl | cases h

theorem evop_plain {P : Program} {o : AOp} {fr : Fr} {M : Mem} {K : Fr → Mem → Prop} (h : o.special = false) : EvOp P o fr M K ↔ (match sop o fr M with
    | some (d, v, c) => c ∧ K (upd fr d v) M
    | none => match aop o fr M with
      | some (d, v, blk, c) => c ∧ K (upd fr d (v M.length)) (M ++ [some blk])
      | none => False) := by
  cases o <;> first | exact Iff.rfl | cases h

theorem CallsR.mono {P : Program} {f : FuncId} {args : List LV} {M : Mem} {A B : LV → Mem → Prop} (h : CallsR P f args M A) (hab : ∀ v N, A v N → B v N) : CallsR P f args M B :=
  ⟨h.1, fun G w xs hi hx => (h.2 G w xs hi hx).mono fun _ _ ⟨v, N, x, G', h1, h2⟩ => ⟨v, N, x, G', hab v N h1, h2⟩⟩

theorem evop_congr {P : Program} {o : AOp} {fr fr' : Fr} {M : Mem} {K K' : Fr → Mem → Prop} (h : Agree o fr fr') (hk : ∀ v N, K (putO fr o.dst v) N → K' (putO fr' o.dst v) N)
    (hev : EvOp P o fr M K) : EvOp P o fr' M K' := by
  by_cases hsp : o.special = false
  · rw [evop_plain hsp] at hev ⊢
    rw [← sop_congr h]
    split at hev
    · rename_i d v c hs
      refine ⟨hev.1, ?_⟩
      have := hk v M
      rw [sop_dst hs] at this
      exact this hev.2
    · rename_i hs
      split at hev
      · rename_i d lv blk c ha
        rw [← aop_congr (M := M) h, ha]
        refine ⟨hev.1, ?_⟩
        have := hk (lv M.length) (M ++ [some blk])
        rw [aop_dst ha] at this
        exact this hev.2
      · exact hev.elim
  · unfold Agree at h
    cases o <;> try (exact absurd rfl hsp)
    case store n a x =>
      simp only [AOp.opds, List.mem_cons, List.mem_nil_iff, or_false, forall_eq_or_imp, forall_eq] at h
      simp only [EvOp, ← h.1, ← h.2] at hev ⊢
      split at hev
      · refine ⟨hev.1, ?_⟩
        have hev := hev.2
        split at hev
        · rename_i hs; exact hk undefL _ hev
        · exact hev.elim
      · exact hev.elim
    case append d e b s x =>
      simp only [AOp.opds, List.mem_cons, List.mem_nil_iff, or_false, forall_eq_or_imp, forall_eq] at h
      simp only [EvOp, ← h.1, ← h.2] at hev ⊢
      split at hev
      · refine ⟨hev.1, hev.2.1, ?_⟩
        have hev := hev.2.2
        rcases hev with hev | hev
        · refine .inl ?_
          split at hev
          · exact hk _ _ hev
          · exact hev.elim
        · exact .inr (hev.mono fun v N => hk v N)
      · exact hev.elim
    case copy d e s x =>
      simp only [AOp.opds, List.mem_cons, List.mem_nil_iff, or_false, forall_eq_or_imp, forall_eq] at h
      simp only [EvOp, ← h.1, ← h.2] at hev ⊢
      split at hev
      · split at hev
        · exact hk _ _ hev
        · exact hev.elim
      · exact hev.elim
    case clear d e z x =>
      simp only [AOp.opds, List.mem_cons, List.mem_nil_iff, or_false, forall_eq_or_imp, forall_eq] at h
      simp only [EvOp, ← h] at hev ⊢
      split at hev
      · refine ⟨hev.1, ?_⟩
        have hev := hev.2
        split at hev
        · exact hk _ _ hev
        · exact hev.elim
      · exact hev.elim
    case mupd nn m k v =>
      simp only [AOp.opds, List.mem_cons, List.mem_nil_iff, or_false, forall_eq_or_imp, forall_eq] at h
      simp only [EvOp, ← h.1, ← h.2.1, ← h.2.2] at hev ⊢
      split at hev
      · exact hk undefL _ hev
      · exact hev.elim
    case call d f args =>
      simp only [AOp.opds] at h
      simp only [EvOp, ← List.map_congr_left h] at hev ⊢
      exact hev.mono fun v N => hk v N
    case callV d x args =>
      simp only [AOp.opds, List.mem_cons, forall_eq_or_imp] at h
      simp only [EvOp, ← h.1, ← List.map_congr_left h.2] at hev ⊢
      split at hev
      · exact hev.mono fun v N => hk v N
      · exact hev.elim

def GOp.looks (g : GOp) : List Nat := (match g.1 with | some (s, _) => [s] | none => []) ++ g.2.opds.flatMap Opd.slots

theorem GOp.agree {g : GOp} {fr fr' : Fr} (h : ∀ s ∈ GOp.looks g, fr s = fr' s) : Agree g.2 fr fr' ∧ ∀ s b, g.1 = some (s, b) → fr s = fr' s := by
  refine ⟨fun x hx => ?_, fun s b hg => h s (by simp [GOp.looks, hg])⟩
  cases x with
  | t i => exact h i (by simp only [GOp.looks, List.mem_append, List.mem_flatMap]; exact .inr ⟨_, hx, by simp [Opd.slots]⟩)
  | c v => rfl

theorem evg_congr {P : Program} {g : GOp} {fr fr' : Fr} {M : Mem} {K K' : Fr → Mem → Prop} (h : ∀ s ∈ GOp.looks g, fr s = fr' s) (hk : ∀ v N, K (putO fr g.2.dst v) N → K' (putO fr' g.2.dst v) N)
    (hev : EvG P g fr M K) : EvG P g fr' M K' := by
  obtain ⟨h1, h2⟩ := GOp.agree h
  unfold EvG at hev ⊢
  split at hev
  · exact evop_congr h1 hk hev
  · rename_i s want hg
    simp only [← h2 s want hg]
    split at hev
    · exact ⟨fun e => evop_congr h1 hk (hev.1 e), fun e => hk _ _ (hev.2 e)⟩
    · exact hk _ _ hev
    · exact hev.elim
end Go.Ab

namespace Go.Ab
open Go Go.RowKit

theorem maskM_len : ∀ (ks : List Nat) (M : Mem), (maskM ks M).length = M.length
  | [], _ => rfl
  | k :: ks, M => by simp [maskM, maskM_len ks]

theorem maskM_live : ∀ {ks : List Nat} {M : Mem} {t : Nat} {b : Blk}, Live (maskM ks M) t b ↔ t ∉ ks ∧ Live M t b
  | [], M, t, b => by simp [maskM]
  | k :: ks, M, t, b => by
    simp only [maskM, maskM_live (ks := ks), List.mem_cons, not_or]
    constructor
    · rintro ⟨h1, h2⟩
      rcases live_set h2 with ⟨_, h3, _⟩ | ⟨h3, h4⟩
      · cases h3
      · exact ⟨⟨h3, h1⟩, h4⟩
    · rintro ⟨⟨h1, h2⟩, h3⟩
      refine ⟨h2, ?_⟩
      unfold Live at *
      rw [List.getElem?_set_ne (fun e => h1 e.symm)]; exact h3

theorem unmask_len (M : Mem) : ∀ (ks : List Nat) (N : Mem), (unmask M ks N).length = N.length
  | [], _ => rfl
  | k :: ks, N => by
    simp only [unmask, unmask_len M ks]
    split <;> simp

theorem unmask_keep {M : Mem} {t : Nat} {b : Blk} (hl : Live M t b) : ∀ {ks : List Nat} {N : Mem}, Live N t b → Live (unmask M ks N) t b
  | [], _, h => h
  | k :: ks, N, h => by
    simp only [unmask]
    refine unmask_keep hl ?_
    split
    · rename_i b1 h1
      unfold Live at *
      by_cases hk : k = t
      · subst hk
        rw [h1] at hl; cases hl
        rw [List.getElem?_set]
        have : k < N.length := by
          rcases Nat.lt_or_ge k N.length with h' | h'
          · exact h'
          · rw [List.getElem?_eq_none h'] at h; cases h
        simp [this]
      · rw [List.getElem?_set_ne hk]; exact h
    · exact h

theorem unmask_in {M : Mem} {t : Nat} {b : Blk} (hl : Live M t b) : ∀ {ks : List Nat} {N : Mem}, t ∈ ks → t < N.length → Live (unmask M ks N) t b
  | k :: ks, N, h, hN => by
    simp only [unmask]
    by_cases hk : k = t
    · subst hk
      unfold Live at hl
      rw [hl]
      refine unmask_keep hl ?_
      unfold Live
      simp [hN]
    · refine unmask_in hl ((List.mem_cons.1 h).resolve_left fun e => hk e.symm) ?_
      split
      · simpa using hN
      · exact hN

theorem unmask_live {M : Mem} {t : Nat} {b : Blk} : ∀ {ks : List Nat} {N : Mem}, Live (unmask M ks N) t b → (t ∈ ks ∧ Live M t b) ∨ Live N t b
  | [], _, h => .inr h
  | k :: ks, N, h => by
    simp only [unmask] at h
    rcases unmask_live h with ⟨h1, h2⟩ | h1
    · exact .inl ⟨by simp [h1], h2⟩
    · split at h1
      · rename_i b1 hb1
        rcases live_set h1 with ⟨rfl, h3, _⟩ | ⟨_, h3⟩
        · cases h3; exact .inl ⟨by simp, hb1⟩
        · exact .inr h3
      · exact .inr h1

theorem mem_ext {M M' : Mem} (hl : M.length = M'.length) (h : ∀ t b, Live M t b ↔ Live M' t b) : M = M' := by
  apply List.ext_getElem hl
  intro i h1 h2
  have h := h i
  unfold Live at h
  rw [List.getElem?_eq_getElem h1, List.getElem?_eq_getElem h2] at h
  cases e1 : M[i] with
  | none => cases e2 : M'[i] with
    | none => rfl
    | some b => rw [e1, e2] at h; have := (h b).2 rfl; cases this
  | some b => rw [e1] at h; have := (h b).1 rfl; injection this with this; exact this.symm

theorem Step.sub {G0 G : Gh} {M0 M M' : Mem} {w0 w : World} (h : Step G0 M0 w0 G M w) (hs : ∀ t b, Live M' t b → Live M t b) (hl : M.length ≤ M'.length) : Step G0 M0 w0 G M' w :=
  ⟨h.gh, Nat.le_trans h.len hl, h.size, h.os, h.tape, h.output, h.keep, fun b ⟨u, b1, γ, k1, k2⟩ => h.own b ⟨u, b1, γ, hs _ _ k1, k2⟩, fun t b k1 k2 => h.ro t b (hs _ _ k1) k2⟩

theorem Inv.sub {G : Gh} {M M' : Mem} {w : World} (hi : Inv G M w) (hs : ∀ t b, Live M' t b → Live M t b) (hl : M.length ≤ M'.length) : Inv G M' w :=
  ⟨fun t b h => hi.emb t b (hs t b h), fun t t' b b' β β' hn h h' => hi.sep t t' b b' β β' hn (hs _ _ h) (hs _ _ h'), fun t ht => hi.top t (by omega)⟩

theorem Inv.frame {G G' : Gh} {ME Mm N M'' : Mem} {w w' : World} (hi : Inv G ME w) (hsub : ∀ t b, Live Mm t b → Live ME t b) (hlen : Mm.length = ME.length) (hi' : Inv G' N w') (hs : Step G Mm w G' N w')
    (hl'' : M''.length = N.length) (hM : ∀ t b, Live M'' t b → Live N t b ∨ (Live ME t b ∧ b.isOwn = true ∧ ∀ b', ¬ Live Mm t b')) : Inv G' M'' w' ∧ Step G ME w G' M'' w' := by
  have sepX : ∀ {t b β}, Live ME t b → b.isOwn = true → (∀ b', ¬ Live Mm t b') → G t = some β → β.virt = false → ¬ OwnB G Mm β.b := fun {t b β} h1 h2 h3 hg hv ⟨u, b1, γ, k1, k2, k3, k4, k5⟩ =>
    hi.sep t u b b1 β γ (fun e => h3 b1 (e ▸ k1)) h1 (hsub _ _ k1) h2 hg k3 hv k4 k5.symm
  have gh : ∀ {t b}, Live ME t b → G' t = G t := fun {t b} h => hs.gh t (by rw [hlen]; exact h.lt)
  have mix : ∀ {t b t' b' β β'}, t ≠ t' → Live ME t b → b.isOwn = true → (∀ b', ¬ Live Mm t b') → Live N t' b' → G' t = some β → G' t' = some β' → β.virt = false → β'.virt = false → β.b ≠ β'.b :=
    fun {t b t' b' β β'} hne h1 h2 h3 h4 hg hg' hv hv' e => by
      have hg0 : G t = some β := (gh h1).symm.trans hg
      have hno := sepX h1 h2 h3 hg0 hv
      by_cases ho : b'.isOwn = true
      · rcases hs.own β'.b ⟨t', b', β', h4, ho, hg', hv', rfl⟩ with k | k
        · obtain ⟨γ, e1, e2⟩ := hi.emb t b h1
          rw [hg0] at e1; cases e1
          have := e2.lt hv
          omega
        · exact hno (e ▸ k)
      · have ho : b'.isOwn = false := by simpa using ho
        have k := hsub _ _ (hs.ro t' b' h4 ho)
        exact hi.sep t t' b b' β β' hne h1 k h2 hg0 ((gh k).symm.trans hg') hv hv' e
  have hx : Ext G G' := hs.ext (hi.sub hsub (by omega))
  refine ⟨⟨fun t b h => ?_, fun t t' b b' β β' hne h h' ho hg hg' hv hv' => ?_, fun t ht => hi'.top t (by omega)⟩,
    ⟨fun t ht => hs.gh t (by omega), by rw [hl'', ← hlen]; exact hs.len, hs.size, hs.os, hs.tape, hs.output, fun b hb hn => hs.keep b hb fun ⟨u, b1, γ, k1, k2⟩ => hn ⟨u, b1, γ, hsub _ _ k1, k2⟩, fun b ⟨u, b1, γ, k1, k2, k3, k4, k5⟩ => ?_, fun t b h ho => ?_⟩⟩
  · rcases hM t b h with h | ⟨h1, h2, h3⟩
    · exact hi'.emb t b h
    · obtain ⟨β, hg, he⟩ := hi.emb t b h1
      exact ⟨β, (gh h1).trans hg, he.ext hx fun hv => hs.keep _ (he.lt hv) (sepX h1 h2 h3 hg hv)⟩
  · rcases hM t b h with h | ⟨h1, h2, h3⟩ <;> rcases hM t' b' h' with h' | ⟨h1', h2', h3'⟩
    · exact hi'.sep t t' b b' β β' hne h h' ho hg hg' hv hv'
    · exact fun e => mix (fun e => hne e.symm) h1' h2' h3' h hg' hg hv' hv e.symm
    · exact mix hne h1 h2 h3 h' hg hg' hv hv'
    · exact hi.sep t t' b b' β β' hne h1 h1' ho ((gh h1).symm.trans hg) ((gh h1').symm.trans hg') hv hv'
  · rcases hM u b1 k1 with h | ⟨h1, h2, h3⟩
    · rcases hs.own b ⟨u, b1, γ, h, k2, k3, k4, k5⟩ with k | ⟨u', b', γ', m1, m2⟩
      · exact .inl k
      · exact .inr ⟨u', b', γ', hsub _ _ m1, m2⟩
    · exact .inr ⟨u, b1, γ, h1, k2, (gh h1).symm.trans k3, k4, k5⟩
  · rcases hM t b h with h | ⟨h1, h2, h3⟩
    · exact hsub _ _ (hs.ro t b h ho)
    · rw [h2] at ho; cases ho

theorem Inv.fill {G : Gh} {M : Mem} {w w' : World} {h : Nat} {blk : Blk} {β : Base} (hi : Inv G M w) (hG : G h = none) (hh : h < M.length) (hb : But none w w')
    (hn : β.virt = true ∨ w.heap.size ≤ β.b) (he : EmbB G w' blk β) (hob : blk.isOwn = true) :
    Inv (G.put h β) (M.set h (some blk)) w' ∧ ∀ G0 M0 w0, M0.length ≤ h → Step G0 M0 w0 G M w → Step G0 M0 w0 (G.put h β) (M.set h (some blk)) w' := by
  have hx : Ext G (G.put h β) := Gh.put_ext hG
  have hne : ∀ t, t ≠ h → (G.put h β) t = G t := fun t ht => by unfold Gh.put; rw [if_neg ht]
  have hat : (G.put h β) h = some β := by simp [Gh.put]
  have old : ∀ t b' γ, Live M t b' → G t = some γ → γ.virt = false → γ.b < w.heap.size := fun t b' γ hl hg hv => by
    obtain ⟨γ', hg', he'⟩ := hi.emb t b' hl
    rw [hg] at hg'; cases hg'
    exact he'.lt hv
  refine ⟨⟨fun t b' hl => ?_, fun t t' b1 b2 γ γ' htt h1 h2 ho hg hg' hv hv' => ?_, fun t ht => ?_⟩, fun G0 M0 w0 h0 hs => ?_⟩
  · rcases live_set hl with ⟨rfl, h1, _⟩ | ⟨hth, hl'⟩
    · cases h1; exact ⟨β, hat, he.ext hx fun _ => rfl⟩
    · obtain ⟨γ, hg, he'⟩ := hi.emb t b' hl'
      exact ⟨γ, hx _ _ hg, he'.ext hx fun hv => hb.keep _ (he'.lt hv) (by simp)⟩
  · rcases live_set h1 with ⟨e1, _, _⟩ | ⟨hlt, hl⟩ <;> rcases live_set h2 with ⟨e2, _, _⟩ | ⟨hlt', hl'⟩
    · exact absurd (e1.trans e2.symm) htt
    · subst e1; rw [hat] at hg; cases hg
      rw [hne _ hlt'] at hg'
      have := old t' b2 γ' hl' hg' hv'
      rcases hn with hn | hn
      · rw [hn] at hv; cases hv
      · omega
    · subst e2; rw [hat] at hg'; cases hg'
      rw [hne _ hlt] at hg
      have := old t b1 γ hl hg hv
      rcases hn with hn | hn
      · rw [hn] at hv'; cases hv'
      · omega
    · rw [hne _ hlt] at hg; rw [hne _ hlt'] at hg'
      exact hi.sep t t' b1 b2 γ γ' htt hl hl' ho hg hg' hv hv'
  · simp at ht
    rw [hne _ (by omega)]
    exact hi.top t ht
  · refine ⟨fun t ht => (hne t (by omega)).trans (hs.gh t ht), by simpa using hs.len, Nat.le_trans hs.size hb.size, hb.os.trans hs.os, hb.tape.trans hs.tape, hb.output.trans hs.output,
      fun b k1 k2 => (hb.keep b (Nat.lt_of_lt_of_le k1 hs.size) (by simp)).trans (hs.keep b k1 k2), fun b ⟨t, b1, γ, hl, ho, hg, hv, e⟩ => ?_, fun t b' hl ho => ?_⟩
    · rcases live_set hl with ⟨rfl, _, _⟩ | ⟨hlt, hl'⟩
      · rw [hat] at hg; cases hg
        rcases hn with hn | hn
        · rw [hn] at hv; cases hv
        · exact .inl (by have := hs.size; omega)
      · rw [hne _ hlt] at hg
        exact hs.own b ⟨t, b1, γ, hl', ho, hg, hv, e⟩
    · rcases live_set hl with ⟨_, h1, _⟩ | ⟨_, hl'⟩
      · cases h1; rw [hob] at ho; cases ho
      · exact hs.ro t b' hl' ho

end Go.Ab

namespace Go.Ab
open Go Go.RowKit

/-! ### The order of the abstract machine, and what is checked of it -/
def needsL (es : List (List Nat)) (D : List (List Nat)) (i : Nat) : List Nat :=
  ((es.getD i []).flatMap fun j => j :: D.getD j []).eraseDups

def closeD (es : List (List Nat)) : List (List Nat) :=
  (List.range es.length).foldl (fun D i => D ++ [needsL es D i]) []

def pickNext (gs : List GOp) (D : List (List Nat)) (done : List Nat) : Option Nat :=
  let rs := (List.range gs.length).filter fun i => !done.contains i && (D.getD i []).all done.contains
  let at_ (k : Nat) := rs.find? fun i => (gs.getD i (none, .bad)).2.kind == k
  match at_ 0 with
  | some i => some i
  | none => match at_ 1 with
    | some i => some i
    | none => at_ 2

def orderL (gs : List GOp) (D : List (List Nat)) : Nat → List Nat → List Nat
  | 0, done => done
  | n + 1, done => match pickNext gs D done with
    | some i => orderL gs D n (done ++ [i])
    | none => done

def dopAt (gs : List GOp) (D : List (List Nat)) (ord : List Nat) (p : Nat) : DOp :=
  let i := ord.getD p 0
  let free (k : Nat) := (List.range p).filter fun q => (gs.getD (ord.getD q 0) (none, .bad)).2.kind == k && !(D.getD i []).contains (ord.getD q 0)
  let g := gs.getD i (none, .bad)
  if g.2.kind = 2 then ⟨g, free 1, free 0⟩ else ⟨g, [], []⟩

def drawOK (es : List (List Nat)) (gs : List GOp) (D : List (List Nat)) (ord : List Nat) : Bool :=
  ((List.range gs.length).all fun i => !(D.getD i []).contains i && (D.getD i []).all fun k => decide (k < gs.length)) && (gs.all fun g => g.2.opds.all Opd.plain) && (es.length == gs.length) && (ord.length == gs.length) &&
  ((List.range gs.length).all fun i => ord.contains i) &&
  ((List.range gs.length).all fun p => decide (ord.getD p 0 < gs.length) && (List.range p).all fun q => ord.getD q 0 != ord.getD p 0) &&
  ((List.range gs.length).all fun i => (es.getD i []).all fun j => (D.getD i []).contains j && (D.getD j []).all (D.getD i []).contains) &&
  ((List.range gs.length).all fun i => (D.getD i []).all fun k => (es.getD i []).any fun j => k == j || (D.getD j []).contains k) &&
  ((List.range gs.length).all fun p => (List.range p).all fun q => !((D.getD (ord.getD q 0) []).contains (ord.getD p 0))) &&
  ((List.range gs.length).all fun p => (List.range p).all fun q => (gs.getD (ord.getD q 0) (none, .bad)).2.kind != 2 || (D.getD (ord.getD p 0) []).contains (ord.getD q 0)) &&
  ((List.range gs.length).all fun i => (List.range gs.length).all fun k => i == k || ((match (gs.getD i (none, .bad)).2.dst with
      | some s => (gs.getD k (none, .bad)).2.dst != some s && (!((GOp.looks (gs.getD k (none, .bad))).contains s) || (D.getD k []).contains i || (D.getD i []).contains k)
      | none => true)))

def edgesL (ops : Array Oper) : List (List Nat) := ops.toList.map fun o => (o.after.toList.filter (Region.binds .any)).map (·.on)

def prepDraw (P : Program) (N : Nat) (ops : Array Oper) : ACode :=
  let gs := ops.toList.map (prepG P N ops)
  let es := edgesL ops
  let D := closeD es
  let ord := orderL gs D gs.length []
  if P.follows .mixedOrders && drawOK es gs D ord then .draw ((List.range gs.length).map (dopAt gs D ord)) else .bad

structure Held (es : List (List Nat)) (gs : List GOp) (D : List (List Nat)) (ord : List Nat) : Prop where
  irr : ∀ i, i < gs.length → i ∉ D.getD i []
  dlt : ∀ i, i < gs.length → ∀ k ∈ D.getD i [], k < gs.length
  pl : ∀ g ∈ gs, ∀ x ∈ g.2.opds, x.plain = true
  el : es.length = gs.length
  ol : ord.length = gs.length
  all : ∀ i, i < gs.length → i ∈ ord
  lt : ∀ p, p < gs.length → ord.getD p 0 < gs.length
  inj : ∀ p q, p < gs.length → q < gs.length → ord.getD q 0 = ord.getD p 0 → q = p
  edge : ∀ i, i < gs.length → ∀ j ∈ es.getD i [], j ∈ D.getD i [] ∧ ∀ k ∈ D.getD j [], k ∈ D.getD i []
  why : ∀ i, i < gs.length → ∀ k ∈ D.getD i [], ∃ j ∈ es.getD i [], k = j ∨ k ∈ D.getD j []
  topo : ∀ p q, p < gs.length → q < p → ord.getD p 0 ∉ D.getD (ord.getD q 0) []
  calls : ∀ p q, p < gs.length → q < p → (gs.getD (ord.getD q 0) (none, .bad)).2.kind = 2 → ord.getD q 0 ∈ D.getD (ord.getD p 0) []
  dst : ∀ i k s, i < gs.length → k < gs.length → i ≠ k → (gs.getD i (none, .bad)).2.dst = some s → (gs.getD k (none, .bad)).2.dst ≠ some s ∧
    (s ∈ GOp.looks (gs.getD k (none, .bad)) → i ∈ D.getD k [] ∨ k ∈ D.getD i [])

theorem held_of {es : List (List Nat)} {gs : List GOp} {D : List (List Nat)} {ord : List Nat} (h : drawOK es gs D ord = true) : Held es gs D ord := by
  unfold drawOK at h
  simp only [Bool.and_eq_true, List.all_eq_true, List.mem_range, List.contains_iff_mem, beq_iff_eq, List.any_eq_true, Bool.or_eq_true, Bool.not_eq_true', bne_iff_ne, ne_eq, decide_eq_true_eq] at h
  obtain ⟨⟨⟨⟨⟨⟨⟨⟨⟨⟨h10, h0⟩, h1⟩, h2⟩, h3⟩, h9⟩, h4⟩, h5⟩, h6⟩, h7⟩, h8⟩ := h
  refine ⟨fun i hi hm => by have := (h10 i hi).1; rw [← Bool.not_eq_true, List.contains_iff_mem] at this; exact this hm, fun i hi => (h10 i hi).2, h0, h1, h2, h3, fun p hp => (h9 p hp).1, fun p q hp hq e => ?_, h4, h5, fun p q hp hq hm => ?_, fun p q hp hq hk => ?_, fun i k s hi hk hne hd => ?_⟩
  · rcases Nat.lt_trichotomy q p with h | h | h
    · exact absurd e ((h9 p hp).2 q h)
    · exact h
    · exact absurd e.symm ((h9 q hq).2 p h)
  · have := h6 p hp q hq
    rw [← Bool.not_eq_true, List.contains_iff_mem] at this
    exact this hm
  · exact (h7 p hp q hq).resolve_left fun e => e hk
  · have := (h8 i hi k hk).resolve_left hne
    rw [hd] at this
    simp only [Bool.and_eq_true, bne_iff_ne, ne_eq, Bool.or_eq_true, List.contains_iff_mem, Bool.not_eq_true', ← Bool.not_eq_true] at this
    refine ⟨this.1, fun hs => ?_⟩
    rcases this.2 with (h | h) | h
    · exact absurd hs h
    · exact .inl h
    · exact .inr h
end Go.Ab

namespace Go.Ab
open Go Go.RowKit

structure Rc where
  i : Nat
  g : GOp
  fr : Fr
  v : LV
  h : Option Nat

def Rc.app (fr : Fr) (r : Rc) : Fr := putO fr r.g.2.dst r.v
def foldF (T : List Rc) (fr : Fr) : Fr := T.foldl Rc.app fr

theorem app_at {fr : Fr} {r : Rc} {s : Nat} : (Rc.app fr r) s = if r.g.2.dst = some s then r.v else fr s := by
  unfold Rc.app putO
  cases hd : r.g.2.dst with
  | none => simp
  | some d =>
    simp only
    unfold upd
    by_cases h : s = d
    · subst h; simp
    · rw [if_neg h, if_neg (fun e => h (by injection e with e; exact e.symm))]

theorem foldF_none {s : Nat} : ∀ {T : List Rc} {fr : Fr}, (∀ r ∈ T, r.g.2.dst ≠ some s) → foldF T fr s = fr s
  | [], _, _ => rfl
  | r :: T, fr, h => by
    have : foldF (r :: T) fr = foldF T (Rc.app fr r) := rfl
    rw [this, foldF_none fun r' hr' => h r' (by simp [hr']), app_at, if_neg (h r (by simp))]

theorem foldF_some {s : Nat} {r0 : Rc} : ∀ {T : List Rc} {fr : Fr}, r0 ∈ T → r0.g.2.dst = some s → (∀ r ∈ T, r.g.2.dst = some s → r.v = r0.v) → foldF T fr s = r0.v
  | r :: T, fr, h, hd, hu => by
    have e : foldF (r :: T) fr = foldF T (Rc.app fr r) := rfl
    by_cases hT : ∃ r' ∈ T, r'.g.2.dst = some s
    · obtain ⟨r', h1, h2⟩ := hT
      have h3 := hu r' (by simp [h1]) h2
      rw [e, foldF_some h1 h2 fun r'' hr'' hd'' => (hu r'' (by simp [hr'']) hd'').trans h3.symm, h3]
    · have hn : ∀ r' ∈ T, r'.g.2.dst ≠ some s := fun r' h1 h2 => hT ⟨r', h1, h2⟩
      have hr : r0 = r := by
        rcases List.mem_cons.1 h with h | h
        · exact h
        · exact absurd hd (hn _ h)
      subst hr
      rw [e, foldF_none hn, app_at, if_pos hd]

theorem foldF_append (T U : List Rc) (fr : Fr) : foldF (T ++ U) fr = foldF U (foldF T fr) := List.foldl_append ..

def skips (g : GOp) (fr : Fr) : Prop := ∃ s want, g.1 = some (s, want) ∧ ((∃ b, fr s = .val (.bool b) ∧ b ≠ want) ∨ fr s = .tup [])
def runs (g : GOp) (fr : Fr) : Prop := g.1 = none ∨ ∃ s b, g.1 = some (s, b) ∧ fr s = .val (.bool b)

def Rc.ok (r : Rc) (M : Mem) : Prop :=
  (skips r.g r.fr ∧ r.v = undefL ∧ r.h = none) ∨ (runs r.g r.fr ∧ ∃ d c,
    (sop r.g.2 r.fr M = some (d, r.v, c) ∧ c ∧ r.h = none) ∨
    (∃ lv blk h, aop r.g.2 r.fr M = some (d, lv, blk, c) ∧ c ∧ r.v = lv h ∧ r.h = some h ∧ M[h]? = some (some blk)))

theorem Rc.ok_mono {r : Rc} {M M' : Mem} (h : r.ok M) (hk : ∀ k b, M[k]? = some (some b) → keyOf r.g.2 r.fr = some k ∨ r.h = some k → M'[k]? = some (some b)) : r.ok M' := by
  rcases h with h | ⟨h1, d, c, h2 | ⟨lv, blk, h, k1, k2, k3, k4, k5⟩⟩
  · exact .inl h
  · exact .inr ⟨h1, d, c, .inl ⟨sop_mem h2.1 fun k b e hb => hk k b hb (.inl e), h2.2⟩⟩
  · exact .inr ⟨h1, d, c, .inr ⟨lv, blk, h, (aop_congr (fun _ _ => rfl)).trans k1, k2, k3, k4, hk h blk k5 (.inr k4)⟩⟩

theorem kind_ne2 {o : AOp} (h : o.kind ≠ 2) : o.special = false := by
  cases hs : o.special with
  | false => rfl
  | true => exact absurd (kind_special hs) h

theorem evg_rc {P : Program} {g : GOp} {fr : Fr} {M : Mem} {K : Fr → Mem → Prop} (hk : g.2.kind ≠ 2) (hev : EvG P g fr M K) (i : Nat) :
    ∃ v h M', Rc.ok ⟨i, g, fr, v, h⟩ M' ∧ K (putO fr g.2.dst v) M' ∧ ((M' = M ∧ h = none) ∨ ∃ blk, M' = M ++ [some blk] ∧ h = some M.length ∧ g.2.kind = 1) := by
  have run : EvOp P g.2 fr M K → runs g fr → ∃ v h M', Rc.ok ⟨i, g, fr, v, h⟩ M' ∧ K (putO fr g.2.dst v) M' ∧ ((M' = M ∧ h = none) ∨ ∃ blk, M' = M ++ [some blk] ∧ h = some M.length ∧ g.2.kind = 1) := fun hev hr => by
    rw [evop_plain (kind_ne2 hk)] at hev
    split at hev
    · rename_i d v c hs
      refine ⟨v, none, M, .inr ⟨hr, d, c, .inl ⟨hs, hev.1, rfl⟩⟩, ?_, .inl ⟨rfl, rfl⟩⟩
      rw [sop_dst hs]; exact hev.2
    · split at hev
      · rename_i d lv blk c ha
        refine ⟨lv M.length, some M.length, M ++ [some blk], .inr ⟨hr, d, c, .inr ⟨lv, blk, M.length, (aop_congr (fun _ _ => rfl)).trans ha, hev.1, rfl, rfl, by simp⟩⟩, ?_, .inr ⟨blk, rfl, rfl, ?_⟩⟩
        · rw [aop_dst ha]; exact hev.2
        · generalize g.2 = o at *
          cases o <;> first | rfl | (simp [aop] at ha; done)
      · exact hev.elim
  unfold EvG at hev
  split at hev
  · rename_i hg; exact run hev (.inl hg)
  · rename_i s want hg
    split at hev
    · rename_i b hb
      by_cases hbw : b = want
      · exact run (hev.1 hbw) (.inr ⟨s, want, hg, by rw [hb, hbw]⟩)
      · exact ⟨undefL, none, M, .inl ⟨⟨s, want, hg, .inl ⟨b, hb, hbw⟩⟩, rfl, rfl⟩, hev.2 hbw, .inl ⟨rfl, rfl⟩⟩
    · rename_i hb
      exact ⟨undefL, none, M, .inl ⟨⟨s, want, hg, .inr hb⟩, rfl, rfl⟩, hev, .inl ⟨rfl, rfl⟩⟩
    · exact hev.elim

section
variable {P : Program} {N : Nat}

theorem prepG_spec {ops : Array Oper} {o : Oper} {g : GOp} (h : prepG P N ops o = g) (hb : g.2.kind ≠ 2) :
    prepO P o = some g.2 ∧ dstOK N g.2 = true ∧ g.2.dst = o.dst ∧ ((g.1 = none ∧ o.guard = none) ∨ ∃ j want s, g.1 = some (s, want) ∧ o.guard = some (j, want) ∧ (ops[j]?).bind (·.dst) = some s ∧ s < N) := by
  unfold prepG at h
  split at h
  · rename_i ao hp
    split at h
    · rename_i hc
      simp only [Bool.and_eq_true, beq_iff_eq] at hc
      split at h
      · rename_i hg; subst h; exact ⟨hp, hc.1, hc.2, .inl ⟨rfl, hg⟩⟩
      · rename_i j want hg
        split at h
        · rename_i s hs
          split at h
          · rename_i hsN; subst h; exact ⟨hp, hc.1, hc.2, .inr ⟨j, want, s, rfl, hg, hs, hsN⟩⟩
          · subst h; exact absurd rfl hb
        · subst h; exact absurd rfl hb
    · subst h; exact absurd rfl hb
  · subst h; exact absurd rfl hb

theorem wanted_of {ops : Array Oper} {o : Oper} {g : GOp} {G : Gh} {fr : Fr} {M : Mem} {a : Act} {w : World} (h : prepG P N ops o = g) (hb : g.2.kind ≠ 2) (hr : Rel N G fr M a w) :
    (runs g fr → Region.wanted o (yielded ops a.tmps) = true) ∧ (skips g fr → Region.wanted o (yielded ops a.tmps) = false) := by
  obtain ⟨_, _, _, hg⟩ := prepG_spec h hb
  rcases hg with ⟨h1, h2⟩ | ⟨j, want, s, h1, h2, h3, h4⟩
  · refine ⟨fun _ => by simp [Region.wanted, h2], fun ⟨s, wt, e, _⟩ => ?_⟩
    rw [h1] at e; cases e
  · have hslot := hr.slots s
    have hget : a.tmps.getD s undef = a.tmps[s]'(by rw [hr.size]; exact h4) := by simp [hr.size, h4]
    have hy : yielded ops a.tmps j = match some (a.tmps.getD s undef) with | some (.bool b) => some b | _ => none := by
      unfold yielded
      rw [h3, hget]
      simp [hr.size, h4]
      rfl
    refine ⟨fun hrun => ?_, fun ⟨s', wt, e, hsk⟩ => ?_⟩
    · rcases hrun with e | ⟨s', b, e, hv⟩
      · rw [h1] at e; cases e
      · rw [h1] at e; cases e
        rw [hv] at hslot
        rw [(vr_val hslot).1] at hy
        simp [Region.wanted, h2, hy]
    · rw [h1] at e; cases e
      rcases hsk with ⟨b, hv, hne⟩ | hv
      · rw [hv] at hslot
        rw [(vr_val hslot).1] at hy
        simp [Region.wanted, h2, hy, hne]
      · rw [hv] at hslot
        obtain ⟨xs, hx1, hx2⟩ := vr_tup hslot
        have : xs = [] := by cases xs with | nil => rfl | cons => exact hx2.elim
        subst this
        rw [hx1] at hy
        simp [Region.wanted, h2, hy]

theorem rc_run {ops : Array Oper} {o : Oper} {rc : Rc} {G : Gh} {frC : Fr} {M ME : Mem} {a : Act} {w : World} {K' : Act → World → Prop} {Q : Exit → Act → World → Prop} (hg : prepG P N ops o = rc.g) (hkd : rc.g.2.kind ≠ 2) (hpl : ∀ x ∈ rc.g.2.opds, x.plain = true)
    (hr : Rel N G frC ME a w) (hag : ∀ s ∈ GOp.looks rc.g, rc.fr s = frC s) (hok : rc.ok M) (hmem : ∀ k b β, G k = some β → M[k]? = some (some b) → ME[k]? = some (some b))
    (hhole : ∀ h, rc.h = some h → G h = none ∧ h < ME.length)
    (hk1 : ∀ a', rc.h = none → Rel N G (putO frC rc.g.2.dst rc.v) ME a' w → K' a' w)
    (hk2 : ∀ a' w' h blk β, rc.h = some h → M[h]? = some (some blk) → Rel N (G.put h β) (putO frC rc.g.2.dst rc.v) (ME.set h (some blk)) a' w' →
      (∀ G0 M0 w0, M0.length ≤ h → Step G0 M0 w0 G ME w → Step G0 M0 w0 (G.put h β) (ME.set h (some blk)) w') → K' a' w') :
    if Region.wanted o (yielded ops a.tmps) then o.wp P a w K' Q ∨ (o.asks P a w ∧ LetsOut Q) else K' (a.put o.dst undef) w := by
  obtain ⟨hp, hd, hdd, _⟩ := prepG_spec hg hkd
  obtain ⟨hw1, hw2⟩ := wanted_of hg hkd hr
  obtain ⟨ha1, ha2⟩ := GOp.agree hag
  have hdN : ∀ k, o.dst = some k → k < N := fun k hk => by rw [hk] at hdd; simp only [dstOK, hdd, decide_eq_true_eq] at hd; exact hd
  rcases hok with ⟨hsk, hv, hh⟩ | ⟨hrun, d, c, hsa⟩
  · have : skips rc.g frC := by
      obtain ⟨s, wt, e, h⟩ := hsk
      exact ⟨s, wt, e, by rw [← ha2 s wt e]; exact h⟩
    rw [if_neg (by simp [hw2 this])]
    refine hk1 _ hh ?_
    rw [hv, hdd]
    exact hr.putO (Ext.refl G) hr.inv hdN (vr_undef G)
  · have : runs rc.g frC := by
      rcases hrun with e | ⟨s, b, e, h⟩
      · exact .inl e
      · exact .inr ⟨s, b, e, by rw [← ha2 s b e]; exact h⟩
    rw [if_pos (hw1 this)]
    refine .inl ?_
    have hvr : ∀ k, keyOf rc.g.2 frC = some k → ∃ β, G k = some β := fun k hk => key_vr hk hpl fun i => ⟨_, hr.slots i⟩
    rcases hsa with ⟨hs, hc, hh⟩ | ⟨lv, blk, h, ha, hc, hv, hh, hM⟩
    · have hs' : sop rc.g.2 frC ME = some (d, rc.v, c) := by
        rw [sop_congr ha1] at hs
        refine sop_mem hs fun k b hk hb => ?_
        obtain ⟨β, hβ⟩ := hvr k hk
        exact hmem k b β hβ hb
      obtain ⟨x, h1, h2, h3⟩ := sop_sound hp hs' hc (hr.rd0 _)
      unfold Oper.wp
      rw [h2, Oper.upon_value]
      refine hk1 _ hh ?_
      rw [hdd]
      exact hr.putO (Ext.refl G) hr.inv hdN h3
    · have ha' : aop rc.g.2 frC ME = some (d, lv, blk, c) := by rw [← ha]; exact (aop_congr ha1).symm
      obtain ⟨x, w', β, h1, h2, h3, h4, h5, h5o, h6⟩ := aop_sound hp ha' hc (hr.rd0 _)
      obtain ⟨hG, hlt⟩ := hhole h hh
      obtain ⟨k1, k2⟩ := hr.inv.fill hG hlt h3 h4 h5 h5o
      unfold Oper.wp
      rw [h2, Oper.upon_value]
      refine hk2 _ w' h blk β hh hM ?_ k2
      rw [hdd, hv]
      exact hr.putO (Gh.put_ext hG) k1 hdN (h6 _ _ (Gh.put_ext hG) (by simp [Gh.put]))
end
end Go.Ab

namespace Go.Ab
open Go Go.RowKit

def logOf (r : Rc) : Option Nat := if r.g.2.kind = 0 then keyOf r.g.2 r.fr else if r.g.2.kind = 1 then r.h else none

def onT (listed : Array Bool) (T : List Rc) : List Rc := T.filter fun r => listed.getD r.i false
def offH (listed : Array Bool) (T : List Rc) : List Nat := T.filterMap fun r => if listed.getD r.i false then none else r.h

theorem offH_mem {listed : Array Bool} {T : List Rc} {h : Nat} : h ∈ offH listed T ↔ ∃ r ∈ T, listed.getD r.i false = false ∧ r.h = some h := by
  unfold offH
  rw [List.mem_filterMap]
  constructor
  · rintro ⟨r, h1, h2⟩
    split at h2
    · cases h2
    · rename_i hl; exact ⟨r, h1, by simpa using hl, h2⟩
  · rintro ⟨r, h1, h2, h3⟩
    exact ⟨r, h1, by simp [h2, h3]⟩

theorem onT_mem {listed : Array Bool} {T : List Rc} {r : Rc} : r ∈ onT listed T ↔ r ∈ T ∧ listed.getD r.i false = true := by simp [onT]

section
variable {P : Program} {N : Nat} {ops : Array Oper} {D : List (List Nat)} {ord : List Nat} {K : Fr → Mem → Prop} {G0 : Gh} {fr0 : Fr} {M0 : Mem} {w0 : World}

abbrev gsOf (P : Program) (N : Nat) (ops : Array Oper) : List GOp := ops.toList.map (prepG P N ops)

structure Can (P : Program) (gs : List GOp) (D : List (List Nat)) (ord : List Nat) (K : Fr → Mem → Prop) (fr0 : Fr) (M0 : Mem) (T : List Rc) (r : List DOp) (fr : Fr) (M : Mem) : Prop where
  len : T.length ≤ gs.length
  recs : ∀ p rc, T[p]? = some rc → rc.i = ord.getD p 0 ∧ rc.g = gs.getD rc.i (none, .bad) ∧ rc.fr = foldF (T.take p) fr0
  rest : r = (List.range' T.length (gs.length - T.length)).map (dopAt gs D ord)
  fre : fr = foldF T fr0
  hnd : (T.filterMap (·.h)).Nodup
  hlt : ∀ rc ∈ T, ∀ h, rc.h = some h → M0.length ≤ h ∧ h < M.length ∧ rc.g.2.kind = 1
  evd : EvD P r fr M (T.map logOf) K

structure Cur (N : Nat) (n : Nat) (D : List (List Nat)) (G0 : Gh) (fr0 : Fr) (M0 : Mem) (w0 : World) (T : List Rc) (M : Mem) (listed : Array Bool) (a : Act) (w : World) (G : Gh) : Prop where
  size : listed.size = n
  sub : ∀ i, listed.getD i false = true → ∃ rc ∈ T, rc.i = i
  clos : ∀ i, listed.getD i false = true → ∀ k ∈ D.getD i [], listed.getD k false = true
  pend : ∀ rc ∈ T, listed.getD rc.i false = false → rc.g.2.kind ≠ 2 ∧ rc.ok M ∧ ∀ h, rc.h = some h → G h = none
  rel : Rel N G (foldF (onT listed T) fr0) (maskM (offH listed T) M) a w
  step : Step G0 M0 w0 G (maskM (offH listed T) M) w

variable {gs : List GOp} {es : List (List Nat)} {T : List Rc} {r : List DOp} {fr : Fr} {M : Mem} {listed : Array Bool} {a : Act} {w : World} {G : Gh}

theorem Can.at_ (hC : Can P gs D ord K fr0 M0 T r fr M) {rc : Rc} (h : rc ∈ T) : ∃ p, p < T.length ∧ T[p]? = some rc ∧ rc.i = ord.getD p 0 := by
  obtain ⟨p, hp⟩ := List.mem_iff_getElem?.1 h
  have : p < T.length := by
    rcases Nat.lt_or_ge p T.length with h' | h'
    · exact h'
    · rw [List.getElem?_eq_none h'] at hp; cases hp
  exact ⟨p, this, hp, (hC.recs p rc hp).1⟩

theorem Can.inj (H : Held es gs D ord) (hC : Can P gs D ord K fr0 M0 T r fr M) {rc rc' : Rc} (h : rc ∈ T) (h' : rc' ∈ T) (he : rc.i = rc'.i) : rc = rc' := by
  obtain ⟨p, h1, h2, h3⟩ := hC.at_ h
  obtain ⟨q, k1, k2, k3⟩ := hC.at_ h'
  have := hC.len
  have : q = p := H.inj p q (by omega) (by omega) (by rw [← h3, ← k3, he])
  subst this
  rw [h2] at k2; cases k2; rfl

theorem Can.lt (H : Held es gs D ord) (hC : Can P gs D ord K fr0 M0 T r fr M) {rc : Rc} (h : rc ∈ T) : rc.i < gs.length := by
  obtain ⟨p, h1, h2, h3⟩ := hC.at_ h
  have := hC.len
  rw [h3]; exact H.lt p (by omega)

theorem Can.g (hC : Can P gs D ord K fr0 M0 T r fr M) {rc : Rc} (h : rc ∈ T) : rc.g = gs.getD rc.i (none, .bad) := by
  obtain ⟨p, h1, h2, h3⟩ := hC.at_ h
  exact (hC.recs p rc h2).2.1

theorem Can.dst (H : Held es gs D ord) (hC : Can P gs D ord K fr0 M0 T r fr M) {rc rc' : Rc} {s : Nat} (h : rc ∈ T) (h' : rc' ∈ T) (hd : rc.g.2.dst = some s) (hd' : rc'.g.2.dst = some s) : rc = rc' := by
  by_cases he : rc.i = rc'.i
  · exact hC.inj H h h' he
  · have := (H.dst rc.i rc'.i s (hC.lt H h) (hC.lt H h') he (by rw [← hC.g h]; exact hd)).1
    rw [← hC.g h'] at this
    exact absurd hd' this

theorem agree_at (H : Held es gs D ord) (hC : Can P gs D ord K fr0 M0 T r fr M) (hU : Cur N gs.length D G0 fr0 M0 w0 T M listed a w G) {p : Nat} (hp : p ≤ T.length) (hpn : p < gs.length)
    (hnl : listed.getD (ord.getD p 0) false = false) (hD : ∀ k ∈ D.getD (ord.getD p 0) [], listed.getD k false = true) {s : Nat} (hs : s ∈ GOp.looks (gs.getD (ord.getD p 0) (none, .bad))) :
    foldF (T.take p) fr0 s = foldF (onT listed T) fr0 s := by
  have hlen := hC.len
  by_cases hex : ∃ rc ∈ T.take p, rc.g.2.dst = some s
  · obtain ⟨rc, h1, h2⟩ := hex
    have h1T : rc ∈ T := List.mem_of_mem_take h1
    obtain ⟨q, hq⟩ := List.mem_iff_getElem?.1 h1
    rw [List.getElem?_take] at hq
    split at hq
    · rename_i hqp
      have hqi := (hC.recs q rc hq).1
      have hne : rc.i ≠ ord.getD p 0 := fun e => by
        rw [hqi] at e
        have := H.inj p q hpn (by omega) e
        omega
      have hin : rc.i ∈ D.getD (ord.getD p 0) [] := by
        rcases (H.dst rc.i (ord.getD p 0) s (hC.lt H h1T) (H.lt p hpn) hne (by rw [← hC.g h1T]; exact h2)).2 hs with h | h
        · exact h
        · rw [hqi] at h; exact absurd h (H.topo p q hpn hqp)
      have hon : rc ∈ onT listed T := onT_mem.2 ⟨h1T, hD _ hin⟩
      rw [foldF_some h1 h2 fun r' hr' hd' => by rw [hC.dst H (List.mem_of_mem_take hr') h1T hd' h2],
        foldF_some hon h2 fun r' hr' hd' => by rw [hC.dst H (onT_mem.1 hr').1 h1T hd' h2]]
    · cases hq
  · rw [foldF_none fun r' h1 h2 => hex ⟨r', h1, h2⟩]
    rw [foldF_none fun rc h1 h2 => ?_]
    obtain ⟨h1T, h1L⟩ := onT_mem.1 h1
    obtain ⟨q, hq, hqT, hqi⟩ := hC.at_ h1T
    have hqp : p ≤ q := by
      rcases Nat.lt_or_ge q p with h | h
      · exact absurd ⟨rc, List.mem_iff_getElem?.2 ⟨q, by rw [List.getElem?_take, if_pos h]; exact hqT⟩, h2⟩ hex
      · exact h
    have hne : rc.i ≠ ord.getD p 0 := fun e => by rw [e, hnl] at h1L; cases h1L
    have hpq : p < q := by
      rcases Nat.lt_or_ge p q with h | h
      · exact h
      · have : q = p := by omega
        subst this
        exact absurd hqi hne
    rcases (H.dst rc.i (ord.getD p 0) s (hC.lt H h1T) (H.lt p hpn) hne (by rw [← hC.g h1T]; exact h2)).2 hs with h | h
    · rw [hqi] at h; exact H.topo q p (by omega) hpq h
    · have := hU.clos rc.i h1L _ h
      rw [hnl] at this; cases this

theorem advance (H : Held es gs D ord) (hC : Can P gs D ord K fr0 M0 T r fr M) (hU : Cur N gs.length D G0 fr0 M0 w0 T M listed a w G) (hlt : T.length < gs.length)
    (hk : (gs.getD (ord.getD T.length 0) (none, .bad)).2.kind ≠ 2) :
    ∃ T' r' fr' M', Can P gs D ord K fr0 M0 T' r' fr' M' ∧ Cur N gs.length D G0 fr0 M0 w0 T' M' listed a w G ∧ T'.length = T.length + 1 := by
  have hr : r = dopAt gs D ord T.length :: (List.range' (T.length + 1) (gs.length - (T.length + 1))).map (dopAt gs D ord) := by
    rw [hC.rest]
    obtain ⟨m, hm⟩ : ∃ m, gs.length - T.length = m + 1 := ⟨gs.length - T.length - 1, by omega⟩
    rw [hm, List.range'_succ, List.map_cons]
    congr 2
    congr 1
    omega
  have hgg : (dopAt gs D ord T.length).g = gs.getD (ord.getD T.length 0) (none, .bad) := by simp only [dopAt]; split <;> rfl
  have hevd := hC.evd
  rw [hr] at hevd
  -- the record
  obtain ⟨v, h, M', hok, hK, hM⟩ : ∃ v h M', Rc.ok ⟨ord.getD T.length 0, gs.getD (ord.getD T.length 0) (none, .bad), fr, v, h⟩ M' ∧
      EvD P ((List.range' (T.length + 1) (gs.length - (T.length + 1))).map (dopAt gs D ord)) (putO fr (gs.getD (ord.getD T.length 0) (none, .bad)).2.dst v) M'
        (T.map logOf ++ [logOf ⟨ord.getD T.length 0, gs.getD (ord.getD T.length 0) (none, .bad), fr, v, h⟩]) K ∧
      ((M' = M ∧ h = none) ∨ ∃ blk, M' = M ++ [some blk] ∧ h = some M.length ∧ (gs.getD (ord.getD T.length 0) (none, .bad)).2.kind = 1) := by
    have hklt : ∀ o : AOp, o.kind = 0 ∨ o.kind = 1 ∨ o.kind = 2 := fun o => by cases o <;> simp [AOp.kind]
    generalize hgi : gs.getD (ord.getD T.length 0) (none, .bad) = g at *
    rcases hklt g.2 with h0 | h1 | h2
    · simp only [EvD, hgg, h0, if_true] at hevd
      obtain ⟨v, h, M', h1, h2, h3⟩ := evg_rc hk hevd (ord.getD T.length 0)
      refine ⟨v, h, M', h1, ?_, h3⟩
      simpa only [logOf, h0, if_true] using h2
    · simp only [EvD, hgg, h1, if_neg (show ¬ (1 : Nat) = 0 by omega), if_true] at hevd
      obtain ⟨v, h, M', k1, k2, k3⟩ := evg_rc hk hevd (ord.getD T.length 0)
      refine ⟨v, h, M', k1, ?_, k3⟩
      simp only [logOf, h1, if_neg (show ¬ (1 : Nat) = 0 by omega), if_true]
      rcases k3 with ⟨rfl, rfl⟩ | ⟨blk, rfl, rfl, _⟩
      · simpa using k2
      · simpa using k2
    · exact absurd h2 hk
  have hnot : ∀ rc ∈ T, rc.i ≠ ord.getD T.length 0 := fun rc hrc e => by
    obtain ⟨p, h1, h2, h3⟩ := hC.at_ hrc
    have := H.inj T.length p hlt (by omega) (by rw [← h3, e])
    omega
  have hnl : listed.getD (ord.getD T.length 0) false = false := by
    cases hb : listed.getD (ord.getD T.length 0) false with
    | false => rfl
    | true => obtain ⟨rc, h1, h2⟩ := hU.sub _ hb; exact absurd h2 (hnot rc h1)
  have hMl : M.length ≤ M'.length ∧ ∀ (k : Nat) (b : Blk), M[k]? = some (some b) → M'[k]? = some (some b) := by
    rcases hM with ⟨rfl, _⟩ | ⟨blk, rfl, _⟩
    · exact ⟨Nat.le_refl _, fun _ _ h => h⟩
    · refine ⟨by simp, fun k b hb => ?_⟩
      have : k < M.length := Live.lt hb
      rw [List.getElem?_append_left this]; exact hb
  refine ⟨T ++ [⟨ord.getD T.length 0, gs.getD (ord.getD T.length 0) (none, .bad), fr, v, h⟩], _, _, M', ⟨by simp; omega, fun p rc hp => ?_, ?_, ?_, ?_, ?_, by simpa using hK⟩, ⟨hU.size, ?_, hU.clos, ?_, ?_, ?_⟩, by simp⟩
  · rcases Nat.lt_or_ge p T.length with hpl | hpl
    · rw [List.getElem?_append_left hpl] at hp
      obtain ⟨k1, k2, k3⟩ := hC.recs p rc hp
      exact ⟨k1, k2, by rw [List.take_append_of_le_length (by omega)]; exact k3⟩
    · rw [List.getElem?_append_right hpl] at hp
      have : p - T.length = 0 := by
        rcases Nat.eq_zero_or_pos (p - T.length) with h' | h'
        · exact h'
        · rw [List.getElem?_eq_none (by simp; omega)] at hp; cases hp
      rw [this] at hp
      simp only [List.getElem?_cons_zero, Option.some.injEq] at hp
      have : p = T.length := by omega
      subst this
      subst hp
      refine ⟨rfl, rfl, ?_⟩
      rw [List.take_left']
      · exact hC.fre
      · rfl
  · simp
  · rw [foldF_append, ← hC.fre]; rfl
  · rw [List.filterMap_append, List.nodup_append]
    refine ⟨hC.hnd, ?_, fun x hx y hy => ?_⟩
    · cases h <;> simp
    · rcases hM with ⟨_, rfl⟩ | ⟨blk, _, rfl, _⟩
      · simp at hy
      · simp at hy
        obtain ⟨rc, h1, h2⟩ := List.mem_filterMap.1 hx
        have := (hC.hlt rc h1 x h2).2.1
        omega
  · intro rc hrc h' hh'
    rcases List.mem_append.1 hrc with hrc | hrc
    · obtain ⟨k1, k2, k3⟩ := hC.hlt rc hrc h' hh'
      exact ⟨k1, Nat.lt_of_lt_of_le k2 hMl.1, k3⟩
    · simp at hrc
      subst hrc
      rcases hM with ⟨_, rfl⟩ | ⟨blk, rfl, rfl, hk1⟩
      · cases hh'
      · cases hh'
        have := hU.step.len
        rw [maskM_len] at this
        exact ⟨this, by simp, hk1⟩
  · intro i hi
    obtain ⟨rc, h1, h2⟩ := hU.sub i hi
    exact ⟨rc, by simp [h1], h2⟩
  · intro rc hrc hl
    rcases List.mem_append.1 hrc with hrc | hrc
    · obtain ⟨k1, k2, k3⟩ := hU.pend rc hrc hl
      exact ⟨k1, Rc.ok_mono k2 fun k b hb _ => hMl.2 k b hb, k3⟩
    · simp at hrc
      subst hrc
      refine ⟨hk, hok, fun h' hh' => ?_⟩
      rcases hM with ⟨_, rfl⟩ | ⟨blk, rfl, rfl, hk1⟩
      · cases hh'
      · cases hh'
        exact hU.rel.inv.top _ (by rw [maskM_len]; exact Nat.le_refl _)
  all_goals
    have hon : onT listed (T ++ [⟨ord.getD T.length 0, gs.getD (ord.getD T.length 0) (none, .bad), fr, v, h⟩]) = onT listed T := by simp only [onT, List.filter_append, List.filter_cons, hnl, Bool.false_eq_true, if_false, List.filter_nil, List.append_nil]
    have hoff : ∀ t b, Live (maskM (offH listed (T ++ [⟨ord.getD T.length 0, gs.getD (ord.getD T.length 0) (none, .bad), fr, v, h⟩])) M') t b → Live (maskM (offH listed T) M) t b := fun t b hl => by
      rw [maskM_live] at hl ⊢
      obtain ⟨h1, h2⟩ := hl
      refine ⟨fun hm => h1 ?_, ?_⟩
      · obtain ⟨rc, m1, m2, m3⟩ := offH_mem.1 hm
        exact offH_mem.2 ⟨rc, by simp [m1], m2, m3⟩
      · rcases hM with ⟨rfl, _⟩ | ⟨blk, rfl, rfl, _⟩
        · exact h2
        · rcases live_push h2 with ⟨_, h3⟩ | ⟨h3, _⟩
          · exact h3
          · exact absurd (offH_mem.2 ⟨_, List.mem_append_right T (List.mem_singleton.2 rfl), hnl, by rw [h3]⟩) h1
    have hle : (maskM (offH listed T) M).length ≤ (maskM (offH listed (T ++ [⟨ord.getD T.length 0, gs.getD (ord.getD T.length 0) (none, .bad), fr, v, h⟩])) M').length := by
      rw [maskM_len, maskM_len]; exact hMl.1
  · rw [hon]
    exact ⟨hU.rel.size, hU.rel.defers, hU.rel.slots, hU.rel.inv.sub hoff hle⟩
  · exact hU.step.sub hoff hle

theorem advances (H : Held es gs D ord) : ∀ (m : Nat) (T : List Rc) (r : List DOp) (fr : Fr) (M : Mem), gs.length - T.length ≤ m → Can P gs D ord K fr0 M0 T r fr M → Cur N gs.length D G0 fr0 M0 w0 T M listed a w G →
    ∃ T r fr M, Can P gs D ord K fr0 M0 T r fr M ∧ Cur N gs.length D G0 fr0 M0 w0 T M listed a w G ∧ (T.length < gs.length → (gs.getD (ord.getD T.length 0) (none, .bad)).2.kind = 2)
  | 0, T, r, fr, M, hm, hC, hU => ⟨T, r, fr, M, hC, hU, fun h => by omega⟩
  | m + 1, T, r, fr, M, hm, hC, hU => by
    by_cases hl : T.length < gs.length
    · by_cases hk : (gs.getD (ord.getD T.length 0) (none, .bad)).2.kind = 2
      · exact ⟨T, r, fr, M, hC, hU, fun _ => hk⟩
      · obtain ⟨T', r', fr', M', h1, h2, h3⟩ := advance H hC hU hl hk
        exact advances H m T' r' fr' M' (by omega) h1 h2
    · exact ⟨T, r, fr, M, hC, hU, fun h => absurd h hl⟩
end
end Go.Ab
