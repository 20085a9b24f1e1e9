/- Parts of the proof of FnExactIsShadowOfSaid: Oc Od Tc Uh C_Td K_Td Td Ui Uj C_Uf K_Uf C_Ue K_Ue Ue Uf Uk. -/
import Derived.Test.YtjpdjjeddagjlaaA7
import Derived.Test.YtjpdjjeddagjlaaA5
import Derived.Test.YtjpdjjeddagjlaaA4
import Derived.Test.YtjpdjjeddagjlaaA3
import Derived.Test.YtjpdjjeddagjlaaProg
import Derived.KernelRfl
set_option linter.all false
/- Plain words: parts; lists of lists of cells in the abstract memory. -/
namespace Go.Ab
open Go

/-- The parts of a set: what its first cell reaches, then the parts of the rest. -/
noncomputable def parts (x y z : Int) : Nat → (Cell → Bool) → List (List Cell)
  | 0, _ => []
  | f + 1, q => match pick x y z q with
    | [] => []
    | c :: _ => pick x y z (reach x y z (fun d => decide (d = c)) q) :: parts x y z f fun d => q d && !reach x y z (fun d => decide (d = c)) q d

/-- Lists of cells, each in a block of its own, the blocks in rising order. -/
def Css (N : Mem) (lo hi : Nat) : List LV → List (List Cell) → Prop
  | [], [] => True
  | r :: rs, l :: ls => ∃ u, lo ≤ u ∧ u < hi ∧ r = .ref u 0 l.length ∧ Live N u (.row (triL l) true 3) ∧ Css N (u + 1) hi rs ls
  | _, _ => False

theorem Css.len {N : Mem} {hi : Nat} : ∀ {lo : Nat} {rs : List LV} {ls : List (List Cell)}, Css N lo hi rs ls → rs.length = ls.length
  | _, [], [], _ => rfl
  | _, [], _ :: _, h => h.elim
  | _, _ :: _, [], h => h.elim
  | _, r :: rs, l :: ls, ⟨u, _, _, _, _, h⟩ => by simp [Css.len h]
theorem Css.mono {N N' : Mem} {hi hi' : Nat} (hh : hi ≤ hi') : ∀ {lo lo' : Nat} {rs : List LV} {ls : List (List Cell)}, lo' ≤ lo → (∀ u l, lo ≤ u → u < hi → Live N u (.row (triL l) true 3) → Live N' u (.row (triL l) true 3)) → Css N lo hi rs ls → Css N' lo' hi' rs ls
  | _, _, [], [], _, _, _ => trivial
  | _, _, [], _ :: _, _, _, h => h.elim
  | _, _, _ :: _, [], _, _, h => h.elim
  | lo, lo', r :: rs, l :: ls, hl, hk, ⟨u, h1, h2, h3, h4, h5⟩ => ⟨u, by omega, by omega, h3, hk u l h1 h2 h4, h5.mono hh (Nat.le_refl _) fun v l h6 h7 => hk v l (by omega) h7⟩
theorem Css.snoc {N : Mem} {hi hi' u : Nat} {l : List Cell} (hu : hi ≤ u) (hu' : u < hi') (hL : Live N u (.row (triL l) true 3)) : ∀ {lo : Nat} {rs : List LV} {ls : List (List Cell)}, lo ≤ u → Css N lo hi rs ls → Css N lo hi' (rs ++ [.ref u 0 l.length]) (ls ++ [l])
  | _, [], [], hl, _ => ⟨u, hl, hu', rfl, hL, trivial⟩
  | _, [], _ :: _, _, h => h.elim
  | _, _ :: _, [], _, h => h.elim
  | lo, r :: rs, m :: ls, hl, ⟨v, h1, h2, h3, h4, h5⟩ => ⟨v, h1, by omega, h3, h4, h5.snoc hu hu' hL (by omega)⟩
theorem Css.get {N : Mem} {hi : Nat} : ∀ {lo k : Nat} {rs : List LV} {ls : List (List Cell)}, Css N lo hi rs ls → k < ls.length → ∃ u, lo ≤ u ∧ u < hi ∧ rs[k]? = some (.ref u 0 (ls.getD k []).length) ∧ Live N u (.row (triL (ls.getD k [])) true 3)
  | _, k, [], [], _, hk => by simp at hk
  | _, _, [], _ :: _, h, _ => h.elim
  | _, _, _ :: _, [], h, _ => h.elim
  | lo, 0, r :: rs, l :: ls, ⟨u, h1, h2, h3, h4, _⟩, _ => ⟨u, h1, h2, by rw [h3]; rfl, h4⟩
  | lo, k + 1, r :: rs, l :: ls, ⟨u, h1, h2, h3, h4, h5⟩, hk => by
    obtain ⟨v, k1, k2, k3, k4⟩ := h5.get (k := k) (by simpa using hk)
    exact ⟨v, by omega, k2, by simpa using k3, k4⟩
/-- One block has changed that is none of these. -/
theorem Css.keep {M M' : Mem} {lo hi t : Nat} {rs : List LV} {ls : List (List Cell)} (h : Css M lo hi rs ls) (ht : (hi ≤ t ∨ t < lo) ∨ ∃ cs w e, Live M t (.row cs w e) ∧ e ≠ 3) (hu : ∀ u, u ≠ t → u < M.length → M'[u]? = M[u]?) : Css M' lo hi rs ls :=
  h.mono (Nat.le_refl _) (Nat.le_refl _) fun u l h1 h2 hL => by
    refine live_step hL (fun e => ?_) hu
    subst e
    rcases ht with h3 | ⟨cs, w, e, h3, h4⟩
    · omega
    · unfold Live at hL h3; rw [hL] at h3; cases h3; exact h4 rfl
theorem Css.pre {M N : Mem} {lo hi : Nat} {rs : List LV} {ls : List (List Cell)} (h : Css M lo hi rs ls) (hp : Pre M N) : Css N lo hi rs ls := h.mono (Nat.le_refl _) (Nat.le_refl _) fun _ _ _ _ hL => hL.pre hp

theorem pick_take_step {x y z : Int} (hS : Sides x y z) {cs : List Cell} {k : Nat} (hk : k < cs.length) : pick x y z (fun d => decide (d ∈ pick x y z fun d => decide (d ∈ cs.take k)) || decide (d = cs.getD k default)) = pick x y z fun d => decide (d ∈ cs.take (k + 1)) :=
  pick_congr hS fun d hd => by
    rw [← take_dec hk]
    congr 1
    exact decide_eq_decide.2 ⟨fun h => by simpa using ((mem_pick hS).1 h).2, fun h => (mem_pick hS).2 ⟨hd, by simpa using h⟩⟩
theorem filter_pick {x y z : Int} (p q : Cell → Bool) : (pick x y z p).filter q = pick x y z fun d => p d && q d := by
  unfold pick; rw [List.filter_filter]
  congr 1; funext d; rw [Bool.and_comm]
theorem nodup_len {x y z : Int} (hS : Sides x y z) {l : List Cell} (hn : l.Nodup) (hb : ∀ c ∈ l, c.inBox x y z) : l.length ≤ 64 := by
  have h1 : l.Nodup := hn
  have h2 : ∀ {l m : List Cell}, l.Nodup → (∀ c ∈ l, c ∈ m) → l.length ≤ m.length := by
    intro l
    induction l with
    | nil => intro m _ _; simp
    | cons c l ih =>
      intro m hn hm
      rw [List.nodup_cons] at hn
      have hc := hm c (by simp)
      have := ih (m := m.erase c) hn.2 fun d hd => (List.mem_erase_of_ne (fun e => hn.1 (by rw [← e]; exact hd))).2 (hm d (by simp [hd]))
      rw [List.length_erase_of_mem hc] at this
      have h0 : 0 < m.length := List.length_pos_of_mem hc
      simp only [List.length_cons]
      omega
  have := h2 h1 fun c hc => (mem_cellsOf hS).2 (hb c hc)
  have h3 : (cellsOf x y z).length = vol x y z := by simp [cellsOf]
  have := vol_cast hS
  omega
theorem Live.ne_esz {M : Mem} {t t' e e' : Nat} {cs cs' : List LV} {w w' : Bool} (h : Live M t (.row cs w e)) (h' : Live M t' (.row cs' w' e')) (he : e ≠ e') : t ≠ t' := fun et => by
  subst et
  unfold Live at h h'; rw [h] at h'; cases h'; exact he rfl
end Go.Ab

/- Contracts: the reference's parts. -/
namespace Go.Ab
open Go
set_option linter.unusedSimpArgs false
set_option linter.unusedVariables false

theorem memK_box {M : Mem} {t e : Nat} {old vs : List LV} {A : Mem → Prop} (ht : Live M t (.row old true e)) (hl : vs.length = old.length)
    (hA : ∀ M', M'.length = M.length → Live M' t (.row vs true e) → (∀ u, u ≠ t → u < M.length → M'[u]? = M[u]?) → A M') : memK (setCells M t 0 vs) A := by
  rw [ht.setC, if_pos (by omega)]
  have : splice old 0 vs = vs := by simp [splice, hl]
  rw [this]
  exact hA _ (by simp) ht.set_eq fun u hu _ => List.getElem?_set_ne (fun e => hu e.symm)

/-- What is found by and by: the queue of a search in the set q from c. -/
structure Que (x y z : Int) (q : Cell → Bool) (c : Cell) (n : Nat) (l : List Cell) : Prop where
  nodup : l.Nodup
  mem : ∀ d ∈ l, d.inBox x y z ∧ q d = true ∧ Reach x y z (fun d => decide (d = c)) q d
  start : c ∈ l
  done : ∀ i, i < n → i < l.length → ∀ e, e.inBox x y z → q e = true → apart (l.getD i default) e = 1 → e ∈ l

theorem Que.reach {x y z : Int} {q : Cell → Bool} {c : Cell} {n : Nat} {l : List Cell} (h : Que x y z q c n l) (hn : l.length ≤ n) {d : Cell} : d ∈ l ↔ reach x y z (fun d => decide (d = c)) q d = true := by
  rw [reach_iff]
  refine ⟨fun hd => (h.mem d hd).2.2, fun hd => ?_⟩
  refine hd.ind (P := fun d => d ∈ l) (fun e _ he => ?_) fun a b ha hab hb hq => ?_
  · rw [of_decide_eq_true he]; exact h.start
  · obtain ⟨i, hi, rfl⟩ := List.getElem_of_mem ha
    exact h.done i (by omega) hi b hb hq (by simpa [hi] using hab)

theorem Que.next {x y z : Int} {q : Cell → Bool} {c : Cell} {n : Nat} {l : List Cell} (hS : Sides x y z) (h : Que x y z q c n l) (hn : n < l.length) :
    Que x y z q c (n + 1) (l ++ pick x y z fun d => (q d && !decide (d ∈ l)) && decide (apart d (l.getD n default) = 1)) := by
  have hm := fun d => mem_pick hS (p := fun d => (q d && !decide (d ∈ l)) && decide (apart d (l.getD n default) = 1)) (c := d)
  simp only [Bool.and_eq_true, Bool.not_eq_true', decide_eq_false_iff_not, decide_eq_true_eq] at hm
  have hln := h.mem _ (getD_mem' (d := default) hn)
  refine ⟨?_, fun d hd => ?_, by simp [h.start], fun i hi hil e he hq ha => ?_⟩
  · rw [List.nodup_append]
    refine ⟨h.nodup, (pick_ok hS _).nodup, fun a ha b hb e => ?_⟩
    subst e
    exact ((hm a).1 hb).2.1.2 ha
  · rcases List.mem_append.1 hd with hd | hd
    · exact h.mem d hd
    · obtain ⟨h1, ⟨h2, h3⟩, h4⟩ := (hm d).1 hd
      exact ⟨h1, h2, .step hln.2.2 (by rw [apart_comm]; exact h4) h1 h2⟩
  · have hg : ∀ {j}, j < l.length → (l ++ pick x y z fun d => (q d && !decide (d ∈ l)) && decide (apart d (l.getD n default) = 1)).getD j default = l.getD j default := fun {j} hj => by
      simp only [List.getD_eq_getElem?_getD]; rw [List.getElem?_append_left hj]
    rw [List.mem_append]
    rcases Nat.lt_or_ge i n with h1 | h1
    · rw [hg (by omega)] at ha
      exact .inl (h.done i h1 (by omega) e he hq ha)
    · have hin : i = n := by omega
      subst hin
      rw [hg hn] at ha
      by_cases hel : e ∈ l
      · exact .inl hel
      · exact .inr ((hm e).2 ⟨he, ⟨hq, hel⟩, by rw [apart_comm]; exact ha⟩)

end Go.Ab

/- Contracts: the reference's turned heaps. -/
namespace Go.Ab
open Go
set_option linter.unusedSimpArgs false
set_option linter.unusedVariables false

theorem Tri.gets_at {M : Mem} {t o k : Nat} {cs : List Cell} {s : Int} (h : Tri M t o cs) (hk : k < cs.length) (hs : Dir s) : getCell M t (o + k * 3 + s.toNat) = some (.I ((cs.getD k default).at s)) := by
  rcases hs with rfl | rfl | rfl
  · exact Tri.get_a h hk
  · exact Tri.get_b h hk
  · exact Tri.get_c h hk

theorem memK_at {M : Mem} {t j e : Nat} {old : List LV} {v : LV} {A : Mem → Prop} (ht : Live M t (.row old true e)) (hj : j < old.length)
    (hA : ∀ M', M'.length = M.length → Live M' t (.row (old.set j v) true e) → (∀ u, u ≠ t → u < M.length → M'[u]? = M[u]?) → A M') : memK (setCells M t j [v]) A := by
  rw [ht.setC, if_pos (by simp; omega), splice_1 hj]
  exact hA _ (by simp) ht.set_eq fun u hu _ => List.getElem?_set_ne (fun e => hu e.symm)
/-- A cell of which the first d coordinates are there. -/
def partC (c : Cell) (d : Nat) : Cell := ⟨if 0 < d then c.a else 0, if 1 < d then c.b else 0, if 2 < d then c.c else 0⟩
theorem partC_set {c : Cell} {d : Nat} (hd : d < 3) : (partC c d).row.set d (.I (c.at d)) = (partC c (d + 1)).row := by
  rcases (show d = 0 ∨ d = 1 ∨ d = 2 by omega) with rfl | rfl | rfl <;> simp [partC, Cell.row, Cell.at]
theorem Turn.row_fr {T : Turn} {d : Nat} (hd : d < 3) : T.row[d]? = some (.I (T.fr.at d)) := by
  rcases (show d = 0 ∨ d = 1 ∨ d = 2 by omega) with rfl | rfl | rfl <;> rfl
theorem Turn.row_fl {T : Turn} {d : Nat} (hd : d < 3) : T.row[3 + d]? = some (.I (T.fl.at d)) := by
  rcases (show d = 0 ∨ d = 1 ∨ d = 2 by omega) with rfl | rfl | rfl <;> rfl
theorem OkT.dir {T : Turn} (h : OkT T) {d : Nat} (hd : d < 3) : Dir (T.fr.at d) := by
  rcases (show d = 0 ∨ d = 1 ∨ d = 2 by omega) with rfl | rfl | rfl
  · exact h.1
  · exact h.2.1
  · exact h.2.2
theorem mapT_at {x y z : Int} {T : Turn} {c : Cell} {d : Nat} (hd : d < 3) : (mapT x y z T c).at d = turnC x y z c (T.fr.at d) (T.fl.at d) := by
  rcases (show d = 0 ∨ d = 1 ∨ d = 2 by omega) with rfl | rfl | rfl <;> rfl

theorem h_l8Made {x y z : Int} {t : Nat} {w : Bool} {cs : List Cell} {T : Turn} {M : Mem} (h : Live M t (.row (triL cs) w 3)) (hH : HeapOK x y z cs) (hT : OkT T) :
    CallsTo PG F.spec_l8Made [.agg [.I x, .I y, .I z, .ref t 0 cs.length], .agg [.I T.fr.a, .I T.fr.b, .I T.fr.c, .I T.fl.a, .I T.fl.b, .I T.fl.c]] M
      (.agg [.I (turnHp x y z T cs).x, .I (turnHp x y z T cs).y, .I (turnHp x y z T cs).z, .ref M.length 0 (turnHp x y z T cs).cs.length]) (M ++ [some (.row (triL (turnHp x y z T cs).cs) true 3)]) := by
  have hS := hH.1
  have hlen := hH.len
  have hS' := turnSides hS T
  obtain ⟨t1, t2, t3⟩ := hT
  have ht := h.lt
  refine calls_run K.spec_l8Made rfl ?_
  simp (disch := omega) only [C.spec_l8Made, ↓SXd, SXu, slBounds, ↓sop, ↓aop, ↓reduceIte, LV.cells, AOp.dst, LV.I, LV.B, LV.U, LV.S, LV.nil, Nat.reduceEqDiff, Nat.reduceAdd, Nat.reduceMul, Nat.reduceSub, Nat.reduceLeDiff, Nat.reduceBEq, Nat.reduceDiv, Nat.reduceMod, Int.reduceToNat, Int.reduceLT, Int.reduceLE, Int.reduceAdd, Int.reduceSub, Int.reduceMul, Int.reduceEq, Int.reduceNeg, reduceCtorEq, resV, resAll, ARes.ev, LV.flat, ite_true, ite_false, exists_eq_left', exists_eq_left, keyOf, implies_true, fillC, capOf]
  refine callK_of (h_l2Long t1) ?_
  simp (disch := omega) only [↓SXd, SXu, slBounds, ↓sop, ↓aop, ↓reduceIte, LV.cells, AOp.dst, LV.I, LV.B, LV.U, LV.S, LV.nil, Nat.reduceEqDiff, Nat.reduceAdd, Nat.reduceMul, Nat.reduceSub, Nat.reduceLeDiff, Nat.reduceBEq, Nat.reduceDiv, Nat.reduceMod, Int.reduceToNat, Int.reduceLT, Int.reduceLE, Int.reduceAdd, Int.reduceSub, Int.reduceMul, Int.reduceEq, Int.reduceNeg, reduceCtorEq, resV, resAll, ARes.ev, LV.flat, ite_true, ite_false, exists_eq_left', exists_eq_left, keyOf, implies_true, fillC, capOf]
  refine callK_of (h_l2Long t2) ?_
  simp (disch := omega) only [↓SXd, SXu, slBounds, ↓sop, ↓aop, ↓reduceIte, LV.cells, AOp.dst, LV.I, LV.B, LV.U, LV.S, LV.nil, Nat.reduceEqDiff, Nat.reduceAdd, Nat.reduceMul, Nat.reduceSub, Nat.reduceLeDiff, Nat.reduceBEq, Nat.reduceDiv, Nat.reduceMod, Int.reduceToNat, Int.reduceLT, Int.reduceLE, Int.reduceAdd, Int.reduceSub, Int.reduceMul, Int.reduceEq, Int.reduceNeg, reduceCtorEq, resV, resAll, ARes.ev, LV.flat, ite_true, ite_false, exists_eq_left', exists_eq_left, keyOf, implies_true, fillC, capOf]
  refine callK_of (h_l2Long t3) ?_
  simp (disch := omega) only [↓SXd, SXu, slBounds, ↓sop, ↓aop, ↓reduceIte, LV.cells, AOp.dst, LV.I, LV.B, LV.U, LV.S, LV.nil, Nat.reduceEqDiff, Nat.reduceAdd, Nat.reduceMul, Nat.reduceSub, Nat.reduceLeDiff, Nat.reduceBEq, Nat.reduceDiv, Nat.reduceMod, Int.reduceToNat, Int.reduceLT, Int.reduceLE, Int.reduceAdd, Int.reduceSub, Int.reduceMul, Int.reduceEq, Int.reduceNeg, reduceCtorEq, resV, resAll, ARes.ev, LV.flat, ite_true, ite_false, exists_eq_left', exists_eq_left, keyOf, implies_true, fillC, capOf]
  refine callK_of (h_l2Empty) ?_
  simp (disch := omega) only [splice, ↓SXd, SXu, slBounds, ↓sop, ↓aop, ↓reduceIte, LV.cells, AOp.dst, LV.I, LV.B, LV.U, LV.S, LV.nil, Nat.reduceEqDiff, Nat.reduceAdd, Nat.reduceMul, Nat.reduceSub, Nat.reduceLeDiff, Nat.reduceBEq, Nat.reduceDiv, Nat.reduceMod, Int.reduceToNat, Int.reduceLT, Int.reduceLE, Int.reduceAdd, Int.reduceSub, Int.reduceMul, Int.reduceEq, Int.reduceNeg, reduceCtorEq, resV, resAll, ARes.ev, LV.flat, ite_true, ite_false, exists_eq_left', exists_eq_left, keyOf, implies_true, fillC, capOf]
  have hXd : (turnHp x y z T cs).x = sideOf x y z T.fr.a := rfl
  have hYd : (turnHp x y z T cs).y = sideOf x y z T.fr.b := rfl
  have hZd : (turnHp x y z T cs).z = sideOf x y z T.fr.c := rfl
  have hCd : (turnHp x y z T cs).cs = pick (sideOf x y z T.fr.a) (sideOf x y z T.fr.b) (sideOf x y z T.fr.c) fun d => decide (d ∈ cs.map (mapT x y z T)) := rfl
  rw [hXd, hYd, hZd, hCd]
  have hLl : (cs.map (mapT x y z T)).length = cs.length := List.length_map ..
  have hLg : ∀ i, i < cs.length → (cs.map (mapT x y z T)).getD i default = mapT x y z T (cs.getD i default) := fun i hi => by simp [hi]
  generalize cs.map (mapT x y z T) = L at hLl hLg ⊢
  have hXYZ : ∀ d, 1 ≤ sideOf x y z d ∧ sideOf x y z d ≤ 4 := fun d => sideOf_in hS d
  refine ev_loop (fun m fr M' => ∃ i u : Nat, i + m = cs.length ∧ Pre M M' ∧ Live M' M.length (.row [.I x, .I y, .I z, .ref t 0 cs.length] true 0) ∧ Live M' (M.length + 1) (.row T.row true 0) ∧ Live M' (M.length + 2) (.row [.I 0, .I 0, .I 0, .nil] true 0) ∧
    Live M' (M.length + 3) (.row [.I (sideOf x y z T.fr.a), .I (sideOf x y z T.fr.b), .I (sideOf x y z T.fr.c), .ref u 0 (pick (sideOf x y z T.fr.a) (sideOf x y z T.fr.b) (sideOf x y z T.fr.c) fun d => decide (d ∈ L.take i)).length] true 0) ∧
    Live M' u (.row (triL (pick (sideOf x y z T.fr.a) (sideOf x y z T.fr.b) (sideOf x y z T.fr.c) fun d => decide (d ∈ L.take i))) true 3) ∧ M.length ≤ u ∧ fr 2 = .ptr M.length 0 ∧ fr 3 = .ptr (M.length + 1) 0 ∧ fr 4 = .ptr (M.length + 2) 0 ∧ fr 5 = .ptr (M.length + 3) 0 ∧ fr 6 = .I i) cs.length
    ⟨0, M.length + 4, by omega, Pre.app _ _, Live.new, Live.newj rfl, Live.newj rfl, ?_, ?_, by omega, rfl, rfl, rfl, rfl, rfl⟩ ?_
  · rw [show (pick (sideOf x y z T.fr.a) (sideOf x y z T.fr.b) (sideOf x y z T.fr.c) fun d => decide (d ∈ L.take 0)) = [] by unfold pick; rw [List.filter_eq_nil_iff]; simp]; exact Live.newj rfl
  · rw [show (pick (sideOf x y z T.fr.a) (sideOf x y z T.fr.b) (sideOf x y z T.fr.c) fun d => decide (d ∈ L.take 0)) = [] by unfold pick; rw [List.filter_eq_nil_iff]; simp]; exact Live.newj rfl
  rintro m fr M' ⟨i, u, hi, hpre, b2, b3, b4, b5, bu, hu, f2, f3, f4, f5, f6⟩
  simp (disch := omega) only [f2, f3, f4, f5, f6, b2.cell, ↓SXd, SXu, slBounds, ↓sop, ↓aop, ↓reduceIte, LV.cells, AOp.dst, LV.I, LV.B, LV.U, LV.S, LV.nil, Nat.reduceEqDiff, Nat.reduceAdd, Nat.reduceMul, Nat.reduceSub, Nat.reduceLeDiff, Nat.reduceBEq, Nat.reduceDiv, Nat.reduceMod, Int.reduceToNat, Int.reduceLT, Int.reduceLE, Int.reduceAdd, Int.reduceSub, Int.reduceMul, Int.reduceEq, Int.reduceNeg, reduceCtorEq, resV, resAll, ARes.ev, LV.flat, ite_true, ite_false, exists_eq_left', exists_eq_left, keyOf, implies_true, fillC, capOf]
  refine condC_dec (fun hlt => ?_) (fun hlt => ?_)
  · have hil : i < cs.length := by omega
    simp (disch := omega) only [f2, f3, f4, f5, f6, splice, ↓SXd, SXu, slBounds, ↓sop, ↓aop, ↓reduceIte, LV.cells, AOp.dst, LV.I, LV.B, LV.U, LV.S, LV.nil, Nat.reduceEqDiff, Nat.reduceAdd, Nat.reduceMul, Nat.reduceSub, Nat.reduceLeDiff, Nat.reduceBEq, Nat.reduceDiv, Nat.reduceMod, Int.reduceToNat, Int.reduceLT, Int.reduceLE, Int.reduceAdd, Int.reduceSub, Int.reduceMul, Int.reduceEq, Int.reduceNeg, reduceCtorEq, resV, resAll, ARes.ev, LV.flat, ite_true, ite_false, exists_eq_left', exists_eq_left, keyOf, implies_true, fillC, capOf]
    have hlb5 := b5.lt
    refine ev_loop (fun m2 fr N => ∃ d : Nat, d + m2 = 3 ∧ Pre M' N ∧ Live N M'.length (.row (partC (mapT x y z T (cs.getD i default)) d).row true 0) ∧
      fr 2 = .ptr M.length 0 ∧ fr 3 = .ptr (M.length + 1) 0 ∧ fr 4 = .ptr (M.length + 2) 0 ∧ fr 5 = .ptr (M.length + 3) 0 ∧ fr 6 = .I i ∧ fr 7 = .ptr M'.length 0 ∧ fr 8 = .I d) 3
      ⟨0, rfl, Pre.app _ _, Live.new, f2, f3, f4, f5, f6, rfl, rfl⟩ ?_
    clear f2 f3 f4 f5 f6
    rintro m2 fr N ⟨d, hd, hp2, b7, f2, f3, f4, f5, f6, f7, f8⟩
    simp (disch := omega) only [f2, f3, f4, f5, f6, f7, f8, ↓SXd, SXu, slBounds, ↓sop, ↓aop, ↓reduceIte, LV.cells, AOp.dst, LV.I, LV.B, LV.U, LV.S, LV.nil, Nat.reduceEqDiff, Nat.reduceAdd, Nat.reduceMul, Nat.reduceSub, Nat.reduceLeDiff, Nat.reduceBEq, Nat.reduceDiv, Nat.reduceMod, Int.reduceToNat, Int.reduceLT, Int.reduceLE, Int.reduceAdd, Int.reduceSub, Int.reduceMul, Int.reduceEq, Int.reduceNeg, reduceCtorEq, resV, resAll, ARes.ev, LV.flat, ite_true, ite_false, exists_eq_left', exists_eq_left, keyOf, implies_true, fillC, capOf]
    refine condC_dec (fun hlt2 => ?_) (fun hlt2 => ?_)
    · have hd3 : d < 3 := by omega
      have c2 := b2.pre hp2
      have c3 := b3.pre hp2
      have hTri : Tri N t 0 cs := (h.pre (hpre.trans hp2)).has
      have hci := (hH.mem (getD_mem' (d := default) hil))
      have hs := OkT.dir ⟨t1, t2, t3⟩ hd3
      have g1 := Tri.gets_at hTri hil hs
      have a1 := at_in hci (T.fr.at d)
      have hma := mapT_at (x := x) (y := y) (z := z) (T := T) (c := cs.getD i default) hd3
      have e1 := c3.cell (o := d)
      rw [Turn.row_fr hd3] at e1
      simp only [Nat.zero_add] at g1
      have hss := hXYZ (T.fr.at d)
      have q2 : 0 ≤ T.fr.at d := by rcases hs with h | h | h <;> omega
      have q3 : T.fr.at d < 3 := by rcases hs with h | h | h <;> omega
      simp (disch := omega) only [f2, f3, f4, f5, f6, f7, f8, c2.cell, e1, g1, q2, q3, Nat.mul_one, Nat.zero_add, ↓SXd, SXu, slBounds, ↓sop, ↓aop, ↓reduceIte, LV.cells, AOp.dst, LV.I, LV.B, LV.U, LV.S, LV.nil, Nat.reduceEqDiff, Nat.reduceAdd, Nat.reduceMul, Nat.reduceSub, Nat.reduceLeDiff, Nat.reduceBEq, Nat.reduceDiv, Nat.reduceMod, Int.reduceToNat, Int.reduceLT, Int.reduceLE, Int.reduceAdd, Int.reduceSub, Int.reduceMul, Int.reduceEq, Int.reduceNeg, reduceCtorEq, resV, resAll, ARes.ev, LV.flat, ite_true, ite_false, exists_eq_left', exists_eq_left, keyOf, implies_true, fillC, capOf]
      refine memK_at b7 (show d < 3 from hd3) fun N1 k1 k2 k3 => ?_
      have hN := hp2.1
      have hl7 := b7.lt
      have d2 := live_step c2 (by omega) k3
      have d3 := live_step c3 (by omega) k3
      have e2 := d3.cell (o := 3 + d)
      have e3 := d3.cell (o := d)
      rw [Turn.row_fl hd3] at e2
      rw [Turn.row_fr hd3] at e3
      have e7 := k2.cell (o := d)
      rw [List.getElem?_set_self (show d < (partC (mapT x y z T (cs.getD i default)) d).row.length from hd3)] at e7
      have hp3 : Pre M' N1 := pre_step hp2 (by omega) (j := 0) k1 k3
      simp (disch := omega) only [f2, f3, f4, f5, f6, f7, f8, e2, Nat.mul_one, ↓SXd, SXu, slBounds, ↓sop, ↓aop, ↓reduceIte, LV.cells, AOp.dst, LV.I, LV.B, LV.U, LV.S, LV.nil, Nat.reduceEqDiff, Nat.reduceAdd, Nat.reduceMul, Nat.reduceSub, Nat.reduceLeDiff, Nat.reduceBEq, Nat.reduceDiv, Nat.reduceMod, Int.reduceToNat, Int.reduceLT, Int.reduceLE, Int.reduceAdd, Int.reduceSub, Int.reduceMul, Int.reduceEq, Int.reduceNeg, reduceCtorEq, resV, resAll, ARes.ev, LV.flat, ite_true, ite_false, exists_eq_left', exists_eq_left, keyOf, implies_true, fillC, capOf]
      refine condC_dec (fun hf => ?_) (fun hf => ?_)
      · simp (disch := omega) only [f2, f3, f4, f5, f6, f7, f8, d2.cells, e3, e7, Nat.mul_one, Nat.zero_add, ↓SXd, SXu, slBounds, ↓sop, ↓aop, ↓reduceIte, LV.cells, AOp.dst, LV.I, LV.B, LV.U, LV.S, LV.nil, Nat.reduceEqDiff, Nat.reduceAdd, Nat.reduceMul, Nat.reduceSub, Nat.reduceLeDiff, Nat.reduceBEq, Nat.reduceDiv, Nat.reduceMod, Int.reduceToNat, Int.reduceLT, Int.reduceLE, Int.reduceAdd, Int.reduceSub, Int.reduceMul, Int.reduceEq, Int.reduceNeg, reduceCtorEq, resV, resAll, ARes.ev, LV.flat, ite_true, ite_false, exists_eq_left', exists_eq_left, keyOf, implies_true, fillC, capOf]
        refine callK_of (h_l2Long hs) ?_
        simp (disch := omega) only [f2, f3, f4, f5, f6, f7, f8, e7, Nat.mul_one, Nat.zero_add, ↓SXd, SXu, slBounds, ↓sop, ↓aop, ↓reduceIte, LV.cells, AOp.dst, LV.I, LV.B, LV.U, LV.S, LV.nil, Nat.reduceEqDiff, Nat.reduceAdd, Nat.reduceMul, Nat.reduceSub, Nat.reduceLeDiff, Nat.reduceBEq, Nat.reduceDiv, Nat.reduceMod, Int.reduceToNat, Int.reduceLT, Int.reduceLE, Int.reduceAdd, Int.reduceSub, Int.reduceMul, Int.reduceEq, Int.reduceNeg, reduceCtorEq, resV, resAll, ARes.ev, LV.flat, ite_true, ite_false, exists_eq_left', exists_eq_left, keyOf, implies_true, fillC, capOf]
        refine memK_at k2 (by rw [List.length_set]; exact hd3) fun N2 l1 l2 l3 => ?_
        simp (disch := omega) only [f2, f3, f4, f5, f6, f7, f8, ↓SXd, SXu, slBounds, ↓sop, ↓aop, ↓reduceIte, LV.cells, AOp.dst, LV.I, LV.B, LV.U, LV.S, LV.nil, Nat.reduceEqDiff, Nat.reduceAdd, Nat.reduceMul, Nat.reduceSub, Nat.reduceLeDiff, Nat.reduceBEq, Nat.reduceDiv, Nat.reduceMod, Int.reduceToNat, Int.reduceLT, Int.reduceLE, Int.reduceAdd, Int.reduceSub, Int.reduceMul, Int.reduceEq, Int.reduceNeg, reduceCtorEq, resV, resAll, ARes.ev, LV.flat, ite_true, ite_false, exists_eq_left', exists_eq_left, keyOf, implies_true, fillC, capOf]
        rw [List.set_set] at l2
        refine ⟨m2 - 1, by omega, d + 1, by omega, pre_step hp3 (by omega) (j := 0) l1 l3, ?_, f2, f3, f4, f5, f6, f7, eqI (natI _)⟩
        rw [← partC_set hd3, hma]
        unfold turnC
        rw [if_pos hf]
        exact l2
      · simp (disch := omega) only [f2, f3, f4, f5, f6, f7, f8, ↓SXd, SXu, slBounds, ↓sop, ↓aop, ↓reduceIte, LV.cells, AOp.dst, LV.I, LV.B, LV.U, LV.S, LV.nil, Nat.reduceEqDiff, Nat.reduceAdd, Nat.reduceMul, Nat.reduceSub, Nat.reduceLeDiff, Nat.reduceBEq, Nat.reduceDiv, Nat.reduceMod, Int.reduceToNat, Int.reduceLT, Int.reduceLE, Int.reduceAdd, Int.reduceSub, Int.reduceMul, Int.reduceEq, Int.reduceNeg, reduceCtorEq, resV, resAll, ARes.ev, LV.flat, ite_true, ite_false, exists_eq_left', exists_eq_left, keyOf, implies_true, fillC, capOf]
        refine ⟨m2 - 1, by omega, d + 1, by omega, hp3, ?_, f2, f3, f4, f5, f6, f7, eqI (natI _)⟩
        rw [← partC_set hd3, hma]
        unfold turnC
        rw [if_neg hf]
        exact k2
    · simp (disch := omega) only [f2, f3, f4, f5, f6, f7, f8, ↓SXd, SXu, slBounds, ↓sop, ↓aop, ↓reduceIte, LV.cells, AOp.dst, LV.I, LV.B, LV.U, LV.S, LV.nil, Nat.reduceEqDiff, Nat.reduceAdd, Nat.reduceMul, Nat.reduceSub, Nat.reduceLeDiff, Nat.reduceBEq, Nat.reduceDiv, Nat.reduceMod, Int.reduceToNat, Int.reduceLT, Int.reduceLE, Int.reduceAdd, Int.reduceSub, Int.reduceMul, Int.reduceEq, Int.reduceNeg, reduceCtorEq, resV, resAll, ARes.ev, LV.flat, ite_true, ite_false, exists_eq_left', exists_eq_left, keyOf, implies_true, fillC, capOf]
      have : d = 3 := by omega
      subst this
      have c2 := b2.pre hp2
      have c3 := b3.pre hp2
      have c4 := b4.pre hp2
      have c5 := b5.pre hp2
      have cu := bu.pre hp2
      have e7 : (partC (mapT x y z T (cs.getD i default)) 3) = L.getD i default := (hLg i hil).symm
      rw [e7] at b7
      have hci := mapT_in (hH.mem (getD_mem' (d := default) hil)) T
      rw [← hLg i hil] at hci
      simp (disch := omega) only [f2, f3, f4, f5, f6, f7, f8, c5.cells, b7.cells, Cell.row, ↓SXd, SXu, slBounds, ↓sop, ↓aop, ↓reduceIte, LV.cells, AOp.dst, LV.I, LV.B, LV.U, LV.S, LV.nil, Nat.reduceEqDiff, Nat.reduceAdd, Nat.reduceMul, Nat.reduceSub, Nat.reduceLeDiff, Nat.reduceBEq, Nat.reduceDiv, Nat.reduceMod, Int.reduceToNat, Int.reduceLT, Int.reduceLE, Int.reduceAdd, Int.reduceSub, Int.reduceMul, Int.reduceEq, Int.reduceNeg, reduceCtorEq, resV, resAll, ARes.ev, LV.flat, ite_true, ite_false, exists_eq_left', exists_eq_left, keyOf, implies_true, fillC, capOf]
      refine callH_of (h_l2With (c := L.getD i default) cu (pick_ok hS' _) hci) ?_
      intro sn N2 hsn hp3 hsr
      rw [pick_take_step hS' (by omega)] at hsr ⊢
      have hN := hp2.1
      have hN2 := hp3.1
      simp (disch := omega) only [f2, f3, f4, f5, f6, f7, f8, ↓SXd, SXu, slBounds, ↓sop, ↓aop, ↓reduceIte, LV.cells, AOp.dst, LV.I, LV.B, LV.U, LV.S, LV.nil, Nat.reduceEqDiff, Nat.reduceAdd, Nat.reduceMul, Nat.reduceSub, Nat.reduceLeDiff, Nat.reduceBEq, Nat.reduceDiv, Nat.reduceMod, Int.reduceToNat, Int.reduceLT, Int.reduceLE, Int.reduceAdd, Int.reduceSub, Int.reduceMul, Int.reduceEq, Int.reduceNeg, reduceCtorEq, resV, resAll, ARes.ev, LV.flat, ite_true, ite_false, exists_eq_left', exists_eq_left, keyOf, implies_true, fillC, capOf]
      refine memK_box (c5.pre hp3) (by simp) fun N3 k1 k2 k3 => ?_
      simp (disch := omega) only [f2, f3, f4, f5, f6, f7, f8, ↓SXd, SXu, slBounds, ↓sop, ↓aop, ↓reduceIte, LV.cells, AOp.dst, LV.I, LV.B, LV.U, LV.S, LV.nil, Nat.reduceEqDiff, Nat.reduceAdd, Nat.reduceMul, Nat.reduceSub, Nat.reduceLeDiff, Nat.reduceBEq, Nat.reduceDiv, Nat.reduceMod, Int.reduceToNat, Int.reduceLT, Int.reduceLE, Int.reduceAdd, Int.reduceSub, Int.reduceMul, Int.reduceEq, Int.reduceNeg, reduceCtorEq, resV, resAll, ARes.ev, LV.flat, ite_true, ite_false, exists_eq_left', exists_eq_left, keyOf, implies_true, fillC, capOf]
      exact ⟨m - 1, by omega, i + 1, sn, by omega, pre_step ((hpre.trans hp2).trans hp3) (by omega) (j := 0) k1 k3, live_step (c2.pre hp3) (by omega) k3, live_step (c3.pre hp3) (by omega) k3, live_step (c4.pre hp3) (by omega) k3, k2, live_step hsr (by omega) k3, by have := hpre.1; omega, f2, f3, f4, f5, eqI (natI _)⟩
  · have : i = cs.length := by omega
    subst this
    rw [← hLl, List.take_length] at b5 bu
    simp (disch := omega) only [f2, f3, f4, f5, f6, b5.cells, ↓SXd, SXu, slBounds, ↓sop, ↓aop, ↓reduceIte, LV.cells, AOp.dst, LV.I, LV.B, LV.U, LV.S, LV.nil, Nat.reduceEqDiff, Nat.reduceAdd, Nat.reduceMul, Nat.reduceSub, Nat.reduceLeDiff, Nat.reduceBEq, Nat.reduceDiv, Nat.reduceMod, Int.reduceToNat, Int.reduceLT, Int.reduceLE, Int.reduceAdd, Int.reduceSub, Int.reduceMul, Int.reduceEq, Int.reduceNeg, reduceCtorEq, resV, resAll, ARes.ev, LV.flat, ite_true, ite_false, exists_eq_left', exists_eq_left, keyOf, implies_true, fillC, capOf]
    refine memK_box b4 (by simp) fun N3 k1 k2 k3 => ?_
    simp (disch := omega) only [f2, f3, f4, f5, f6, k2.cells, ↓SXd, SXu, slBounds, ↓sop, ↓aop, ↓reduceIte, LV.cells, AOp.dst, LV.I, LV.B, LV.U, LV.S, LV.nil, Nat.reduceEqDiff, Nat.reduceAdd, Nat.reduceMul, Nat.reduceSub, Nat.reduceLeDiff, Nat.reduceBEq, Nat.reduceDiv, Nat.reduceMod, Int.reduceToNat, Int.reduceLT, Int.reduceLE, Int.reduceAdd, Int.reduceSub, Int.reduceMul, Int.reduceEq, Int.reduceNeg, reduceCtorEq, resV, resAll, ARes.ev, LV.flat, ite_true, ite_false, exists_eq_left', exists_eq_left, keyOf, implies_true, fillC, capOf]
    exact cmp_keepL (pre_step hpre (by omega) (j := 0) k1 k3) hu (live_step bu (bu.ne_esz b4 (by decide)) k3) (triL_lo _) (by simp [rn, rn0, rn1])
end Go.Ab

/- Contracts: views, the reference's side. -/
namespace Go.Ab
open Go
set_option linter.unusedSimpArgs false
set_option linter.unusedVariables false
set_option maxRecDepth 20000

theorem h_l2Others {d : Nat} {M : Mem} (hd : d < 3) : CallsTo PG F.spec_l2Others [.I d] M (.tup [.I (if d = 0 then 1 else 0), .I (if d = 2 then 1 else 2)]) M := by
  refine calls_run K.spec_l2Others rfl ?_
  rcases (show d = 0 ∨ d = 1 ∨ d = 2 by omega) with rfl | rfl | rfl
  all_goals
    simp (disch := omega) only [C.spec_l2Others, ↓SXd, SXu, slBounds, ↓sop, ↓aop, ↓reduceIte, LV.cells, AOp.dst, LV.I, LV.B, LV.U, LV.S, LV.nil, Nat.reduceEqDiff, Nat.reduceAdd, Nat.reduceMul, Nat.reduceSub, Nat.reduceLeDiff, Nat.reduceBEq, Nat.reduceDiv, Nat.reduceMod, Int.reduceToNat, Int.reduceLT, Int.reduceLE, Int.reduceAdd, Int.reduceSub, Int.reduceMul, Int.reduceEq, Int.reduceNeg, reduceCtorEq, resV, resAll, ARes.ev, LV.flat, ite_true, ite_false, exists_eq_left', exists_eq_left, keyOf, implies_true, fillC, capOf]
    exact cmp_drop0 rfl
theorem h_l2View {x y z : Int} {d t o : Nat} {cs : List Cell} {M : Mem} (h : Tri M t o cs) (hH : HeapOK x y z cs) (hd : d < 3) : CallsTo PG F.spec_l2View [.agg [.I x, .I y, .I z, .ref t o cs.length], .I d] M (.ref M.length 0 (viewL x y z d cs).length) (M ++ [some (.row (intL (viewL x y z d cs)) true 1)]) := by
  have hS := hH.1
  have hlp : 1 ≤ linesOf x y z d ∧ linesOf x y z d ≤ 16 := by
    have := prod_le hS
    rcases (show d = 0 ∨ d = 1 ∨ d = 2 by omega) with rfl | rfl | rfl
    · exact this.2.2
    · exact this.2.1
    · exact this.1
  have hlen := hH.len
  have ht := h.lt
  have hz : ∀ j, 0 ≤ (List.replicate (linesOf x y z d).toNat (0 : Int)).getD j 0 ∧ (List.replicate (linesOf x y z d).toNat (0 : Int)).getD j 0 ≤ 0 := fun j => by
    rw [List.getD_eq_getElem?_getD, List.getElem?_replicate]; split <;> simp
  have hvl := viewL_len (x := x) (y := y) (z := z) (d := d) (cs := cs)
  have hda : Dir (if d = 0 then 1 else 0) := by unfold Dir; split <;> omega
  have hdb : Dir (if d = 2 then 1 else 2) := by unfold Dir; split <;> omega
  have hprod : sideOf x y z (if d = 0 then 1 else 0) * sideOf x y z (if d = 2 then 1 else 2) = linesOf x y z d := by
    rcases (show d = 0 ∨ d = 1 ∨ d = 2 by omega) with rfl | rfl | rfl <;> rfl
  have hline : ∀ c : Cell, c.at (if d = 0 then 1 else 0) * sideOf x y z (if d = 2 then 1 else 2) + c.at (if d = 2 then 1 else 2) = lineOf y z c d := fun c => by
    rcases (show d = 0 ∨ d = 1 ∨ d = 2 by omega) with rfl | rfl | rfl <;> rfl
  have hrA : 0 ≤ (if d = 0 then (1 : Int) else 0) ∧ (if d = 0 then (1 : Int) else 0) < 3 := by split <;> omega
  have hrB : 0 ≤ (if d = 2 then (1 : Int) else 2) ∧ (if d = 2 then (1 : Int) else 2) < 3 := by split <;> omega
  refine calls_run K.spec_l2View rfl ?_
  simp (disch := omega) only [C.spec_l2View, ↓SXd, SXu, slBounds, ↓sop, ↓aop, ↓reduceIte, LV.cells, AOp.dst, LV.I, LV.B, LV.U, LV.S, LV.nil, Nat.reduceEqDiff, Nat.reduceAdd, Nat.reduceMul, Nat.reduceSub, Nat.reduceLeDiff, Nat.reduceBEq, Nat.reduceDiv, Nat.reduceMod, Int.reduceToNat, Int.reduceLT, Int.reduceLE, Int.reduceAdd, Int.reduceSub, Int.reduceMul, Int.reduceEq, Int.reduceNeg, reduceCtorEq, resV, resAll, ARes.ev, LV.flat, ite_true, ite_false, exists_eq_left', exists_eq_left, keyOf, implies_true, fillC, capOf]
  refine callK_of (h_l2Others hd) ?_
  simp (disch := omega) only [↓SXd, SXu, slBounds, ↓sop, ↓aop, ↓reduceIte, LV.cells, AOp.dst, LV.I, LV.B, LV.U, LV.S, LV.nil, Nat.reduceEqDiff, Nat.reduceAdd, Nat.reduceMul, Nat.reduceSub, Nat.reduceLeDiff, Nat.reduceBEq, Nat.reduceDiv, Nat.reduceMod, Int.reduceToNat, Int.reduceLT, Int.reduceLE, Int.reduceAdd, Int.reduceSub, Int.reduceMul, Int.reduceEq, Int.reduceNeg, reduceCtorEq, resV, resAll, ARes.ev, LV.flat, ite_true, ite_false, exists_eq_left', exists_eq_left, keyOf, implies_true, fillC, capOf]
  generalize (if d = 0 then (1 : Int) else 0) = A at hda hprod hline hrA ⊢
  generalize (if d = 2 then (1 : Int) else 2) = B at hdb hprod hline hrB ⊢
  obtain ⟨rA1, rA2⟩ := hrA
  obtain ⟨rB1, rB2⟩ := hrB
  refine callK_of (h_l2Long hda) ?_
  simp (disch := omega) only [↓SXd, SXu, slBounds, ↓sop, ↓aop, ↓reduceIte, LV.cells, AOp.dst, LV.I, LV.B, LV.U, LV.S, LV.nil, Nat.reduceEqDiff, Nat.reduceAdd, Nat.reduceMul, Nat.reduceSub, Nat.reduceLeDiff, Nat.reduceBEq, Nat.reduceDiv, Nat.reduceMod, Int.reduceToNat, Int.reduceLT, Int.reduceLE, Int.reduceAdd, Int.reduceSub, Int.reduceMul, Int.reduceEq, Int.reduceNeg, reduceCtorEq, resV, resAll, ARes.ev, LV.flat, ite_true, ite_false, exists_eq_left', exists_eq_left, keyOf, implies_true, fillC, capOf]
  refine callK_of (h_l2Long hdb) ?_
  simp (disch := omega) only [hprod, made_int, ↓SXd, SXu, slBounds, ↓sop, ↓aop, ↓reduceIte, LV.cells, AOp.dst, LV.I, LV.B, LV.U, LV.S, LV.nil, Nat.reduceEqDiff, Nat.reduceAdd, Nat.reduceMul, Nat.reduceSub, Nat.reduceLeDiff, Nat.reduceBEq, Nat.reduceDiv, Nat.reduceMod, Int.reduceToNat, Int.reduceLT, Int.reduceLE, Int.reduceAdd, Int.reduceSub, Int.reduceMul, Int.reduceEq, Int.reduceNeg, reduceCtorEq, resV, resAll, ARes.ev, LV.flat, ite_true, ite_false, exists_eq_left', exists_eq_left, keyOf, implies_true, fillC, capOf]
  refine ev_loop (fun m fr M' => ∃ i : Nat, i + m = cs.length ∧ Pre M M' ∧ Live M' M.length (.row [.I x, .I y, .I z, .ref t o cs.length] true 0) ∧ Live M' (M.length + 1) (.row (intL ((cs.take i).foldl (viewStep y z d) (List.replicate (linesOf x y z d).toNat 0))) true 1) ∧
    fr 2 = .ptr M.length 0 ∧ fr 5 = .I A ∧ fr 6 = .I B ∧ fr 7 = .ref (M.length + 1) 0 (linesOf x y z d).toNat ∧ fr 8 = .I i) cs.length
    ⟨0, by omega, Pre.app _ _, Live.new, Live.newj rfl, rfl, rfl, rfl, rfl, rfl⟩ ?_
  rintro m fr M' ⟨i, hi, hpre, b2, bo, f2, f5, f6, f7, f8⟩
  simp (disch := omega) only [f2, f5, f6, f7, f8, b2.cell, ↓SXd, SXu, slBounds, ↓sop, ↓aop, ↓reduceIte, LV.cells, AOp.dst, LV.I, LV.B, LV.U, LV.S, LV.nil, Nat.reduceEqDiff, Nat.reduceAdd, Nat.reduceMul, Nat.reduceSub, Nat.reduceLeDiff, Nat.reduceBEq, Nat.reduceDiv, Nat.reduceMod, Int.reduceToNat, Int.reduceLT, Int.reduceLE, Int.reduceAdd, Int.reduceSub, Int.reduceMul, Int.reduceEq, Int.reduceNeg, reduceCtorEq, resV, resAll, ARes.ev, LV.flat, ite_true, ite_false, exists_eq_left', exists_eq_left, keyOf, implies_true, fillC, capOf]
  refine condC_dec (fun hlt => ?_) (fun hlt => ?_)
  · have hil : i < cs.length := by omega
    have hc := hH.mem (getD_mem' (d := default) hil)
    have gA := Tri.gets_at (h.pre hpre) hil hda
    have gB := Tri.gets_at (h.pre hpre) hil hdb
    have htf := take_foldl (y := y) (z := z) (d := d) (v := List.replicate (linesOf x y z d).toNat 0) hil
    have hbd := fold_bound (y := y) (z := z) (d := d) (cs := cs.take i) hz
    have hfl := foldl_len (y := y) (z := z) (d := d) (cs := cs.take i) (v := List.replicate (linesOf x y z d).toNat 0)
    have htl := List.length_take_le i cs
    rw [List.length_replicate] at hfl
    generalize cs.getD i default = c at gA gB hc htf
    generalize (cs.take i).foldl (viewStep y z d) (List.replicate (linesOf x y z d).toNat 0) = v at bo htf hbd hfl
    obtain ⟨l1, l2⟩ := lineOf_in hS hc hd
    obtain ⟨v1, v2⟩ := hbd (lineOf y z c d).toNat
    have hlt2 : (lineOf y z c d).toNat < v.length := by omega
    have hlc := hline c
    have aA := at_in hc A
    have aB := at_in hc B
    have sB := sideOf_in hS B
    have sA := sideOf_in hS A
    have hmul : 0 ≤ c.at A * sideOf x y z B ∧ c.at A * sideOf x y z B ≤ 16 := by
      rcases (show sideOf x y z B = 1 ∨ sideOf x y z B = 2 ∨ sideOf x y z B = 3 ∨ sideOf x y z B = 4 by omega) with e | e | e | e <;> rw [e] <;> omega
    have hcell := bo.cell (o := (lineOf y z c d).toNat)
    rw [intL_get hlt2] at hcell
    simp (disch := omega) only [f2, f5, f6, f7, f8, b2.cell, b2.cells, gA, gB, Nat.mul_one, Nat.zero_add, ↓SXd, SXu, slBounds, ↓sop, ↓aop, ↓reduceIte, LV.cells, AOp.dst, LV.I, LV.B, LV.U, LV.S, LV.nil, Nat.reduceEqDiff, Nat.reduceAdd, Nat.reduceMul, Nat.reduceSub, Nat.reduceLeDiff, Nat.reduceBEq, Nat.reduceDiv, Nat.reduceMod, Int.reduceToNat, Int.reduceLT, Int.reduceLE, Int.reduceAdd, Int.reduceSub, Int.reduceMul, Int.reduceEq, Int.reduceNeg, reduceCtorEq, resV, resAll, ARes.ev, LV.flat, ite_true, ite_false, exists_eq_left', exists_eq_left, keyOf, implies_true, fillC, capOf]
    refine callK_of (h_l2Long hdb) ?_
    simp (disch := omega) only [f2, f5, f6, f7, f8, hlc, hcell, Nat.mul_one, Nat.zero_add, ↓SXd, SXu, slBounds, ↓sop, ↓aop, ↓reduceIte, LV.cells, AOp.dst, LV.I, LV.B, LV.U, LV.S, LV.nil, Nat.reduceEqDiff, Nat.reduceAdd, Nat.reduceMul, Nat.reduceSub, Nat.reduceLeDiff, Nat.reduceBEq, Nat.reduceDiv, Nat.reduceMod, Int.reduceToNat, Int.reduceLT, Int.reduceLE, Int.reduceAdd, Int.reduceSub, Int.reduceMul, Int.reduceEq, Int.reduceNeg, reduceCtorEq, resV, resAll, ARes.ev, LV.flat, ite_true, ite_false, exists_eq_left', exists_eq_left, keyOf, implies_true, fillC, capOf]
    refine memK_int bo hlt2 fun N k1 k2 k3 => ?_
    simp (disch := omega) only [f2, f5, f6, f7, f8, ↓SXd, SXu, slBounds, ↓sop, ↓aop, ↓reduceIte, LV.cells, AOp.dst, LV.I, LV.B, LV.U, LV.S, LV.nil, Nat.reduceEqDiff, Nat.reduceAdd, Nat.reduceMul, Nat.reduceSub, Nat.reduceLeDiff, Nat.reduceBEq, Nat.reduceDiv, Nat.reduceMod, Int.reduceToNat, Int.reduceLT, Int.reduceLE, Int.reduceAdd, Int.reduceSub, Int.reduceMul, Int.reduceEq, Int.reduceNeg, reduceCtorEq, resV, resAll, ARes.ev, LV.flat, ite_true, ite_false, exists_eq_left', exists_eq_left, keyOf, implies_true, fillC, capOf]
    rw [show v.set (lineOf y z c d).toNat (v.getD (lineOf y z c d).toNat 0 + 1) = viewStep y z d v c from rfl, ← htf] at k2
    exact ⟨m - 1, by omega, i + 1, by omega, pre_step hpre (by omega) (j := 0) k1 k3, live_step b2 (by omega) k3, k2, f2, f5, f6, f7, eqI (natI _)⟩
  · simp (disch := omega) only [f2, f5, f6, f7, f8, ↓SXd, SXu, slBounds, ↓sop, ↓aop, ↓reduceIte, LV.cells, AOp.dst, LV.I, LV.B, LV.U, LV.S, LV.nil, Nat.reduceEqDiff, Nat.reduceAdd, Nat.reduceMul, Nat.reduceSub, Nat.reduceLeDiff, Nat.reduceBEq, Nat.reduceDiv, Nat.reduceMod, Int.reduceToNat, Int.reduceLT, Int.reduceLE, Int.reduceAdd, Int.reduceSub, Int.reduceMul, Int.reduceEq, Int.reduceNeg, reduceCtorEq, resV, resAll, ARes.ev, LV.flat, ite_true, ite_false, exists_eq_left', exists_eq_left, keyOf, implies_true, fillC, capOf]
    have : i = cs.length := by omega
    subst this
    rw [List.take_length] at bo
    change Live M' (M.length + 1) (.row (intL (viewL x y z d cs)) true 1) at bo
    exact cmp_keepL hpre (by omega) bo (intL_lo _) (by simp [rn, rn0, rn1, hvl])
end Go.Ab

/- The abstract code of some functions (written by a program of mine from the translation, by way of prepF). -/
namespace Go.Ab.C
open Go.Ab
def spec_l1Least : AFn :=
  ⟨2, 10, [.tmp 4],
    .seq (.ops [(none, .mv 4 (.c (.I 0)))])
    (.seq (.seq (.ops [(none, .mv 5 (.t 0)),
         (none, .mv 6 (.t 1)),
         (none, .bin 7 .lss (.t 5) (.t 6))])
      (.cond (.t 7) (.seq (.ops [(none, .mv 8 (.t 0)),
           (none, .mv 4 (.t 8))])
        (.ret))
       (.skip)))
     (.seq (.ops [(none, .mv 9 (.t 1)),
         (none, .mv 4 (.t 9))])
      (.ret)))⟩
def spec_l2Moved : AFn :=
  ⟨2, 41, [.tmp 4],
    .seq (.ops [(none, .box 2 (.t 0)),
       (none, .box 3 (.t 1)),
       (none, .mv 4 (.c .nil))])
    (.seq (.ops [(none, .buildSl 8 0 3 [] []),
        (none, .mv 5 (.t 8))])
     (.seq (.seq (.ops [(none, .mv 6 (.c (.I 0)))])
       (.block 0 (.loop (.seq (.seq (.ops [(none, .mv 9 (.t 6)),
              (none, .fieldAddr 10 (.t 2) 3),
              (none, .load1 11 (.t 10)),
              (none, .len 12 (.t 11)),
              (none, .bin 13 .lss (.t 9) (.t 12))])
           (.cond (.t 13) (.skip)
            (.exit 0)))
          (.seq (.block 1 (.seq (.ops [(none, .fieldAddr 16 (.t 2) 3),
                (none, .load1 17 (.t 16)),
                (none, .mv 18 (.t 6)),
                (none, .idxS 19 3 (.t 17) (.t 18)),
                (none, .loadN 20 3 (.t 19)),
                (none, .alloc 7 [(.I 0), (.I 0), (.I 0)]),
                (none, .store 3 (.t 7) (.t 20))])
             (.ops [(none, .mv 21 (.t 5)),
                (none, .idxA 22 3 1 (.t 7) (.c (.I 0))),
                (none, .load1 23 (.t 22)),
                (none, .idxA 24 3 1 (.t 3) (.c (.I 0))),
                (none, .load1 25 (.t 24)),
                (none, .bin 26 .add (.t 23) (.t 25)),
                (none, .idxA 27 3 1 (.t 7) (.c (.I 1))),
                (none, .load1 28 (.t 27)),
                (none, .idxA 29 3 1 (.t 3) (.c (.I 1))),
                (none, .load1 30 (.t 29)),
                (none, .bin 31 .add (.t 28) (.t 30)),
                (none, .idxA 32 3 1 (.t 7) (.c (.I 2))),
                (none, .load1 33 (.t 32)),
                (none, .idxA 34 3 1 (.t 3) (.c (.I 2))),
                (none, .load1 35 (.t 34)),
                (none, .bin 36 .add (.t 33) (.t 35)),
                (none, .build 37 [(.I 0), (.I 0), (.I 0)] [(0, 1, (.t 26)), (1, 1, (.t 31)), (2, 1, (.t 36))]),
                (none, .buildSl 38 1 3 [(.I 0), (.I 0), (.I 0)] [(0, 3, (.t 37))]),
                (none, .append 39 3 24 (.t 21) (.t 38)),
                (none, .mv 5 (.t 39))])))
           (.ops [(none, .mv 14 (.t 6)),
              (none, .bin 15 .add (.t 14) (.c (.I 1))),
              (none, .mv 6 (.t 15))]))))))
      (.seq (.ops [(none, .mv 40 (.t 5)),
          (none, .mv 4 (.t 40))])
       (.ret))))⟩
def spec_l2Cropped : AFn :=
  ⟨1, 86, [.cellN 2 4],
    .seq (.ops [(none, .box 1 (.t 0)),
       (none, .alloc 2 [(.I 0), (.I 0), (.I 0), .nil])])
    (.seq (.draw [⟨(none, .fieldAddr 8 (.t 1) 3), [], []⟩,
        ⟨(none, .load1 9 (.t 8)), [], []⟩,
        ⟨(none, .idxS 10 3 (.t 9) (.c (.I 0))), [], []⟩,
        ⟨(none, .loadN 11 3 (.t 10)), [], []⟩,
        ⟨(none, .fieldAddr 12 (.t 1) 3), [], []⟩,
        ⟨(none, .load1 13 (.t 12)), [], []⟩,
        ⟨(none, .idxS 14 3 (.t 13) (.c (.I 0))), [], []⟩,
        ⟨(none, .loadN 15 3 (.t 14)), [], []⟩,
        ⟨(none, .alloc 3 [(.I 0), (.I 0), (.I 0)]), [], []⟩,
        ⟨(none, .alloc 4 [(.I 0), (.I 0), (.I 0)]), [], []⟩,
        ⟨(none, .store 3 (.t 3) (.t 11)), [], [4, 5, 6, 7]⟩,
        ⟨(none, .store 3 (.t 4) (.t 15)), [], []⟩])
     (.seq (.seq (.ops [(none, .mv 5 (.c (.I 0)))])
       (.block 0 (.loop (.seq (.seq (.ops [(none, .mv 16 (.t 5)),
              (none, .fieldAddr 17 (.t 1) 3),
              (none, .load1 18 (.t 17)),
              (none, .len 19 (.t 18)),
              (none, .bin 20 .lss (.t 16) (.t 19))])
           (.cond (.t 20) (.skip)
            (.exit 0)))
          (.seq (.block 1 (.seq (.ops [(none, .mv 6 (.c (.I 0)))])
             (.block 2 (.loop (.seq (.seq (.ops [(none, .mv 23 (.t 6)),
                    (none, .bin 24 .lss (.t 23) (.c (.I 3)))])
                 (.cond (.t 24) (.skip)
                  (.exit 2)))
                (.seq (.block 3 (.seq (.draw [⟨(none, .mv 27 (.t 6)), [], []⟩,
                      ⟨(none, .mv 28 (.t 6)), [], []⟩,
                      ⟨(none, .idxA 29 3 1 (.t 3) (.t 28)), [], []⟩,
                      ⟨(none, .load1 30 (.t 29)), [], []⟩,
                      ⟨(none, .fieldAddr 31 (.t 1) 3), [], []⟩,
                      ⟨(none, .load1 32 (.t 31)), [], []⟩,
                      ⟨(none, .mv 33 (.t 5)), [], []⟩,
                      ⟨(none, .mv 34 (.t 6)), [], []⟩,
                      ⟨(none, .idxS 35 3 (.t 32) (.t 33)), [], []⟩,
                      ⟨(none, .idxA 36 3 1 (.t 35) (.t 34)), [], []⟩,
                      ⟨(none, .load1 37 (.t 36)), [], []⟩,
                      ⟨(none, .call (some 38) F.spec_l1Least [(.t 30), (.t 37)]), [], [0]⟩,
                      ⟨(none, .idxA 39 3 1 (.t 3) (.t 27)), [], []⟩,
                      ⟨(none, .store 1 (.t 39) (.t 38)), [], []⟩])
                   (.draw [⟨(none, .mv 40 (.t 6)), [], []⟩,
                      ⟨(none, .mv 41 (.t 6)), [], []⟩,
                      ⟨(none, .idxA 42 3 1 (.t 4) (.t 41)), [], []⟩,
                      ⟨(none, .load1 43 (.t 42)), [], []⟩,
                      ⟨(none, .fieldAddr 44 (.t 1) 3), [], []⟩,
                      ⟨(none, .load1 45 (.t 44)), [], []⟩,
                      ⟨(none, .mv 46 (.t 5)), [], []⟩,
                      ⟨(none, .mv 47 (.t 6)), [], []⟩,
                      ⟨(none, .idxS 48 3 (.t 45) (.t 46)), [], []⟩,
                      ⟨(none, .idxA 49 3 1 (.t 48) (.t 47)), [], []⟩,
                      ⟨(none, .load1 50 (.t 49)), [], []⟩,
                      ⟨(none, .call (some 51) F.spec_l1Most [(.t 43), (.t 50)]), [], [0]⟩,
                      ⟨(none, .idxA 52 3 1 (.t 4) (.t 40)), [], []⟩,
                      ⟨(none, .store 1 (.t 52) (.t 51)), [], []⟩])))
                 (.ops [(none, .mv 25 (.t 6)),
                    (none, .bin 26 .add (.t 25) (.c (.I 1))),
                    (none, .mv 6 (.t 26))])))))))
           (.ops [(none, .mv 21 (.t 5)),
              (none, .bin 22 .add (.t 21) (.c (.I 1))),
              (none, .mv 5 (.t 22))]))))))
      (.seq (.ops [(none, .idxA 53 3 1 (.t 4) (.c (.I 0))),
          (none, .load1 54 (.t 53)),
          (none, .idxA 55 3 1 (.t 3) (.c (.I 0))),
          (none, .load1 56 (.t 55)),
          (none, .bin 57 .sub (.t 54) (.t 56)),
          (none, .bin 58 .add (.t 57) (.c (.I 1))),
          (none, .idxA 59 3 1 (.t 4) (.c (.I 1))),
          (none, .load1 60 (.t 59)),
          (none, .idxA 61 3 1 (.t 3) (.c (.I 1))),
          (none, .load1 62 (.t 61)),
          (none, .bin 63 .sub (.t 60) (.t 62)),
          (none, .bin 64 .add (.t 63) (.c (.I 1))),
          (none, .idxA 65 3 1 (.t 4) (.c (.I 2))),
          (none, .load1 66 (.t 65)),
          (none, .idxA 67 3 1 (.t 3) (.c (.I 2))),
          (none, .load1 68 (.t 67)),
          (none, .bin 69 .sub (.t 66) (.t 68)),
          (none, .bin 70 .add (.t 69) (.c (.I 1))),
          (none, .call (some 71) F.spec_l2Empty [(.t 58), (.t 64), (.t 70)]),
          (none, .alloc 7 [(.I 0), (.I 0), (.I 0), .nil]),
          (none, .store 4 (.t 7) (.t 71))])
       (.seq (.ops [(none, .loadN 72 4 (.t 1)),
           (none, .idxA 73 3 1 (.t 3) (.c (.I 0))),
           (none, .load1 74 (.t 73)),
           (none, .un 75 .neg (.t 74)),
           (none, .idxA 76 3 1 (.t 3) (.c (.I 1))),
           (none, .load1 77 (.t 76)),
           (none, .un 78 .neg (.t 77)),
           (none, .idxA 79 3 1 (.t 3) (.c (.I 2))),
           (none, .load1 80 (.t 79)),
           (none, .un 81 .neg (.t 80)),
           (none, .build 82 [(.I 0), (.I 0), (.I 0)] [(0, 1, (.t 75)), (1, 1, (.t 78)), (2, 1, (.t 81))]),
           (none, .call (some 83) F.spec_l2Moved [(.t 72), (.t 82)]),
           (none, .fieldAddr 84 (.t 7) 3),
           (none, .store 1 (.t 84) (.t 83))])
        (.seq (.ops [(none, .loadN 85 4 (.t 7)),
            (none, .store 4 (.t 2) (.t 85))])
         (.ret))))))⟩
end Go.Ab.C

/- That the program has this code. -/
namespace Go.Ab.K
open Go Go.Ab
theorem spec_l1Least : prepF Go.Proofs.Try.prog F.spec_l1Least = some C.spec_l1Least := by kernel_rfl
theorem spec_l2Moved : prepF Go.Proofs.Try.prog F.spec_l2Moved = some C.spec_l2Moved := by kernel_rfl
theorem spec_l2Cropped : prepF Go.Proofs.Try.prog F.spec_l2Cropped = some C.spec_l2Cropped := by kernel_rfl
end Go.Ab.K

/- Contracts: the reference's least boxes. -/
namespace Go.Ab
open Go
set_option linter.unusedSimpArgs false
set_option linter.unusedVariables false

def Small (c : Cell) : Prop := (-100 ≤ c.a ∧ c.a ≤ 100) ∧ (-100 ≤ c.b ∧ c.b ≤ 100) ∧ (-100 ≤ c.c ∧ c.c ≤ 100)
def shift (p c : Cell) : Cell := ⟨c.a + p.a, c.b + p.b, c.c + p.c⟩
def loC (c d : Cell) : Cell := ⟨min c.a d.a, min c.b d.b, min c.c d.c⟩
def hiC (c d : Cell) : Cell := ⟨max c.a d.a, max c.b d.b, max c.c d.c⟩
def lowOf (cs : List Cell) : Cell := cs.foldl loC (cs.getD 0 default)
def highOf (cs : List Cell) : Cell := cs.foldl hiC (cs.getD 0 default)
def cropHp (cs : List Cell) : Hp := ⟨(highOf cs).a - (lowOf cs).a + 1, (highOf cs).b - (lowOf cs).b + 1, (highOf cs).c - (lowOf cs).c + 1, cs.map (shift ⟨0 - (lowOf cs).a, 0 - (lowOf cs).b, 0 - (lowOf cs).c⟩)⟩
/-- The first d coordinates of one cell, the others of another one. -/
def mixC (c e : Cell) (d : Nat) : Cell := ⟨if 0 < d then e.a else c.a, if 1 < d then e.b else c.b, if 2 < d then e.c else c.c⟩
theorem mixC_set {c e : Cell} {d : Nat} (hd : d < 3) : (mixC c e d).row.set d (.I (e.at d)) = (mixC c e (d + 1)).row := by
  rcases (show d = 0 ∨ d = 1 ∨ d = 2 by omega) with rfl | rfl | rfl <;> simp [mixC, Cell.row, Cell.at]
theorem mixC_at {c e : Cell} {d : Nat} (hd : d < 3) : (mixC c e d).at d = c.at d := by
  rcases (show d = 0 ∨ d = 1 ∨ d = 2 by omega) with rfl | rfl | rfl <;> simp [mixC, Cell.at]
theorem loC_at {c e : Cell} {d : Nat} (hd : d < 3) : (loC c e).at d = min (c.at d) (e.at d) := by
  rcases (show d = 0 ∨ d = 1 ∨ d = 2 by omega) with rfl | rfl | rfl <;> rfl
theorem hiC_at {c e : Cell} {d : Nat} (hd : d < 3) : (hiC c e).at d = max (c.at d) (e.at d) := by
  rcases (show d = 0 ∨ d = 1 ∨ d = 2 by omega) with rfl | rfl | rfl <;> rfl
theorem fold_small {f : Cell → Cell → Cell} (hf : ∀ c d, Small c → Small d → Small (f c d)) : ∀ {l : List Cell} {c : Cell}, Small c → (∀ d ∈ l, Small d) → Small (l.foldl f c)
  | [], _, h, _ => h
  | d :: l, c, h, hl => by rw [List.foldl_cons]; exact fold_small hf (hf c d h (hl d (by simp))) fun e he => hl e (by simp [he])
theorem loC_small (c d : Cell) (h : Small c) (k : Small d) : Small (loC c d) := by
  obtain ⟨⟨_, _⟩, ⟨_, _⟩, ⟨_, _⟩⟩ := h
  obtain ⟨⟨_, _⟩, ⟨_, _⟩, ⟨_, _⟩⟩ := k
  unfold loC Small; simp only; omega
theorem hiC_small (c d : Cell) (h : Small c) (k : Small d) : Small (hiC c d) := by
  obtain ⟨⟨_, _⟩, ⟨_, _⟩, ⟨_, _⟩⟩ := h
  obtain ⟨⟨_, _⟩, ⟨_, _⟩, ⟨_, _⟩⟩ := k
  unfold hiC Small; simp only; omega

theorem h_l1Least {a b : Int} {M : Mem} : CallsTo PG F.spec_l1Least [.I a, .I b] M (.I (min a b)) M := by
  refine calls_run K.spec_l1Least rfl ?_
  simp (disch := omega) only [C.spec_l1Least, ↓SXd, SXu, slBounds, ↓sop, ↓aop, ↓reduceIte, LV.cells, AOp.dst, LV.I, LV.B, LV.U, LV.S, LV.nil, Nat.reduceEqDiff, Nat.reduceAdd, Nat.reduceMul, Nat.reduceSub, Nat.reduceLeDiff, Nat.reduceBEq, Nat.reduceDiv, Nat.reduceMod, Int.reduceToNat, Int.reduceLT, Int.reduceLE, Int.reduceAdd, Int.reduceSub, Int.reduceMul, Int.reduceEq, Int.reduceNeg, reduceCtorEq, resV, resAll, ARes.ev, LV.flat, ite_true, ite_false, exists_eq_left', exists_eq_left, keyOf, implies_true, fillC, capOf]
  refine condC_dec (fun h => ?_) (fun h => ?_)
  all_goals
    simp (disch := omega) only [↓SXd, SXu, slBounds, ↓sop, ↓aop, ↓reduceIte, LV.cells, AOp.dst, LV.I, LV.B, LV.U, LV.S, LV.nil, Nat.reduceEqDiff, Nat.reduceAdd, Nat.reduceMul, Nat.reduceSub, Nat.reduceLeDiff, Nat.reduceBEq, Nat.reduceDiv, Nat.reduceMod, Int.reduceToNat, Int.reduceLT, Int.reduceLE, Int.reduceAdd, Int.reduceSub, Int.reduceMul, Int.reduceEq, Int.reduceNeg, reduceCtorEq, resV, resAll, ARes.ev, LV.flat, ite_true, ite_false, exists_eq_left', exists_eq_left, keyOf, implies_true, fillC, capOf]
  · rw [show min a b = a by omega]; exact cmp_drop0 rfl
  · rw [show min a b = b by omega]; exact cmp_drop0 rfl

theorem appendK_cellL {M L : Mem} {t : Nat} {acc : List Cell} {x y z : Int} {A : LV → Mem → Prop} (ht : Live (M ++ L) t (.row (triL acc) true 3)) (hl : acc.length ≤ 1000000000)
    (hA : ∀ M', M'.length = M.length + L.length + 2 → Live M' (M.length + L.length + 1) (.row (triL (acc ++ [⟨x, y, z⟩])) true 3) → (∀ u, u ≠ t → u < M.length + L.length → M'[u]? = (M ++ L)[u]?) → A (.ref (M.length + L.length + 1) 0 (acc ++ [(⟨x, y, z⟩ : Cell)]).length) M') :
    appendK 3 24 (.ref t 0 acc.length) (.ref (M.length + L.length) 0 1) (M ++ (L ++ [some (.row [LV.val (.int .i64 x), LV.val (.int .i64 y), LV.val (.int .i64 z)] true 3)])) A := by
  rw [← List.append_assoc, ← List.length_append]
  refine appendK_cell ht hl ?_
  rw [List.length_append]
  exact hA

theorem h_l2Moved {x y z : Int} {p : Cell} {t o : Nat} {cs : List Cell} {M : Mem} (h : Tri M t o cs) (hn : cs.length ≤ 1000000) (hp : Small p) (hc : ∀ c ∈ cs, Small c) :
    CallsTo PG F.spec_l2Moved [.agg [.I x, .I y, .I z, .ref t o cs.length], .agg [.I p.a, .I p.b, .I p.c]] M (.ref M.length 0 (cs.map (shift p)).length) (M ++ [some (.row (triL (cs.map (shift p))) true 3)]) := by
  obtain ⟨⟨_, _⟩, ⟨_, _⟩, ⟨_, _⟩⟩ := hp
  have ht := h.lt
  refine calls_run K.spec_l2Moved rfl ?_
  simp (disch := omega) only [C.spec_l2Moved, ↓SXd, SXu, slBounds, ↓sop, ↓aop, ↓reduceIte, LV.cells, AOp.dst, LV.I, LV.B, LV.U, LV.S, LV.nil, Nat.reduceEqDiff, Nat.reduceAdd, Nat.reduceMul, Nat.reduceSub, Nat.reduceLeDiff, Nat.reduceBEq, Nat.reduceDiv, Nat.reduceMod, Int.reduceToNat, Int.reduceLT, Int.reduceLE, Int.reduceAdd, Int.reduceSub, Int.reduceMul, Int.reduceEq, Int.reduceNeg, reduceCtorEq, resV, resAll, ARes.ev, LV.flat, ite_true, ite_false, exists_eq_left', exists_eq_left, keyOf, implies_true, fillC, capOf]
  refine ev_loop (fun m fr M' => ∃ i u : Nat, i + m = cs.length ∧ Pre M M' ∧ Live M' M.length (.row [.I x, .I y, .I z, .ref t o cs.length] true 0) ∧ Live M' (M.length + 1) (.row [.I p.a, .I p.b, .I p.c] true 0) ∧ Live M' u (.row (triL ((cs.map (shift p)).take i)) true 3) ∧ M.length + 2 ≤ u ∧
    fr 2 = .ptr M.length 0 ∧ fr 3 = .ptr (M.length + 1) 0 ∧ fr 5 = .ref u 0 ((cs.map (shift p)).take i).length ∧ fr 6 = .I i) cs.length
    ⟨0, M.length + 2, by omega, Pre.app _ _, Live.new, Live.newj rfl, Live.newj rfl, by omega, rfl, rfl, rfl, rfl⟩ ?_
  rintro m fr M' ⟨i, u, hi, hpre, b2, b3, bu, hu, f2, f3, f5, f6⟩
  simp (disch := omega) only [f2, f3, f5, f6, b2.cell, ↓SXd, SXu, slBounds, ↓sop, ↓aop, ↓reduceIte, LV.cells, AOp.dst, LV.I, LV.B, LV.U, LV.S, LV.nil, Nat.reduceEqDiff, Nat.reduceAdd, Nat.reduceMul, Nat.reduceSub, Nat.reduceLeDiff, Nat.reduceBEq, Nat.reduceDiv, Nat.reduceMod, Int.reduceToNat, Int.reduceLT, Int.reduceLE, Int.reduceAdd, Int.reduceSub, Int.reduceMul, Int.reduceEq, Int.reduceNeg, reduceCtorEq, resV, resAll, ARes.ev, LV.flat, ite_true, ite_false, exists_eq_left', exists_eq_left, keyOf, implies_true, fillC, capOf]
  refine condC_dec (fun hlt => ?_) (fun hlt => ?_)
  · have hil : i < cs.length := by omega
    have hg := Tri.get (h.pre hpre) hil
    have hcc := hc _ (getD_mem' (d := default) hil)
    have hts : (cs.map (shift p)).take (i + 1) = (cs.map (shift p)).take i ++ [shift p (cs.getD i default)] := by
      rw [List.take_succ, List.getElem?_eq_getElem (by simpa using hil)]; simp [hil]
    have htl := List.length_take_le i (cs.map (shift p))
    have hml : (cs.map (shift p)).length = cs.length := List.length_map ..
    generalize cs.getD i default = c at hg hts hcc
    obtain ⟨⟨_, _⟩, ⟨_, _⟩, ⟨_, _⟩⟩ := hcc
    have hl3 := b3.lt
    have hlu := bu.lt
    simp (disch := omega) only [f2, f3, f5, f6, b2.cell, hg, Cell.row, splice, b3.app.cell, ↓SXd, SXu, slBounds, ↓sop, ↓aop, ↓reduceIte, LV.cells, AOp.dst, LV.I, LV.B, LV.U, LV.S, LV.nil, Nat.reduceEqDiff, Nat.reduceAdd, Nat.reduceMul, Nat.reduceSub, Nat.reduceLeDiff, Nat.reduceBEq, Nat.reduceDiv, Nat.reduceMod, Int.reduceToNat, Int.reduceLT, Int.reduceLE, Int.reduceAdd, Int.reduceSub, Int.reduceMul, Int.reduceEq, Int.reduceNeg, reduceCtorEq, resV, resAll, ARes.ev, LV.flat, ite_true, ite_false, exists_eq_left', exists_eq_left, keyOf, implies_true, fillC, capOf]
    refine appendK_cellL (L := [some (.row [.I c.a, .I c.b, .I c.c] true 0)]) bu.app (by omega) fun N' l1 l2 l3 => ?_
    rw [List.length_singleton] at l1 l2 l3
    rw [show (⟨c.a + p.a, c.b + p.b, c.c + p.c⟩ : Cell) = shift p c from rfl, ← hts] at l2 ⊢
    rw [List.length_singleton]
    simp (disch := omega) only [f2, f3, f5, f6, ↓SXd, SXu, slBounds, ↓sop, ↓aop, ↓reduceIte, LV.cells, AOp.dst, LV.I, LV.B, LV.U, LV.S, LV.nil, Nat.reduceEqDiff, Nat.reduceAdd, Nat.reduceMul, Nat.reduceSub, Nat.reduceLeDiff, Nat.reduceBEq, Nat.reduceDiv, Nat.reduceMod, Int.reduceToNat, Int.reduceLT, Int.reduceLE, Int.reduceAdd, Int.reduceSub, Int.reduceMul, Int.reduceEq, Int.reduceNeg, reduceCtorEq, resV, resAll, ARes.ev, LV.flat, ite_true, ite_false, exists_eq_left', exists_eq_left, keyOf, implies_true, fillC, capOf]
    have hk3 : ∀ v, v ≠ u → v < (M' ++ [some (Blk.row [.I c.a, .I c.b, .I c.c] true 0)]).length → N'[v]? = (M' ++ [some (Blk.row [.I c.a, .I c.b, .I c.c] true 0)])[v]? := by rw [List.length_append, List.length_singleton]; exact l3
    have hk1 : N'.length = (M' ++ [some (Blk.row [.I c.a, .I c.b, .I c.c] true 0)]).length + 2 := by rw [List.length_append, List.length_singleton]; exact l1
    exact ⟨m - 1, by omega, i + 1, M'.length + 1 + 1, by omega, pre_step (hpre.trans (Pre.app _ _)) (by omega) hk1 hk3, live_step b2.app (by omega) hk3, live_step b3.app (by omega) hk3, l2, by omega, f2, f3, rfl, eqI (natI _)⟩
  · simp (disch := omega) only [f2, f3, f5, f6, ↓SXd, SXu, slBounds, ↓sop, ↓aop, ↓reduceIte, LV.cells, AOp.dst, LV.I, LV.B, LV.U, LV.S, LV.nil, Nat.reduceEqDiff, Nat.reduceAdd, Nat.reduceMul, Nat.reduceSub, Nat.reduceLeDiff, Nat.reduceBEq, Nat.reduceDiv, Nat.reduceMod, Int.reduceToNat, Int.reduceLT, Int.reduceLE, Int.reduceAdd, Int.reduceSub, Int.reduceMul, Int.reduceEq, Int.reduceNeg, reduceCtorEq, resV, resAll, ARes.ev, LV.flat, ite_true, ite_false, exists_eq_left', exists_eq_left, keyOf, implies_true, fillC, capOf]
    have : i = cs.length := by omega
    subst this
    rw [show (cs.map (shift p)).take cs.length = cs.map (shift p) from List.take_of_length_le (by simp)] at *
    exact cmp_keepL hpre (by omega) bu (triL_lo _) (by simp [rn, rn0, rn1])

theorem h_l2Cropped {x y z : Int} {t o : Nat} {cs : List Cell} {M : Mem} (h : Tri M t o cs) (hn : cs.length ≤ 1000000) (h0 : 0 < cs.length) (hc : ∀ c ∈ cs, Small c) :
    CallsTo PG F.spec_l2Cropped [.agg [.I x, .I y, .I z, .ref t o cs.length]] M (.agg [.I (cropHp cs).x, .I (cropHp cs).y, .I (cropHp cs).z, .ref M.length 0 (cropHp cs).cs.length]) (M ++ [some (.row (triL (cropHp cs).cs) true 3)]) := by
  have ht := h.lt
  have hg0 := Tri.get h (k := 0) h0
  refine calls_run K.spec_l2Cropped rfl ?_
  rw [Nat.zero_mul, Nat.add_zero] at hg0
  simp (disch := omega) only [C.spec_l2Cropped, h0, (getCells_app ht), hg0, Nat.zero_mul, Nat.add_zero, Cell.row, splice, List.getElem?_append_left, ↓SXd, SXu, slBounds, ↓sop, ↓aop, ↓reduceIte, LV.cells, AOp.dst, LV.I, LV.B, LV.U, LV.S, LV.nil, Nat.reduceEqDiff, Nat.reduceAdd, Nat.reduceMul, Nat.reduceSub, Nat.reduceLeDiff, Nat.reduceBEq, Nat.reduceDiv, Nat.reduceMod, Int.reduceToNat, Int.reduceLT, Int.reduceLE, Int.reduceAdd, Int.reduceSub, Int.reduceMul, Int.reduceEq, Int.reduceNeg, reduceCtorEq, resV, resAll, ARes.ev, LV.flat, ite_true, ite_false, exists_eq_left', exists_eq_left, keyOf, implies_true, fillC, capOf]
  have hsm : ∀ i, Small ((cs.take i).foldl loC (cs.getD 0 default)) ∧ Small ((cs.take i).foldl hiC (cs.getD 0 default)) := fun i => by
    have h1 := hc _ (getD_mem' (d := default) h0)
    exact ⟨fold_small loC_small h1 fun d hd => hc d (List.mem_of_mem_take hd), fold_small hiC_small h1 fun d hd => hc d (List.mem_of_mem_take hd)⟩
  have hstep : ∀ i, i < cs.length → (cs.take (i + 1)).foldl loC (cs.getD 0 default) = loC ((cs.take i).foldl loC (cs.getD 0 default)) (cs.getD i default) ∧ (cs.take (i + 1)).foldl hiC (cs.getD 0 default) = hiC ((cs.take i).foldl hiC (cs.getD 0 default)) (cs.getD i default) := fun i hi => by
    have e : cs.getD i default = cs[i] := by simp [hi]
    rw [e, List.take_succ, List.getElem?_eq_getElem hi, Option.toList_some, List.foldl_append, List.foldl_append]
    exact ⟨rfl, rfl⟩
  refine ev_loop (fun m fr M' => ∃ i : Nat, i + m = cs.length ∧ Pre M M' ∧ Live M' M.length (.row [.I x, .I y, .I z, .ref t o cs.length] true 0) ∧ Live M' (M.length + 1) (.row [.I 0, .I 0, .I 0, .nil] true 0) ∧
    Live M' (M.length + 2) (.row ((cs.take i).foldl loC (cs.getD 0 default)).row true 0) ∧ Live M' (M.length + 3) (.row ((cs.take i).foldl hiC (cs.getD 0 default)).row true 0) ∧
    fr 1 = .ptr M.length 0 ∧ fr 2 = .ptr (M.length + 1) 0 ∧ fr 3 = .ptr (M.length + 2) 0 ∧ fr 4 = .ptr (M.length + 3) 0 ∧ fr 5 = .I i) cs.length
    ⟨0, by omega, Pre.app _ _, Live.new, Live.newj rfl, Live.newj rfl, Live.newj rfl, rfl, rfl, rfl, rfl, rfl⟩ ?_
  rintro m fr M' ⟨i, hi, hpre, b1, b2, b3, b4, f1, f2, f3, f4, f5⟩
  have hlM := b4.lt
  simp (disch := omega) only [f1, f2, f3, f4, f5, b1.cell, ↓SXd, SXu, slBounds, ↓sop, ↓aop, ↓reduceIte, LV.cells, AOp.dst, LV.I, LV.B, LV.U, LV.S, LV.nil, Nat.reduceEqDiff, Nat.reduceAdd, Nat.reduceMul, Nat.reduceSub, Nat.reduceLeDiff, Nat.reduceBEq, Nat.reduceDiv, Nat.reduceMod, Int.reduceToNat, Int.reduceLT, Int.reduceLE, Int.reduceAdd, Int.reduceSub, Int.reduceMul, Int.reduceEq, Int.reduceNeg, reduceCtorEq, resV, resAll, ARes.ev, LV.flat, ite_true, ite_false, exists_eq_left', exists_eq_left, keyOf, implies_true, fillC, capOf]
  refine condC_dec (fun hlt => ?_) (fun hlt => ?_)
  · have hil : i < cs.length := by omega
    simp (disch := omega) only [f1, f2, f3, f4, f5, ↓SXd, SXu, slBounds, ↓sop, ↓aop, ↓reduceIte, LV.cells, AOp.dst, LV.I, LV.B, LV.U, LV.S, LV.nil, Nat.reduceEqDiff, Nat.reduceAdd, Nat.reduceMul, Nat.reduceSub, Nat.reduceLeDiff, Nat.reduceBEq, Nat.reduceDiv, Nat.reduceMod, Int.reduceToNat, Int.reduceLT, Int.reduceLE, Int.reduceAdd, Int.reduceSub, Int.reduceMul, Int.reduceEq, Int.reduceNeg, reduceCtorEq, resV, resAll, ARes.ev, LV.flat, ite_true, ite_false, exists_eq_left', exists_eq_left, keyOf, implies_true, fillC, capOf]
    refine ev_loop (fun m2 fr N => ∃ d : Nat, d + m2 = 3 ∧ Pre M N ∧ Live N M.length (.row [.I x, .I y, .I z, .ref t o cs.length] true 0) ∧ Live N (M.length + 1) (.row [.I 0, .I 0, .I 0, .nil] true 0) ∧
      Live N (M.length + 2) (.row (mixC ((cs.take i).foldl loC (cs.getD 0 default)) ((cs.take (i + 1)).foldl loC (cs.getD 0 default)) d).row true 0) ∧ Live N (M.length + 3) (.row (mixC ((cs.take i).foldl hiC (cs.getD 0 default)) ((cs.take (i + 1)).foldl hiC (cs.getD 0 default)) d).row true 0) ∧
      fr 1 = .ptr M.length 0 ∧ fr 2 = .ptr (M.length + 1) 0 ∧ fr 3 = .ptr (M.length + 2) 0 ∧ fr 4 = .ptr (M.length + 3) 0 ∧ fr 5 = .I i ∧ fr 6 = .I d) 3
      ⟨0, rfl, hpre, b1, b2, b3, b4, f1, f2, f3, f4, f5, rfl⟩ ?_
    clear f1 f2 f3 f4 f5 hpre b1 b2 b3 b4 hlM
    rintro m2 fr N ⟨d, hd, hpre, b1, b2, b3, b4, f1, f2, f3, f4, f5, f6⟩
    have hlM := b4.lt
    obtain ⟨s1, s2⟩ := hstep i hil
    simp (disch := omega) only [f1, f2, f3, f4, f5, f6, ↓SXd, SXu, slBounds, ↓sop, ↓aop, ↓reduceIte, LV.cells, AOp.dst, LV.I, LV.B, LV.U, LV.S, LV.nil, Nat.reduceEqDiff, Nat.reduceAdd, Nat.reduceMul, Nat.reduceSub, Nat.reduceLeDiff, Nat.reduceBEq, Nat.reduceDiv, Nat.reduceMod, Int.reduceToNat, Int.reduceLT, Int.reduceLE, Int.reduceAdd, Int.reduceSub, Int.reduceMul, Int.reduceEq, Int.reduceNeg, reduceCtorEq, resV, resAll, ARes.ev, LV.flat, ite_true, ite_false, exists_eq_left', exists_eq_left, keyOf, implies_true, fillC, capOf]
    refine condC_dec (fun hlt2 => ?_) (fun hlt2 => ?_)
    · have hd3 : d < 3 := by omega
      have hdd : Dir (d : Int) := by unfold Dir; omega
      have hTri := h.pre hpre
      have g1 := Tri.gets_at hTri hil hdd
      rw [Int.toNat_natCast] at g1
      have e3 := b3.cell (o := d)
      have e4 := b4.cell (o := d)
      rw [Cell.row_at hd3, mixC_at hd3] at e3 e4
      simp (disch := omega) only [f1, f2, f3, f4, f5, f6, b1.cell, g1, e3, Nat.mul_one, Nat.zero_add, ↓SXd, SXu, slBounds, ↓sop, ↓aop, ↓reduceIte, LV.cells, AOp.dst, LV.I, LV.B, LV.U, LV.S, LV.nil, Nat.reduceEqDiff, Nat.reduceAdd, Nat.reduceMul, Nat.reduceSub, Nat.reduceLeDiff, Nat.reduceBEq, Nat.reduceDiv, Nat.reduceMod, Int.reduceToNat, Int.reduceLT, Int.reduceLE, Int.reduceAdd, Int.reduceSub, Int.reduceMul, Int.reduceEq, Int.reduceNeg, reduceCtorEq, resV, resAll, ARes.ev, LV.flat, ite_true, ite_false, exists_eq_left', exists_eq_left, keyOf, implies_true, fillC, capOf]
      refine callK_of (h_l1Least) ?_
      simp (disch := omega) only [f1, f2, f3, f4, f5, f6, Nat.mul_one, Nat.zero_add, ↓SXd, SXu, slBounds, ↓sop, ↓aop, ↓reduceIte, LV.cells, AOp.dst, LV.I, LV.B, LV.U, LV.S, LV.nil, Nat.reduceEqDiff, Nat.reduceAdd, Nat.reduceMul, Nat.reduceSub, Nat.reduceLeDiff, Nat.reduceBEq, Nat.reduceDiv, Nat.reduceMod, Int.reduceToNat, Int.reduceLT, Int.reduceLE, Int.reduceAdd, Int.reduceSub, Int.reduceMul, Int.reduceEq, Int.reduceNeg, reduceCtorEq, resV, resAll, ARes.ev, LV.flat, ite_true, ite_false, exists_eq_left', exists_eq_left, keyOf, implies_true, fillC, capOf]
      refine memK_at b3 hd3 fun N1 k1 k2 k3 => ?_
      have c1 := live_step b1 (by omega) k3
      have c2 := live_step b2 (by omega) k3
      have c4 := live_step b4 (by omega) k3
      have hp1 := pre_step hpre (by omega) (j := 0) k1 k3
      have e4 := c4.cell (o := d)
      rw [Cell.row_at hd3, mixC_at hd3] at e4
      have g1 := Tri.gets_at (h.pre hp1) hil hdd
      rw [Int.toNat_natCast] at g1
      simp (disch := omega) only [f1, f2, f3, f4, f5, f6, c1.cell, g1, e4, Nat.mul_one, Nat.zero_add, ↓SXd, SXu, slBounds, ↓sop, ↓aop, ↓reduceIte, LV.cells, AOp.dst, LV.I, LV.B, LV.U, LV.S, LV.nil, Nat.reduceEqDiff, Nat.reduceAdd, Nat.reduceMul, Nat.reduceSub, Nat.reduceLeDiff, Nat.reduceBEq, Nat.reduceDiv, Nat.reduceMod, Int.reduceToNat, Int.reduceLT, Int.reduceLE, Int.reduceAdd, Int.reduceSub, Int.reduceMul, Int.reduceEq, Int.reduceNeg, reduceCtorEq, resV, resAll, ARes.ev, LV.flat, ite_true, ite_false, exists_eq_left', exists_eq_left, keyOf, implies_true, fillC, capOf]
      refine callK_of (h_l1Most) ?_
      simp (disch := omega) only [f1, f2, f3, f4, f5, f6, Nat.mul_one, Nat.zero_add, ↓SXd, SXu, slBounds, ↓sop, ↓aop, ↓reduceIte, LV.cells, AOp.dst, LV.I, LV.B, LV.U, LV.S, LV.nil, Nat.reduceEqDiff, Nat.reduceAdd, Nat.reduceMul, Nat.reduceSub, Nat.reduceLeDiff, Nat.reduceBEq, Nat.reduceDiv, Nat.reduceMod, Int.reduceToNat, Int.reduceLT, Int.reduceLE, Int.reduceAdd, Int.reduceSub, Int.reduceMul, Int.reduceEq, Int.reduceNeg, reduceCtorEq, resV, resAll, ARes.ev, LV.flat, ite_true, ite_false, exists_eq_left', exists_eq_left, keyOf, implies_true, fillC, capOf]
      refine memK_at c4 hd3 fun N2 l1 l2 l3 => ?_
      simp (disch := omega) only [f1, f2, f3, f4, f5, f6, ↓SXd, SXu, slBounds, ↓sop, ↓aop, ↓reduceIte, LV.cells, AOp.dst, LV.I, LV.B, LV.U, LV.S, LV.nil, Nat.reduceEqDiff, Nat.reduceAdd, Nat.reduceMul, Nat.reduceSub, Nat.reduceLeDiff, Nat.reduceBEq, Nat.reduceDiv, Nat.reduceMod, Int.reduceToNat, Int.reduceLT, Int.reduceLE, Int.reduceAdd, Int.reduceSub, Int.reduceMul, Int.reduceEq, Int.reduceNeg, reduceCtorEq, resV, resAll, ARes.ev, LV.flat, ite_true, ite_false, exists_eq_left', exists_eq_left, keyOf, implies_true, fillC, capOf]
      have hk : ∀ f : Cell → Cell → Cell, f = f := fun _ => rfl
      refine ⟨m2 - 1, by omega, d + 1, by omega, pre_step hp1 (by omega) (j := 0) l1 l3, live_step c1 (by omega) l3, live_step c2 (by omega) l3, live_step (t := M.length + 3) (u := M.length + 2) ?_ (by omega) l3, ?_, f1, f2, f3, f4, f5, eqI (natI _)⟩
      · rw [← mixC_set hd3, s1, loC_at hd3, ← s1]; exact k2
      · rw [← mixC_set hd3, s2, hiC_at hd3, ← s2]; exact l2
    · simp (disch := omega) only [f1, f2, f3, f4, f5, f6, ↓SXd, SXu, slBounds, ↓sop, ↓aop, ↓reduceIte, LV.cells, AOp.dst, LV.I, LV.B, LV.U, LV.S, LV.nil, Nat.reduceEqDiff, Nat.reduceAdd, Nat.reduceMul, Nat.reduceSub, Nat.reduceLeDiff, Nat.reduceBEq, Nat.reduceDiv, Nat.reduceMod, Int.reduceToNat, Int.reduceLT, Int.reduceLE, Int.reduceAdd, Int.reduceSub, Int.reduceMul, Int.reduceEq, Int.reduceNeg, reduceCtorEq, resV, resAll, ARes.ev, LV.flat, ite_true, ite_false, exists_eq_left', exists_eq_left, keyOf, implies_true, fillC, capOf]
      have : d = 3 := by omega
      subst this
      exact ⟨m - 1, by omega, i + 1, by omega, hpre, b1, b2, b3, b4, f1, f2, f3, f4, eqI (natI _)⟩
  · have : i = cs.length := by omega
    subst this
    rw [List.take_length] at b3 b4
    have hsm := hsm cs.length
    rw [List.take_length] at hsm
    change Live M' (M.length + 2) (.row (lowOf cs).row true 0) at b3
    change Live M' (M.length + 3) (.row (highOf cs).row true 0) at b4
    change Small (lowOf cs) ∧ Small (highOf cs) at hsm
    have hX : (cropHp cs).x = (highOf cs).a - (lowOf cs).a + 1 := rfl
    have hY : (cropHp cs).y = (highOf cs).b - (lowOf cs).b + 1 := rfl
    have hZ : (cropHp cs).z = (highOf cs).c - (lowOf cs).c + 1 := rfl
    have hC : (cropHp cs).cs = cs.map (shift ⟨0 - (lowOf cs).a, 0 - (lowOf cs).b, 0 - (lowOf cs).c⟩) := rfl
    rw [hX, hY, hZ, hC]
    generalize lowOf cs = lo at *
    generalize highOf cs = hi at *
    obtain ⟨⟨⟨_, _⟩, ⟨_, _⟩, ⟨_, _⟩⟩, ⟨⟨_, _⟩, ⟨_, _⟩, ⟨_, _⟩⟩⟩ := hsm
    simp (disch := omega) only [f1, f2, f3, f4, f5, b3.cell, b4.cell, Cell.row, ↓SXd, SXu, slBounds, ↓sop, ↓aop, ↓reduceIte, LV.cells, AOp.dst, LV.I, LV.B, LV.U, LV.S, LV.nil, Nat.reduceEqDiff, Nat.reduceAdd, Nat.reduceMul, Nat.reduceSub, Nat.reduceLeDiff, Nat.reduceBEq, Nat.reduceDiv, Nat.reduceMod, Int.reduceToNat, Int.reduceLT, Int.reduceLE, Int.reduceAdd, Int.reduceSub, Int.reduceMul, Int.reduceEq, Int.reduceNeg, reduceCtorEq, resV, resAll, ARes.ev, LV.flat, ite_true, ite_false, exists_eq_left', exists_eq_left, keyOf, implies_true, fillC, capOf]
    refine callK_of (h_l2Empty) ?_
    simp (disch := omega) only [f1, f2, f3, f4, f5, splice, b1.app.cells, b3.app.cell, Cell.row, ↓SXd, SXu, slBounds, ↓sop, ↓aop, ↓reduceIte, LV.cells, AOp.dst, LV.I, LV.B, LV.U, LV.S, LV.nil, Nat.reduceEqDiff, Nat.reduceAdd, Nat.reduceMul, Nat.reduceSub, Nat.reduceLeDiff, Nat.reduceBEq, Nat.reduceDiv, Nat.reduceMod, Int.reduceToNat, Int.reduceLT, Int.reduceLE, Int.reduceAdd, Int.reduceSub, Int.reduceMul, Int.reduceEq, Int.reduceNeg, reduceCtorEq, resV, resAll, ARes.ev, LV.flat, ite_true, ite_false, exists_eq_left', exists_eq_left, keyOf, implies_true, fillC, capOf]
    refine callK_of (h_l2Moved (p := ⟨0 - lo.a, 0 - lo.b, 0 - lo.c⟩) (h.pre (hpre.trans (Pre.app _ _))) hn ⟨⟨by simp only; omega, by simp only; omega⟩, ⟨by simp only; omega, by simp only; omega⟩, ⟨by simp only; omega, by simp only; omega⟩⟩ hc) ?_
    simp (disch := omega) only [f1, f2, f3, f4, f5, splice, ↓SXd, SXu, slBounds, ↓sop, ↓aop, ↓reduceIte, LV.cells, AOp.dst, LV.I, LV.B, LV.U, LV.S, LV.nil, Nat.reduceEqDiff, Nat.reduceAdd, Nat.reduceMul, Nat.reduceSub, Nat.reduceLeDiff, Nat.reduceBEq, Nat.reduceDiv, Nat.reduceMod, Int.reduceToNat, Int.reduceLT, Int.reduceLE, Int.reduceAdd, Int.reduceSub, Int.reduceMul, Int.reduceEq, Int.reduceNeg, reduceCtorEq, resV, resAll, ARes.ev, LV.flat, ite_true, ite_false, exists_eq_left', exists_eq_left, keyOf, implies_true, fillC, capOf]
    refine memK_box b2.app (by simp) fun N3 k1 k2 k3 => ?_
    simp (disch := omega) only [f1, f2, f3, f4, f5, k2.cells, ↓SXd, SXu, slBounds, ↓sop, ↓aop, ↓reduceIte, LV.cells, AOp.dst, LV.I, LV.B, LV.U, LV.S, LV.nil, Nat.reduceEqDiff, Nat.reduceAdd, Nat.reduceMul, Nat.reduceSub, Nat.reduceLeDiff, Nat.reduceBEq, Nat.reduceDiv, Nat.reduceMod, Int.reduceToNat, Int.reduceLT, Int.reduceLE, Int.reduceAdd, Int.reduceSub, Int.reduceMul, Int.reduceEq, Int.reduceNeg, reduceCtorEq, resV, resAll, ARes.ev, LV.flat, ite_true, ite_false, exists_eq_left', exists_eq_left, keyOf, implies_true, fillC, capOf]
    have hml := hlM
    refine cmp_keepL (pre_step (hpre.trans (Pre.app _ _)) (by omega) (j := 0) k1 k3) (t := M'.length + 2) (by omega) (live_step (Live.newj (j := 2) rfl) (by omega) k3) (triL_lo _) (by simp [rn, rn0, rn1])
end Go.Ab

/- Contracts: lists of numbers that are the same; shadows of heaps, the reference's side. -/
namespace Go.Ab
open Go
set_option linter.unusedSimpArgs false
set_option linter.unusedVariables false

theorem h_l1Same {l m : List Int} {t o t' o' : Nat} {M : Mem} (hg : Ints M t o l) (hh : Ints M t' o' m) (hn : l.length ≤ 1000000000) (hn' : m.length ≤ 1000000000) :
    CallsTo PG F.spec_l1Same [.ref t o l.length, .ref t' o' m.length] M (.B (decide (l = m))) M := by
  refine calls_run K.spec_l1Same rfl ?_
  simp (disch := omega) only [C.spec_l1Same, ↓SXd, SXu, slBounds, ↓sop, ↓aop, ↓reduceIte, LV.cells, AOp.dst, LV.I, LV.B, LV.U, LV.S, LV.nil, Nat.reduceEqDiff, Nat.reduceAdd, Nat.reduceMul, Nat.reduceSub, Nat.reduceLeDiff, Nat.reduceBEq, Nat.reduceDiv, Nat.reduceMod, Int.reduceToNat, Int.reduceLT, Int.reduceLE, Int.reduceAdd, Int.reduceSub, Int.reduceMul, Int.reduceEq, Int.reduceNeg, reduceCtorEq, resV, resAll, ARes.ev, LV.flat, ite_true, ite_false, exists_eq_left', exists_eq_left, keyOf, implies_true, fillC, capOf]
  by_cases hl : (l.length : Int) = m.length
  · simp (disch := omega) only [hl, ↓SXd, SXu, slBounds, ↓sop, ↓aop, ↓reduceIte, LV.cells, AOp.dst, LV.I, LV.B, LV.U, LV.S, LV.nil, Nat.reduceEqDiff, Nat.reduceAdd, Nat.reduceMul, Nat.reduceSub, Nat.reduceLeDiff, Nat.reduceBEq, Nat.reduceDiv, Nat.reduceMod, Int.reduceToNat, Int.reduceLT, Int.reduceLE, Int.reduceAdd, Int.reduceSub, Int.reduceMul, Int.reduceEq, Int.reduceNeg, reduceCtorEq, resV, resAll, ARes.ev, LV.flat, ite_true, ite_false, exists_eq_left', exists_eq_left, keyOf, implies_true, fillC, capOf]
    have hl' : l.length = m.length := by omega
    refine ev_loop (fun n fr M' => ∃ k : Nat, k + n = l.length ∧ M' = M ∧ (∀ j, j < k → l.getD j 0 = m.getD j 0) ∧ fr 0 = .ref t o l.length ∧ fr 1 = .ref t' o' m.length ∧ fr 5 = .I k) l.length
      ⟨0, by omega, rfl, by omega, rfl, rfl, rfl⟩ ?_
    rintro n fr M' ⟨k, hk, rfl, hj, f0, f1, f5⟩
    simp (disch := omega) only [f0, f1, f5, ↓SXd, SXu, slBounds, ↓sop, ↓aop, ↓reduceIte, LV.cells, AOp.dst, LV.I, LV.B, LV.U, LV.S, LV.nil, Nat.reduceEqDiff, Nat.reduceAdd, Nat.reduceMul, Nat.reduceSub, Nat.reduceLeDiff, Nat.reduceBEq, Nat.reduceDiv, Nat.reduceMod, Int.reduceToNat, Int.reduceLT, Int.reduceLE, Int.reduceAdd, Int.reduceSub, Int.reduceMul, Int.reduceEq, Int.reduceNeg, reduceCtorEq, resV, resAll, ARes.ev, LV.flat, ite_true, ite_false, exists_eq_left', exists_eq_left, keyOf, implies_true, fillC, capOf]
    refine condC_dec (fun h1 => ?_) (fun h1 => ?_)
    · have hk1 : k < l.length := by omega
      have g1 := Ints.get hg hk1
      have g2 := Ints.get hh (show k < m.length by omega)
      simp (disch := omega) only [f0, f1, f5, g1, g2, Nat.mul_one, ↓SXd, SXu, slBounds, ↓sop, ↓aop, ↓reduceIte, LV.cells, AOp.dst, LV.I, LV.B, LV.U, LV.S, LV.nil, Nat.reduceEqDiff, Nat.reduceAdd, Nat.reduceMul, Nat.reduceSub, Nat.reduceLeDiff, Nat.reduceBEq, Nat.reduceDiv, Nat.reduceMod, Int.reduceToNat, Int.reduceLT, Int.reduceLE, Int.reduceAdd, Int.reduceSub, Int.reduceMul, Int.reduceEq, Int.reduceNeg, reduceCtorEq, resV, resAll, ARes.ev, LV.flat, ite_true, ite_false, exists_eq_left', exists_eq_left, keyOf, implies_true, fillC, capOf]
      by_cases he : l.getD k 0 = m.getD k 0
      · simp (disch := omega) only [f0, f1, f5, he, ↓SXd, SXu, slBounds, ↓sop, ↓aop, ↓reduceIte, LV.cells, AOp.dst, LV.I, LV.B, LV.U, LV.S, LV.nil, Nat.reduceEqDiff, Nat.reduceAdd, Nat.reduceMul, Nat.reduceSub, Nat.reduceLeDiff, Nat.reduceBEq, Nat.reduceDiv, Nat.reduceMod, Int.reduceToNat, Int.reduceLT, Int.reduceLE, Int.reduceAdd, Int.reduceSub, Int.reduceMul, Int.reduceEq, Int.reduceNeg, reduceCtorEq, resV, resAll, ARes.ev, LV.flat, ite_true, ite_false, exists_eq_left', exists_eq_left, keyOf, implies_true, fillC, capOf]
        exact ⟨n - 1, by omega, k + 1, by omega, rfl, fun j hj' => by
          rcases Nat.lt_or_ge j k with h2 | h2
          · exact hj j h2
          · rw [show j = k by omega]; exact he, f0, f1, eqI (natI _)⟩
      · simp (disch := omega) only [f0, f1, f5, he, ↓SXd, SXu, slBounds, ↓sop, ↓aop, ↓reduceIte, LV.cells, AOp.dst, LV.I, LV.B, LV.U, LV.S, LV.nil, Nat.reduceEqDiff, Nat.reduceAdd, Nat.reduceMul, Nat.reduceSub, Nat.reduceLeDiff, Nat.reduceBEq, Nat.reduceDiv, Nat.reduceMod, Int.reduceToNat, Int.reduceLT, Int.reduceLE, Int.reduceAdd, Int.reduceSub, Int.reduceMul, Int.reduceEq, Int.reduceNeg, reduceCtorEq, resV, resAll, ARes.ev, LV.flat, ite_true, ite_false, exists_eq_left', exists_eq_left, keyOf, implies_true, fillC, capOf]
        rw [decide_eq_false (fun e => he (by rw [e]))]
        exact cmp_drop0 rfl
    · simp (disch := omega) only [f0, f1, f5, ↓SXd, SXu, slBounds, ↓sop, ↓aop, ↓reduceIte, LV.cells, AOp.dst, LV.I, LV.B, LV.U, LV.S, LV.nil, Nat.reduceEqDiff, Nat.reduceAdd, Nat.reduceMul, Nat.reduceSub, Nat.reduceLeDiff, Nat.reduceBEq, Nat.reduceDiv, Nat.reduceMod, Int.reduceToNat, Int.reduceLT, Int.reduceLE, Int.reduceAdd, Int.reduceSub, Int.reduceMul, Int.reduceEq, Int.reduceNeg, reduceCtorEq, resV, resAll, ARes.ev, LV.flat, ite_true, ite_false, exists_eq_left', exists_eq_left, keyOf, implies_true, fillC, capOf]
      rw [decide_eq_true (by
        apply List.ext_getElem hl'
        intro i h2 h3
        have := hj i (by omega)
        simpa [h2, h3] using this)]
      exact cmp_drop0 rfl
  · simp (disch := omega) only [hl, ↓SXd, SXu, slBounds, ↓sop, ↓aop, ↓reduceIte, LV.cells, AOp.dst, LV.I, LV.B, LV.U, LV.S, LV.nil, Nat.reduceEqDiff, Nat.reduceAdd, Nat.reduceMul, Nat.reduceSub, Nat.reduceLeDiff, Nat.reduceBEq, Nat.reduceDiv, Nat.reduceMod, Int.reduceToNat, Int.reduceLT, Int.reduceLE, Int.reduceAdd, Int.reduceSub, Int.reduceMul, Int.reduceEq, Int.reduceNeg, reduceCtorEq, resV, resAll, ARes.ev, LV.flat, ite_true, ite_false, exists_eq_left', exists_eq_left, keyOf, implies_true, fillC, capOf]
    rw [decide_eq_false (fun e => hl (by rw [e]))]
    exact cmp_drop0 rfl
theorem g_equalI {l m : List Int} {t o t' o' : Nat} {M : Mem} (hg : Ints M t o l) (hh : Ints M t' o' m) (hn : l.length ≤ 1000000000) (hn' : m.length ≤ 1000000000) :
    CallsTo PG F.slices_Equal_Sint_int [.ref t o l.length, .ref t' o' m.length] M (.B (decide (l = m))) M := by
  refine calls_run K.slices_Equal_Sint_int rfl ?_
  simp (disch := omega) only [C.slices_Equal_Sint_int, ↓SXd, SXu, slBounds, ↓sop, ↓aop, ↓reduceIte, LV.cells, AOp.dst, LV.I, LV.B, LV.U, LV.S, LV.nil, Nat.reduceEqDiff, Nat.reduceAdd, Nat.reduceMul, Nat.reduceSub, Nat.reduceLeDiff, Nat.reduceBEq, Nat.reduceDiv, Nat.reduceMod, Int.reduceToNat, Int.reduceLT, Int.reduceLE, Int.reduceAdd, Int.reduceSub, Int.reduceMul, Int.reduceEq, Int.reduceNeg, reduceCtorEq, resV, resAll, ARes.ev, LV.flat, ite_true, ite_false, exists_eq_left', exists_eq_left, keyOf, implies_true, fillC, capOf]
  by_cases hl : (l.length : Int) = m.length
  · simp (disch := omega) only [hl, ↓SXd, SXu, slBounds, ↓sop, ↓aop, ↓reduceIte, LV.cells, AOp.dst, LV.I, LV.B, LV.U, LV.S, LV.nil, Nat.reduceEqDiff, Nat.reduceAdd, Nat.reduceMul, Nat.reduceSub, Nat.reduceLeDiff, Nat.reduceBEq, Nat.reduceDiv, Nat.reduceMod, Int.reduceToNat, Int.reduceLT, Int.reduceLE, Int.reduceAdd, Int.reduceSub, Int.reduceMul, Int.reduceEq, Int.reduceNeg, reduceCtorEq, resV, resAll, ARes.ev, LV.flat, ite_true, ite_false, exists_eq_left', exists_eq_left, keyOf, implies_true, fillC, capOf]
    have hl' : l.length = m.length := by omega
    refine ev_loop (fun n fr M' => ∃ k : Nat, k + n = l.length ∧ M' = M ∧ (∀ j, j < k → l.getD j 0 = m.getD j 0) ∧ fr 0 = .ref t o l.length ∧ fr 1 = .ref t' o' m.length ∧ fr 12 = .I l.length ∧ fr 13 = .I k) l.length
      ⟨0, by omega, rfl, by omega, rfl, rfl, by rw [hl']; rfl, rfl⟩ ?_
    rintro n fr M' ⟨k, hk, rfl, hj, f0, f1, f12, f13⟩
    simp (disch := omega) only [f0, f1, f12, f13, ↓SXd, SXu, slBounds, ↓sop, ↓aop, ↓reduceIte, LV.cells, AOp.dst, LV.I, LV.B, LV.U, LV.S, LV.nil, Nat.reduceEqDiff, Nat.reduceAdd, Nat.reduceMul, Nat.reduceSub, Nat.reduceLeDiff, Nat.reduceBEq, Nat.reduceDiv, Nat.reduceMod, Int.reduceToNat, Int.reduceLT, Int.reduceLE, Int.reduceAdd, Int.reduceSub, Int.reduceMul, Int.reduceEq, Int.reduceNeg, reduceCtorEq, resV, resAll, ARes.ev, LV.flat, ite_true, ite_false, exists_eq_left', exists_eq_left, keyOf, implies_true, fillC, capOf]
    refine condC_dec (fun h1 => ?_) (fun h1 => ?_)
    · have hk1 : k < l.length := by omega
      have g1 := Ints.get hg hk1
      have g2 := Ints.get hh (show k < m.length by omega)
      simp (disch := omega) only [f0, f1, f12, f13, g1, g2, Nat.mul_one, ↓SXd, SXu, slBounds, ↓sop, ↓aop, ↓reduceIte, LV.cells, AOp.dst, LV.I, LV.B, LV.U, LV.S, LV.nil, Nat.reduceEqDiff, Nat.reduceAdd, Nat.reduceMul, Nat.reduceSub, Nat.reduceLeDiff, Nat.reduceBEq, Nat.reduceDiv, Nat.reduceMod, Int.reduceToNat, Int.reduceLT, Int.reduceLE, Int.reduceAdd, Int.reduceSub, Int.reduceMul, Int.reduceEq, Int.reduceNeg, reduceCtorEq, resV, resAll, ARes.ev, LV.flat, ite_true, ite_false, exists_eq_left', exists_eq_left, keyOf, implies_true, fillC, capOf]
      by_cases he : l.getD k 0 = m.getD k 0
      · simp (disch := omega) only [f0, f1, f12, f13, he, ↓SXd, SXu, slBounds, ↓sop, ↓aop, ↓reduceIte, LV.cells, AOp.dst, LV.I, LV.B, LV.U, LV.S, LV.nil, Nat.reduceEqDiff, Nat.reduceAdd, Nat.reduceMul, Nat.reduceSub, Nat.reduceLeDiff, Nat.reduceBEq, Nat.reduceDiv, Nat.reduceMod, Int.reduceToNat, Int.reduceLT, Int.reduceLE, Int.reduceAdd, Int.reduceSub, Int.reduceMul, Int.reduceEq, Int.reduceNeg, reduceCtorEq, resV, resAll, ARes.ev, LV.flat, ite_true, ite_false, exists_eq_left', exists_eq_left, keyOf, implies_true, fillC, capOf]
        exact ⟨n - 1, by omega, k + 1, by omega, rfl, fun j hj' => by
          rcases Nat.lt_or_ge j k with h2 | h2
          · exact hj j h2
          · rw [show j = k by omega]; exact he, f0, f1, f12, eqI (natI _)⟩
      · simp (disch := omega) only [f0, f1, f12, f13, he, ↓SXd, SXu, slBounds, ↓sop, ↓aop, ↓reduceIte, LV.cells, AOp.dst, LV.I, LV.B, LV.U, LV.S, LV.nil, Nat.reduceEqDiff, Nat.reduceAdd, Nat.reduceMul, Nat.reduceSub, Nat.reduceLeDiff, Nat.reduceBEq, Nat.reduceDiv, Nat.reduceMod, Int.reduceToNat, Int.reduceLT, Int.reduceLE, Int.reduceAdd, Int.reduceSub, Int.reduceMul, Int.reduceEq, Int.reduceNeg, reduceCtorEq, resV, resAll, ARes.ev, LV.flat, ite_true, ite_false, exists_eq_left', exists_eq_left, keyOf, implies_true, fillC, capOf]
        rw [decide_eq_false (fun e => he (by rw [e]))]
        exact cmp_drop0 rfl
    · simp (disch := omega) only [f0, f1, f12, f13, ↓SXd, SXu, slBounds, ↓sop, ↓aop, ↓reduceIte, LV.cells, AOp.dst, LV.I, LV.B, LV.U, LV.S, LV.nil, Nat.reduceEqDiff, Nat.reduceAdd, Nat.reduceMul, Nat.reduceSub, Nat.reduceLeDiff, Nat.reduceBEq, Nat.reduceDiv, Nat.reduceMod, Int.reduceToNat, Int.reduceLT, Int.reduceLE, Int.reduceAdd, Int.reduceSub, Int.reduceMul, Int.reduceEq, Int.reduceNeg, reduceCtorEq, resV, resAll, ARes.ev, LV.flat, ite_true, ite_false, exists_eq_left', exists_eq_left, keyOf, implies_true, fillC, capOf]
      rw [decide_eq_true (by
        apply List.ext_getElem hl'
        intro i h2 h3
        have := hj i (by omega)
        simpa [h2, h3] using this)]
      exact cmp_drop0 rfl
  · simp (disch := omega) only [hl, ↓SXd, SXu, slBounds, ↓sop, ↓aop, ↓reduceIte, LV.cells, AOp.dst, LV.I, LV.B, LV.U, LV.S, LV.nil, Nat.reduceEqDiff, Nat.reduceAdd, Nat.reduceMul, Nat.reduceSub, Nat.reduceLeDiff, Nat.reduceBEq, Nat.reduceDiv, Nat.reduceMod, Int.reduceToNat, Int.reduceLT, Int.reduceLE, Int.reduceAdd, Int.reduceSub, Int.reduceMul, Int.reduceEq, Int.reduceNeg, reduceCtorEq, resV, resAll, ARes.ev, LV.flat, ite_true, ite_false, exists_eq_left', exists_eq_left, keyOf, implies_true, fillC, capOf]
    rw [decide_eq_false (fun e => hl (by rw [e]))]
    exact cmp_drop0 rfl
end Go.Ab

/- Contracts: shadows of heaps, the reference's side. -/
namespace Go.Ab
open Go
set_option linter.unusedSimpArgs false
set_option linter.unusedVariables false

def onesL (v : List Int) : List Int := v.map fun n => min n 1
theorem onesL_len (v : List Int) : (onesL v).length = v.length := List.length_map ..
def shdOf (x y z : Int) (d : Nat) (cs : List Cell) : List Int := onesL (viewL x y z d cs)
theorem shdOf_len {x y z : Int} {d : Nat} {cs : List Cell} : (shdOf x y z d cs).length = (linesOf x y z d).toNat := by unfold shdOf; rw [onesL_len, viewL_len]
theorem h_l2Ones {v : List Int} {t o : Nat} {M : Mem} (h : Ints M t o v) (hn : v.length ≤ 1000000) : CallsTo PG F.spec_l2Ones [.ref t o v.length] M (.ref M.length 0 (onesL v).length) (M ++ [some (.row (intL (onesL v)) true 1)]) := by
  have ht := h.lt
  have hol := onesL_len v
  refine calls_run K.spec_l2Ones rfl ?_
  simp (disch := omega) only [C.spec_l2Ones, ↓SXd, SXu, slBounds, ↓sop, ↓aop, ↓reduceIte, LV.cells, AOp.dst, LV.I, LV.B, LV.U, LV.S, LV.nil, Nat.reduceEqDiff, Nat.reduceAdd, Nat.reduceMul, Nat.reduceSub, Nat.reduceLeDiff, Nat.reduceBEq, Nat.reduceDiv, Nat.reduceMod, Int.reduceToNat, Int.reduceLT, Int.reduceLE, Int.reduceAdd, Int.reduceSub, Int.reduceMul, Int.reduceEq, Int.reduceNeg, reduceCtorEq, resV, resAll, ARes.ev, LV.flat, ite_true, ite_false, exists_eq_left', exists_eq_left, keyOf, implies_true, fillC, capOf]
  refine ev_loop (fun m fr M' => ∃ i u : Nat, i + m = v.length ∧ Pre M M' ∧ M.length ≤ u ∧ Live M' u (.row (intL ((onesL v).take i)) true 1) ∧ fr 0 = .ref t o v.length ∧ fr 3 = .ref u 0 ((onesL v).take i).length ∧ fr 4 = .I i) v.length
    ⟨0, M.length, by omega, Pre.app _ _, by omega, Live.new, rfl, rfl, rfl⟩ ?_
  rintro m fr M' ⟨i, u, hi, hpre, hu, bu, f0, f3, f4⟩
  simp (disch := omega) only [f0, f3, f4, ↓SXd, SXu, slBounds, ↓sop, ↓aop, ↓reduceIte, LV.cells, AOp.dst, LV.I, LV.B, LV.U, LV.S, LV.nil, Nat.reduceEqDiff, Nat.reduceAdd, Nat.reduceMul, Nat.reduceSub, Nat.reduceLeDiff, Nat.reduceBEq, Nat.reduceDiv, Nat.reduceMod, Int.reduceToNat, Int.reduceLT, Int.reduceLE, Int.reduceAdd, Int.reduceSub, Int.reduceMul, Int.reduceEq, Int.reduceNeg, reduceCtorEq, resV, resAll, ARes.ev, LV.flat, ite_true, ite_false, exists_eq_left', exists_eq_left, keyOf, implies_true, fillC, capOf]
  refine condC_dec (fun hlt => ?_) (fun hlt => ?_)
  · have hil : i < v.length := by omega
    have hg := Ints.get (h.pre hpre) hil
    have htl := List.length_take_le i (onesL v)
    have hts : (onesL v).take (i + 1) = (onesL v).take i ++ [min (v.getD i 0) 1] := by
      rw [List.take_succ, List.getElem?_eq_getElem (by omega)]; simp [onesL, hil]
    simp (disch := omega) only [f0, f3, f4, hg, Nat.mul_one, ↓SXd, SXu, slBounds, ↓sop, ↓aop, ↓reduceIte, LV.cells, AOp.dst, LV.I, LV.B, LV.U, LV.S, LV.nil, Nat.reduceEqDiff, Nat.reduceAdd, Nat.reduceMul, Nat.reduceSub, Nat.reduceLeDiff, Nat.reduceBEq, Nat.reduceDiv, Nat.reduceMod, Int.reduceToNat, Int.reduceLT, Int.reduceLE, Int.reduceAdd, Int.reduceSub, Int.reduceMul, Int.reduceEq, Int.reduceNeg, reduceCtorEq, resV, resAll, ARes.ev, LV.flat, ite_true, ite_false, exists_eq_left', exists_eq_left, keyOf, implies_true, fillC, capOf]
    refine callK_of (h_l1Least) ?_
    simp (disch := omega) only [f0, f3, f4, ↓SXd, SXu, slBounds, ↓sop, ↓aop, ↓reduceIte, LV.cells, AOp.dst, LV.I, LV.B, LV.U, LV.S, LV.nil, Nat.reduceEqDiff, Nat.reduceAdd, Nat.reduceMul, Nat.reduceSub, Nat.reduceLeDiff, Nat.reduceBEq, Nat.reduceDiv, Nat.reduceMod, Int.reduceToNat, Int.reduceLT, Int.reduceLE, Int.reduceAdd, Int.reduceSub, Int.reduceMul, Int.reduceEq, Int.reduceNeg, reduceCtorEq, resV, resAll, ARes.ev, LV.flat, ite_true, ite_false, exists_eq_left', exists_eq_left, keyOf, implies_true, fillC, capOf]
    refine appendK_int bu (by omega) fun N k1 k2 k3 => ?_
    simp (disch := omega) only [f0, f3, f4, ↓SXd, SXu, slBounds, ↓sop, ↓aop, ↓reduceIte, LV.cells, AOp.dst, LV.I, LV.B, LV.U, LV.S, LV.nil, Nat.reduceEqDiff, Nat.reduceAdd, Nat.reduceMul, Nat.reduceSub, Nat.reduceLeDiff, Nat.reduceBEq, Nat.reduceDiv, Nat.reduceMod, Int.reduceToNat, Int.reduceLT, Int.reduceLE, Int.reduceAdd, Int.reduceSub, Int.reduceMul, Int.reduceEq, Int.reduceNeg, reduceCtorEq, resV, resAll, ARes.ev, LV.flat, ite_true, ite_false, exists_eq_left', exists_eq_left, keyOf, implies_true, fillC, capOf]
    rw [← hts] at k2 ⊢
    exact ⟨m - 1, by omega, i + 1, M'.length + 1, by omega, pre_step hpre (by omega) k1 k3, by have := hpre.1; omega, k2, f0, rfl, eqI (natI _)⟩
  · simp (disch := omega) only [f0, f3, f4, ↓SXd, SXu, slBounds, ↓sop, ↓aop, ↓reduceIte, LV.cells, AOp.dst, LV.I, LV.B, LV.U, LV.S, LV.nil, Nat.reduceEqDiff, Nat.reduceAdd, Nat.reduceMul, Nat.reduceSub, Nat.reduceLeDiff, Nat.reduceBEq, Nat.reduceDiv, Nat.reduceMod, Int.reduceToNat, Int.reduceLT, Int.reduceLE, Int.reduceAdd, Int.reduceSub, Int.reduceMul, Int.reduceEq, Int.reduceNeg, reduceCtorEq, resV, resAll, ARes.ev, LV.flat, ite_true, ite_false, exists_eq_left', exists_eq_left, keyOf, implies_true, fillC, capOf]
    have : i = v.length := by omega
    subst this
    rw [List.take_of_length_le (by omega)] at bu f3
    exact cmp_keepL hpre hu bu (intL_lo _) (by simp [rn, rn0, rn1, List.take_of_length_le (Nat.le_of_eq hol)])
end Go.Ab

/- The abstract code of some functions (written by a program of mine from the translation, by way of prepF). -/
namespace Go.Ab.C
open Go.Ab
def spec_l3Allowed : AFn :=
  ⟨1, 86, [.cellN 2 4],
    .seq (.ops [(none, .box 1 (.t 0)),
       (none, .alloc 2 [(.I 0), (.I 0), (.I 0), .nil])])
    (.seq (.ops [(none, .fieldAddr 9 (.t 1) 0),
        (none, .load1 10 (.t 9)),
        (none, .fieldAddr 11 (.t 1) 1),
        (none, .load1 12 (.t 11)),
        (none, .fieldAddr 13 (.t 1) 2),
        (none, .load1 14 (.t 13)),
        (none, .call (some 15) F.spec_l2Empty [(.t 10), (.t 12), (.t 14)]),
        (none, .alloc 3 [(.I 0), (.I 0), (.I 0), .nil]),
        (none, .store 4 (.t 3) (.t 15))])
     (.seq (.ops [(none, .loadN 16 4 (.t 3)),
         (none, .call (some 17) F.spec_l2All [(.t 16)]),
         (none, .mv 4 (.t 17))])
      (.seq (.seq (.ops [(none, .mv 5 (.c (.I 0)))])
        (.block 0 (.loop (.seq (.seq (.ops [(none, .mv 18 (.t 5)),
               (none, .mv 19 (.t 4)),
               (none, .len 20 (.t 19)),
               (none, .bin 21 .lss (.t 18) (.t 20))])
            (.cond (.t 21) (.skip)
             (.exit 0)))
           (.seq (.block 1 (.seq (.draw [⟨(none, .mv 24 (.t 4)), [], []⟩,
                 ⟨(none, .mv 25 (.t 5)), [], []⟩,
                 ⟨(none, .idxS 26 3 (.t 24) (.t 25)), [], []⟩,
                 ⟨(none, .idxA 27 3 1 (.t 26) (.c (.I 0))), [], []⟩,
                 ⟨(none, .load1 28 (.t 27)), [], []⟩,
                 ⟨(none, .mv 29 (.t 4)), [], []⟩,
                 ⟨(none, .mv 30 (.t 5)), [], []⟩,
                 ⟨(none, .idxS 31 3 (.t 29) (.t 30)), [], []⟩,
                 ⟨(none, .idxA 32 3 1 (.t 31) (.c (.I 1))), [], []⟩,
                 ⟨(none, .load1 33 (.t 32)), [], []⟩,
                 ⟨(none, .mv 34 (.t 4)), [], []⟩,
                 ⟨(none, .mv 35 (.t 5)), [], []⟩,
                 ⟨(none, .idxS 36 3 (.t 34) (.t 35)), [], []⟩,
                 ⟨(none, .idxA 37 3 1 (.t 36) (.c (.I 2))), [], []⟩,
                 ⟨(none, .load1 38 (.t 37)), [], []⟩,
                 ⟨(none, .mv 6 (.t 28)), [], []⟩,
                 ⟨(none, .mv 7 (.t 33)), [], []⟩,
                 ⟨(none, .mv 8 (.t 38)), [], []⟩])
              (.seq (.ops [(none, .fieldAddr 39 (.t 1) 3),
                  (none, .load1 40 (.t 39)),
                  (none, .mv 41 (.t 6)),
                  (none, .fieldAddr 42 (.t 1) 1),
                  (none, .load1 43 (.t 42)),
                  (none, .bin 44 .mul (.t 41) (.t 43)),
                  (none, .mv 45 (.t 7)),
                  (none, .bin 46 .add (.t 44) (.t 45)),
                  (none, .idxS 47 1 (.t 40) (.t 46)),
                  (none, .load1 48 (.t 47)),
                  (none, .bin 49 .eql (.t 48) (.c (.I 1))),
                  (none, .mv 50 (.t 49)),
                  (some (50, true), .fieldAddr 51 (.t 1) 4),
                  (some (50, true), .load1 52 (.t 51)),
                  (some (50, true), .mv 53 (.t 6)),
                  (some (50, true), .fieldAddr 54 (.t 1) 2),
                  (some (50, true), .load1 55 (.t 54)),
                  (some (50, true), .bin 56 .mul (.t 53) (.t 55)),
                  (some (50, true), .mv 57 (.t 8)),
                  (some (50, true), .bin 58 .add (.t 56) (.t 57)),
                  (some (50, true), .idxS 59 1 (.t 52) (.t 58)),
                  (some (50, true), .load1 60 (.t 59)),
                  (some (50, true), .bin 61 .eql (.t 60) (.c (.I 1))),
                  (none, .pick 62 (.t 50) (.t 61) (.c (.B false))),
                  (none, .mv 63 (.t 62)),
                  (some (63, true), .fieldAddr 64 (.t 1) 5),
                  (some (63, true), .load1 65 (.t 64)),
                  (some (63, true), .mv 66 (.t 7)),
                  (some (63, true), .fieldAddr 67 (.t 1) 2),
                  (some (63, true), .load1 68 (.t 67)),
                  (some (63, true), .bin 69 .mul (.t 66) (.t 68)),
                  (some (63, true), .mv 70 (.t 8)),
                  (some (63, true), .bin 71 .add (.t 69) (.t 70)),
                  (some (63, true), .idxS 72 1 (.t 65) (.t 71)),
                  (some (63, true), .load1 73 (.t 72)),
                  (some (63, true), .bin 74 .eql (.t 73) (.c (.I 1))),
                  (none, .pick 75 (.t 63) (.t 74) (.c (.B false)))])
               (.cond (.t 75) (.draw [⟨(none, .fieldAddr 76 (.t 3) 3), [], []⟩,
                   ⟨(none, .load1 77 (.t 76)), [], []⟩,
                   ⟨(none, .mv 78 (.t 4)), [], []⟩,
                   ⟨(none, .mv 79 (.t 5)), [], []⟩,
                   ⟨(none, .idxS 80 3 (.t 78) (.t 79)), [], []⟩,
                   ⟨(none, .loadN 81 3 (.t 80)), [], []⟩,
                   ⟨(none, .buildSl 82 1 3 [(.I 0), (.I 0), (.I 0)] [(0, 3, (.t 81))]), [], []⟩,
                   ⟨(none, .append 83 3 24 (.t 77) (.t 82)), [], []⟩,
                   ⟨(none, .fieldAddr 84 (.t 3) 3), [], []⟩,
                   ⟨(none, .store 1 (.t 84) (.t 83)), [], []⟩])
                (.skip)))))
            (.ops [(none, .mv 22 (.t 5)),
               (none, .bin 23 .add (.t 22) (.c (.I 1))),
               (none, .mv 5 (.t 23))]))))))
       (.seq (.ops [(none, .loadN 85 4 (.t 3)),
           (none, .store 4 (.t 2) (.t 85))])
        (.ret)))))⟩
end Go.Ab.C

/- That the program has this code. -/
namespace Go.Ab.K
open Go Go.Ab
theorem spec_l3Allowed : prepF Go.Proofs.Try.prog F.spec_l3Allowed = some C.spec_l3Allowed := by kernel_rfl
end Go.Ab.K

/- The abstract code of some functions (written by a program of mine from the translation, by way of prepF). -/
namespace Go.Ab.C
open Go.Ab
def impl_Shadow_allowed : AFn :=
  ⟨1, 7, [.tmp 2],
    .seq (.ops [(none, .box 1 (.t 0)),
       (none, .mv 2 (.c (.U 0)))])
    (.seq (.ops [(none, .loadN 3 6 (.t 1)),
        (none, .call (some 4) F.impl_Shadow_box [(.t 3)]),
        (none, .mkf 5 F.impl_Shadow_allowed_1 [(.t 1)]),
        (none, .call (some 6) F.impl_box_those [(.t 4), (.t 5)]),
        (none, .mv 2 (.t 6))])
     (.ret))⟩
def impl_Shadow_allowed_1 : AFn :=
  ⟨2, 20, [.tmp 3],
    .seq (.ops [(none, .box 2 (.t 0)),
       (none, .mv 3 (.c (.B false)))])
    (.seq (.seq (.ops [(none, .mv 5 (.c (.I 0)))])
      (.block 0 (.loop (.seq (.ops [(none, .bin 6 .lss (.t 5) (.c (.I 3)))])
         (.seq (.cond (.t 6) (.skip)
           (.exit 0))
          (.seq (.block 1 (.seq (.ops [(none, .mv 7 (.t 5)),
                (none, .mv 4 (.t 7))])
             (.seq (.draw [⟨(none, .loadN 8 6 (.t 1)), [], []⟩,
                 ⟨(none, .mv 9 (.t 4)), [], []⟩,
                 ⟨(none, .loadN 11 6 (.t 1)), [], []⟩,
                 ⟨(none, .loadN 13 3 (.t 2)), [], []⟩,
                 ⟨(none, .mv 14 (.t 4)), [], []⟩,
                 ⟨(none, .call (some 10) F.impl_Shadow_list [(.t 8), (.t 9)]), [], [2, 3, 4]⟩,
                 ⟨(none, .call (some 12) F.impl_Shadow_box [(.t 11)]), [], [3, 4]⟩,
                 ⟨(none, .call (some 15) F.impl_box_line [(.t 12), (.t 13), (.t 14)]), [], []⟩,
                 ⟨(none, .idxS 16 1 (.t 10) (.t 15)), [], []⟩,
                 ⟨(none, .load1 17 (.t 16)), [], []⟩,
                 ⟨(none, .bin 18 .eql (.t 17) (.c (.I 0))), [], []⟩])
              (.cond (.t 18) (.seq (.ops [(none, .mv 3 (.c (.B false)))])
                (.ret))
               (.skip)))))
           (.ops [(none, .bin 19 .add (.t 5) (.c (.I 1))),
              (none, .mv 5 (.t 19))])))))))
     (.seq (.ops [(none, .mv 3 (.c (.B true)))])
      (.ret)))⟩
end Go.Ab.C

/- That the program has this code. -/
namespace Go.Ab.K
open Go Go.Ab
theorem impl_Shadow_allowed : prepF Go.Proofs.Try.prog F.impl_Shadow_allowed = some C.impl_Shadow_allowed := by kernel_rfl
theorem impl_Shadow_allowed_1 : prepF Go.Proofs.Try.prog F.impl_Shadow_allowed_1 = some C.impl_Shadow_allowed_1 := by kernel_rfl
end Go.Ab.K

/- Contracts: allowed cells, the program's side. -/
namespace Go.Ab
open Go
set_option linter.unusedSimpArgs false
set_option linter.unusedVariables false

/-- Of a cell's lines the first k are lit. -/
def litK (y z : Int) (tp fr sd : List Int) (k : Nat) (c : Cell) : Bool := decide (∀ j, j < k → (shdList j tp fr sd).getD (lineOf y z c j).toNat 0 ≠ 0)
def allowedB (y z : Int) (tp fr sd : List Int) (c : Cell) : Bool := litK y z tp fr sd 3 c
theorem litK_succ {y z : Int} {tp fr sd : List Int} {k : Nat} {c : Cell} : litK y z tp fr sd (k + 1) c = (litK y z tp fr sd k c && !decide ((shdList k tp fr sd).getD (lineOf y z c k).toNat 0 = 0)) := by
  unfold litK
  rw [Bool.eq_iff_iff, Bool.and_eq_true, decide_eq_true_iff, decide_eq_true_iff, Bool.not_eq_true', decide_eq_false_iff_not]
  refine ⟨fun h => ⟨fun j hj => h j (by omega), h k (by omega)⟩, fun ⟨h1, h2⟩ j hj => ?_⟩
  rcases Nat.lt_or_ge j k with h3 | h3
  · exact h1 j h3
  · rw [show j = k by omega]; exact h2
theorem lit_mono {y z : Int} {tp fr sd : List Int} {k : Nat} {c : Cell} (hk : k < 3) (h : (shdList k tp fr sd).getD (lineOf y z c k).toNat 0 = 0) : allowedB y z tp fr sd c = false := decide_eq_false fun a => a k hk h
theorem ShdOK.list {x y z : Int} {tp fr sd : List Int} (h : ShdOK x y z tp fr sd) {d : Nat} (hd : d < 3) : Ones (shdList d tp fr sd) ∧ ((shdList d tp fr sd).length : Int) = linesOf x y z d := by
  obtain ⟨_, a1, a2, a3⟩ := h
  rcases (show d = 0 ∨ d = 1 ∨ d = 2 by omega) with rfl | rfl | rfl
  · exact a3
  · exact a2
  · exact a1

theorem g_allowed_1 {x y z : Int} {c : Cell} {t o t' o' t2 o2 u : Nat} {tp fr sd : List Int} {M : Mem} (h1 : Ints M t o tp) (h2 : Ints M t' o' fr) (h3 : Ints M t2 o2 sd) (hok : ShdOK x y z tp fr sd) (hc : c.inBox x y z)
    (hb : Live M u (.row [.I x, .I y, .I z, .ref t o tp.length, .ref t' o' fr.length, .ref t2 o2 sd.length] true 0)) :
    CallsTo PG F.impl_Shadow_allowed_1 ([.agg [.I c.a, .I c.b, .I c.c]] ++ [(u, 0)].map fun p => .ptr p.1 p.2) M (.B (allowedB y z tp fr sd c)) M := by
  have ht := h1.lt
  have ht' := h2.lt
  have ht2 := h3.lt
  have hul := hb.lt
  have hS := hok.1
  have hp := prod_le hS
  refine calls_run K.impl_Shadow_allowed_1 rfl ?_
  simp (disch := omega) only [C.impl_Shadow_allowed_1, List.map_cons, List.map_nil, ↓SXd, SXu, slBounds, ↓sop, ↓aop, ↓reduceIte, LV.cells, AOp.dst, LV.I, LV.B, LV.U, LV.S, LV.nil, Nat.reduceEqDiff, Nat.reduceAdd, Nat.reduceMul, Nat.reduceSub, Nat.reduceLeDiff, Nat.reduceBEq, Nat.reduceDiv, Nat.reduceMod, Int.reduceToNat, Int.reduceLT, Int.reduceLE, Int.reduceAdd, Int.reduceSub, Int.reduceMul, Int.reduceEq, Int.reduceNeg, reduceCtorEq, resV, resAll, ARes.ev, LV.flat, ite_true, ite_false, exists_eq_left', exists_eq_left, keyOf, implies_true, fillC, capOf]
  refine ev_loop (fun m fr1 M' => ∃ d : Nat, d + m = 3 ∧ M' = M ++ [some (.row [.I c.a, .I c.b, .I c.c] true 0)] ∧ litK y z tp fr sd d c = true ∧ fr1 1 = .ptr u 0 ∧ fr1 2 = .ptr M.length 0 ∧ fr1 5 = .I d) 3
    ⟨0, rfl, rfl, decide_eq_true (by omega), rfl, rfl, rfl⟩ ?_
  rintro m fr1 M' ⟨d, hd, rfl, hlit, f1, f2, f5⟩
  simp (disch := omega) only [f1, f2, f5, ↓SXd, SXu, slBounds, ↓sop, ↓aop, ↓reduceIte, LV.cells, AOp.dst, LV.I, LV.B, LV.U, LV.S, LV.nil, Nat.reduceEqDiff, Nat.reduceAdd, Nat.reduceMul, Nat.reduceSub, Nat.reduceLeDiff, Nat.reduceBEq, Nat.reduceDiv, Nat.reduceMod, Int.reduceToNat, Int.reduceLT, Int.reduceLE, Int.reduceAdd, Int.reduceSub, Int.reduceMul, Int.reduceEq, Int.reduceNeg, reduceCtorEq, resV, resAll, ARes.ev, LV.flat, ite_true, ite_false, exists_eq_left', exists_eq_left, keyOf, implies_true, fillC, capOf]
  refine condC_dec (fun hlt => ?_) (fun hlt => ?_)
  · have hd3 : d < 3 := by omega
    obtain ⟨tt, oo, hq, hI⟩ : ∃ tt oo, (if d = 0 then LV.ref t2 o2 sd.length else if d = 1 then LV.ref t' o' fr.length else LV.ref t o tp.length) = .ref tt oo (shdList d tp fr sd).length ∧ Ints M tt oo (shdList d tp fr sd) := by
      unfold shdList
      rcases (show d = 0 ∨ d = 1 ∨ d = 2 by omega) with rfl | rfl | rfl
      · exact ⟨_, _, rfl, h3⟩
      · exact ⟨_, _, rfl, h2⟩
      · exact ⟨_, _, rfl, h1⟩
    have hlist := g_Shadow_list (x := x) (y := y) (z := z) (t := t) (t' := t') (t2 := t2) (o := o) (o' := o') (o2 := o2) (n := tp.length) (n' := fr.length) (n2 := sd.length) (M := M ++ [some (.row [.I c.a, .I c.b, .I c.c] true 0)]) hd3 (by simp; omega) (by simp; omega) (by simp; omega)
    rw [hq] at hlist
    obtain ⟨_, hlen⟩ := hok.list hd3
    obtain ⟨hl1, hl2⟩ := lineOf_in hS hc hd3
    have hsucc := litK_succ (y := y) (z := z) (tp := tp) (fr := fr) (sd := sd) (k := d) (c := c)
    have hmono := lit_mono (y := y) (z := z) (tp := tp) (fr := fr) (sd := sd) (c := c) hd3
    generalize shdList d tp fr sd = xs at hlist hI hlen hsucc hmono
    simp (disch := omega) only [f1, f2, f5, hb.app.cells, ↓SXd, SXu, slBounds, ↓sop, ↓aop, ↓reduceIte, LV.cells, AOp.dst, LV.I, LV.B, LV.U, LV.S, LV.nil, Nat.reduceEqDiff, Nat.reduceAdd, Nat.reduceMul, Nat.reduceSub, Nat.reduceLeDiff, Nat.reduceBEq, Nat.reduceDiv, Nat.reduceMod, Int.reduceToNat, Int.reduceLT, Int.reduceLE, Int.reduceAdd, Int.reduceSub, Int.reduceMul, Int.reduceEq, Int.reduceNeg, reduceCtorEq, resV, resAll, ARes.ev, LV.flat, ite_true, ite_false, exists_eq_left', exists_eq_left, keyOf, implies_true, fillC, capOf]
    refine callK_of (hlist) ?_
    simp (disch := omega) only [f1, f2, f5, ↓SXd, SXu, slBounds, ↓sop, ↓aop, ↓reduceIte, LV.cells, AOp.dst, LV.I, LV.B, LV.U, LV.S, LV.nil, Nat.reduceEqDiff, Nat.reduceAdd, Nat.reduceMul, Nat.reduceSub, Nat.reduceLeDiff, Nat.reduceBEq, Nat.reduceDiv, Nat.reduceMod, Int.reduceToNat, Int.reduceLT, Int.reduceLE, Int.reduceAdd, Int.reduceSub, Int.reduceMul, Int.reduceEq, Int.reduceNeg, reduceCtorEq, resV, resAll, ARes.ev, LV.flat, ite_true, ite_false, exists_eq_left', exists_eq_left, keyOf, implies_true, fillC, capOf]
    refine callK_of (g_Shadow_box) ?_
    simp (disch := omega) only [f1, f2, f5, ↓SXd, SXu, slBounds, ↓sop, ↓aop, ↓reduceIte, LV.cells, AOp.dst, LV.I, LV.B, LV.U, LV.S, LV.nil, Nat.reduceEqDiff, Nat.reduceAdd, Nat.reduceMul, Nat.reduceSub, Nat.reduceLeDiff, Nat.reduceBEq, Nat.reduceDiv, Nat.reduceMod, Int.reduceToNat, Int.reduceLT, Int.reduceLE, Int.reduceAdd, Int.reduceSub, Int.reduceMul, Int.reduceEq, Int.reduceNeg, reduceCtorEq, resV, resAll, ARes.ev, LV.flat, ite_true, ite_false, exists_eq_left', exists_eq_left, keyOf, implies_true, fillC, capOf]
    have hgx := Ints.get (hI.app (L := [some (.row [.I c.a, .I c.b, .I c.c] true 0)])) (k := (lineOf y z c d).toNat) (by omega)
    refine callK_of (g_line hS hc hd3) ?_
    simp (disch := omega) only [f1, f2, f5, hgx, ↓SXd, SXu, slBounds, ↓sop, ↓aop, ↓reduceIte, LV.cells, AOp.dst, LV.I, LV.B, LV.U, LV.S, LV.nil, Nat.reduceEqDiff, Nat.reduceAdd, Nat.reduceMul, Nat.reduceSub, Nat.reduceLeDiff, Nat.reduceBEq, Nat.reduceDiv, Nat.reduceMod, Int.reduceToNat, Int.reduceLT, Int.reduceLE, Int.reduceAdd, Int.reduceSub, Int.reduceMul, Int.reduceEq, Int.reduceNeg, reduceCtorEq, resV, resAll, ARes.ev, LV.flat, ite_true, ite_false, exists_eq_left', exists_eq_left, keyOf, implies_true, fillC, capOf]
    by_cases hz : xs.getD (lineOf y z c d).toNat 0 = 0
    · simp (disch := omega) only [f1, f2, f5, hz, ↓SXd, SXu, slBounds, ↓sop, ↓aop, ↓reduceIte, LV.cells, AOp.dst, LV.I, LV.B, LV.U, LV.S, LV.nil, Nat.reduceEqDiff, Nat.reduceAdd, Nat.reduceMul, Nat.reduceSub, Nat.reduceLeDiff, Nat.reduceBEq, Nat.reduceDiv, Nat.reduceMod, Int.reduceToNat, Int.reduceLT, Int.reduceLE, Int.reduceAdd, Int.reduceSub, Int.reduceMul, Int.reduceEq, Int.reduceNeg, reduceCtorEq, resV, resAll, ARes.ev, LV.flat, ite_true, ite_false, exists_eq_left', exists_eq_left, keyOf, implies_true, fillC, capOf]
      rw [hmono hz]
      exact cmp_drop rfl
    · simp (disch := omega) only [f1, f2, f5, hz, ↓SXd, SXu, slBounds, ↓sop, ↓aop, ↓reduceIte, LV.cells, AOp.dst, LV.I, LV.B, LV.U, LV.S, LV.nil, Nat.reduceEqDiff, Nat.reduceAdd, Nat.reduceMul, Nat.reduceSub, Nat.reduceLeDiff, Nat.reduceBEq, Nat.reduceDiv, Nat.reduceMod, Int.reduceToNat, Int.reduceLT, Int.reduceLE, Int.reduceAdd, Int.reduceSub, Int.reduceMul, Int.reduceEq, Int.reduceNeg, reduceCtorEq, resV, resAll, ARes.ev, LV.flat, ite_true, ite_false, exists_eq_left', exists_eq_left, keyOf, implies_true, fillC, capOf]
      exact ⟨m - 1, by omega, d + 1, by omega, rfl, by rw [hsucc, hlit, decide_eq_false hz]; rfl, f1, f2, eqI (natI _)⟩
  · simp (disch := omega) only [f1, f2, f5, ↓SXd, SXu, slBounds, ↓sop, ↓aop, ↓reduceIte, LV.cells, AOp.dst, LV.I, LV.B, LV.U, LV.S, LV.nil, Nat.reduceEqDiff, Nat.reduceAdd, Nat.reduceMul, Nat.reduceSub, Nat.reduceLeDiff, Nat.reduceBEq, Nat.reduceDiv, Nat.reduceMod, Int.reduceToNat, Int.reduceLT, Int.reduceLE, Int.reduceAdd, Int.reduceSub, Int.reduceMul, Int.reduceEq, Int.reduceNeg, reduceCtorEq, resV, resAll, ARes.ev, LV.flat, ite_true, ite_false, exists_eq_left', exists_eq_left, keyOf, implies_true, fillC, capOf]
    have : d = 3 := by omega
    subst this
    rw [show allowedB y z tp fr sd c = true from hlit]
    exact cmp_drop rfl

theorem g_allowed {x y z : Int} {t o t' o' t2 o2 : Nat} {tp fr sd : List Int} {M : Mem} (h1 : Ints M t o tp) (h2 : Ints M t' o' fr) (h3 : Ints M t2 o2 sd) (hok : ShdOK x y z tp fr sd) :
    CallsTo PG F.impl_Shadow_allowed [.agg [.I x, .I y, .I z, .ref t o tp.length, .ref t' o' fr.length, .ref t2 o2 sd.length]] M (.W (bs x y z (allowedB y z tp fr sd))) M := by
  have hS := hok.1
  have hv := vol_cast hS
  refine calls_run K.impl_Shadow_allowed rfl ?_
  simp (disch := omega) only [C.impl_Shadow_allowed, ↓SXd, SXu, slBounds, ↓sop, ↓aop, ↓reduceIte, LV.cells, AOp.dst, LV.I, LV.B, LV.U, LV.S, LV.nil, Nat.reduceEqDiff, Nat.reduceAdd, Nat.reduceMul, Nat.reduceSub, Nat.reduceLeDiff, Nat.reduceBEq, Nat.reduceDiv, Nat.reduceMod, Int.reduceToNat, Int.reduceLT, Int.reduceLE, Int.reduceAdd, Int.reduceSub, Int.reduceMul, Int.reduceEq, Int.reduceNeg, reduceCtorEq, resV, resAll, ARes.ev, LV.flat, ite_true, ite_false, exists_eq_left', exists_eq_left, keyOf, implies_true, fillC, capOf]
  refine callK_of (g_Shadow_box) ?_
  simp (disch := omega) only [↓SXd, SXu, slBounds, ↓sop, ↓aop, ↓reduceIte, LV.cells, AOp.dst, LV.I, LV.B, LV.U, LV.S, LV.nil, Nat.reduceEqDiff, Nat.reduceAdd, Nat.reduceMul, Nat.reduceSub, Nat.reduceLeDiff, Nat.reduceBEq, Nat.reduceDiv, Nat.reduceMod, Int.reduceToNat, Int.reduceLT, Int.reduceLE, Int.reduceAdd, Int.reduceSub, Int.reduceMul, Int.reduceEq, Int.reduceNeg, reduceCtorEq, resV, resAll, ARes.ev, LV.flat, ite_true, ite_false, exists_eq_left', exists_eq_left, keyOf, implies_true, fillC, capOf]
  refine callK_of (g_those hS (p := allowedB y z tp fr sd) (f := F.impl_Shadow_allowed_1) (caps := [(M.length, 0)]) fun M' hp i hi => ?_) ?_
  · have hpM : Pre M M' := (Pre.app _ _).trans hp
    exact g_allowed_1 (h1.pre hpM) (h2.pre hpM) (h3.pre hpM) hok (cellAt_in hS (by omega) (by omega)).1 (Live.new.pre hp)
  simp (disch := omega) only [↓SXd, SXu, slBounds, ↓sop, ↓aop, ↓reduceIte, LV.cells, AOp.dst, LV.I, LV.B, LV.U, LV.S, LV.nil, Nat.reduceEqDiff, Nat.reduceAdd, Nat.reduceMul, Nat.reduceSub, Nat.reduceLeDiff, Nat.reduceBEq, Nat.reduceDiv, Nat.reduceMod, Int.reduceToNat, Int.reduceLT, Int.reduceLE, Int.reduceAdd, Int.reduceSub, Int.reduceMul, Int.reduceEq, Int.reduceNeg, reduceCtorEq, resV, resAll, ARes.ev, LV.flat, ite_true, ite_false, exists_eq_left', exists_eq_left, keyOf, implies_true, fillC, capOf]
  exact cmp_drop rfl
end Go.Ab

/- Contracts: allowed cells, the reference's side. -/
namespace Go.Ab
open Go
set_option linter.unusedSimpArgs false
set_option linter.unusedVariables false
set_option maxRecDepth 20000

theorem allowed_ones {x y z : Int} {tp fr sd : List Int} {c : Cell} (hok : ShdOK x y z tp fr sd) (hc : c.inBox x y z) : allowedB y z tp fr sd c = (decide (tp.getD (c.a * y + c.b).toNat 0 = 1) && (decide (fr.getD (c.a * z + c.c).toNat 0 = 1) && decide (sd.getD (c.b * z + c.c).toNat 0 = 1))) := by
  have key : ∀ d, d < 3 → ((shdList d tp fr sd).getD (lineOf y z c d).toNat 0 ≠ 0 ↔ (shdList d tp fr sd).getD (lineOf y z c d).toNat 0 = 1) := fun d hd => by
    obtain ⟨h1, h2⟩ := hok.list hd
    obtain ⟨k1, k2⟩ := lineOf_in hok.1 hc hd
    have hm := h1 _ (getD_mem' (d := (0 : Int)) (show (lineOf y z c d).toNat < (shdList d tp fr sd).length by omega))
    omega
  rw [Bool.eq_iff_iff]
  simp only [Bool.and_eq_true, decide_eq_true_eq]
  unfold allowedB litK
  rw [decide_eq_true_iff]
  constructor
  · intro h
    exact ⟨(key 2 (by omega)).1 (h 2 (by omega)), (key 1 (by omega)).1 (h 1 (by omega)), (key 0 (by omega)).1 (h 0 (by omega))⟩
  · rintro ⟨a, b, e⟩ j hj
    rcases (show j = 0 ∨ j = 1 ∨ j = 2 by omega) with rfl | rfl | rfl
    · exact (key 0 (by omega)).2 e
    · exact (key 1 (by omega)).2 b
    · exact (key 2 (by omega)).2 a

theorem memK_one {M : Mem} {t j e : Nat} {old : List LV} {v : LV} {A : Mem → Prop} (ht : Live M t (.row old true e)) (hj : j < old.length)
    (hA : ∀ M', M'.length = M.length → Live M' t (.row (old.set j v) true e) → (∀ u, u ≠ t → u < M.length → M'[u]? = M[u]?) → A M') : memK (setCells M t j [v]) A := by
  rw [ht.setC, if_pos (by simp; omega), splice_1 hj]
  exact hA _ (by simp) ht.set_eq fun u hu _ => List.getElem?_set_ne (fun e => hu e.symm)
theorem h_l3Allowed {x y z : Int} {t o t' o' t2 o2 : Nat} {tp fr sd : List Int} {M : Mem} (h1 : Ints M t o tp) (h2 : Ints M t' o' fr) (h3 : Ints M t2 o2 sd) (hok : ShdOK x y z tp fr sd) :
    CallsTo PG F.spec_l3Allowed [.agg [.I x, .I y, .I z, .ref t o tp.length, .ref t' o' fr.length, .ref t2 o2 sd.length]] M (.agg [.I x, .I y, .I z, .ref M.length 0 (pick x y z (allowedB y z tp fr sd)).length])
      (M ++ [some (.row (triL (pick x y z (allowedB y z tp fr sd))) true 3)]) := by
  have hS := hok.1
  have hv := vol_cast hS
  have hp := prod_le hS
  have ht := h1.lt
  have ht' := h2.lt
  have ht2 := h3.lt
  have hcl : (cellsOf x y z).length = vol x y z := by simp [cellsOf]
  refine calls_run K.spec_l3Allowed rfl ?_
  simp (disch := omega) only [C.spec_l3Allowed, ↓SXd, SXu, slBounds, ↓sop, ↓aop, ↓reduceIte, LV.cells, AOp.dst, LV.I, LV.B, LV.U, LV.S, LV.nil, Nat.reduceEqDiff, Nat.reduceAdd, Nat.reduceMul, Nat.reduceSub, Nat.reduceLeDiff, Nat.reduceBEq, Nat.reduceDiv, Nat.reduceMod, Int.reduceToNat, Int.reduceLT, Int.reduceLE, Int.reduceAdd, Int.reduceSub, Int.reduceMul, Int.reduceEq, Int.reduceNeg, reduceCtorEq, resV, resAll, ARes.ev, LV.flat, ite_true, ite_false, exists_eq_left', exists_eq_left, keyOf, implies_true, fillC, capOf]
  refine callK_of (h_l2Empty) ?_
  simp (disch := omega) only [splice, ↓SXd, SXu, slBounds, ↓sop, ↓aop, ↓reduceIte, LV.cells, AOp.dst, LV.I, LV.B, LV.U, LV.S, LV.nil, Nat.reduceEqDiff, Nat.reduceAdd, Nat.reduceMul, Nat.reduceSub, Nat.reduceLeDiff, Nat.reduceBEq, Nat.reduceDiv, Nat.reduceMod, Int.reduceToNat, Int.reduceLT, Int.reduceLE, Int.reduceAdd, Int.reduceSub, Int.reduceMul, Int.reduceEq, Int.reduceNeg, reduceCtorEq, resV, resAll, ARes.ev, LV.flat, ite_true, ite_false, exists_eq_left', exists_eq_left, keyOf, implies_true, fillC, capOf]
  refine callK_of (h_l2All hS) ?_
  simp (disch := omega) only [↓SXd, SXu, slBounds, ↓sop, ↓aop, ↓reduceIte, LV.cells, AOp.dst, LV.I, LV.B, LV.U, LV.S, LV.nil, Nat.reduceEqDiff, Nat.reduceAdd, Nat.reduceMul, Nat.reduceSub, Nat.reduceLeDiff, Nat.reduceBEq, Nat.reduceDiv, Nat.reduceMod, Int.reduceToNat, Int.reduceLT, Int.reduceLE, Int.reduceAdd, Int.reduceSub, Int.reduceMul, Int.reduceEq, Int.reduceNeg, reduceCtorEq, resV, resAll, ARes.ev, LV.flat, ite_true, ite_false, exists_eq_left', exists_eq_left, keyOf, implies_true, fillC, capOf]
  refine ev_loop (fun m fr1 M' => ∃ i u : Nat, i + m = (cellsOf x y z).length ∧ Pre M M' ∧ Live M' M.length (.row [.I x, .I y, .I z, .ref t o tp.length, .ref t' o' fr.length, .ref t2 o2 sd.length] true 0) ∧ Live M' (M.length + 1) (.row [.I 0, .I 0, .I 0, .nil] true 0) ∧
    Live M' (M.length + 3) (.row [.I x, .I y, .I z, .ref u 0 (((cellsOf x y z).take i).filter (allowedB y z tp fr sd)).length] true 0) ∧ Live M' (M.length + 4) (.row (triL (cellsOf x y z)) true 3) ∧ Live M' u (.row (triL (((cellsOf x y z).take i).filter (allowedB y z tp fr sd))) true 3) ∧ (u = M.length + 2 ∨ M.length + 4 < u) ∧
    fr1 1 = .ptr M.length 0 ∧ fr1 2 = .ptr (M.length + 1) 0 ∧ fr1 3 = .ptr (M.length + 3) 0 ∧ fr1 4 = .ref (M.length + 4) 0 (cellsOf x y z).length ∧ fr1 5 = .I i) (cellsOf x y z).length
    ⟨0, M.length + 2, by omega, Pre.app _ _, Live.new, Live.newj rfl, Live.newj rfl, Live.newj rfl, Live.newj rfl, .inl rfl, rfl, rfl, rfl, rfl, rfl⟩ ?_
  rintro m fr1 M' ⟨i, u, hi, hpre, b1, b2, b3, b4, bu, hu, f1, f2, f3, f4, f5⟩
  simp (disch := omega) only [f1, f2, f3, f4, f5, ↓SXd, SXu, slBounds, ↓sop, ↓aop, ↓reduceIte, LV.cells, AOp.dst, LV.I, LV.B, LV.U, LV.S, LV.nil, Nat.reduceEqDiff, Nat.reduceAdd, Nat.reduceMul, Nat.reduceSub, Nat.reduceLeDiff, Nat.reduceBEq, Nat.reduceDiv, Nat.reduceMod, Int.reduceToNat, Int.reduceLT, Int.reduceLE, Int.reduceAdd, Int.reduceSub, Int.reduceMul, Int.reduceEq, Int.reduceNeg, reduceCtorEq, resV, resAll, ARes.ev, LV.flat, ite_true, ite_false, exists_eq_left', exists_eq_left, keyOf, implies_true, fillC, capOf]
  refine condC_dec (fun hlt => ?_) (fun hlt => ?_)
  · have hil : i < (cellsOf x y z).length := by omega
    have hcb := (mem_cellsOf hS).1 (getD_mem' (d := default) hil)
    have hci := b4.tri0 hil
    have ga := Tri.get_a b4.has hil
    have gb := Tri.get_b b4.has hil
    have gc := Tri.get_c b4.has hil
    have hts : (cellsOf x y z).take (i + 1) = (cellsOf x y z).take i ++ [(cellsOf x y z).getD i default] := by
      rw [List.take_succ, List.getElem?_eq_getElem hil]; simp [hil]
    have hal : (((cellsOf x y z).take i).filter (allowedB y z tp fr sd)).length ≤ 64 := by
      have q1 := List.length_filter_le (allowedB y z tp fr sd) ((cellsOf x y z).take i)
      have q2 := List.length_take_le i (cellsOf x y z)
      omega
    rw [Nat.zero_add] at ga gb gc
    generalize (cellsOf x y z).getD i default = c at hcb hci ga gb gc hts
    have hstep : ((cellsOf x y z).take (i + 1)).filter (allowedB y z tp fr sd) = ((cellsOf x y z).take i).filter (allowedB y z tp fr sd) ++ (if allowedB y z tp fr sd c then [c] else []) := by
      rw [hts, List.filter_append, List.filter_cons, List.filter_nil]
    have hao := allowed_ones hok hcb
    have i2 : 0 ≤ c.a * y + c.b ∧ c.a * y + c.b < x * y := lineOf_in (d := 2) hS hcb (by omega)
    have i1 : 0 ≤ c.a * z + c.c ∧ c.a * z + c.c < x * z := lineOf_in (d := 1) hS hcb (by omega)
    have i0 : 0 ≤ c.b * z + c.c ∧ c.b * z + c.c < y * z := lineOf_in (d := 0) hS hcb (by omega)
    have k2 : (tp.length : Int) = x * y := hok.2.1.2
    have k1 : (fr.length : Int) = x * z := hok.2.2.1.2
    have k0 : (sd.length : Int) = y * z := hok.2.2.2.2
    have e2 := Ints.get (h1.pre hpre) (k := (c.a * y + c.b).toNat) (by omega)
    have e1 := Ints.get (h2.pre hpre) (k := (c.a * z + c.c).toNat) (by omega)
    have e0 := Ints.get (h3.pre hpre) (k := (c.b * z + c.c).toNat) (by omega)
    obtain ⟨⟨_, _⟩, ⟨_, _⟩, ⟨_, _⟩⟩ := id hcb
    obtain ⟨⟨_, _⟩, ⟨_, _⟩, ⟨_, _⟩⟩ := id hS
    have hskip : allowedB y z tp fr sd c = false → ((cellsOf x y z).take (i + 1)).filter (allowedB y z tp fr sd) = ((cellsOf x y z).take i).filter (allowedB y z tp fr sd) := fun h => by rw [hstep, h]; simp
    by_cases q2 : tp.getD (c.a * y + c.b).toNat 0 = 1
    · by_cases q1 : fr.getD (c.a * z + c.c).toNat 0 = 1
      · by_cases q0 : sd.getD (c.b * z + c.c).toNat 0 = 1
        · rw [decide_eq_true q2, decide_eq_true q1, decide_eq_true q0] at hao
          simp (disch := omega) only [f1, f2, f3, f4, f5, ga, gb, gc, b1.cell, e2, e1, e0, q2, q1, q0, b3.cell, hci, Cell.row, splice, ↓SXd, SXu, slBounds, ↓sop, ↓aop, ↓reduceIte, LV.cells, AOp.dst, LV.I, LV.B, LV.U, LV.S, LV.nil, Nat.reduceEqDiff, Nat.reduceAdd, Nat.reduceMul, Nat.reduceSub, Nat.reduceLeDiff, Nat.reduceBEq, Nat.reduceDiv, Nat.reduceMod, Int.reduceToNat, Int.reduceLT, Int.reduceLE, Int.reduceAdd, Int.reduceSub, Int.reduceMul, Int.reduceEq, Int.reduceNeg, reduceCtorEq, resV, resAll, ARes.ev, LV.flat, ite_true, ite_false, exists_eq_left', exists_eq_left, keyOf, implies_true, fillC, capOf]
          rw [if_pos (by rw [hao]; rfl)] at hstep
          refine appendK_cell bu (by omega) fun N' l1 l2 l3 => ?_
          have hl4 := b4.lt
          have d3 := live_step b3 (by omega) l3
          simp (disch := omega) only [f1, f2, f3, f4, f5, ↓SXd, SXu, slBounds, ↓sop, ↓aop, ↓reduceIte, LV.cells, AOp.dst, LV.I, LV.B, LV.U, LV.S, LV.nil, Nat.reduceEqDiff, Nat.reduceAdd, Nat.reduceMul, Nat.reduceSub, Nat.reduceLeDiff, Nat.reduceBEq, Nat.reduceDiv, Nat.reduceMod, Int.reduceToNat, Int.reduceLT, Int.reduceLE, Int.reduceAdd, Int.reduceSub, Int.reduceMul, Int.reduceEq, Int.reduceNeg, reduceCtorEq, resV, resAll, ARes.ev, LV.flat, ite_true, ite_false, exists_eq_left', exists_eq_left, keyOf, implies_true, fillC, capOf]
          refine memK_one d3 (by simp) fun N3 j1 j2 j3 => ?_
          simp (disch := omega) only [f1, f2, f3, f4, f5, ↓SXd, SXu, slBounds, ↓sop, ↓aop, ↓reduceIte, LV.cells, AOp.dst, LV.I, LV.B, LV.U, LV.S, LV.nil, Nat.reduceEqDiff, Nat.reduceAdd, Nat.reduceMul, Nat.reduceSub, Nat.reduceLeDiff, Nat.reduceBEq, Nat.reduceDiv, Nat.reduceMod, Int.reduceToNat, Int.reduceLT, Int.reduceLE, Int.reduceAdd, Int.reduceSub, Int.reduceMul, Int.reduceEq, Int.reduceNeg, reduceCtorEq, resV, resAll, ARes.ev, LV.flat, ite_true, ite_false, exists_eq_left', exists_eq_left, keyOf, implies_true, fillC, capOf]
          rw [cell_eta, ← hstep] at l2 j2
          exact ⟨m - 1, by omega, i + 1, M'.length + 1, by omega, pre_step (pre_step hpre (by omega) l1 l3) (by omega) (j := 0) j1 j3, live_step (live_step b1 (by omega) l3) (by omega) j3, live_step (live_step b2 (by omega) l3) (by omega) j3, j2, live_step (live_step b4 (by omega) l3) (by omega) j3, live_step l2 (by omega) j3, by omega, f1, f2, f3, f4, eqI (natI _)⟩
        · rw [decide_eq_true q2, decide_eq_true q1, decide_eq_false q0] at hao
          simp (disch := omega) only [f1, f2, f3, f4, f5, ga, gb, gc, b1.cell, e2, e1, e0, q2, q1, q0, ↓SXd, SXu, slBounds, ↓sop, ↓aop, ↓reduceIte, LV.cells, AOp.dst, LV.I, LV.B, LV.U, LV.S, LV.nil, Nat.reduceEqDiff, Nat.reduceAdd, Nat.reduceMul, Nat.reduceSub, Nat.reduceLeDiff, Nat.reduceBEq, Nat.reduceDiv, Nat.reduceMod, Int.reduceToNat, Int.reduceLT, Int.reduceLE, Int.reduceAdd, Int.reduceSub, Int.reduceMul, Int.reduceEq, Int.reduceNeg, reduceCtorEq, resV, resAll, ARes.ev, LV.flat, ite_true, ite_false, exists_eq_left', exists_eq_left, keyOf, implies_true, fillC, capOf]
          rw [← hskip hao] at b3 bu
          exact ⟨m - 1, by omega, i + 1, u, by omega, hpre, b1, b2, b3, b4, bu, hu, f1, f2, f3, f4, eqI (natI _)⟩
      · rw [decide_eq_true q2, decide_eq_false q1] at hao
        simp (disch := omega) only [f1, f2, f3, f4, f5, ga, gb, gc, b1.cell, e2, e1, q2, q1, ↓SXd, SXu, slBounds, ↓sop, ↓aop, ↓reduceIte, LV.cells, AOp.dst, LV.I, LV.B, LV.U, LV.S, LV.nil, Nat.reduceEqDiff, Nat.reduceAdd, Nat.reduceMul, Nat.reduceSub, Nat.reduceLeDiff, Nat.reduceBEq, Nat.reduceDiv, Nat.reduceMod, Int.reduceToNat, Int.reduceLT, Int.reduceLE, Int.reduceAdd, Int.reduceSub, Int.reduceMul, Int.reduceEq, Int.reduceNeg, reduceCtorEq, resV, resAll, ARes.ev, LV.flat, ite_true, ite_false, exists_eq_left', exists_eq_left, keyOf, implies_true, fillC, capOf]
        rw [← hskip hao] at b3 bu
        exact ⟨m - 1, by omega, i + 1, u, by omega, hpre, b1, b2, b3, b4, bu, hu, f1, f2, f3, f4, eqI (natI _)⟩
    · rw [decide_eq_false q2] at hao
      simp (disch := omega) only [f1, f2, f3, f4, f5, ga, gb, gc, b1.cell, e2, q2, ↓SXd, SXu, slBounds, ↓sop, ↓aop, ↓reduceIte, LV.cells, AOp.dst, LV.I, LV.B, LV.U, LV.S, LV.nil, Nat.reduceEqDiff, Nat.reduceAdd, Nat.reduceMul, Nat.reduceSub, Nat.reduceLeDiff, Nat.reduceBEq, Nat.reduceDiv, Nat.reduceMod, Int.reduceToNat, Int.reduceLT, Int.reduceLE, Int.reduceAdd, Int.reduceSub, Int.reduceMul, Int.reduceEq, Int.reduceNeg, reduceCtorEq, resV, resAll, ARes.ev, LV.flat, ite_true, ite_false, exists_eq_left', exists_eq_left, keyOf, implies_true, fillC, capOf]
      rw [← hskip hao] at b3 bu
      exact ⟨m - 1, by omega, i + 1, u, by omega, hpre, b1, b2, b3, b4, bu, hu, f1, f2, f3, f4, eqI (natI _)⟩
  · simp (disch := omega) only [f1, f2, f3, f4, f5, b3.cells, ↓SXd, SXu, slBounds, ↓sop, ↓aop, ↓reduceIte, LV.cells, AOp.dst, LV.I, LV.B, LV.U, LV.S, LV.nil, Nat.reduceEqDiff, Nat.reduceAdd, Nat.reduceMul, Nat.reduceSub, Nat.reduceLeDiff, Nat.reduceBEq, Nat.reduceDiv, Nat.reduceMod, Int.reduceToNat, Int.reduceLT, Int.reduceLE, Int.reduceAdd, Int.reduceSub, Int.reduceMul, Int.reduceEq, Int.reduceNeg, reduceCtorEq, resV, resAll, ARes.ev, LV.flat, ite_true, ite_false, exists_eq_left', exists_eq_left, keyOf, implies_true, fillC, capOf]
    have : i = (cellsOf x y z).length := by omega
    subst this
    rw [List.take_length] at b3 bu
    change Live M' u (.row (triL (pick x y z (allowedB y z tp fr sd))) true 3) at bu
    refine memK_box b2 (by simp) fun N3 k1 k2 k3 => ?_
    simp (disch := omega) only [f1, f2, f3, f4, f5, k2.cells, ↓SXd, SXu, slBounds, ↓sop, ↓aop, ↓reduceIte, LV.cells, AOp.dst, LV.I, LV.B, LV.U, LV.S, LV.nil, Nat.reduceEqDiff, Nat.reduceAdd, Nat.reduceMul, Nat.reduceSub, Nat.reduceLeDiff, Nat.reduceBEq, Nat.reduceDiv, Nat.reduceMod, Int.reduceToNat, Int.reduceLT, Int.reduceLE, Int.reduceAdd, Int.reduceSub, Int.reduceMul, Int.reduceEq, Int.reduceNeg, reduceCtorEq, resV, resAll, ARes.ev, LV.flat, ite_true, ite_false, exists_eq_left', exists_eq_left, keyOf, implies_true, fillC, capOf]
    exact cmp_keepL (pre_step hpre (by omega) (j := 0) k1 k3) (by omega) (live_step bu (by omega) k3) (triL_lo _) (by simp [rn, rn0, rn1, pick])
end Go.Ab

/- Contracts: whether a heap has a shadow, the reference's side. -/
namespace Go.Ab
open Go
set_option linter.unusedSimpArgs false
set_option linter.unusedVariables false

theorem lines_le {x y z : Int} {d : Nat} (hS : Sides x y z) (hd : d < 3) : 1 ≤ linesOf x y z d ∧ linesOf x y z d ≤ 16 := by
  have := prod_le hS
  rcases (show d = 0 ∨ d = 1 ∨ d = 2 by omega) with rfl | rfl | rfl
  · exact this.2.2
  · exact this.2.1
  · exact this.1
section
variable {x y z : Int} {t o : Nat} {cs : List Cell} {M : Mem} (h : Tri M t o cs) (hH : HeapOK x y z cs)
include h hH
theorem h_l2Top : CallsTo PG F.spec_l2Top [.agg [.I x, .I y, .I z, .ref t o cs.length]] M (.ref M.length 0 (shdOf x y z 2 cs).length) (M ++ [some (.row (intL (shdOf x y z 2 cs)) true 1)]) := by
  have hl := lines_le hH.1 (d := 2) (by omega)
  have hvl := viewL_len (x := x) (y := y) (z := z) (d := 2) (cs := cs)
  refine calls_run K.spec_l2Top rfl ?_
  simp (disch := omega) only [C.spec_l2Top, ↓SXd, SXu, slBounds, ↓sop, ↓aop, ↓reduceIte, LV.cells, AOp.dst, LV.I, LV.B, LV.U, LV.S, LV.nil, Nat.reduceEqDiff, Nat.reduceAdd, Nat.reduceMul, Nat.reduceSub, Nat.reduceLeDiff, Nat.reduceBEq, Nat.reduceDiv, Nat.reduceMod, Int.reduceToNat, Int.reduceLT, Int.reduceLE, Int.reduceAdd, Int.reduceSub, Int.reduceMul, Int.reduceEq, Int.reduceNeg, reduceCtorEq, resV, resAll, ARes.ev, LV.flat, ite_true, ite_false, exists_eq_left', exists_eq_left, keyOf, implies_true, fillC, capOf]
  refine callK_of (h_l2View h.app hH (d := 2) (by omega)) ?_
  simp (disch := omega) only [↓SXd, SXu, slBounds, ↓sop, ↓aop, ↓reduceIte, LV.cells, AOp.dst, LV.I, LV.B, LV.U, LV.S, LV.nil, Nat.reduceEqDiff, Nat.reduceAdd, Nat.reduceMul, Nat.reduceSub, Nat.reduceLeDiff, Nat.reduceBEq, Nat.reduceDiv, Nat.reduceMod, Int.reduceToNat, Int.reduceLT, Int.reduceLE, Int.reduceAdd, Int.reduceSub, Int.reduceMul, Int.reduceEq, Int.reduceNeg, reduceCtorEq, resV, resAll, ARes.ev, LV.flat, ite_true, ite_false, exists_eq_left', exists_eq_left, keyOf, implies_true, fillC, capOf]
  refine callK_of (h_l2Ones (Live.newj (M := M) (j := 1) (b := .row (intL (viewL x y z 2 cs)) true 1) rfl).has (by omega)) ?_
  simp (disch := omega) only [↓SXd, SXu, slBounds, ↓sop, ↓aop, ↓reduceIte, LV.cells, AOp.dst, LV.I, LV.B, LV.U, LV.S, LV.nil, Nat.reduceEqDiff, Nat.reduceAdd, Nat.reduceMul, Nat.reduceSub, Nat.reduceLeDiff, Nat.reduceBEq, Nat.reduceDiv, Nat.reduceMod, Int.reduceToNat, Int.reduceLT, Int.reduceLE, Int.reduceAdd, Int.reduceSub, Int.reduceMul, Int.reduceEq, Int.reduceNeg, reduceCtorEq, resV, resAll, ARes.ev, LV.flat, ite_true, ite_false, exists_eq_left', exists_eq_left, keyOf, implies_true, fillC, capOf]
  exact cmp_keep1 (j := 2) rfl (intL_lo _) (by simp [rn, rn0, rn1, keepR_n, shdOf])
theorem h_l2Front : CallsTo PG F.spec_l2Front [.agg [.I x, .I y, .I z, .ref t o cs.length]] M (.ref M.length 0 (shdOf x y z 1 cs).length) (M ++ [some (.row (intL (shdOf x y z 1 cs)) true 1)]) := by
  have hl := lines_le hH.1 (d := 1) (by omega)
  have hvl := viewL_len (x := x) (y := y) (z := z) (d := 1) (cs := cs)
  refine calls_run K.spec_l2Front rfl ?_
  simp (disch := omega) only [C.spec_l2Front, ↓SXd, SXu, slBounds, ↓sop, ↓aop, ↓reduceIte, LV.cells, AOp.dst, LV.I, LV.B, LV.U, LV.S, LV.nil, Nat.reduceEqDiff, Nat.reduceAdd, Nat.reduceMul, Nat.reduceSub, Nat.reduceLeDiff, Nat.reduceBEq, Nat.reduceDiv, Nat.reduceMod, Int.reduceToNat, Int.reduceLT, Int.reduceLE, Int.reduceAdd, Int.reduceSub, Int.reduceMul, Int.reduceEq, Int.reduceNeg, reduceCtorEq, resV, resAll, ARes.ev, LV.flat, ite_true, ite_false, exists_eq_left', exists_eq_left, keyOf, implies_true, fillC, capOf]
  refine callK_of (h_l2View h.app hH (d := 1) (by omega)) ?_
  simp (disch := omega) only [↓SXd, SXu, slBounds, ↓sop, ↓aop, ↓reduceIte, LV.cells, AOp.dst, LV.I, LV.B, LV.U, LV.S, LV.nil, Nat.reduceEqDiff, Nat.reduceAdd, Nat.reduceMul, Nat.reduceSub, Nat.reduceLeDiff, Nat.reduceBEq, Nat.reduceDiv, Nat.reduceMod, Int.reduceToNat, Int.reduceLT, Int.reduceLE, Int.reduceAdd, Int.reduceSub, Int.reduceMul, Int.reduceEq, Int.reduceNeg, reduceCtorEq, resV, resAll, ARes.ev, LV.flat, ite_true, ite_false, exists_eq_left', exists_eq_left, keyOf, implies_true, fillC, capOf]
  refine callK_of (h_l2Ones (Live.newj (M := M) (j := 1) (b := .row (intL (viewL x y z 1 cs)) true 1) rfl).has (by omega)) ?_
  simp (disch := omega) only [↓SXd, SXu, slBounds, ↓sop, ↓aop, ↓reduceIte, LV.cells, AOp.dst, LV.I, LV.B, LV.U, LV.S, LV.nil, Nat.reduceEqDiff, Nat.reduceAdd, Nat.reduceMul, Nat.reduceSub, Nat.reduceLeDiff, Nat.reduceBEq, Nat.reduceDiv, Nat.reduceMod, Int.reduceToNat, Int.reduceLT, Int.reduceLE, Int.reduceAdd, Int.reduceSub, Int.reduceMul, Int.reduceEq, Int.reduceNeg, reduceCtorEq, resV, resAll, ARes.ev, LV.flat, ite_true, ite_false, exists_eq_left', exists_eq_left, keyOf, implies_true, fillC, capOf]
  exact cmp_keep1 (j := 2) rfl (intL_lo _) (by simp [rn, rn0, rn1, keepR_n, shdOf])
theorem h_l2Side : CallsTo PG F.spec_l2Side [.agg [.I x, .I y, .I z, .ref t o cs.length]] M (.ref M.length 0 (shdOf x y z 0 cs).length) (M ++ [some (.row (intL (shdOf x y z 0 cs)) true 1)]) := by
  have hl := lines_le hH.1 (d := 0) (by omega)
  have hvl := viewL_len (x := x) (y := y) (z := z) (d := 0) (cs := cs)
  refine calls_run K.spec_l2Side rfl ?_
  simp (disch := omega) only [C.spec_l2Side, ↓SXd, SXu, slBounds, ↓sop, ↓aop, ↓reduceIte, LV.cells, AOp.dst, LV.I, LV.B, LV.U, LV.S, LV.nil, Nat.reduceEqDiff, Nat.reduceAdd, Nat.reduceMul, Nat.reduceSub, Nat.reduceLeDiff, Nat.reduceBEq, Nat.reduceDiv, Nat.reduceMod, Int.reduceToNat, Int.reduceLT, Int.reduceLE, Int.reduceAdd, Int.reduceSub, Int.reduceMul, Int.reduceEq, Int.reduceNeg, reduceCtorEq, resV, resAll, ARes.ev, LV.flat, ite_true, ite_false, exists_eq_left', exists_eq_left, keyOf, implies_true, fillC, capOf]
  refine callK_of (h_l2View h.app hH (d := 0) (by omega)) ?_
  simp (disch := omega) only [↓SXd, SXu, slBounds, ↓sop, ↓aop, ↓reduceIte, LV.cells, AOp.dst, LV.I, LV.B, LV.U, LV.S, LV.nil, Nat.reduceEqDiff, Nat.reduceAdd, Nat.reduceMul, Nat.reduceSub, Nat.reduceLeDiff, Nat.reduceBEq, Nat.reduceDiv, Nat.reduceMod, Int.reduceToNat, Int.reduceLT, Int.reduceLE, Int.reduceAdd, Int.reduceSub, Int.reduceMul, Int.reduceEq, Int.reduceNeg, reduceCtorEq, resV, resAll, ARes.ev, LV.flat, ite_true, ite_false, exists_eq_left', exists_eq_left, keyOf, implies_true, fillC, capOf]
  refine callK_of (h_l2Ones (Live.newj (M := M) (j := 1) (b := .row (intL (viewL x y z 0 cs)) true 1) rfl).has (by omega)) ?_
  simp (disch := omega) only [↓SXd, SXu, slBounds, ↓sop, ↓aop, ↓reduceIte, LV.cells, AOp.dst, LV.I, LV.B, LV.U, LV.S, LV.nil, Nat.reduceEqDiff, Nat.reduceAdd, Nat.reduceMul, Nat.reduceSub, Nat.reduceLeDiff, Nat.reduceBEq, Nat.reduceDiv, Nat.reduceMod, Int.reduceToNat, Int.reduceLT, Int.reduceLE, Int.reduceAdd, Int.reduceSub, Int.reduceMul, Int.reduceEq, Int.reduceNeg, reduceCtorEq, resV, resAll, ARes.ev, LV.flat, ite_true, ite_false, exists_eq_left', exists_eq_left, keyOf, implies_true, fillC, capOf]
  exact cmp_keep1 (j := 2) rfl (intL_lo _) (by simp [rn, rn0, rn1, keepR_n, shdOf])
end

/-- A set of cells has a shadow. -/
def HasShd (x y z : Int) (tp fr sd : List Int) (cs : List Cell) : Prop := shdOf x y z 2 cs = tp ∧ shdOf x y z 1 cs = fr ∧ shdOf x y z 0 cs = sd
instance (x y z : Int) (tp fr sd : List Int) (cs : List Cell) : Decidable (HasShd x y z tp fr sd cs) := by unfold HasShd; exact inferInstance
theorem h_l3Has {x y z x' y' z' : Int} {t o t' o' t2 o2 u v : Nat} {tp fr sd : List Int} {cs : List Cell} {M : Mem} (h1 : Ints M t o tp) (h2 : Ints M t' o' fr) (h3 : Ints M t2 o2 sd) (l1 : tp.length ≤ 1000000000) (l2 : fr.length ≤ 1000000000) (l3 : sd.length ≤ 1000000000)
    (h : Tri M u v cs) (hH : HeapOK x y z cs) :
    CallsTo PG F.spec_l3Has [.agg [.I x', .I y', .I z', .ref t o tp.length, .ref t' o' fr.length, .ref t2 o2 sd.length], .agg [.I x, .I y, .I z, .ref u v cs.length]] M (.B (decide (HasShd x y z tp fr sd cs))) M := by
  have q2 := lines_le hH.1 (d := 2) (by omega)
  have q1 := lines_le hH.1 (d := 1) (by omega)
  have q0 := lines_le hH.1 (d := 0) (by omega)
  have k2 := shdOf_len (x := x) (y := y) (z := z) (d := 2) (cs := cs)
  have k1 := shdOf_len (x := x) (y := y) (z := z) (d := 1) (cs := cs)
  have k0 := shdOf_len (x := x) (y := y) (z := z) (d := 0) (cs := cs)
  rw [show decide (HasShd x y z tp fr sd cs) = decide (shdOf x y z 2 cs = tp ∧ shdOf x y z 1 cs = fr ∧ shdOf x y z 0 cs = sd) from decide_eq_decide.2 Iff.rfl]
  have c2 := fun M' (hp : Pre M M') => h_l2Top (h.pre hp) hH
  have c1 := fun M' (hp : Pre M M') => h_l2Front (h.pre hp) hH
  have c0 := fun M' (hp : Pre M M') => h_l2Side (h.pre hp) hH
  generalize shdOf x y z 2 cs = s2 at k2 c2 ⊢
  generalize shdOf x y z 1 cs = s1 at k1 c1 ⊢
  generalize shdOf x y z 0 cs = s0 at k0 c0 ⊢
  refine calls_run K.spec_l3Has rfl ?_
  simp (disch := omega) only [C.spec_l3Has, ↓SXd, SXu, slBounds, ↓sop, ↓aop, ↓reduceIte, LV.cells, AOp.dst, LV.I, LV.B, LV.U, LV.S, LV.nil, Nat.reduceEqDiff, Nat.reduceAdd, Nat.reduceMul, Nat.reduceSub, Nat.reduceLeDiff, Nat.reduceBEq, Nat.reduceDiv, Nat.reduceMod, Int.reduceToNat, Int.reduceLT, Int.reduceLE, Int.reduceAdd, Int.reduceSub, Int.reduceMul, Int.reduceEq, Int.reduceNeg, reduceCtorEq, resV, resAll, ARes.ev, LV.flat, ite_true, ite_false, exists_eq_left', exists_eq_left, keyOf, implies_true, fillC, capOf]
  refine callK_of (c2 _ (Pre.app _ _)) ?_
  simp (disch := omega) only [↓SXd, SXu, slBounds, ↓sop, ↓aop, ↓reduceIte, LV.cells, AOp.dst, LV.I, LV.B, LV.U, LV.S, LV.nil, Nat.reduceEqDiff, Nat.reduceAdd, Nat.reduceMul, Nat.reduceSub, Nat.reduceLeDiff, Nat.reduceBEq, Nat.reduceDiv, Nat.reduceMod, Int.reduceToNat, Int.reduceLT, Int.reduceLE, Int.reduceAdd, Int.reduceSub, Int.reduceMul, Int.reduceEq, Int.reduceNeg, reduceCtorEq, resV, resAll, ARes.ev, LV.flat, ite_true, ite_false, exists_eq_left', exists_eq_left, keyOf, implies_true, fillC, capOf]
  refine callK_of (h_l1Same (Live.newj (M := M) (j := 2) (b := .row (intL s2) true 1) rfl).has h1.app (by omega) l1) ?_
  simp (disch := omega) only [↓SXd, SXu, slBounds, ↓sop, ↓aop, ↓reduceIte, LV.cells, AOp.dst, LV.I, LV.B, LV.U, LV.S, LV.nil, Nat.reduceEqDiff, Nat.reduceAdd, Nat.reduceMul, Nat.reduceSub, Nat.reduceLeDiff, Nat.reduceBEq, Nat.reduceDiv, Nat.reduceMod, Int.reduceToNat, Int.reduceLT, Int.reduceLE, Int.reduceAdd, Int.reduceSub, Int.reduceMul, Int.reduceEq, Int.reduceNeg, reduceCtorEq, resV, resAll, ARes.ev, LV.flat, ite_true, ite_false, exists_eq_left', exists_eq_left, keyOf, implies_true, fillC, capOf]
  by_cases e2 : s2 = tp
  · simp (disch := omega) only [e2, true_and, ↓SXd, SXu, slBounds, ↓sop, ↓aop, ↓reduceIte, LV.cells, AOp.dst, LV.I, LV.B, LV.U, LV.S, LV.nil, Nat.reduceEqDiff, Nat.reduceAdd, Nat.reduceMul, Nat.reduceSub, Nat.reduceLeDiff, Nat.reduceBEq, Nat.reduceDiv, Nat.reduceMod, Int.reduceToNat, Int.reduceLT, Int.reduceLE, Int.reduceAdd, Int.reduceSub, Int.reduceMul, Int.reduceEq, Int.reduceNeg, reduceCtorEq, resV, resAll, ARes.ev, LV.flat, ite_true, ite_false, exists_eq_left', exists_eq_left, keyOf, implies_true, fillC, capOf]
    refine callK_of (c1 _ (Pre.app _ _)) ?_
    simp (disch := omega) only [↓SXd, SXu, slBounds, ↓sop, ↓aop, ↓reduceIte, LV.cells, AOp.dst, LV.I, LV.B, LV.U, LV.S, LV.nil, Nat.reduceEqDiff, Nat.reduceAdd, Nat.reduceMul, Nat.reduceSub, Nat.reduceLeDiff, Nat.reduceBEq, Nat.reduceDiv, Nat.reduceMod, Int.reduceToNat, Int.reduceLT, Int.reduceLE, Int.reduceAdd, Int.reduceSub, Int.reduceMul, Int.reduceEq, Int.reduceNeg, reduceCtorEq, resV, resAll, ARes.ev, LV.flat, ite_true, ite_false, exists_eq_left', exists_eq_left, keyOf, implies_true, fillC, capOf]
    refine callK_of (h_l1Same (Live.newj (M := M) (j := 3) (b := .row (intL s1) true 1) rfl).has h2.app (by omega) l2) ?_
    simp (disch := omega) only [↓SXd, SXu, slBounds, ↓sop, ↓aop, ↓reduceIte, LV.cells, AOp.dst, LV.I, LV.B, LV.U, LV.S, LV.nil, Nat.reduceEqDiff, Nat.reduceAdd, Nat.reduceMul, Nat.reduceSub, Nat.reduceLeDiff, Nat.reduceBEq, Nat.reduceDiv, Nat.reduceMod, Int.reduceToNat, Int.reduceLT, Int.reduceLE, Int.reduceAdd, Int.reduceSub, Int.reduceMul, Int.reduceEq, Int.reduceNeg, reduceCtorEq, resV, resAll, ARes.ev, LV.flat, ite_true, ite_false, exists_eq_left', exists_eq_left, keyOf, implies_true, fillC, capOf]
    by_cases e1 : s1 = fr
    · simp (disch := omega) only [e1, true_and, ↓SXd, SXu, slBounds, ↓sop, ↓aop, ↓reduceIte, LV.cells, AOp.dst, LV.I, LV.B, LV.U, LV.S, LV.nil, Nat.reduceEqDiff, Nat.reduceAdd, Nat.reduceMul, Nat.reduceSub, Nat.reduceLeDiff, Nat.reduceBEq, Nat.reduceDiv, Nat.reduceMod, Int.reduceToNat, Int.reduceLT, Int.reduceLE, Int.reduceAdd, Int.reduceSub, Int.reduceMul, Int.reduceEq, Int.reduceNeg, reduceCtorEq, resV, resAll, ARes.ev, LV.flat, ite_true, ite_false, exists_eq_left', exists_eq_left, keyOf, implies_true, fillC, capOf]
      refine callK_of (c0 _ (Pre.app _ _)) ?_
      simp (disch := omega) only [↓SXd, SXu, slBounds, ↓sop, ↓aop, ↓reduceIte, LV.cells, AOp.dst, LV.I, LV.B, LV.U, LV.S, LV.nil, Nat.reduceEqDiff, Nat.reduceAdd, Nat.reduceMul, Nat.reduceSub, Nat.reduceLeDiff, Nat.reduceBEq, Nat.reduceDiv, Nat.reduceMod, Int.reduceToNat, Int.reduceLT, Int.reduceLE, Int.reduceAdd, Int.reduceSub, Int.reduceMul, Int.reduceEq, Int.reduceNeg, reduceCtorEq, resV, resAll, ARes.ev, LV.flat, ite_true, ite_false, exists_eq_left', exists_eq_left, keyOf, implies_true, fillC, capOf]
      refine callK_of (h_l1Same (Live.newj (M := M) (j := 4) (b := .row (intL s0) true 1) rfl).has h3.app (by omega) l3) ?_
      simp (disch := omega) only [↓SXd, SXu, slBounds, ↓sop, ↓aop, ↓reduceIte, LV.cells, AOp.dst, LV.I, LV.B, LV.U, LV.S, LV.nil, Nat.reduceEqDiff, Nat.reduceAdd, Nat.reduceMul, Nat.reduceSub, Nat.reduceLeDiff, Nat.reduceBEq, Nat.reduceDiv, Nat.reduceMod, Int.reduceToNat, Int.reduceLT, Int.reduceLE, Int.reduceAdd, Int.reduceSub, Int.reduceMul, Int.reduceEq, Int.reduceNeg, reduceCtorEq, resV, resAll, ARes.ev, LV.flat, ite_true, ite_false, exists_eq_left', exists_eq_left, keyOf, implies_true, fillC, capOf]
      exact cmp_drop rfl
    · simp (disch := omega) only [e1, false_and, ↓SXd, SXu, slBounds, ↓sop, ↓aop, ↓reduceIte, LV.cells, AOp.dst, LV.I, LV.B, LV.U, LV.S, LV.nil, Nat.reduceEqDiff, Nat.reduceAdd, Nat.reduceMul, Nat.reduceSub, Nat.reduceLeDiff, Nat.reduceBEq, Nat.reduceDiv, Nat.reduceMod, Int.reduceToNat, Int.reduceLT, Int.reduceLE, Int.reduceAdd, Int.reduceSub, Int.reduceMul, Int.reduceEq, Int.reduceNeg, reduceCtorEq, resV, resAll, ARes.ev, LV.flat, ite_true, ite_false, exists_eq_left', exists_eq_left, keyOf, implies_true, fillC, capOf]
      exact cmp_drop rfl
  · simp (disch := omega) only [e2, false_and, ↓SXd, SXu, slBounds, ↓sop, ↓aop, ↓reduceIte, LV.cells, AOp.dst, LV.I, LV.B, LV.U, LV.S, LV.nil, Nat.reduceEqDiff, Nat.reduceAdd, Nat.reduceMul, Nat.reduceSub, Nat.reduceLeDiff, Nat.reduceBEq, Nat.reduceDiv, Nat.reduceMod, Int.reduceToNat, Int.reduceLT, Int.reduceLE, Int.reduceAdd, Int.reduceSub, Int.reduceMul, Int.reduceEq, Int.reduceNeg, reduceCtorEq, resV, resAll, ARes.ev, LV.flat, ite_true, ite_false, exists_eq_left', exists_eq_left, keyOf, implies_true, fillC, capOf]
    exact cmp_drop rfl
theorem h_l3Fit {x y z : Int} {t o t' o' t2 o2 : Nat} {tp fr sd : List Int} {M : Mem} (h1 : Ints M t o tp) (h2 : Ints M t' o' fr) (h3 : Ints M t2 o2 sd) (l1 : tp.length ≤ 1000000000) (l2 : fr.length ≤ 1000000000) (l3 : sd.length ≤ 1000000000) :
    CallsTo PG F.spec_l3Fit [.agg [.I x, .I y, .I z, .ref t o tp.length, .ref t' o' fr.length, .ref t2 o2 sd.length]] M (.B (decide (ShdOK x y z tp fr sd ∧ HasShd x y z tp fr sd (pick x y z (allowedB y z tp fr sd))))) M := by
  refine calls_run K.spec_l3Fit rfl ?_
  simp (disch := omega) only [C.spec_l3Fit, ↓SXd, SXu, slBounds, ↓sop, ↓aop, ↓reduceIte, LV.cells, AOp.dst, LV.I, LV.B, LV.U, LV.S, LV.nil, Nat.reduceEqDiff, Nat.reduceAdd, Nat.reduceMul, Nat.reduceSub, Nat.reduceLeDiff, Nat.reduceBEq, Nat.reduceDiv, Nat.reduceMod, Int.reduceToNat, Int.reduceLT, Int.reduceLE, Int.reduceAdd, Int.reduceSub, Int.reduceMul, Int.reduceEq, Int.reduceNeg, reduceCtorEq, resV, resAll, ARes.ev, LV.flat, ite_true, ite_false, exists_eq_left', exists_eq_left, keyOf, implies_true, fillC, capOf]
  refine callK_of (h_l3Shadow h1.app h2.app h3.app l1 l2 l3) ?_
  simp (disch := omega) only [↓SXd, SXu, slBounds, ↓sop, ↓aop, ↓reduceIte, LV.cells, AOp.dst, LV.I, LV.B, LV.U, LV.S, LV.nil, Nat.reduceEqDiff, Nat.reduceAdd, Nat.reduceMul, Nat.reduceSub, Nat.reduceLeDiff, Nat.reduceBEq, Nat.reduceDiv, Nat.reduceMod, Int.reduceToNat, Int.reduceLT, Int.reduceLE, Int.reduceAdd, Int.reduceSub, Int.reduceMul, Int.reduceEq, Int.reduceNeg, reduceCtorEq, resV, resAll, ARes.ev, LV.flat, ite_true, ite_false, exists_eq_left', exists_eq_left, keyOf, implies_true, fillC, capOf]
  by_cases hok : ShdOK x y z tp fr sd
  · simp (disch := omega) only [hok, true_and, ↓SXd, SXu, slBounds, ↓sop, ↓aop, ↓reduceIte, LV.cells, AOp.dst, LV.I, LV.B, LV.U, LV.S, LV.nil, Nat.reduceEqDiff, Nat.reduceAdd, Nat.reduceMul, Nat.reduceSub, Nat.reduceLeDiff, Nat.reduceBEq, Nat.reduceDiv, Nat.reduceMod, Int.reduceToNat, Int.reduceLT, Int.reduceLE, Int.reduceAdd, Int.reduceSub, Int.reduceMul, Int.reduceEq, Int.reduceNeg, reduceCtorEq, resV, resAll, ARes.ev, LV.flat, ite_true, ite_false, exists_eq_left', exists_eq_left, keyOf, implies_true, fillC, capOf]
    refine callK_of (h_l3Allowed h1.app h2.app h3.app hok) ?_
    simp (disch := omega) only [↓SXd, SXu, slBounds, ↓sop, ↓aop, ↓reduceIte, LV.cells, AOp.dst, LV.I, LV.B, LV.U, LV.S, LV.nil, Nat.reduceEqDiff, Nat.reduceAdd, Nat.reduceMul, Nat.reduceSub, Nat.reduceLeDiff, Nat.reduceBEq, Nat.reduceDiv, Nat.reduceMod, Int.reduceToNat, Int.reduceLT, Int.reduceLE, Int.reduceAdd, Int.reduceSub, Int.reduceMul, Int.reduceEq, Int.reduceNeg, reduceCtorEq, resV, resAll, ARes.ev, LV.flat, ite_true, ite_false, exists_eq_left', exists_eq_left, keyOf, implies_true, fillC, capOf]
    refine callK_of (h_l3Has h1.app h2.app h3.app l1 l2 l3 (Live.newj (M := M) (j := 1) (b := .row (triL (pick x y z (allowedB y z tp fr sd))) true 3) rfl).has (pick_ok hok.1 _)) ?_
    simp (disch := omega) only [↓SXd, SXu, slBounds, ↓sop, ↓aop, ↓reduceIte, LV.cells, AOp.dst, LV.I, LV.B, LV.U, LV.S, LV.nil, Nat.reduceEqDiff, Nat.reduceAdd, Nat.reduceMul, Nat.reduceSub, Nat.reduceLeDiff, Nat.reduceBEq, Nat.reduceDiv, Nat.reduceMod, Int.reduceToNat, Int.reduceLT, Int.reduceLE, Int.reduceAdd, Int.reduceSub, Int.reduceMul, Int.reduceEq, Int.reduceNeg, reduceCtorEq, resV, resAll, ARes.ev, LV.flat, ite_true, ite_false, exists_eq_left', exists_eq_left, keyOf, implies_true, fillC, capOf]
    exact cmp_drop rfl
  · simp (disch := omega) only [hok, false_and, ↓SXd, SXu, slBounds, ↓sop, ↓aop, ↓reduceIte, LV.cells, AOp.dst, LV.I, LV.B, LV.U, LV.S, LV.nil, Nat.reduceEqDiff, Nat.reduceAdd, Nat.reduceMul, Nat.reduceSub, Nat.reduceLeDiff, Nat.reduceBEq, Nat.reduceDiv, Nat.reduceMod, Int.reduceToNat, Int.reduceLT, Int.reduceLE, Int.reduceAdd, Int.reduceSub, Int.reduceMul, Int.reduceEq, Int.reduceNeg, reduceCtorEq, resV, resAll, ARes.ev, LV.flat, ite_true, ite_false, exists_eq_left', exists_eq_left, keyOf, implies_true, fillC, capOf]
    exact cmp_drop rfl
end Go.Ab
