/- Parts of the proof of FnSightsSaid: Lt Lm. -/
import Derived.Test.YthgljdbfkojpeaaA2
set_option linter.all false
/- Code: what the abstract machine says of it holds in the model. -/
namespace Go.Ab
open Go Go.RowKit

def prepC (P : Program) (N : Nat) : Code → ACode
  | .skip => .skip
  | .region _ ops draw => if draw then prepDraw P N ops else .ops (ops.toList.map (prepG P N ops))
  | .seq a b => .seq (prepC P N a) (prepC P N b)
  | .cond c a b => match prepX c with
    | some c => .cond c (prepC P N a) (prepC P N b)
    | none => .bad
  | .block id a => .block id (prepC P N a)
  | .loop a => .loop (prepC P N a)
  | .exit id => .exit id
  | .label _ => .skip
  | .ret => .ret
  | _ => .bad

def prepR (P : Program) : ResultVar → Option ARes
  | .tmp t => some (.tmp t)
  | .cell t ty => match sizeT P ty with
    | some n => some (if aggT P ty then .cellN t n else .cell1 t)
    | none => none

def prepRs (P : Program) : List ResultVar → Option (List ARes)
  | [] => some []
  | r :: rs => match prepR P r, prepRs P rs with
    | some x, some xs => some (x :: xs)
    | _, _ => none

def prepF (P : Program) (f : FuncId) : Option AFn :=
  match P.funcs[f]? with
  | some fn => match fn.body, prepRs P fn.results.toList with
    | some c, some rs => if fn.params.size + fn.nfree ≤ fn.ntmps && hasTextB P f then some ⟨fn.params.size + fn.nfree, fn.ntmps, rs, prepC P fn.ntmps c⟩ else none
    | _, _ => none
  | none => none

section
variable {P : Program} {N : Nat}

def AExit.up : AExit → Exit
  | .normal => .normal
  | .exit i => .exit i
  | .ret => .ret

theorem wp_loopN {c : Code} {Q : Exit → Act → World → Prop} (I : Nat → Act → World → Prop) (round : ∀ m a w, I m a w → c.wp P (Exit.then (fun a' w' => ∃ m', m' < m ∧ I m' a' w') Q) a w) {m : Nat} {a : Act} {w : World} (h0 : I m a w) :
    (Code.loop c).wp P Q a w := by
  intro b k cs
  have key : ∀ n a w, I n a w → ∃ e a' w', Q e a' w' ∧ Arrives P (lone (b.at a (.code c :: .inLoop c :: k)) cs w) b k cs e a' w' := by
    intro n
    induction n using Nat.strongRecOn with
    | _ n ih =>
      intro a w hI
      obtain ⟨e, a₁, w₁, hq, harr⟩ := round n a w hI b (.inLoop c :: k) cs
      cases e with
      | normal =>
        obtain ⟨m', hlt, hI₁⟩ := hq
        obtain ⟨e₂, a₂, w₂, hq₂, harr₂⟩ := ih m' hlt a₁ w₁ hI₁
        exact ⟨e₂, a₂, w₂, hq₂, .of_steps (Steps.trans harr (.one step_inLoop)) harr₂⟩
      | exit id => exact ⟨_, a₁, w₁, hq, .pass (x := .inLoop c) rfl (fun _ _ => .inl (by simp)) harr⟩
      | goto l => exact ⟨_, a₁, w₁, hq, .pass (x := .inLoop c) rfl (fun _ _ => .inl (by simp)) harr⟩
      | ret => exact ⟨_, a₁, w₁, hq, .pass (x := .inLoop c) rfl (fun _ _ => .inl (by simp)) harr⟩
      | panic ch => exact ⟨_, a₁, w₁, hq, .pass (x := .inLoop c) rfl (fun _ _ => .inl (by simp)) harr⟩
      | outgrown => exact ⟨_, a₁, w₁, hq, .pass (x := .inLoop c) rfl (fun _ _ => .inl (by simp)) harr⟩
  obtain ⟨e, a', w', hq, harr⟩ := key m a w h0
  exact ⟨e, a', w', hq, .of_steps (.one step_loop) harr⟩

theorem code_sound : ∀ (c : Code) (G : Gh) (fr : Fr) (M : Mem) (a : Act) (w : World) (Q : AExit → Fr → Mem → Prop) (R : Exit → Act → World → Prop), Rel N G fr M a w → EvC P (prepC P N c) fr M Q →
    (∀ e fr' M' G' a' w', Q e fr' M' → Rel N G' fr' M' a' w' → Step G M w G' M' w' → R e.up a' w') → c.wp P R a w := by
  intro c
  induction c with
  | skip => intro G fr M a w Q R hr hev hq; exact wp_skip (hq .normal _ _ _ _ _ hev hr Step.refl)
  | region id ops draw =>
    intro G fr M a w Q R hr hev hq
    simp only [prepC] at hev
    cases draw with
    | true =>
      simp only [if_true] at hev
      refine draw_sound (K := Q .normal) ?_ hr fun fr' M' G' a' w' h1 h2 h3 => hq .normal _ _ _ _ _ h1 h2 h3
      unfold prepDraw at hev ⊢
      simp only at hev ⊢
      split at hev
      · rename_i hc
        rw [if_pos hc]
        simp only [EvC] at hev ⊢
        exact hev
      · exact hev.elim
    | false =>
      simp only [Bool.false_eq_true, if_false, EvC] at hev
      refine wp_region (ops_sound ops (List.range ops.size) G fr M a w (Q .normal) (fun i hi => by simpa using hi) hr ?_ fun a' w' hn => ?_)
      · have : (List.range ops.size).map (fun i => prepG P N ops (ops.getD i default)) = ops.toList.map (prepG P N ops) := by
          apply List.ext_getElem?
          intro i
          by_cases hi : i < ops.size
          · simp [hi]
          · simp [hi]
        rw [this]; exact hev
      · obtain ⟨fr', M', G', h1, h2, h3⟩ := hn
        exact hq .normal _ _ _ _ _ h1 h2 h3
  | seq x y ihx ihy =>
    intro G fr M a w Q R hr hev hq
    simp only [prepC, EvC] at hev
    refine wp_seq (ihx G fr M a w _ _ hr hev fun e fr' M' G' a' w' h1 h2 h3 => ?_)
    cases e with
    | normal => exact ihy G' fr' M' a' w' Q R h2 h1 fun e fr'' M'' G'' a'' w'' k1 k2 k3 => hq e _ _ _ _ _ k1 k2 (h3.trans k3)
    | exit i => exact hq (.exit i) _ _ _ _ _ h1 h2 h3
    | ret => exact hq .ret _ _ _ _ _ h1 h2 h3
  | cond c x y ihx ihy =>
    intro G fr M a w Q R hr hev hq
    simp only [prepC] at hev
    split at hev
    · rename_i c' hc
      simp only [EvC] at hev
      split at hev
      · rename_i t ht
        have hv := hr.opd hc
        rw [ht] at hv
        exact wp_cond_split (vr_val hv).1 (fun e => ihx G fr M a w Q R hr (hev.1 e) hq) (fun e => ihy G fr M a w Q R hr (hev.2 e) hq)
      · exact hev.elim
    · exact hev.elim
  | block id x ih =>
    intro G fr M a w Q R hr hev hq
    simp only [prepC, EvC] at hev
    refine wp_block (ih G fr M a w _ _ hr hev fun e fr' M' G' a' w' h1 h2 h3 => ?_)
    cases e with
    | normal => exact hq .normal _ _ _ _ _ h1 h2 h3
    | exit i =>
      simp only [blockK] at h1
      simp only [AExit.up, Exit.inBlock]
      split at h1
      · rename_i hi; rw [if_pos hi]; exact hq .normal _ _ _ _ _ h1 h2 h3
      · rename_i hi; rw [if_neg hi]; exact hq (.exit i) _ _ _ _ _ h1 h2 h3
    | ret => exact hq .ret _ _ _ _ _ h1 h2 h3
  | loop x ih =>
    intro G fr M a w Q R hr hev hq
    simp only [prepC, EvC] at hev
    obtain ⟨I, m, h0, hround⟩ := hev
    refine wp_loopN (P := P) (fun m a' w' => ∃ fr' M' G', I m fr' M' ∧ Rel N G' fr' M' a' w' ∧ Step G M w G' M' w') (fun m a1 w1 hI => ?_) (m := m) ⟨fr, M, G, h0, hr, Step.refl⟩
    obtain ⟨fr1, M1, G1, i1, r1, s1⟩ := hI
    refine ih G1 fr1 M1 a1 w1 _ _ r1 (hround m fr1 M1 i1) fun e fr' M' G' a' w' h1 h2 h3 => ?_
    cases e with
    | normal => obtain ⟨m', hlt, hI'⟩ := h1; exact ⟨m', hlt, fr', M', G', hI', h2, s1.trans h3⟩
    | exit i => exact hq (.exit i) _ _ _ _ _ h1 h2 (s1.trans h3)
    | ret => exact hq .ret _ _ _ _ _ h1 h2 (s1.trans h3)
  | exit id => intro G fr M a w Q R hr hev hq; exact wp_exit (hq (.exit id) _ _ _ _ _ hev hr Step.refl)
  | label l => intro G fr M a w Q R hr hev hq; exact wp_label (hq .normal _ _ _ _ _ hev hr Step.refl)
  | ret => intro G fr M a w Q R hr hev hq; exact wp_ret (hq .ret _ _ _ _ _ hev hr Step.refl)
  | _ => intro G fr M a w Q R hr hev hq; exact hev.elim
end
end Go.Ab

/- A function: from what the abstract machine says of its text to what a call of it does. -/
namespace Go.Ab
open Go Go.RowKit

section
variable {G Ge G' : Gh} {M Me N : Mem} {w w' : World} {ρ : Nat → Nat}

theorem vr1_rn {l : LV} {x : Value} (h : VR1 Ge (rn1 ρ l) x) : VR1 (fun t => Ge (ρ t)) l x := by
  cases l <;> simp only [rn1] at h <;> try exact h
  case clo f cs =>
    obtain ⟨xs, h1, h2⟩ := h
    refine ⟨xs, h1, ?_⟩
    clear h1
    induction cs generalizing xs with
    | nil => cases xs with
      | nil => trivial
      | cons => exact h2.elim
    | cons c cs ih => cases xs with
      | nil => exact h2.elim
      | cons y ys => exact ⟨h2.1, ih ys h2.2⟩

theorem all2_rn {R S : LV → Value → Prop} {f : LV → LV} (h : ∀ l x, R (f l) x → S l x) : ∀ {ls : List LV} {xs : List Value}, All2 R (ls.map f) xs → All2 S ls xs
  | [], [], _ => trivial
  | [], _ :: _, hh => hh.elim
  | _ :: _, [], hh => hh.elim
  | _ :: _, _ :: _, hh => ⟨h _ _ hh.1, all2_rn h hh.2⟩

theorem vr0_rn {l : LV} {x : Value} (h : VR0 Ge (rn0 ρ l) x) : VR0 (fun t => Ge (ρ t)) l x := by
  cases l
  case agg cs => obtain ⟨xs, h1, h2⟩ := h; exact ⟨xs, h1, all2_rn (fun _ _ => vr1_rn) h2⟩
  case val v => exact h
  case ref => exact h
  case ptr => exact h
  case mp => exact h
  case clo f cs => exact (vr1_rn (l := .clo f cs) h).vr0
  case tup => exact h.elim
  case junk => exact h.elim

theorem vr_rn {l : LV} {x : Value} (h : VR Ge (rn ρ l) x) : VR (fun t => Ge (ρ t)) l x := by
  cases l
  case tup cs => obtain ⟨xs, h1, h2⟩ := h; exact ⟨xs, h1, all2_rn (fun _ _ => vr0_rn) h2⟩
  case agg cs => exact (vr0_rn (l := .agg cs) h).vr
  case val v => exact h
  case ref => exact h
  case ptr => exact h
  case mp => exact h
  case clo f cs => exact (vr1_rn (l := .clo f cs) h).vr
  case junk => trivial

/-- A value that had a meaning before means the same under names that agree on what was there. -/
theorem vr1_old (hi : Inv G M w) (hag : ∀ t, t < M.length → G' t = Ge t) {l : LV} {x0 x : Value} (h0 : VR1 G l x0) (h : VR1 Ge l x) : VR1 G' l x := by
  have lt : ∀ {t β}, G t = some β → t < M.length := fun {t β} e => by
    rcases Nat.lt_or_ge t M.length with h' | h'
    · exact h'
    · rw [hi.top t h'] at e; cases e
  cases l <;> simp only [VR1] at h0 h ⊢
  case val => exact h
  case ref t o n => obtain ⟨β, h1, _⟩ := h0; rw [hag t (lt h1)]; exact h
  case ptr t o => obtain ⟨β, h1, _⟩ := h0; unfold VRp at h ⊢; rw [hag t (lt h1)]; exact h
  case mp t => obtain ⟨β, h1, _⟩ := h0; rw [hag t (lt h1)]; exact h
  case clo f cs =>
    obtain ⟨xs0, hx0, k0⟩ := h0
    obtain ⟨xs, h1, k⟩ := h
    refine ⟨xs, h1, ?_⟩
    clear h1 hx0
    induction cs generalizing xs xs0 with
    | nil => cases xs with
      | nil => trivial
      | cons => exact k.elim
    | cons c cs ih => cases xs with
      | nil => exact k.elim
      | cons y ys => cases xs0 with
        | nil => exact k0.elim
        | cons y0 ys0 =>
          refine ⟨?_, ih ys0 k0.2 ys k.2⟩
          obtain ⟨β, e1, _⟩ := k0.1
          have := k.1
          unfold VRp at this ⊢
          rw [hag _ (lt e1)]
          exact this

theorem vr0_old (hi : Inv G M w) (hag : ∀ t, t < M.length → G' t = Ge t) {l : LV} {x0 x : Value} (h0 : VR0 G l x0) (h : VR0 Ge l x) : VR0 G' l x := by
  cases l
  case agg cs =>
    obtain ⟨xs0, _, k0⟩ := h0
    obtain ⟨xs, h1, k⟩ := h
    refine ⟨xs, h1, All2.of_get k.length fun i a b ha hb => ?_⟩
    obtain ⟨b0, e1, e2⟩ := k0.get ha
    obtain ⟨b', e3, e4⟩ := k.get ha
    rw [hb] at e3; cases e3
    exact vr1_old hi hag e2 e4
  case val v => exact (vr1_old hi hag (l := .val v) h0 h).vr0
  case ref t o n => exact (vr1_old hi hag (l := .ref t o n) h0 h).vr0
  case ptr t o => exact (vr1_old hi hag (l := .ptr t o) h0 h).vr0
  case mp t => exact (vr1_old hi hag (l := .mp t) h0 h).vr0
  case clo f cs => exact (vr1_old hi hag (l := .clo f cs) h0 h).vr0
  case tup => exact h0.elim
  case junk => exact h0.elim

theorem embB_old (hi : Inv G M w) (hag : ∀ t, t < M.length → G' t = Ge t) {blk : Blk} {β β0 : Base} (h0 : EmbB G w blk β0) (h : EmbB Ge w' blk β) : EmbB G' w' blk β := by
  cases blk with
  | row cs own e =>
    obtain ⟨h1, h⟩ := h
    refine ⟨h1, ?_⟩
    rcases h with h | ⟨hv, c, ty, fz, a1, a2, a3, a4⟩
    · exact .inl h
    · refine .inr ⟨hv, c, ty, fz, a1, a2, a3, fun j l hj => ?_⟩
      obtain ⟨x, e1, e2⟩ := a4 j l hj
      rcases h0.2 with h0 | ⟨_, _, _, _, _, _, _, b4⟩
      · rw [h0.2] at hj; simp at hj
      · obtain ⟨x0, _, e3⟩ := b4 j l hj
        exact ⟨x, e1, vr1_old hi hag e3 e2⟩
  | map es =>
    obtain ⟨hv, en, cl, a1, a2⟩ := h
    obtain ⟨_, en0, cl0, _, b2⟩ := h0
    refine ⟨hv, en, cl, a1, All2.of_get a2.length fun i a b ha hb => ?_⟩
    obtain ⟨b0, e1, e2⟩ := b2.get ha
    obtain ⟨b', e3, e4⟩ := a2.get ha
    rw [hb] at e3; cases e3
    exact ⟨vr0_old hi hag e2.1 e4.1, vr1_old hi hag e2.2 e4.2⟩

theorem all2_map_rn {R S : LV × LV → MapEntry → Prop} {f : LV × LV → LV × LV} (h : ∀ l x, R (f l) x → S l x) : ∀ {ls : List (LV × LV)} {xs : List MapEntry}, All2 R (ls.map f) xs → All2 S ls xs
  | [], [], _ => trivial
  | [], _ :: _, hh => hh.elim
  | _ :: _, [], hh => hh.elim
  | _ :: _, _ :: _, hh => ⟨h _ _ hh.1, all2_map_rn h hh.2⟩

theorem embB_rn {blk : Blk} {β : Base} (h : EmbB Ge w' (rnB ρ blk) β) : EmbB (fun t => Ge (ρ t)) w' blk β := by
  cases blk with
  | row cs own e =>
    obtain ⟨h1, h⟩ := h
    refine ⟨h1, ?_⟩
    rcases h with ⟨h, h'⟩ | ⟨hv, c, ty, fz, a1, a2, a3, a4⟩
    · exact .inl ⟨h, by simpa using h'⟩
    · refine .inr ⟨hv, c, ty, fz, a1, a2, by simpa using a3, fun j l hj => ?_⟩
      obtain ⟨x, e1, e2⟩ := a4 j (rn1 ρ l) (by simp [hj])
      exact ⟨x, e1, vr1_rn e2⟩
  | map es =>
    obtain ⟨hv, en, cl, a1, a2⟩ := h
    exact ⟨hv, en, cl, a1, all2_map_rn (fun l x hh => ⟨vr0_rn hh.1, vr1_rn hh.2⟩) a2⟩

theorem isOwn_rnB (blk : Blk) : (rnB ρ blk).isOwn = blk.isOwn := by cases blk <;> rfl

/-- **What a function's end leaves.** -/
theorem cmp_sound {ve v : LV} {x : Value} (hi : Inv G M w) (hs : Step G M w Ge Me w') (hie : Inv Ge Me w') (hv : VR Ge ve x) (hc : Cmp M Me ve N v) :
    ∃ G', VR G' v x ∧ Inv G' N w' ∧ Step G M w G' N w' := by
  obtain ⟨⟨ρ, r1, r2, r3, r4, rfl⟩, hlen⟩ := hc
  have hag : ∀ t, t < M.length → (fun t => Ge (ρ t)) t = Ge t := fun t ht => by simp only [r1 t ht]
  -- each block of N lies in Me
  have look : ∀ t blk, Live N t blk → ∃ blk', Live Me (ρ t) blk' ∧ blk'.isOwn = blk.isOwn ∧ ∀ β, Ge (ρ t) = some β → EmbB (fun t => Ge (ρ t)) w' blk β := by
    intro t blk hl
    rcases r3 t blk hl with ⟨h1, h2⟩ | ⟨h1, _⟩
    · refine ⟨blk, h1, rfl, fun β hβ => ?_⟩
      obtain ⟨β', hg', he'⟩ := hie.emb _ _ h1
      rw [hβ] at hg'; cases hg'
      obtain ⟨β0, _, h0⟩ := hi.emb t blk h2
      exact embB_old hi hag h0 he'
    · refine ⟨_, h1, isOwn_rnB blk, fun β hβ => ?_⟩
      obtain ⟨β', hg', he'⟩ := hie.emb _ _ h1
      rw [hβ] at hg'; cases hg'
      exact embB_rn he'
  refine ⟨fun t => Ge (ρ t), vr_rn hv, ⟨fun t blk hl => ?_, fun t t' b1 b2 β β' htt h1 h2 ho hg hg' hv1 hv2 => ?_, fun t ht => hie.top _ (r2 t ht)⟩,
    ⟨fun t ht => (hag t ht).trans (hs.gh t ht), hlen, hs.size, hs.os, hs.tape, hs.output, hs.keep, fun b hb => hs.own b ?_, fun t blk hl ho => ?_⟩⟩
  · obtain ⟨blk', h1, h2, h3⟩ := look t blk hl
    obtain ⟨β, hg, _⟩ := hie.emb _ _ h1
    exact ⟨β, hg, h3 β hg⟩
  · obtain ⟨b1', k1, k2, _⟩ := look t b1 h1
    obtain ⟨b2', m1, _, _⟩ := look t' b2 h2
    exact hie.sep (ρ t) (ρ t') b1' b2' β β' (fun e => htt (r4 t t' b1 b2 h1 h2 e)) k1 m1 (by rw [k2]; exact ho) hg hg' hv1 hv2
  · obtain ⟨t, blk, β, h1, h2, h3, h4, h5⟩ := hb
    obtain ⟨blk', k1, k2, _⟩ := look t blk h1
    exact ⟨ρ t, blk', β, k1, by rw [k2]; exact h2, h3, h4, h5⟩
  · rcases r3 t blk hl with ⟨_, h2⟩ | ⟨_, h2⟩
    · exact h2
    · rw [h2] at ho; cases ho
end

section
variable {P : Program}

def resOne (tmps : Array Value) : ResultVar → Sem Value
  | .tmp t => pure (tmps.getD t undef)
  | .cell c t => do loadVar t (← asAddr (tmps.getD c undef))

theorem results_eq (fn : Func) (tmps : Array Value) : results fn tmps = (do let vs ← fn.results.mapM (resOne tmps); pure (if h : vs.size = 1 then vs[0] else .tuple vs)) := by
  unfold results
  congr 1

theorem res_run {n : Nat} {G : Gh} {fr : Fr} {M : Mem} {a : Act} {w : World} (hr : Rel n G fr M a w) : ∀ {rs : List ResultVar} {as : List ARes} {vs : List LV}, prepRs P rs = some as → resAll fr M as = some vs →
    ∃ xs : List Value, (rs.mapM (resOne a.tmps)).run P w = .ok xs w ∧ All2 (VR0 G) vs xs
  | [], as, vs, hp, hv => by
    simp only [prepRs] at hp; cases hp
    simp [resAll] at hv; subst hv
    exact ⟨[], by simp, trivial⟩
  | r :: rs, as, vs, hp, hv => by
    haveI := sem_lawful
    simp only [prepRs] at hp
    cases h1 : prepR P r with
    | none => rw [h1] at hp; simp at hp
    | some x =>
      cases h2 : prepRs P rs with
      | none => rw [h1, h2] at hp; simp at hp
      | some as' =>
        rw [h1, h2] at hp; simp at hp; subst hp
        simp only [resAll] at hv
        cases h3 : x.ev fr M with
        | none => rw [h3] at hv; simp at hv
        | some l =>
          cases h4 : resAll fr M as' with
          | none => rw [h3, h4] at hv; simp at hv
          | some ls =>
            rw [h3, h4] at hv; simp at hv; subst hv
            obtain ⟨xs, hx1, hx2⟩ := res_run hr h2 h4
            have h5 : ∃ u, (resOne a.tmps r).run P w = .ok u w ∧ VR0 G l u := by
              cases r with
              | tmp t =>
                simp only [prepR] at h1; cases h1
                simp only [ARes.ev] at h3
                split at h3
                · rename_i hf
                  cases h3
                  refine ⟨_, rfl, ?_⟩
                  have := hr.slots t
                  cases hfr : fr t <;> rw [hfr] at this hf <;> first | exact this | cases hf
                · cases h3
              | cell c t =>
                simp only [prepR] at h1
                cases hsz : sizeT P t with
                | none => rw [hsz] at h1; cases h1
                | some k =>
                  rw [hsz] at h1
                  simp only at h1
                  have hagg := aggT_run (w := w) hsz
                  have hsl := hr.slots c
                  cases hag : aggT P t with
                  | true =>
                    rw [hag] at h1; simp at h1; subst h1
                    simp only [ARes.ev] at h3
                    split at h3
                    · rename_i t' o hpt
                      obtain ⟨cs, hcs, rfl⟩ := map_some' h3
                      rw [hpt] at hsl
                      obtain ⟨b, o', us, hx, hl, hcell, hall⟩ := emba_cells hr.inv.emba (vr_ptr hsl) hcs
                      refine ⟨.agg us.toArray, ?_, ⟨us, rfl, hall⟩⟩
                      have := run_loadCells_list (P := P) w ⟨b, o', none⟩ us (fun j u hj => by rw [addr_add]; exact hcell j u hj)
                      rw [hl] at this
                      simp only [resOne, hx, asAddr, Sem.run_bind, Sem.run_pure, Result.andThen_ok, loadVar, hagg, hag, if_true, sizeT_run hsz, this]
                    · cases h3
                  | false =>
                    rw [hag] at h1; simp at h1; subst h1
                    simp only [ARes.ev] at h3
                    split at h3
                    · rename_i t' o hpt
                      rw [hpt] at hsl
                      obtain ⟨ad, u, hx, hcell, hvr⟩ := emba_cell hr.inv.emba (vr_ptr hsl) h3
                      refine ⟨u, ?_, hvr.vr0⟩
                      simp only [resOne, hx, asAddr, Sem.run_bind, Sem.run_pure, Result.andThen_ok, loadVar, hagg, hag, Bool.false_eq_true, if_false, run_load]
                      rw [hcell]
                    · cases h3
            obtain ⟨u, hu1, hu2⟩ := h5
            refine ⟨u :: xs, ?_, ⟨hu2, hx2⟩⟩
            rw [List.mapM_cons]
            simp only [Sem.run_bind, hu1, hx1, Result.andThen_ok, Sem.run_pure]

theorem results_run {n : Nat} {G : Gh} {fr : Fr} {M : Mem} {a : Act} {w : World} {fn : Func} {as : List ARes} {v : LV} (hr : Rel n G fr M a w) (hp : prepRs P fn.results.toList = some as) (hv : resV fr M as = some v) :
    ∃ x, (results fn a.tmps).run P w = .ok x w ∧ VR G v x := by
  haveI := sem_lawful
  unfold resV at hv
  cases h1 : resAll fr M as with
  | none => rw [h1] at hv; simp at hv
  | some vs =>
    rw [h1] at hv
    obtain ⟨xs, hx1, hx2⟩ := res_run (P := P) hr hp h1
    have hrun : (results fn a.tmps).run P w = .ok (if h : xs.toArray.size = 1 then xs.toArray[0] else .tuple xs.toArray) w := by
      rw [results_eq]
      simp only [Array.mapM_eq_mapM_toList]
      simp only [Sem.run_bind, Sem.run_map, hx1, Result.andThen_ok, Sem.run_pure]
    refine ⟨_, hrun, ?_⟩
    match vs, xs, hx2, hv with
    | [l], [x], h, hv =>
      simp at hv; subst hv
      simpa using h.1.vr
    | [], [], _, hv => simp at hv; subst hv; exact ⟨[], rfl, trivial⟩
    | l1 :: l2 :: ls, x1 :: x2 :: xs, h, hv =>
      simp at hv; subst hv
      rw [dif_neg (by simp)]
      exact ⟨_, rfl, h⟩
    | [], _ :: _, h, _ => exact h.elim
    | [_], [], h, _ => exact h.elim
    | [_], _ :: _ :: _, h, _ => exact h.2.elim
    | _ :: _ :: _, [], h, _ => exact h.elim
    | _ :: _ :: _, [_], h, _ => exact h.2.elim

/-- **A call of a function.** -/
theorem callsR_of_ev {f : FuncId} {fn : AFn} {args : List LV} {M : Mem} {Post : LV → Mem → Prop} (hp : prepF P f = some fn) (he : EvR P fn args M Post) : CallsR P f args M Post := by
  unfold prepF at hp
  split at hp
  · rename_i F hF
    split at hp
    · rename_i c rs hc hrs
      split at hp
      · rename_i hcond
        cases hp
        simp only [Bool.and_eq_true, decide_eq_true_eq] at hcond
        obtain ⟨hnp, htx⟩ := hcond
        refine ⟨hasText_of htx, fun G w xs hi hxs => ?_⟩
        obtain ⟨hlen, hev⟩ := he
        have hxl := hxs.length
        refine calls_of_wp hF hc ?_
        have hr : Rel F.ntmps G (fun i => args.getD i undefL) M { tmps := xs.toArray ++ Array.replicate (F.ntmps - xs.toArray.size) undef, defers := [] } w := by
          refine ⟨by simp; simp at hlen; omega, rfl, fun i => ?_, hi⟩
          by_cases hia : i < args.length
          · obtain ⟨x, hx1, hx2⟩ := hxs.get (List.getElem?_eq_getElem hia)
            have e1 : args.getD i undefL = args[i] := by simp [List.getD_eq_getElem?_getD, hia]
            have hix : i < xs.length := by omega
            have e2 : (xs.toArray ++ Array.replicate (F.ntmps - xs.toArray.size) undef).getD i undef = x := by
              rw [Array.getD_eq_getD_getElem?, Array.getElem?_append_left (by simpa using hix)]
              simp only [List.getElem?_toArray, hx1, Option.getD_some]
            rw [e1, e2]; exact hx2
          · have e1 : args.getD i undefL = undefL := by rw [List.getD_eq_getElem?_getD, List.getElem?_eq_none (by omega)]; rfl
            have e2 : (xs.toArray ++ Array.replicate (F.ntmps - xs.toArray.size) undef).getD i undef = undef := by
              rw [Array.getD_eq_getD_getElem?, Array.getElem?_append_right (by simp; omega), Array.getElem?_replicate]
              split <;> rfl
            rw [e1, e2]; exact vr_undef G
        refine code_sound c G _ M _ w _ _ hr hev fun e fr' Me Ge a' w' hq h2 h3 => ?_
        obtain ⟨hne, ve, hve, hpost⟩ := hq
        obtain ⟨x, hx1, hx2⟩ := results_run (fn := F) h2 hrs hve
        rcases hne with rfl | rfl
        · exact ⟨h2.defers, x, hx1, ve, Me, x, Ge, hpost, rfl, hx2, h2.inv, h3⟩
        · exact ⟨h2.defers, x, hx1, ve, Me, x, Ge, hpost, rfl, hx2, h2.inv, h3⟩
      · cases hp
    · cases hp
  · cases hp

/-- What is let go at a function's end. -/
theorem CallsR.cmp {f : FuncId} {args : List LV} {M : Mem} {Post : LV → Mem → Prop} (h : CallsR P f args M fun ve Me => ∃ v N, Cmp M Me ve N v ∧ Post v N) : CallsR P f args M Post := by
  refine ⟨h.1, fun G w xs hi hxs => (h.2 G w xs hi hxs).mono ?_⟩
  rintro e w' ⟨ve, Me, x, Ge, ⟨v, N, hc, hp⟩, rfl, h1, h2, h3⟩
  obtain ⟨G', k1, k2, k3⟩ := cmp_sound hi h3 h2 h1 hc
  exact ⟨v, N, x, G', hp, rfl, k1, k2, k3⟩


theorem calls_of_ev {f : FuncId} {fn : AFn} {args : List LV} {M N : Mem} {v : LV} (hp : prepF P f = some fn) (he : EvR P fn args M fun ve Me => Cmp M Me ve N v) : CallsTo P f args M v N :=
  CallsR.cmp ((callsR_of_ev hp he).mono fun _ _ h => ⟨_, _, h, rfl, rfl⟩)
end
end Go.Ab
