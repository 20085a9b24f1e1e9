/- Parts of the proof of FnHolesSaid: Qd C_Br K_Br C_Bp K_Bp Bo C_Qa K_Qa Qa Bp Br Qe C_On K_On C_Og K_Og C_Of K_Of Of Og Oi Om On C_Hi K_Hi C_Hh K_Hh C_Th K_Th C_Tg K_Tg Tg Th C_Pe K_Pe Pd. -/
import Derived.Test.YtggnfklcgopflaaA8
import Derived.Test.YtggnfklcgopflaaA3
import Derived.Test.YtggnfklcgopflaaA4
import Derived.Test.YtggnfklcgopflaaProg
import Derived.KernelRfl
import Derived.Test.YtggnfklcgopflaaA6
import Derived.Test.YtggnfklcgopflaaA7
set_option linter.all false
namespace Go.Ab
open Go
set_option maxRecDepth 20000

def lfC (c : Cell) : Cell := ⟨2 * c.a, 2 * c.b + 1, 2 * c.c + 1⟩
def wN (z : Cell → Bool) : Nat → Int → Int → Bool
  | 0, _, _ => false
  | n + 1, b, c => wN z n b c ^^ z ⟨2 * (n : Int), 2 * b + 1, 2 * c + 1⟩
def wC (z : Cell → Bool) (d : Cell) : Bool := wN z (d.a + 1).toNat d.b d.c
structure ChnC (x y z' : Int) (cs lc : List Cell) (z : Cell → Bool) : Prop where
  hp : HeapOK x y z' cs
  bod : ∀ p, z p = true → inBody cs p
  knd : ∀ p, z p = true → p.a % 2 + p.b % 2 + p.c % 2 = 2
  cub : ∀ c ∈ cs, z (lfC c) = false
  cav : ∀ c ∈ lc, z (lfC c) = false
  bnd : ∀ p, p.a % 2 + p.b % 2 + p.c % 2 = 1 → bdC z p = false
  led : ∀ d : Cell, d.inBox x y z' → closed x y z' (fun c => decide (c ∈ cs)) d = true → ∃ l ∈ lc, l.inBox x y z' ∧ closed x y z' (fun c => decide (c ∈ cs)) l = true ∧ l.a ≤ d.a ∧ Reach x y z' (fun e => decide (e = l)) (closed x y z' fun c => decide (c ∈ cs)) d
section
variable {x y z' : Int} {cs lc : List Cell} {z : Cell → Bool} (h : ChnC x y z' cs lc z)
include h
theorem ChnC.out {p : Cell} (hp : ∀ c ∈ cs, ¬ inC c p) : z p = false := by
  cases hz : z p with
  | false => rfl
  | true =>
    obtain ⟨c, h1, h2⟩ := body_iff.1 (h.bod p hz)
    exact absurd h2 (hp c h1)
theorem ChnC.noBody {p : Cell} (hp : ¬ ((0 ≤ p.a ∧ p.a ≤ 2 * x) ∧ (0 ≤ p.b ∧ p.b ≤ 2 * y) ∧ (0 ≤ p.c ∧ p.c ≤ 2 * z'))) : z p = false := h.out fun e he hi => hp (by
  obtain ⟨⟨_, _⟩, ⟨_, _⟩, ⟨_, _⟩⟩ := h.hp.mem he
  obtain ⟨⟨_, _⟩, ⟨_, _⟩, ⟨_, _⟩⟩ := hi
  omega)
theorem ChnC.range {b c : Int} (hr : b < 0 ∨ y ≤ b ∨ c < 0 ∨ z' ≤ c) : ∀ n, wN z n b c = false := fun n => by
  induction n with
  | zero => rfl
  | succ n ih =>
    unfold wN
    rw [ih, h.noBody (p := ⟨2 * (n : Int), 2 * b + 1, 2 * c + 1⟩) (by simp only; omega)]
    rfl
theorem ChnC.stepY (n : Nat) (b c : Int) : (wN z n b c ^^ wN z n (b - 1) c) = z ⟨2 * (n : Int) - 1, 2 * b, 2 * c + 1⟩ := by
  induction n with
  | zero => rw [h.noBody (p := ⟨2 * ((0 : Nat) : Int) - 1, 2 * b, 2 * c + 1⟩) (by simp only; omega)]; rfl
  | succ n ih =>
    have hb := h.bnd ⟨2 * (n : Int), 2 * b, 2 * c + 1⟩ (by simp only; omega)
    unfold bdC at hb
    simp only at hb
    rw [if_pos (show (2 * (n : Int)) % 2 = 0 by omega), if_pos (show (2 * b) % 2 = 0 by omega), if_neg (show ¬ (2 * c + 1) % 2 = 0 by omega)] at hb
    have e1 : 2 * ((n + 1 : Nat) : Int) - 1 = 2 * (n : Int) + 1 := by omega
    have e2 : 2 * (b - 1) + 1 = 2 * b - 1 := by omega
    unfold wN
    rw [e1, e2]
    revert ih hb
    generalize z ⟨2 * (n : Int) + 1, 2 * b, 2 * c + 1⟩ = q1
    generalize z ⟨2 * (n : Int) - 1, 2 * b, 2 * c + 1⟩ = q2
    generalize z ⟨2 * (n : Int), 2 * b + 1, 2 * c + 1⟩ = q3
    generalize z ⟨2 * (n : Int), 2 * b - 1, 2 * c + 1⟩ = q4
    generalize wN z n b c = q5
    generalize wN z n (b - 1) c = q6
    clear e1 e2
    revert q1 q2 q3 q4 q5 q6
    decide
theorem ChnC.stepZ (n : Nat) (b c : Int) : (wN z n b c ^^ wN z n b (c - 1)) = z ⟨2 * (n : Int) - 1, 2 * b + 1, 2 * c⟩ := by
  induction n with
  | zero => rw [h.noBody (p := ⟨2 * ((0 : Nat) : Int) - 1, 2 * b + 1, 2 * c⟩) (by simp only; omega)]; rfl
  | succ n ih =>
    have hb := h.bnd ⟨2 * (n : Int), 2 * b + 1, 2 * c⟩ (by simp only; omega)
    unfold bdC at hb
    simp only at hb
    rw [if_pos (show (2 * (n : Int)) % 2 = 0 by omega), if_neg (show ¬ (2 * b + 1) % 2 = 0 by omega), if_pos (show (2 * c) % 2 = 0 by omega)] at hb
    have e1 : 2 * ((n + 1 : Nat) : Int) - 1 = 2 * (n : Int) + 1 := by omega
    have e2 : 2 * (c - 1) + 1 = 2 * c - 1 := by omega
    unfold wN
    rw [e1, e2]
    revert ih hb
    generalize z ⟨2 * (n : Int) + 1, 2 * b + 1, 2 * c⟩ = q1
    generalize z ⟨2 * (n : Int) - 1, 2 * b + 1, 2 * c⟩ = q2
    generalize z ⟨2 * (n : Int), 2 * b + 1, 2 * c + 1⟩ = q3
    generalize z ⟨2 * (n : Int), 2 * b + 1, 2 * c - 1⟩ = q4
    generalize wN z n b c = q5
    generalize wN z n b (c - 1) = q6
    clear e1 e2
    revert q1 q2 q3 q4 q5 q6
    decide
theorem ChnC.behind {n : Nat} (hn : x + 1 ≤ (n : Int)) (c : Int) (b : Nat) : wN z n (b : Int) c = false := by
  induction b with
  | zero =>
    have h1 := h.stepY n ((0 : Nat) : Int) c
    rw [h.range (b := ((0 : Nat) : Int) - 1) (c := c) (.inl (by omega)) n, h.noBody (p := ⟨2 * (n : Int) - 1, 2 * ((0 : Nat) : Int), 2 * c + 1⟩) (by simp only; omega), Bool.xor_false] at h1
    exact h1
  | succ b ih =>
    have h1 := h.stepY n ((b + 1 : Nat) : Int) c
    rw [show ((b + 1 : Nat) : Int) - 1 = (b : Int) by omega, ih, h.noBody (p := ⟨2 * (n : Int) - 1, 2 * ((b + 1 : Nat) : Int), 2 * c + 1⟩) (by simp only; omega), Bool.xor_false] at h1
    exact h1
theorem ChnC.far {d : Cell} (hd : -1 ≤ d.a) (ho : ¬ d.inBox x y z') : wC z d = false := by
  unfold wC
  by_cases hr : d.b < 0 ∨ y ≤ d.b ∨ d.c < 0 ∨ z' ≤ d.c
  · exact h.range hr _
  · by_cases h0 : d.a = -1
    · rw [h0]; rfl
    · have h1 : x ≤ d.a := by
        unfold Cell.inBox at ho
        omega
      have := h.behind (n := (d.a + 1).toNat) (by omega) d.c d.b.toNat
      rwa [Int.toNat_of_nonneg (by omega)] at this
theorem ChnC.keyX {a b c : Int} (ha : -1 ≤ a) (h1 : (⟨a, b, c⟩ : Cell) ∉ cs) (h2 : (⟨a + 1, b, c⟩ : Cell) ∉ cs) : wC z ⟨a + 1, b, c⟩ = wC z ⟨a, b, c⟩ := by
  obtain ⟨n, hn⟩ : ∃ n : Nat, a + 1 = n := ⟨(a + 1).toNat, by omega⟩
  have hz : z ⟨2 * (n : Int), 2 * b + 1, 2 * c + 1⟩ = false := h.out fun f hf hi => by
    obtain ⟨⟨_, _⟩, ⟨_, _⟩, ⟨_, _⟩⟩ := hi
    simp only at *
    by_cases q : f.a = a
    · exact h1 (by rwa [show (⟨a, b, c⟩ : Cell) = f from cell_eq.2 ⟨q.symm, by simp only; omega, by simp only; omega⟩])
    · exact h2 (by rwa [show (⟨a + 1, b, c⟩ : Cell) = f from cell_eq.2 ⟨by simp only; omega, by simp only; omega, by simp only; omega⟩])
  have e : wN z (n + 1) b c = wN z n b c := by
    show (wN z n b c ^^ z ⟨2 * (n : Int), 2 * b + 1, 2 * c + 1⟩) = _
    rw [hz, Bool.xor_false]
  unfold wC
  simp only
  rw [hn, show ((n : Int) + 1).toNat = n + 1 by omega, Int.toNat_natCast]
  exact e
theorem ChnC.keyY {a b c : Int} (ha : -1 ≤ a) (h1 : (⟨a, b, c⟩ : Cell) ∉ cs) (h2 : (⟨a, b + 1, c⟩ : Cell) ∉ cs) : wC z ⟨a, b + 1, c⟩ = wC z ⟨a, b, c⟩ := by
  obtain ⟨n, hn⟩ : ∃ n : Nat, a + 1 = n := ⟨(a + 1).toNat, by omega⟩
  have hz : z ⟨2 * (n : Int) - 1, 2 * (b + 1), 2 * c + 1⟩ = false := h.out fun f hf hi => by
    obtain ⟨⟨_, _⟩, ⟨_, _⟩, ⟨_, _⟩⟩ := hi
    simp only at *
    by_cases q : f.b = b
    · exact h1 (by rwa [show (⟨a, b, c⟩ : Cell) = f from cell_eq.2 ⟨by simp only; omega, q.symm, by simp only; omega⟩])
    · exact h2 (by rwa [show (⟨a, b + 1, c⟩ : Cell) = f from cell_eq.2 ⟨by simp only; omega, by simp only; omega, by simp only; omega⟩])
  have hs := h.stepY n (b + 1) c
  rw [hz, show b + 1 - 1 = b by omega] at hs
  unfold wC
  simp only
  rw [hn, Int.toNat_natCast]
  revert hs
  generalize wN z n (b + 1) c = q1
  generalize wN z n b c = q2
  cases q1 <;> cases q2 <;> decide
theorem ChnC.keyZ {a b c : Int} (ha : -1 ≤ a) (h1 : (⟨a, b, c⟩ : Cell) ∉ cs) (h2 : (⟨a, b, c + 1⟩ : Cell) ∉ cs) : wC z ⟨a, b, c + 1⟩ = wC z ⟨a, b, c⟩ := by
  obtain ⟨n, hn⟩ : ∃ n : Nat, a + 1 = n := ⟨(a + 1).toNat, by omega⟩
  have hz : z ⟨2 * (n : Int) - 1, 2 * b + 1, 2 * (c + 1)⟩ = false := h.out fun f hf hi => by
    obtain ⟨⟨_, _⟩, ⟨_, _⟩, ⟨_, _⟩⟩ := hi
    simp only at *
    by_cases q : f.c = c
    · exact h1 (by rwa [show (⟨a, b, c⟩ : Cell) = f from cell_eq.2 ⟨by simp only; omega, by simp only; omega, q.symm⟩])
    · exact h2 (by rwa [show (⟨a, b, c + 1⟩ : Cell) = f from cell_eq.2 ⟨by simp only; omega, by simp only; omega, by simp only; omega⟩])
  have hs := h.stepZ n b (c + 1)
  rw [hz, show c + 1 - 1 = c by omega] at hs
  unfold wC
  simp only
  rw [hn, Int.toNat_natCast]
  revert hs
  generalize wN z n b (c + 1) = q1
  generalize wN z n b c = q2
  cases q1 <;> cases q2 <;> decide
theorem ChnC.same {d e : Cell} (hd : -1 ≤ d.a) (he : -1 ≤ e.a) (hda : d ∉ cs) (hea : e ∉ cs) (hap : apart d e = 1) : wC z d = wC z e := by
  obtain ⟨a, b, c⟩ := d
  obtain ⟨a', b', c'⟩ := e
  unfold apart at hap
  simp only at hap hd he
  by_cases ea : a' = a
  · subst ea
    by_cases eb : b' = b
    · subst eb
      rcases (show c' = c + 1 ∨ c = c' + 1 by omega) with rfl | rfl
      · exact (h.keyZ hd hda hea).symm
      · exact h.keyZ he hea hda
    · have ec : c' = c := by omega
      subst ec
      rcases (show b' = b + 1 ∨ b = b' + 1 by omega) with rfl | rfl
      · exact (h.keyY hd hda hea).symm
      · exact h.keyY he hea hda
  · have eb : b' = b := by omega
    have ec : c' = c := by omega
    subst eb
    subst ec
    rcases (show a' = a + 1 ∨ a = a' + 1 by omega) with rfl | rfl
    · exact (h.keyX hd hda hea).symm
    · exact h.keyX he hea hda
theorem ChnC.outer {d : Cell} (hd : outer x y z' (fun c => decide (c ∈ cs)) d = true) : wC z d = false := by
  unfold Go.Ab.outer at hd
  rw [reach_iff] at hd
  have : (d.inBox x y z' ∧ d ∉ cs) ∧ wC z d = false := by
    refine hd.ind (P := fun d => (d.inBox x y z' ∧ d ∉ cs) ∧ wC z d = false) (fun c hc hr => ?_) fun c e ⟨⟨h1, h2⟩, h3⟩ h4 h5 h6 => ?_
    · simp only [Bool.and_eq_true, Bool.not_eq_true', decide_eq_false_iff_not] at hr
      obtain ⟨hr1, hr2⟩ := hr
      unfold onRim at hr2
      rw [decide_eq_true_eq] at hr2
      refine ⟨⟨hc, hr1⟩, ?_⟩
      obtain ⟨⟨c1, c2⟩, ⟨c3, c4⟩, c5, c6⟩ := id hc
      have go : ∀ e : Cell, -1 ≤ e.a → ¬ e.inBox x y z' → apart c e = 1 → wC z c = false := fun e e1 e2 e3 => by
        rw [h.same (by omega) e1 hr1 (fun hm => e2 (h.hp.mem hm)) e3]
        exact h.far e1 e2
      rcases hr2 with q | q | q | q | q | q
      · exact go ⟨c.a - 1, c.b, c.c⟩ (by simp only; omega) (fun hb => by obtain ⟨⟨_, _⟩, ⟨_, _⟩, _, _⟩ := hb; simp only at *; omega) (by unfold apart; simp only; omega)
      · exact go ⟨c.a, c.b - 1, c.c⟩ (by simp only; omega) (fun hb => by obtain ⟨⟨_, _⟩, ⟨_, _⟩, _, _⟩ := hb; simp only at *; omega) (by unfold apart; simp only; omega)
      · exact go ⟨c.a, c.b, c.c - 1⟩ (by simp only; omega) (fun hb => by obtain ⟨⟨_, _⟩, ⟨_, _⟩, _, _⟩ := hb; simp only at *; omega) (by unfold apart; simp only; omega)
      · exact go ⟨c.a + 1, c.b, c.c⟩ (by simp only; omega) (fun hb => by obtain ⟨⟨_, _⟩, ⟨_, _⟩, _, _⟩ := hb; simp only at *; omega) (by unfold apart; simp only; omega)
      · exact go ⟨c.a, c.b + 1, c.c⟩ (by simp only; omega) (fun hb => by obtain ⟨⟨_, _⟩, ⟨_, _⟩, _, _⟩ := hb; simp only at *; omega) (by unfold apart; simp only; omega)
      · exact go ⟨c.a, c.b, c.c + 1⟩ (by simp only; omega) (fun hb => by obtain ⟨⟨_, _⟩, ⟨_, _⟩, _, _⟩ := hb; simp only at *; omega) (by unfold apart; simp only; omega)
    · simp only [Bool.not_eq_true', decide_eq_false_iff_not] at h6
      obtain ⟨⟨c1, _⟩, _⟩ := id h1
      obtain ⟨⟨c2, _⟩, _⟩ := id h5
      exact ⟨⟨h5, h6⟩, by rw [← h.same (by omega) (by omega) h2 h6 h4]; exact h3⟩
  exact this.2
theorem ChnC.all : ∀ (n : Nat) (d : Cell), d.inBox x y z' → d.a = n → wC z d = false := by
  intro n
  induction n using Nat.strongRecOn with
  | ind n ih =>
    intro d hd hn
    have left : ∀ e : Cell, e.inBox x y z' → e.a = n → z (lfC e) = false → wC z e = false := fun e he hen hz => by
      obtain ⟨⟨c1, c2⟩, ⟨c3, c4⟩, c5, c6⟩ := id he
      unfold wC
      rw [hen, show ((n : Int) + 1).toNat = n + 1 by omega]
      unfold wN
      unfold lfC at hz
      rw [hen] at hz
      rw [hz, Bool.xor_false]
      cases n with
      | zero => rfl
      | succ m =>
        have := ih m (by omega) ⟨(m : Int), e.b, e.c⟩ ⟨⟨by simp only; omega, by simp only; omega⟩, ⟨c3, c4⟩, ⟨c5, c6⟩⟩ rfl
        unfold wC at this
        simp only at this
        rwa [show ((m : Int) + 1).toNat = m + 1 by omega] at this
    by_cases hc : d ∈ cs
    · exact left d hd hn (h.cub d hc)
    · cases ho : Go.Ab.outer x y z' (fun c => decide (c ∈ cs)) d with
      | true => exact h.outer ho
      | false =>
        have hcl : closed x y z' (fun c => decide (c ∈ cs)) d = true := by
          unfold closed; rw [ho]; simp [hc]
        obtain ⟨l, hl, hlb, hlq, hla, hr⟩ := h.led d hd hcl
        have hclo : ∀ e : Cell, closed x y z' (fun c => decide (c ∈ cs)) e = true → e ∉ cs := fun e he => by
          unfold closed at he
          simp only [Bool.and_eq_true, Bool.not_eq_true', decide_eq_false_iff_not] at he
          exact he.1
        have hw0 : wC z l = false := by
          rcases Int.lt_or_eq_of_le hla with hlt | heq
          · obtain ⟨⟨c1, _⟩, _⟩ := id hlb
            exact ih l.a.toNat (by omega) l hlb (by omega)
          · exact left l hlb (by omega) (h.cav l hl)
        have hlc := hclo l hlq
        have := hr.ind (P := fun e => e.inBox x y z' ∧ e ∉ cs ∧ wC z e = false) (fun e he hel => by rw [of_decide_eq_true hel]; exact ⟨hlb, hlc, hw0⟩) fun e f ⟨h1, h2, h3⟩ h4 h5 h6 => by
          obtain ⟨⟨c1, _⟩, _⟩ := id h1
          obtain ⟨⟨c2, _⟩, _⟩ := id h5
          exact ⟨h5, hclo f h6, by rw [← h.same (by omega) (by omega) h2 (hclo f h6) h4]; exact h3⟩
        exact this.2.2
theorem ChnC.allW : ∀ (m : Nat) (b c : Int), wN z m b c = false
  | 0, _, _ => rfl
  | m + 1, b, c => by
    have : wC z ⟨(m : Int), b, c⟩ = false := by
      by_cases hb : (⟨(m : Int), b, c⟩ : Cell).inBox x y z'
      · exact h.all m _ hb rfl
      · exact h.far (by simp only; omega) hb
    unfold wC at this
    simp only at this
    rwa [show ((m : Int) + 1).toNat = m + 1 by omega] at this
theorem ChnC.zero (p : Cell) : z p = false := by
  cases hz : z p with
  | false => rfl
  | true =>
    exfalso
    have hk := h.knd p hz
    obtain ⟨e, he, hi⟩ := body_iff.1 (h.bod p hz)
    obtain ⟨⟨_, _⟩, ⟨_, _⟩, ⟨_, _⟩⟩ := h.hp.mem he
    obtain ⟨⟨_, _⟩, ⟨_, _⟩, ⟨_, _⟩⟩ := hi
    by_cases h1 : p.a % 2 = 0
    · have e1 : p = ⟨2 * (((p.a / 2).toNat : Nat) : Int), 2 * (p.b / 2) + 1, 2 * (p.c / 2) + 1⟩ := cell_eq.2 ⟨by simp only; omega, by simp only; omega, by simp only; omega⟩
      have h3 := h.allW ((p.a / 2).toNat + 1) (p.b / 2) (p.c / 2)
      unfold wN at h3
      rw [h.allW, ← e1, hz] at h3
      cases h3
    · by_cases h2 : p.b % 2 = 0
      · have e1 : p = ⟨2 * ((((p.a + 1) / 2).toNat : Nat) : Int) - 1, 2 * (p.b / 2), 2 * (p.c / 2) + 1⟩ := cell_eq.2 ⟨by simp only; omega, by simp only; omega, by simp only; omega⟩
        have h3 := h.stepY ((p.a + 1) / 2).toNat (p.b / 2) (p.c / 2)
        rw [h.allW, h.allW, ← e1, hz] at h3
        cases h3
      · have e1 : p = ⟨2 * ((((p.a + 1) / 2).toNat : Nat) : Int) - 1, 2 * (p.b / 2) + 1, 2 * (p.c / 2)⟩ := cell_eq.2 ⟨by simp only; omega, by simp only; omega, by simp only; omega⟩
        have h3 := h.stepZ ((p.a + 1) / 2).toNat (p.b / 2) (p.c / 2)
        rw [h.allW, h.allW, ← e1, hz] at h3
        cases h3
end
end Go.Ab

namespace Go.Ab.C
open Go.Ab
def impl_Heap_counts : AFn :=
 ⟨1, 65, [.cellN 2 4],
 .seq (.ops [(none, .box 1 (.t 0)),
 (none, .alloc 2 [(.I 0), (.I 0), (.I 0), (.I 0)])])
 (.seq (.ops [(none, .mkmap 9),
 (none, .build 10 [(.I 0), (.I 0), (.I 0), (.I 0)] []),
 (none, .alloc 4 [(.I 0), (.I 0), (.I 0), (.I 0)]),
 (none, .mv 3 (.t 9)),
 (none, .store 4 (.t 4) (.t 10))])
 (.seq (.seq (.ops [(none, .fieldAddr 11 (.t 1) 3),
 (none, .load1 12 (.t 11)),
 (none, .len 13 (.t 12)),
 (none, .mv 14 (.c (.I 0)))])
 (.block 0 (.loop (.seq (.ops [(none, .bin 15 .lss (.t 14) (.t 13))])
 (.seq (.cond (.t 15) (.skip)
 (.exit 0))
 (.seq (.block 1 (.seq (.ops [(none, .idxS 16 3 (.t 12) (.t 14)),
 (none, .loadN 17 3 (.t 16)),
 (none, .alloc 6 [(.I 0), (.I 0), (.I 0)]),
 (none, .store 3 (.t 6) (.t 17))])
 (.seq (.ops [(none, .mv 18 (.c (.I 0)))])
 (.block 2 (.loop (.seq (.ops [(none, .bin 19 .lss (.t 18) (.c (.I 27)))])
 (.seq (.cond (.t 19) (.skip)
 (.exit 2))
 (.seq (.block 3 (.seq (.ops [(none, .mv 20 (.t 18)),
 (none, .mv 7 (.t 20))])
 (.seq (.ops [(none, .idxA 21 3 1 (.t 6) (.c (.I 0))),
 (none, .load1 22 (.t 21)),
 (none, .bin 23 .mul (.c (.I 2)) (.t 22)),
 (none, .mv 24 (.t 7)),
 (none, .bin 25 .rem (.t 24) (.c (.I 3))),
 (none, .bin 26 .add (.t 23) (.t 25)),
 (none, .idxA 27 3 1 (.t 6) (.c (.I 1))),
 (none, .load1 28 (.t 27)),
 (none, .bin 29 .mul (.c (.I 2)) (.t 28)),
 (none, .mv 30 (.t 7)),
 (none, .bin 31 .quo (.t 30) (.c (.I 3))),
 (none, .bin 32 .rem (.t 31) (.c (.I 3))),
 (none, .bin 33 .add (.t 29) (.t 32)),
 (none, .idxA 34 3 1 (.t 6) (.c (.I 2))),
 (none, .load1 35 (.t 34)),
 (none, .bin 36 .mul (.c (.I 2)) (.t 35)),
 (none, .mv 37 (.t 7)),
 (none, .bin 38 .quo (.t 37) (.c (.I 9))),
 (none, .bin 39 .add (.t 36) (.t 38)),
 (none, .build 40 [(.I 0), (.I 0), (.I 0)] [(0, 1, (.t 26)), (1, 1, (.t 33)), (2, 1, (.t 39))]),
 (none, .alloc 8 [(.I 0), (.I 0), (.I 0)]),
 (none, .store 3 (.t 8) (.t 40))])
 (.seq (.ops [(none, .mv 41 (.t 3)),
 (none, .loadN 42 3 (.t 8)),
 (none, .lookup 43 3 (.t 41) (.t 42) (.bool false) false),
 (none, .un 44 .not (.t 43))])
 (.cond (.t 44) (.seq (.ops [(none, .mv 45 (.t 3)),
 (none, .loadN 46 3 (.t 8)),
 (none, .mupd 3 (.t 45) (.t 46) (.c (.B true)))])
 (.ops [(none, .idxA 47 3 1 (.t 8) (.c (.I 0))),
 (none, .load1 48 (.t 47)),
 (none, .bin 49 .rem (.t 48) (.c (.I 2))),
 (none, .idxA 50 3 1 (.t 8) (.c (.I 1))),
 (none, .load1 51 (.t 50)),
 (none, .bin 52 .rem (.t 51) (.c (.I 2))),
 (none, .bin 53 .add (.t 49) (.t 52)),
 (none, .idxA 54 3 1 (.t 8) (.c (.I 2))),
 (none, .load1 55 (.t 54)),
 (none, .bin 56 .rem (.t 55) (.c (.I 2))),
 (none, .bin 57 .add (.t 53) (.t 56)),
 (none, .idxA 58 4 1 (.t 4) (.t 57)),
 (none, .load1 59 (.t 58)),
 (none, .bin 60 .add (.t 59) (.c (.I 1))),
 (none, .idxA 61 4 1 (.t 4) (.t 57)),
 (none, .store 1 (.t 61) (.t 60))]))
 (.skip))))))
 (.ops [(none, .bin 62 .add (.t 18) (.c (.I 1))),
 (none, .mv 18 (.t 62))])))))))))
 (.ops [(none, .bin 63 .add (.t 14) (.c (.I 1))),
 (none, .mv 14 (.t 63))])))))))
 (.seq (.ops [(none, .loadN 64 4 (.t 4)),
 (none, .store 4 (.t 2) (.t 64))])
 (.ret))))⟩
def impl_Heap_euler : AFn :=
 ⟨1, 17, [.tmp 2],
 .seq (.ops [(none, .box 1 (.t 0)),
 (none, .mv 2 (.c (.I 0)))])
 (.seq (.ops [(none, .loadN 4 4 (.t 1)),
 (none, .call (some 5) F.impl_Heap_counts [(.t 4)]),
 (none, .alloc 3 [(.I 0), (.I 0), (.I 0), (.I 0)]),
 (none, .store 4 (.t 3) (.t 5))])
 (.seq (.ops [(none, .idxA 6 4 1 (.t 3) (.c (.I 0))),
 (none, .load1 7 (.t 6)),
 (none, .idxA 8 4 1 (.t 3) (.c (.I 1))),
 (none, .load1 9 (.t 8)),
 (none, .bin 10 .sub (.t 7) (.t 9)),
 (none, .idxA 11 4 1 (.t 3) (.c (.I 2))),
 (none, .load1 12 (.t 11)),
 (none, .bin 13 .add (.t 10) (.t 12)),
 (none, .idxA 14 4 1 (.t 3) (.c (.I 3))),
 (none, .load1 15 (.t 14)),
 (none, .bin 16 .sub (.t 13) (.t 15)),
 (none, .mv 2 (.t 16))])
 (.ret)))⟩
end Go.Ab.C

namespace Go.Ab.K
open Go Go.Ab
theorem impl_Heap_counts : prepF Go.Proofs.Try.prog F.impl_Heap_counts = some C.impl_Heap_counts := by kernel_rfl
theorem impl_Heap_euler : prepF Go.Proofs.Try.prog F.impl_Heap_euler = some C.impl_Heap_euler := by kernel_rfl
end Go.Ab.K

namespace Go.Ab.C
open Go.Ab
def impl_Heap_clusters : AFn :=
 ⟨1, 50, [.tmp 2],
 .seq (.ops [(none, .box 1 (.t 0)),
 (none, .mv 2 (.c .nil))])
 (.seq (.draw [⟨(none, .loadN 10 4 (.t 1)), [], []⟩,
 ⟨(none, .loadN 12 4 (.t 1)), [], []⟩,
 ⟨(none, .buildSl 14 0 1 [] []), [], []⟩,
 ⟨(none, .alloc 3 [(.I 0), (.I 0), (.I 0)]), [], []⟩,
 ⟨(none, .call (some 11) F.impl_Heap_box [(.t 10)]), [2, 3], [1]⟩,
 ⟨(none, .call (some 13) F.impl_Heap_cubes [(.t 12)]), [2, 3], []⟩,
 ⟨(none, .store 3 (.t 3) (.t 11)), [2], []⟩,
 ⟨(none, .mv 4 (.t 13)), [], []⟩,
 ⟨(none, .mv 5 (.t 14)), [], []⟩])
 (.seq (.block 0 (.loop (.seq (.seq (.ops [(none, .mv 15 (.t 4)),
 (none, .bin 16 .neq (.t 15) (.c (.U 0)))])
 (.cond (.t 16) (.skip)
 (.exit 0)))
 (.block 1 (.seq (.ops [(none, .mv 17 (.t 4)),
 (none, .mv 18 (.t 4)),
 (none, .un 19 .neg (.t 18)),
 (none, .bin 20 .and (.t 17) (.t 19)),
 (none, .mv 6 (.t 20))])
 (.seq (.block 2 (.loop (.block 3 (.seq (.ops [(none, .mv 21 (.t 6)),
 (none, .mv 7 (.t 21))])
 (.seq (.seq (.ops [(none, .loadN 22 3 (.t 3)),
 (none, .mv 23 (.t 6)),
 (none, .call (some 24) F.impl_box_list [(.t 22), (.t 23)]),
 (none, .len 25 (.t 24)),
 (none, .mv 26 (.c (.I 0)))])
 (.block 4 (.loop (.seq (.ops [(none, .bin 27 .lss (.t 26) (.t 25))])
 (.seq (.cond (.t 27) (.skip)
 (.exit 4))
 (.seq (.block 5 (.seq (.ops [(none, .idxS 28 3 (.t 24) (.t 26)),
 (none, .loadN 29 3 (.t 28)),
 (none, .alloc 9 [(.I 0), (.I 0), (.I 0)]),
 (none, .store 3 (.t 9) (.t 29))])
 (.ops [(none, .mv 30 (.t 7)),
 (none, .mv 31 (.t 4)),
 (none, .loadN 32 3 (.t 3)),
 (none, .mkf 33 F.impl_Heap_clusters_1 [(.t 9)]),
 (none, .call (some 34) F.impl_box_those [(.t 32), (.t 33)]),
 (none, .bin 35 .and (.t 31) (.t 34)),
 (none, .bin 36 .or (.t 30) (.t 35)),
 (none, .mv 7 (.t 36))])))
 (.ops [(none, .bin 37 .add (.t 26) (.c (.I 1))),
 (none, .mv 26 (.t 37))])))))))
 (.seq (.seq (.ops [(none, .mv 38 (.t 7)),
 (none, .mv 39 (.t 6)),
 (none, .bin 40 .eql (.t 38) (.t 39))])
 (.cond (.t 40) (.exit 2)
 (.skip)))
 (.ops [(none, .mv 41 (.t 7)),
 (none, .mv 6 (.t 41))])))))))
 (.seq (.ops [(none, .mv 42 (.t 5)),
 (none, .mv 43 (.t 6)),
 (none, .buildSl 44 1 1 [(.U 0)] [(0, 1, (.t 43))]),
 (none, .append 45 1 8 (.t 42) (.t 44)),
 (none, .mv 5 (.t 45))])
 (.ops [(none, .mv 46 (.t 4)),
 (none, .mv 47 (.t 6)),
 (none, .bin 48 .andNot (.t 46) (.t 47)),
 (none, .mv 4 (.t 48))]))))))))
 (.seq (.ops [(none, .mv 49 (.t 5)),
 (none, .mv 2 (.t 49))])
 (.ret))))⟩
def impl_Heap_clusters_1 : AFn :=
 ⟨2, 26, [.tmp 3],
 .seq (.ops [(none, .box 2 (.t 0)),
 (none, .mv 3 (.c (.B false)))])
 (.seq (.ops [(none, .idxA 4 3 1 (.t 1) (.c (.I 0))),
 (none, .load1 5 (.t 4)),
 (none, .idxA 6 3 1 (.t 2) (.c (.I 0))),
 (none, .load1 7 (.t 6)),
 (none, .bin 8 .sub (.t 5) (.t 7)),
 (none, .call (some 9) F.impl_within [(.t 8), (.c (.I (-1))), (.c (.I 1))]),
 (none, .mv 10 (.t 9)),
 (some (10, true), .idxA 11 3 1 (.t 1) (.c (.I 1))),
 (some (10, true), .load1 12 (.t 11)),
 (some (10, true), .idxA 13 3 1 (.t 2) (.c (.I 1))),
 (some (10, true), .load1 14 (.t 13)),
 (some (10, true), .bin 15 .sub (.t 12) (.t 14)),
 (some (10, true), .call (some 16) F.impl_within [(.t 15), (.c (.I (-1))), (.c (.I 1))]),
 (none, .pick 17 (.t 10) (.t 16) (.c (.B false))),
 (none, .mv 18 (.t 17)),
 (some (18, true), .idxA 19 3 1 (.t 1) (.c (.I 2))),
 (some (18, true), .load1 20 (.t 19)),
 (some (18, true), .idxA 21 3 1 (.t 2) (.c (.I 2))),
 (some (18, true), .load1 22 (.t 21)),
 (some (18, true), .bin 23 .sub (.t 20) (.t 22)),
 (some (18, true), .call (some 24) F.impl_within [(.t 23), (.c (.I (-1))), (.c (.I 1))]),
 (none, .pick 25 (.t 18) (.t 24) (.c (.B false))),
 (none, .mv 3 (.t 25))])
 (.ret))⟩
end Go.Ab.C

namespace Go.Ab.K
open Go Go.Ab
theorem impl_Heap_clusters : prepF Go.Proofs.Try.prog F.impl_Heap_clusters = some C.impl_Heap_clusters := by kernel_rfl
theorem impl_Heap_clusters_1 : prepF Go.Proofs.Try.prog F.impl_Heap_clusters_1 = some C.impl_Heap_clusters_1 := by kernel_rfl
end Go.Ab.K

namespace Go.Ab
open Go

def touchC (c d : Cell) : Bool := decide ((-1 ≤ c.a - d.a ∧ c.a - d.a ≤ 1) ∧ (-1 ≤ c.b - d.b ∧ c.b - d.b ≤ 1) ∧ (-1 ≤ c.c - d.c ∧ c.c - d.c ≤ 1))
theorem touchC_comm (c d : Cell) : touchC c d = touchC d c := by unfold touchC; rw [Bool.eq_iff_iff, decide_eq_true_iff, decide_eq_true_iff]; omega

inductive ReachT (x y z : Int) (p q : Cell → Bool) : Cell → Prop
  | base {c : Cell} : c.inBox x y z → p c = true → ReachT x y z p q c
  | step {c d : Cell} : ReachT x y z p q c → touchC c d = true → d.inBox x y z → q d = true → ReachT x y z p q d
noncomputable def reachT (x y z : Int) (p q : Cell → Bool) : Cell → Bool := fun c => @decide (ReachT x y z p q c) (Classical.propDecidable _)
theorem reachT_iff {x y z : Int} {p q : Cell → Bool} {c : Cell} : reachT x y z p q c = true ↔ ReachT x y z p q c := by
  unfold reachT; exact @decide_eq_true_iff _ (Classical.propDecidable _)
theorem ReachT.ind {x y z : Int} {p q : Cell → Bool} {P : Cell → Prop} (h0 : ∀ c, c.inBox x y z → p c = true → P c) (h1 : ∀ c d, P c → touchC c d = true → d.inBox x y z → q d = true → P d) {c : Cell} (h : ReachT x y z p q c) : P c := by
  induction h with
  | base h2 h3 => exact h0 _ h2 h3
  | step _ h2 h3 h4 ih => exact h1 _ _ ih h2 h3 h4

noncomputable def clus (x y z : Int) : Nat → (Cell → Bool) → List (List Cell)
  | 0, _ => []
  | f + 1, q => match pick x y z q with
    | [] => []
    | c :: _ => pick x y z (reachT x y z (fun d => decide (d = c)) q) :: clus x y z f fun d => q d && !reachT x y z (fun d => decide (d = c)) q d
theorem clus_len {x y z : Int} : ∀ (f : Nat) (q : Cell → Bool), (clus x y z f q).length ≤ f
  | 0, _ => by simp [clus]
  | f + 1, q => by
    cases h : pick x y z q with
    | nil => simp [clus, h]
    | cons c rs => simp only [clus, h, List.length_cons]; have := clus_len f (x := x) (y := y) (z := z) fun d => q d && !reachT x y z (fun d => decide (d = c)) q d; omega

def growT (r q : Cell → Bool) (l : List Cell) : Cell → Bool := fun d => r d || (q d && l.any fun c => touchC c d)
theorem growT_succ {r q : Cell → Bool} {l : List Cell} {k : Nat} (hk : k < l.length) (d : Cell) : growT r q (l.take (k + 1)) d = (growT r q (l.take k) d || (q d && touchC (l.getD k default) d)) := by
  unfold growT
  rw [List.take_succ, List.getElem?_eq_getElem hk, List.any_append]
  simp only [Option.toList_some, List.any_cons, List.any_nil, Bool.or_false, List.getD_eq_getElem?_getD, List.getElem?_eq_getElem hk, Option.getD_some]
  cases r d <;> cases q d <;> simp

section
variable {x y z : Int} (hS : Sides x y z)
include hS
theorem reachT_of_fix {p q r : Cell → Bool} (h0 : ∀ c, c.inBox x y z → p c = true → r c = true) (h1 : ∀ c, c.inBox x y z → r c = true → ReachT x y z p q c) (h2 : ∀ c, c.inBox x y z → growT r q (pick x y z r) c = r c) :
    ∀ c, c.inBox x y z → r c = reachT x y z p q c := by
  intro c hc
  rw [Bool.eq_iff_iff, reachT_iff]
  refine ⟨h1 c hc, fun h => ?_⟩
  have : c.inBox x y z ∧ r c = true := by
    refine h.ind (P := fun c => c.inBox x y z ∧ r c = true) (fun c h3 h4 => ⟨h3, h0 c h3 h4⟩) (fun c d ⟨h3, h4⟩ h5 h6 h7 => ⟨h6, ?_⟩)
    rw [← h2 d h6]
    unfold growT
    rw [Bool.or_eq_true, Bool.and_eq_true, List.any_eq_true]
    exact .inr ⟨h7, c, (mem_pick hS).2 ⟨h3, h4⟩, h5⟩
  exact this.2
theorem growT_in {p q r : Cell → Bool} (h1 : ∀ c, c.inBox x y z → r c = true → ReachT x y z p q c) {c : Cell} (hc : c.inBox x y z) (h : growT r q (pick x y z r) c = true) : ReachT x y z p q c := by
  unfold growT at h
  rw [Bool.or_eq_true, Bool.and_eq_true, List.any_eq_true] at h
  rcases h with h | ⟨hq, d, hd, ht⟩
  · exact h1 c hc h
  · obtain ⟨h3, h4⟩ := (mem_pick hS).1 hd
    exact .step (h1 d h3 h4) ht hc hq
end

structure QueT (x y z : Int) (q : Cell → Bool) (c : Cell) (n : Nat) (l : List Cell) : Prop where
  nodup : l.Nodup
  mem : ∀ d ∈ l, d.inBox x y z ∧ q d = true ∧ ReachT x y z (fun d => decide (d = c)) q d
  start : c ∈ l
  done : ∀ i, i < n → i < l.length → ∀ e, e.inBox x y z → q e = true → touchC (l.getD i default) e = true → e ∈ l

theorem QueT.reach {x y z : Int} {q : Cell → Bool} {c : Cell} {n : Nat} {l : List Cell} (h : QueT x y z q c n l) (hn : l.length ≤ n) {d : Cell} : d ∈ l ↔ reachT x y z (fun d => decide (d = c)) q d = true := by
  rw [reachT_iff]
  refine ⟨fun hd => (h.mem d hd).2.2, fun hd => ?_⟩
  refine hd.ind (P := fun d => d ∈ l) (fun e _ he => ?_) fun a b ha hab hb hq => ?_
  · rw [of_decide_eq_true he]; exact h.start
  · obtain ⟨i, hi, rfl⟩ := List.getElem_of_mem ha
    exact h.done i (by omega) hi b hb hq (by simpa [hi] using hab)

theorem QueT.next {x y z : Int} {q : Cell → Bool} {c : Cell} {n : Nat} {l : List Cell} (hS : Sides x y z) (h : QueT x y z q c n l) (hn : n < l.length) :
    QueT x y z q c (n + 1) (l ++ (pick x y z fun d => q d && !decide (d ∈ l)).filter fun d => touchC d (l.getD n default)) := by
  have hm := fun d => mem_pick hS (p := fun d => q d && !decide (d ∈ l)) (c := d)
  simp only [Bool.and_eq_true, Bool.not_eq_true', decide_eq_false_iff_not, decide_eq_true_eq] at hm
  have hln := h.mem _ (getD_mem' (d := default) hn)
  refine ⟨?_, fun d hd => ?_, by simp [h.start], fun i hi hil e he hq ha => ?_⟩
  · rw [List.nodup_append]
    refine ⟨h.nodup, (pick_ok hS _).nodup.filter _, fun a ha b hb e => ?_⟩
    subst e
    exact ((hm a).1 (List.mem_filter.1 hb).1).2.2 ha
  · rcases List.mem_append.1 hd with hd | hd
    · exact h.mem d hd
    · obtain ⟨h0, h4⟩ := List.mem_filter.1 hd
      obtain ⟨h1, h2, h3⟩ := (hm d).1 h0
      exact ⟨h1, h2, .step hln.2.2 (by rw [touchC_comm]; exact h4) h1 h2⟩
  · have hg : ∀ {j}, j < l.length → (l ++ (pick x y z fun d => q d && !decide (d ∈ l)).filter fun d => touchC d (l.getD n default)).getD j default = l.getD j default := fun {j} hj => by
      simp only [List.getD_eq_getElem?_getD]; rw [List.getElem?_append_left hj]
    rw [List.mem_append]
    rcases Nat.lt_or_ge i n with h1 | h1
    · rw [hg (by omega)] at ha
      exact .inl (h.done i h1 (by omega) e he hq ha)
    · have hin : i = n := by omega
      subst hin
      rw [hg hn] at ha
      by_cases hel : e ∈ l
      · exact .inl hel
      · exact .inr (List.mem_filter.2 ⟨(hm e).2 ⟨he, hq, hel⟩, by rw [touchC_comm]; exact ha⟩)
end Go.Ab

namespace Go.Ab.C
open Go.Ab
def impl_box_parts : AFn :=
 ⟨2, 25, [.tmp 4],
 .seq (.ops [(none, .box 2 (.t 0)),
 (none, .mv 4 (.c .nil))])
 (.seq (.ops [(none, .buildSl 7 0 1 [] []),
 (none, .mv 5 (.t 7))])
 (.seq (.block 0 (.loop (.seq (.seq (.ops [(none, .mv 8 (.t 1)),
 (none, .bin 9 .neq (.t 8) (.c (.U 0)))])
 (.cond (.t 9) (.skip)
 (.exit 0)))
 (.block 1 (.seq (.ops [(none, .loadN 10 3 (.t 2)),
 (none, .mv 11 (.t 1)),
 (none, .mv 12 (.t 1)),
 (none, .un 13 .neg (.t 12)),
 (none, .bin 14 .and (.t 11) (.t 13)),
 (none, .mv 15 (.t 1)),
 (none, .call (some 16) F.impl_box_grown [(.t 10), (.t 14), (.t 15)]),
 (none, .mv 6 (.t 16))])
 (.seq (.ops [(none, .mv 17 (.t 5)),
 (none, .mv 18 (.t 6)),
 (none, .buildSl 19 1 1 [(.U 0)] [(0, 1, (.t 18))]),
 (none, .append 20 1 8 (.t 17) (.t 19)),
 (none, .mv 5 (.t 20))])
 (.ops [(none, .mv 21 (.t 1)),
 (none, .mv 22 (.t 6)),
 (none, .bin 23 .andNot (.t 21) (.t 22)),
 (none, .mv 1 (.t 23))])))))))
 (.seq (.ops [(none, .mv 24 (.t 5)),
 (none, .mv 4 (.t 24))])
 (.ret))))⟩
def impl_box_lists : AFn :=
 ⟨2, 23, [.tmp 4],
 .seq (.ops [(none, .box 2 (.t 0)),
 (none, .mv 4 (.c .nil))])
 (.seq (.ops [(none, .buildSl 8 0 1 [] []),
 (none, .mv 5 (.t 8))])
 (.seq (.seq (.ops [(none, .mv 9 (.t 1)),
 (none, .len 10 (.t 9)),
 (none, .mv 11 (.c (.I 0)))])
 (.block 0 (.loop (.seq (.ops [(none, .bin 12 .lss (.t 11) (.t 10))])
 (.seq (.cond (.t 12) (.skip)
 (.exit 0))
 (.seq (.block 1 (.seq (.ops [(none, .idxS 13 1 (.t 9) (.t 11)),
 (none, .load1 14 (.t 13)),
 (none, .mv 7 (.t 14))])
 (.ops [(none, .mv 15 (.t 5)),
 (none, .loadN 16 3 (.t 2)),
 (none, .mv 17 (.t 7)),
 (none, .call (some 18) F.impl_box_list [(.t 16), (.t 17)]),
 (none, .buildSl 19 1 1 [.nil] [(0, 1, (.t 18))]),
 (none, .append 20 1 24 (.t 15) (.t 19)),
 (none, .mv 5 (.t 20))])))
 (.ops [(none, .bin 21 .add (.t 11) (.c (.I 1))),
 (none, .mv 11 (.t 21))])))))))
 (.seq (.ops [(none, .mv 22 (.t 5)),
 (none, .mv 4 (.t 22))])
 (.ret))))⟩
def impl_CavitiesOf : AFn :=
 ⟨1, 12, [.tmp 2, .tmp 3],
 .seq (.ops [(none, .box 1 (.t 0)),
 (none, .mv 2 (.c .nil)),
 (none, .mv 3 (.c (.B false)))])
 (.seq (.seq (.ops [(none, .loadN 4 4 (.t 1)),
 (none, .call (some 5) F.impl_IsHeap [(.t 4)]),
 (none, .un 6 .not (.t 5))])
 (.cond (.t 6) (.seq (.ops [(none, .mv 2 (.c .nil)),
 (none, .mv 3 (.c (.B false)))])
 (.ret))
 (.skip)))
 (.seq (.draw [⟨(none, .loadN 7 4 (.t 1)), [], []⟩,
 ⟨(none, .loadN 9 4 (.t 1)), [], []⟩,
 ⟨(none, .call (some 8) F.impl_Heap_box [(.t 7)]), [], [1]⟩,
 ⟨(none, .call (some 10) F.impl_Heap_cavities [(.t 9)]), [], []⟩,
 ⟨(none, .call (some 11) F.impl_box_lists [(.t 8), (.t 10)]), [], []⟩,
 ⟨(none, .mv 2 (.t 11)), [], []⟩,
 ⟨(none, .mv 3 (.c (.B true))), [], []⟩])
 (.ret)))⟩
def impl_Heap_cavities : AFn :=
 ⟨1, 8, [.tmp 2],
 .seq (.ops [(none, .box 1 (.t 0)),
 (none, .mv 2 (.c .nil))])
 (.seq (.draw [⟨(none, .loadN 3 4 (.t 1)), [], []⟩,
 ⟨(none, .loadN 5 4 (.t 1)), [], []⟩,
 ⟨(none, .call (some 4) F.impl_Heap_box [(.t 3)]), [], [1]⟩,
 ⟨(none, .call (some 6) F.impl_Heap_enclosed [(.t 5)]), [], []⟩,
 ⟨(none, .call (some 7) F.impl_box_parts [(.t 4), (.t 6)]), [], []⟩,
 ⟨(none, .mv 2 (.t 7)), [], []⟩])
 (.ret))⟩
end Go.Ab.C

namespace Go.Ab.K
open Go Go.Ab
theorem impl_box_parts : prepF Go.Proofs.Try.prog F.impl_box_parts = some C.impl_box_parts := by kernel_rfl
theorem impl_box_lists : prepF Go.Proofs.Try.prog F.impl_box_lists = some C.impl_box_lists := by kernel_rfl
theorem impl_CavitiesOf : prepF Go.Proofs.Try.prog F.impl_CavitiesOf = some C.impl_CavitiesOf := by kernel_rfl
theorem impl_Heap_cavities : prepF Go.Proofs.Try.prog F.impl_Heap_cavities = some C.impl_Heap_cavities := by kernel_rfl
end Go.Ab.K

namespace Go.Ab
open Go

def setL (x y z : Int) (L : List (List Cell)) : List LV := L.map fun l => .W (bs x y z fun d => decide (d ∈ l))
theorem setL_lo {x y z : Int} {n : Nat} {L : List (List Cell)} : (setL x y z L).all (LV.lo1 n) = true := by
  rw [List.all_eq_true]; intro v hv
  obtain ⟨l, _, rfl⟩ := List.mem_map.1 hv
  rfl
theorem setL_len {x y z : Int} {L : List (List Cell)} : (setL x y z L).length = L.length := by simp [setL]
theorem setL_get {x y z : Int} {L : List (List Cell)} {i : Nat} (h : i < L.length) : (setL x y z L)[i]? = some (.W (bs x y z fun d => decide (d ∈ L.getD i []))) := by
  simp [setL, h]

section
variable {x y z : Int} (hS : Sides x y z)
include hS
theorem parts_congr' : ∀ {f : Nat} {p q : Cell → Bool}, (∀ c, c.inBox x y z → p c = q c) → parts x y z f p = parts x y z f q
  | 0, _, _, _ => rfl
  | f + 1, p, q, h => by
    have hp := pick_congr hS h
    have hr : ∀ c d, reach x y z (fun d => decide (d = c)) p d = reach x y z (fun d => decide (d = c)) q d := fun c d => by
      rw [Bool.eq_iff_iff, reach_iff, reach_iff]
      exact ⟨fun k => k.mono (fun e he h1 => .base he h1) fun e he h1 => by rw [← h e he]; exact h1, fun k => k.mono (fun e he h1 => .base he h1) fun e he h1 => by rw [h e he]; exact h1⟩
    simp only [parts]
    rw [hp]
    split
    · rfl
    · rename_i c rs hc
      rw [pick_congr hS fun d _ => hr c d, parts_congr' (f := f) fun d hd => by rw [h d hd, hr c d]]
theorem parts_pick : ∀ {f : Nat} {q : Cell → Bool}, ∀ l ∈ parts x y z f q, l = pick x y z fun d => decide (d ∈ l)
  | 0, _, l, h => by simp [parts] at h
  | f + 1, q, l, h => by
    simp only [parts] at h
    split at h
    · simp at h
    · rcases List.mem_cons.1 h with rfl | h
      · exact (pick_ok hS _).pick
      · exact parts_pick l h

theorem g_parts {q : Cell → Bool} {M : Mem} : CallsTo PG F.impl_box_parts [.agg [.I x, .I y, .I z], .W (bs x y z q)] M (.ref M.length 0 (parts x y z 65 q).length) (M ++ [some (.row (setL x y z (parts x y z 65 q)) true 1)]) := by
  refine calls_run K.impl_box_parts rfl ?_
  simp (disch := omega) only [C.impl_box_parts, ↓SXd, SXu, slBounds, ↓sop, ↓aop, ↓reduceIte, LV.cells, AOp.dst, LV.I, LV.B, LV.U, LV.S, LV.nil, Nat.reduceEqDiff, Nat.reduceAdd, Nat.reduceMul, Nat.reduceSub, Nat.reduceLeDiff, Nat.reduceBEq, Nat.reduceDiv, Nat.reduceMod, Int.reduceToNat, Int.reduceLT, Int.reduceLE, Int.reduceAdd, Int.reduceSub, Int.reduceMul, Int.reduceEq, Int.reduceNeg, reduceCtorEq, resV, resAll, ARes.ev, LV.flat, ite_true, ite_false, exists_eq_left', exists_eq_left, keyOf, implies_true, fillC, capOf]
  refine ev_loop (fun m fr M' => ∃ (p : Cell → Bool) (u : Nat) (L : List (List Cell)), parts x y z 65 q = L ++ parts x y z m p ∧ (pick x y z p).length < m ∧ L.length ≤ 65 ∧ Pre M M' ∧ Live M' M.length (.row [.I x, .I y, .I z] true 0) ∧ Live M' u (.row (setL x y z L) true 1) ∧ M.length < u ∧
    fr 1 = .W (bs x y z p) ∧ fr 2 = .ptr M.length 0 ∧ fr 5 = .ref u 0 L.length) 65
    ⟨q, M.length + 1, [], rfl, by have := pick_len hS q; omega, by simp, Pre.app _ _, Live.new, Live.newj rfl, by omega, rfl, rfl, rfl⟩ ?_
  rintro m fr M' ⟨p, u, L, hparts, hfuel, hL, hpre, hbox, hout, hu, f1, f2, f5⟩
  obtain ⟨m', rfl⟩ : ∃ m', m = m' + 1 := ⟨m - 1, by omega⟩
  simp (disch := omega) only [f1, f2, f5, ↓SXd, SXu, slBounds, ↓sop, ↓aop, ↓reduceIte, LV.cells, AOp.dst, LV.I, LV.B, LV.U, LV.S, LV.nil, Nat.reduceEqDiff, Nat.reduceAdd, Nat.reduceMul, Nat.reduceSub, Nat.reduceLeDiff, Nat.reduceBEq, Nat.reduceDiv, Nat.reduceMod, Int.reduceToNat, Int.reduceLT, Int.reduceLE, Int.reduceAdd, Int.reduceSub, Int.reduceMul, Int.reduceEq, Int.reduceNeg, reduceCtorEq, resV, resAll, ARes.ev, LV.flat, ite_true, ite_false, exists_eq_left', exists_eq_left, keyOf, implies_true, fillC, capOf]
  by_cases hz : bs x y z p = 0#64
  · simp (disch := omega) only [f1, f2, f5, hz, ↓SXd, SXu, slBounds, ↓sop, ↓aop, ↓reduceIte, LV.cells, AOp.dst, LV.I, LV.B, LV.U, LV.S, LV.nil, Nat.reduceEqDiff, Nat.reduceAdd, Nat.reduceMul, Nat.reduceSub, Nat.reduceLeDiff, Nat.reduceBEq, Nat.reduceDiv, Nat.reduceMod, Int.reduceToNat, Int.reduceLT, Int.reduceLE, Int.reduceAdd, Int.reduceSub, Int.reduceMul, Int.reduceEq, Int.reduceNeg, reduceCtorEq, resV, resAll, ARes.ev, LV.flat, ite_true, ite_false, exists_eq_left', exists_eq_left, keyOf, implies_true, fillC, capOf]
    have hnil : pick x y z p = [] := by
      have := (bs_zero hS).1 hz
      unfold pick; rw [List.filter_eq_nil_iff]
      intro c hc; rw [this c ((mem_cellsOf hS).1 hc)]; simp
    rw [show parts x y z (m' + 1) p = [] by simp only [parts, hnil], List.append_nil] at hparts
    rw [hparts]
    exact cmp_keepL hpre (by omega) hout setL_lo (by simp [rn, rn0, rn1])
  · obtain ⟨c, rs, hpk⟩ : ∃ c rs, pick x y z p = c :: rs := by
      cases hh : pick x y z p with
      | nil => exact absurd ((bs_zero hS).2 fun c hc => by
          cases hpc : p c with
          | false => rfl
          | true => have := (mem_pick hS).2 ⟨hc, hpc⟩; rw [hh] at this; cases this) hz
      | cons c rs => exact ⟨c, rs, rfl⟩
    have hcq := (mem_pick hS (p := p) (c := c)).1 (by rw [hpk]; simp)
    have hlow : ∀ d, d.inBox x y z → p d = true → ¬ d.lt c := fun d hd hpd hlt => by
      have hm := (mem_pick hS).2 ⟨hd, hpd⟩
      have hs := pick_sorted hS p
      rw [hpk] at hm hs
      rcases List.mem_cons.1 hm with rfl | hm
      · exact Cell.lt_irrefl _ hlt
      · exact Cell.lt_irrefl _ (Cell.lt_trans hlt ((List.pairwise_cons.1 hs).1 d hm))
    have hpp : parts x y z (m' + 1) p = pick x y z (reach x y z (fun d => decide (d = c)) p) :: parts x y z m' fun d => p d && !reach x y z (fun d => decide (d = c)) p d := by simp only [parts, hpk]
    rw [hpp] at hparts
    simp (disch := omega) only [f1, f2, f5, hz, hbox.cells, ↓SXd, SXu, slBounds, ↓sop, ↓aop, ↓reduceIte, LV.cells, AOp.dst, LV.I, LV.B, LV.U, LV.S, LV.nil, Nat.reduceEqDiff, Nat.reduceAdd, Nat.reduceMul, Nat.reduceSub, Nat.reduceLeDiff, Nat.reduceBEq, Nat.reduceDiv, Nat.reduceMod, Int.reduceToNat, Int.reduceLT, Int.reduceLE, Int.reduceAdd, Int.reduceSub, Int.reduceMul, Int.reduceEq, Int.reduceNeg, reduceCtorEq, resV, resAll, ARes.ev, LV.flat, ite_true, ite_false, exists_eq_left', exists_eq_left, keyOf, implies_true, fillC, capOf]
    rw [bs_low hS hcq.1 hcq.2 hlow]
    refine callK_of (g_grown hS) ?_
    simp (disch := omega) only [f1, f2, f5, ↓SXd, SXu, slBounds, ↓sop, ↓aop, ↓reduceIte, LV.cells, AOp.dst, LV.I, LV.B, LV.U, LV.S, LV.nil, Nat.reduceEqDiff, Nat.reduceAdd, Nat.reduceMul, Nat.reduceSub, Nat.reduceLeDiff, Nat.reduceBEq, Nat.reduceDiv, Nat.reduceMod, Int.reduceToNat, Int.reduceLT, Int.reduceLE, Int.reduceAdd, Int.reduceSub, Int.reduceMul, Int.reduceEq, Int.reduceNeg, reduceCtorEq, resV, resAll, ARes.ev, LV.flat, ite_true, ite_false, exists_eq_left', exists_eq_left, keyOf, implies_true, fillC, capOf]
    refine appendK_1 (acc := setL x y z L) (new := [.W (bs x y z (reach x y z (fun d => decide (d = c)) p))]) hout (by rw [setL_len]; omega) rfl (by omega) (by omega) (by omega) fun N' l1 l2 l3 => ?_
    simp (disch := omega) only [f1, f2, f5, ↓SXd, SXu, slBounds, ↓sop, ↓aop, ↓reduceIte, LV.cells, AOp.dst, LV.I, LV.B, LV.U, LV.S, LV.nil, Nat.reduceEqDiff, Nat.reduceAdd, Nat.reduceMul, Nat.reduceSub, Nat.reduceLeDiff, Nat.reduceBEq, Nat.reduceDiv, Nat.reduceMod, Int.reduceToNat, Int.reduceLT, Int.reduceLE, Int.reduceAdd, Int.reduceSub, Int.reduceMul, Int.reduceEq, Int.reduceNeg, reduceCtorEq, resV, resAll, ARes.ev, LV.flat, ite_true, ite_false, exists_eq_left', exists_eq_left, keyOf, implies_true, fillC, capOf]
    rw [bs_diff hS]
    refine ⟨m', by omega, fun d => p d && !reach x y z (fun d => decide (d = c)) p d, M'.length + 1, L ++ [pick x y z (reach x y z (fun d => decide (d = c)) p)], ?_, ?_, ?_, pre_step hpre (by omega) l1 l3, live_step hbox (by omega) l3, ?_, by have := hpre.1; omega, rfl, f2, ?_⟩
    · rw [hparts, List.append_assoc]; rfl
    · have := filter_lt hS (l := cellsOf x y z) (p := fun d => p d && !reach x y z (fun d => decide (d = c)) p d) (q := p) (fun a _ ha => by simp only [Bool.and_eq_true] at ha; exact ha.1)
        ⟨c, (mem_cellsOf hS).2 hcq.1, hcq.2, by rw [(reach_iff (c := c)).2 (.base hcq.1 (by simp))]; simp⟩
      unfold pick at hfuel ⊢
      omega
    · have h1 := parts_len (x := x) (y := y) (z := z) 65 q
      have h2 := congrArg List.length hparts
      simp only [List.length_append, List.length_cons] at h2
      simp; omega
    · rw [show setL x y z (L ++ [pick x y z (reach x y z (fun d => decide (d = c)) p)]) = setL x y z L ++ [.W (bs x y z (reach x y z (fun d => decide (d = c)) p))] by
        unfold setL
        rw [List.map_append, List.map_singleton]
        rw [(bs_eq hS).2 fun d hd => show decide (d ∈ pick x y z (reach x y z (fun d => decide (d = c)) p)) = reach x y z (fun d => decide (d = c)) p d by
          rw [Bool.eq_iff_iff, decide_eq_true_iff, mem_pick hS]; exact ⟨fun h => h.2, fun h => ⟨hd, h⟩⟩]]
      exact l2
    · rw [List.length_append, List.length_singleton]; rfl

theorem g_lists {L : List (List Cell)} {t : Nat} {w : Bool} {M : Mem} (h : Live M t (.row (setL x y z L) w 1)) (hL : L.length ≤ 1000000) (hp : ∀ l ∈ L, l = pick x y z fun d => decide (d ∈ l)) :
    CallsR PG F.impl_box_lists [.agg [.I x, .I y, .I z], .ref t 0 L.length] M fun v N => SlCC M N v L ∧ Pre M N := by
  have ht := h.lt
  refine callsR_run K.impl_box_lists rfl ?_
  simp (disch := omega) only [C.impl_box_lists, ↓SXd, SXu, slBounds, ↓sop, ↓aop, ↓reduceIte, LV.cells, AOp.dst, LV.I, LV.B, LV.U, LV.S, LV.nil, Nat.reduceEqDiff, Nat.reduceAdd, Nat.reduceMul, Nat.reduceSub, Nat.reduceLeDiff, Nat.reduceBEq, Nat.reduceDiv, Nat.reduceMod, Int.reduceToNat, Int.reduceLT, Int.reduceLE, Int.reduceAdd, Int.reduceSub, Int.reduceMul, Int.reduceEq, Int.reduceNeg, reduceCtorEq, resV, resAll, ARes.ev, LV.flat, ite_true, ite_false, exists_eq_left', exists_eq_left, keyOf, implies_true, fillC, capOf]
  refine ev_loop (fun m fr M' => ∃ (i u : Nat) (refs : List LV), i + m = L.length ∧ refs.length = i ∧ Pre M M' ∧ Live M' M.length (.row [.I x, .I y, .I z] true 0) ∧ Live M' u (.row refs true 1) ∧ M.length < u ∧ Css M' M.length M'.length refs (L.take i) ∧
    fr 2 = .ptr M.length 0 ∧ fr 5 = .ref u 0 refs.length ∧ fr 9 = .ref t 0 L.length ∧ fr 10 = .I L.length ∧ fr 11 = .I i) L.length
    ⟨0, M.length + 1, [], by omega, rfl, Pre.app _ _, Live.new, Live.newj rfl, by omega, trivial, rfl, rfl, rfl, rfl, rfl⟩ ?_
  rintro m fr M' ⟨i, u, refs, hi, hr, hpre, hbox, hout, hu, hcss, f2, f5, f9, f10, f11⟩
  simp (disch := omega) only [f2, f5, f9, f10, f11, ↓SXd, SXu, slBounds, ↓sop, ↓aop, ↓reduceIte, LV.cells, AOp.dst, LV.I, LV.B, LV.U, LV.S, LV.nil, Nat.reduceEqDiff, Nat.reduceAdd, Nat.reduceMul, Nat.reduceSub, Nat.reduceLeDiff, Nat.reduceBEq, Nat.reduceDiv, Nat.reduceMod, Int.reduceToNat, Int.reduceLT, Int.reduceLE, Int.reduceAdd, Int.reduceSub, Int.reduceMul, Int.reduceEq, Int.reduceNeg, reduceCtorEq, resV, resAll, ARes.ev, LV.flat, ite_true, ite_false, exists_eq_left', exists_eq_left, keyOf, implies_true, fillC, capOf]
  refine condC_dec (fun hlt => ?_) (fun hlt => ?_)
  · have hil : i < L.length := by omega
    have hset := (h.pre hpre).cell (o := i)
    rw [setL_get hil] at hset
    have hpi := hp _ (getD_mem' (d := []) hil)
    simp (disch := omega) only [f2, f5, f9, f10, f11, Nat.mul_one, hset, hbox.cells, ↓SXd, SXu, slBounds, ↓sop, ↓aop, ↓reduceIte, LV.cells, AOp.dst, LV.I, LV.B, LV.U, LV.S, LV.nil, Nat.reduceEqDiff, Nat.reduceAdd, Nat.reduceMul, Nat.reduceSub, Nat.reduceLeDiff, Nat.reduceBEq, Nat.reduceDiv, Nat.reduceMod, Int.reduceToNat, Int.reduceLT, Int.reduceLE, Int.reduceAdd, Int.reduceSub, Int.reduceMul, Int.reduceEq, Int.reduceNeg, reduceCtorEq, resV, resAll, ARes.ev, LV.flat, ite_true, ite_false, exists_eq_left', exists_eq_left, keyOf, implies_true, fillC, capOf]
    refine callN_of (g_list hS) ?_
    intro tn N htn hp2 hnr
    rw [← hpi] at hnr ⊢
    have hN := hp2.1
    simp (disch := omega) only [f2, f5, f9, f10, f11, ↓SXd, SXu, slBounds, ↓sop, ↓aop, ↓reduceIte, LV.cells, AOp.dst, LV.I, LV.B, LV.U, LV.S, LV.nil, Nat.reduceEqDiff, Nat.reduceAdd, Nat.reduceMul, Nat.reduceSub, Nat.reduceLeDiff, Nat.reduceBEq, Nat.reduceDiv, Nat.reduceMod, Int.reduceToNat, Int.reduceLT, Int.reduceLE, Int.reduceAdd, Int.reduceSub, Int.reduceMul, Int.reduceEq, Int.reduceNeg, reduceCtorEq, resV, resAll, ARes.ev, LV.flat, ite_true, ite_false, exists_eq_left', exists_eq_left, keyOf, implies_true, fillC, capOf]
    refine appendK_1 (acc := refs) (new := [.ref tn 0 (L.getD i []).length]) (hout.pre hp2) (by omega) rfl (by omega) (by omega) (by omega) fun N' l1 l2 l3 => ?_
    simp (disch := omega) only [f2, f5, f9, f10, f11, ↓SXd, SXu, slBounds, ↓sop, ↓aop, ↓reduceIte, LV.cells, AOp.dst, LV.I, LV.B, LV.U, LV.S, LV.nil, Nat.reduceEqDiff, Nat.reduceAdd, Nat.reduceMul, Nat.reduceSub, Nat.reduceLeDiff, Nat.reduceBEq, Nat.reduceDiv, Nat.reduceMod, Int.reduceToNat, Int.reduceLT, Int.reduceLE, Int.reduceAdd, Int.reduceSub, Int.reduceMul, Int.reduceEq, Int.reduceNeg, reduceCtorEq, resV, resAll, ARes.ev, LV.flat, ite_true, ite_false, exists_eq_left', exists_eq_left, keyOf, implies_true, fillC, capOf]
    have hlo := hout.lt
    have hln := hnr.lt
    have hts : L.take (i + 1) = L.take i ++ [L.getD i []] := by
      rw [List.take_succ, List.getElem?_eq_getElem hil]; simp [hil]
    refine ⟨m - 1, by omega, i + 1, N.length + 1, refs ++ [.ref tn 0 (L.getD i []).length], by omega, by simp [hr], pre_step (hpre.trans hp2) (by omega) l1 l3, live_step (hbox.pre hp2) (by omega) l3, l2, by have := hpre.1; omega, ?_, f2, ?_, f9, f10, eqI (natI _)⟩
    · rw [hts]
      exact ((hcss.pre hp2).keep (.inr ⟨_, _, _, hout.pre hp2, by decide⟩) l3).snoc htn (by omega) (live_step hnr (by omega) l3) (by have := hpre.1; omega)
    · rw [List.length_append, List.length_singleton]; rfl
  · simp (disch := omega) only [f2, f5, f9, f10, f11, ↓SXd, SXu, slBounds, ↓sop, ↓aop, ↓reduceIte, LV.cells, AOp.dst, LV.I, LV.B, LV.U, LV.S, LV.nil, Nat.reduceEqDiff, Nat.reduceAdd, Nat.reduceMul, Nat.reduceSub, Nat.reduceLeDiff, Nat.reduceBEq, Nat.reduceDiv, Nat.reduceMod, Int.reduceToNat, Int.reduceLT, Int.reduceLE, Int.reduceAdd, Int.reduceSub, Int.reduceMul, Int.reduceEq, Int.reduceNeg, reduceCtorEq, resV, resAll, ARes.ev, LV.flat, ite_true, ite_false, exists_eq_left', exists_eq_left, keyOf, implies_true, fillC, capOf]
    have : i = L.length := by omega
    subst this
    rw [List.take_length] at hcss
    exact ⟨SlCC.of (by omega) (Nat.le_refl _) hout hcss, hpre⟩
end

noncomputable def cavOf (x y z : Int) (cs : List Cell) : Option (List (List Cell)) := by
  classical
  exact if HeapOK x y z cs then some (parts x y z 65 (closed x y z fun c => decide (c ∈ cs))) else none
theorem g_cavities {x y z : Int} {t o : Nat} {cs : List Cell} {M : Mem} (h : Tri M t o cs) (hn : cs.length ≤ 1000000000) (hH : HeapOK x y z cs) :
    CallsTo PG F.impl_Heap_cavities [.agg [.I x, .I y, .I z, .ref t o cs.length]] M (.ref M.length 0 (parts x y z 65 (closed x y z fun c => decide (c ∈ cs))).length) (M ++ [some (.row (setL x y z (parts x y z 65 (closed x y z fun c => decide (c ∈ cs)))) true 1)]) := by
  have hS := hH.1
  refine calls_run K.impl_Heap_cavities rfl ?_
  simp (disch := omega) only [C.impl_Heap_cavities, ↓SXd, SXu, slBounds, ↓sop, ↓aop, ↓reduceIte, LV.cells, AOp.dst, LV.I, LV.B, LV.U, LV.S, LV.nil, Nat.reduceEqDiff, Nat.reduceAdd, Nat.reduceMul, Nat.reduceSub, Nat.reduceLeDiff, Nat.reduceBEq, Nat.reduceDiv, Nat.reduceMod, Int.reduceToNat, Int.reduceLT, Int.reduceLE, Int.reduceAdd, Int.reduceSub, Int.reduceMul, Int.reduceEq, Int.reduceNeg, reduceCtorEq, resV, resAll, ARes.ev, LV.flat, ite_true, ite_false, exists_eq_left', exists_eq_left, keyOf, implies_true, fillC, capOf]
  refine callK_of (g_box) ?_
  simp (disch := omega) only [↓SXd, SXu, slBounds, ↓sop, ↓aop, ↓reduceIte, LV.cells, AOp.dst, LV.I, LV.B, LV.U, LV.S, LV.nil, Nat.reduceEqDiff, Nat.reduceAdd, Nat.reduceMul, Nat.reduceSub, Nat.reduceLeDiff, Nat.reduceBEq, Nat.reduceDiv, Nat.reduceMod, Int.reduceToNat, Int.reduceLT, Int.reduceLE, Int.reduceAdd, Int.reduceSub, Int.reduceMul, Int.reduceEq, Int.reduceNeg, reduceCtorEq, resV, resAll, ARes.ev, LV.flat, ite_true, ite_false, exists_eq_left', exists_eq_left, keyOf, implies_true, fillC, capOf]
  refine callK_of (g_enclosed h.app hn hH) ?_
  simp (disch := omega) only [↓SXd, SXu, slBounds, ↓sop, ↓aop, ↓reduceIte, LV.cells, AOp.dst, LV.I, LV.B, LV.U, LV.S, LV.nil, Nat.reduceEqDiff, Nat.reduceAdd, Nat.reduceMul, Nat.reduceSub, Nat.reduceLeDiff, Nat.reduceBEq, Nat.reduceDiv, Nat.reduceMod, Int.reduceToNat, Int.reduceLT, Int.reduceLE, Int.reduceAdd, Int.reduceSub, Int.reduceMul, Int.reduceEq, Int.reduceNeg, reduceCtorEq, resV, resAll, ARes.ev, LV.flat, ite_true, ite_false, exists_eq_left', exists_eq_left, keyOf, implies_true, fillC, capOf]
  refine callK_of (g_parts hS) ?_
  simp (disch := omega) only [↓SXd, SXu, slBounds, ↓sop, ↓aop, ↓reduceIte, LV.cells, AOp.dst, LV.I, LV.B, LV.U, LV.S, LV.nil, Nat.reduceEqDiff, Nat.reduceAdd, Nat.reduceMul, Nat.reduceSub, Nat.reduceLeDiff, Nat.reduceBEq, Nat.reduceDiv, Nat.reduceMod, Int.reduceToNat, Int.reduceLT, Int.reduceLE, Int.reduceAdd, Int.reduceSub, Int.reduceMul, Int.reduceEq, Int.reduceNeg, reduceCtorEq, resV, resAll, ARes.ev, LV.flat, ite_true, ite_false, exists_eq_left', exists_eq_left, keyOf, implies_true, fillC, capOf]
  exact cmp_keep1 (j := 1) rfl setL_lo (by simp [rn, rn0, rn1, keepR_n])

theorem g_CavitiesOf {x y z : Int} {t : Nat} {w : Bool} {cs : List Cell} {M : Mem} (h0 : Live M t (.row (triL cs) w 3)) (hn : cs.length ≤ 1000000000) :
    CallsR PG F.impl_CavitiesOf [.agg [.I x, .I y, .I z, .ref t 0 cs.length]] M (CssRes M (cavOf x y z cs)) := by
  have h : Tri M t 0 cs := h0.has
  refine callsR_run K.impl_CavitiesOf rfl ?_
  simp (disch := omega) only [C.impl_CavitiesOf, ↓SXd, SXu, slBounds, ↓sop, ↓aop, ↓reduceIte, LV.cells, AOp.dst, LV.I, LV.B, LV.U, LV.S, LV.nil, Nat.reduceEqDiff, Nat.reduceAdd, Nat.reduceMul, Nat.reduceSub, Nat.reduceLeDiff, Nat.reduceBEq, Nat.reduceDiv, Nat.reduceMod, Int.reduceToNat, Int.reduceLT, Int.reduceLE, Int.reduceAdd, Int.reduceSub, Int.reduceMul, Int.reduceEq, Int.reduceNeg, reduceCtorEq, resV, resAll, ARes.ev, LV.flat, ite_true, ite_false, exists_eq_left', exists_eq_left, keyOf, implies_true, fillC, capOf]
  refine callK_of (g_IsHeap h.app hn) ?_
  simp (disch := omega) only [↓SXd, SXu, slBounds, ↓sop, ↓aop, ↓reduceIte, LV.cells, AOp.dst, LV.I, LV.B, LV.U, LV.S, LV.nil, Nat.reduceEqDiff, Nat.reduceAdd, Nat.reduceMul, Nat.reduceSub, Nat.reduceLeDiff, Nat.reduceBEq, Nat.reduceDiv, Nat.reduceMod, Int.reduceToNat, Int.reduceLT, Int.reduceLE, Int.reduceAdd, Int.reduceSub, Int.reduceMul, Int.reduceEq, Int.reduceNeg, reduceCtorEq, resV, resAll, ARes.ev, LV.flat, ite_true, ite_false, exists_eq_left', exists_eq_left, keyOf, implies_true, fillC, capOf]
  unfold cavOf
  by_cases hH : HeapOK x y z cs
  · have hS := hH.1
    rw [if_pos hH]
    simp (disch := omega) only [hH, ↓SXd, SXu, slBounds, ↓sop, ↓aop, ↓reduceIte, LV.cells, AOp.dst, LV.I, LV.B, LV.U, LV.S, LV.nil, Nat.reduceEqDiff, Nat.reduceAdd, Nat.reduceMul, Nat.reduceSub, Nat.reduceLeDiff, Nat.reduceBEq, Nat.reduceDiv, Nat.reduceMod, Int.reduceToNat, Int.reduceLT, Int.reduceLE, Int.reduceAdd, Int.reduceSub, Int.reduceMul, Int.reduceEq, Int.reduceNeg, reduceCtorEq, resV, resAll, ARes.ev, LV.flat, ite_true, ite_false, exists_eq_left', exists_eq_left, keyOf, implies_true, fillC, capOf]
    refine callK_of (g_box) ?_
    simp (disch := omega) only [↓SXd, SXu, slBounds, ↓sop, ↓aop, ↓reduceIte, LV.cells, AOp.dst, LV.I, LV.B, LV.U, LV.S, LV.nil, Nat.reduceEqDiff, Nat.reduceAdd, Nat.reduceMul, Nat.reduceSub, Nat.reduceLeDiff, Nat.reduceBEq, Nat.reduceDiv, Nat.reduceMod, Int.reduceToNat, Int.reduceLT, Int.reduceLE, Int.reduceAdd, Int.reduceSub, Int.reduceMul, Int.reduceEq, Int.reduceNeg, reduceCtorEq, resV, resAll, ARes.ev, LV.flat, ite_true, ite_false, exists_eq_left', exists_eq_left, keyOf, implies_true, fillC, capOf]
    refine callN_of (g_cavities h.app hn hH) ?_
    intro tn N2 htn hp2 hnr
    simp (disch := omega) only [↓SXd, SXu, slBounds, ↓sop, ↓aop, ↓reduceIte, LV.cells, AOp.dst, LV.I, LV.B, LV.U, LV.S, LV.nil, Nat.reduceEqDiff, Nat.reduceAdd, Nat.reduceMul, Nat.reduceSub, Nat.reduceLeDiff, Nat.reduceBEq, Nat.reduceDiv, Nat.reduceMod, Int.reduceToNat, Int.reduceLT, Int.reduceLE, Int.reduceAdd, Int.reduceSub, Int.reduceMul, Int.reduceEq, Int.reduceNeg, reduceCtorEq, resV, resAll, ARes.ev, LV.flat, ite_true, ite_false, exists_eq_left', exists_eq_left, keyOf, implies_true, fillC, capOf]
    have hl := parts_len (x := x) (y := y) (z := z) 65 (closed x y z fun c => decide (c ∈ cs))
    refine callR_of (g_lists hS hnr (by omega) (parts_pick hS)) ?_
    rintro v N ⟨h1, h2⟩
    have hv : (∃ a b c, v = .ref a b c) ∨ v = .nil := by
      rcases h1 with ⟨rfl, _⟩ | ⟨u, refs, rfl, _⟩
      · exact .inr rfl
      · exact .inl ⟨_, _, _, rfl⟩
    rcases hv with ⟨a, b, c, rfl⟩ | rfl
    all_goals
      simp (disch := omega) only [↓SXd, SXu, slBounds, ↓sop, ↓aop, ↓reduceIte, LV.cells, AOp.dst, LV.I, LV.B, LV.U, LV.S, LV.nil, Nat.reduceEqDiff, Nat.reduceAdd, Nat.reduceMul, Nat.reduceSub, Nat.reduceLeDiff, Nat.reduceBEq, Nat.reduceDiv, Nat.reduceMod, Int.reduceToNat, Int.reduceLT, Int.reduceLE, Int.reduceAdd, Int.reduceSub, Int.reduceMul, Int.reduceEq, Int.reduceNeg, reduceCtorEq, resV, resAll, ARes.ev, LV.flat, ite_true, ite_false, exists_eq_left', exists_eq_left, keyOf, implies_true, fillC, capOf]
      exact ⟨_, rfl, h1.mono ((Pre.app _ _).trans hp2), ((Pre.app _ _).trans hp2).trans h2⟩
  · rw [if_neg hH]
    simp (disch := omega) only [hH, ↓SXd, SXu, slBounds, ↓sop, ↓aop, ↓reduceIte, LV.cells, AOp.dst, LV.I, LV.B, LV.U, LV.S, LV.nil, Nat.reduceEqDiff, Nat.reduceAdd, Nat.reduceMul, Nat.reduceSub, Nat.reduceLeDiff, Nat.reduceBEq, Nat.reduceDiv, Nat.reduceMod, Int.reduceToNat, Int.reduceLT, Int.reduceLE, Int.reduceAdd, Int.reduceSub, Int.reduceMul, Int.reduceEq, Int.reduceNeg, reduceCtorEq, resV, resAll, ARes.ev, LV.flat, ite_true, ite_false, exists_eq_left', exists_eq_left, keyOf, implies_true, fillC, capOf]
    exact ⟨_, rfl, SlCC.nil, Pre.app _ _⟩
end Go.Ab

namespace Go.Ab
open Go

theorem g_clusters_1 {x y z : Int} (hS : Sides x y z) {c d : Cell} {u : Nat} {M : Mem} (h : Live M u (.row [.I c.a, .I c.b, .I c.c] true 0)) (hc : c.inBox x y z) (hd : d.inBox x y z) :
    CallsTo PG F.impl_Heap_clusters_1 [.agg [.I d.a, .I d.b, .I d.c], .ptr u 0] M (.B (touchC c d)) M := by
  refine calls_run K.impl_Heap_clusters_1 rfl ?_
  obtain ⟨⟨_, _⟩, ⟨_, _⟩, _, _⟩ := id hS
  obtain ⟨⟨_, _⟩, ⟨_, _⟩, _, _⟩ := hc
  obtain ⟨⟨_, _⟩, ⟨_, _⟩, _, _⟩ := hd
  simp (disch := omega) only [C.impl_Heap_clusters_1, h.app.cell, ↓SXd, SXu, slBounds, ↓sop, ↓aop, ↓reduceIte, LV.cells, AOp.dst, LV.I, LV.B, LV.U, LV.S, LV.nil, Nat.reduceEqDiff, Nat.reduceAdd, Nat.reduceMul, Nat.reduceSub, Nat.reduceLeDiff, Nat.reduceBEq, Nat.reduceDiv, Nat.reduceMod, Int.reduceToNat, Int.reduceLT, Int.reduceLE, Int.reduceAdd, Int.reduceSub, Int.reduceMul, Int.reduceEq, Int.reduceNeg, reduceCtorEq, resV, resAll, ARes.ev, LV.flat, ite_true, ite_false, exists_eq_left', exists_eq_left, keyOf, implies_true, fillC, capOf]
  refine callK_of (g_within) ?_
  simp (disch := omega) only [↓SXd, SXu, slBounds, ↓sop, ↓aop, ↓reduceIte, LV.cells, AOp.dst, LV.I, LV.B, LV.U, LV.S, LV.nil, Nat.reduceEqDiff, Nat.reduceAdd, Nat.reduceMul, Nat.reduceSub, Nat.reduceLeDiff, Nat.reduceBEq, Nat.reduceDiv, Nat.reduceMod, Int.reduceToNat, Int.reduceLT, Int.reduceLE, Int.reduceAdd, Int.reduceSub, Int.reduceMul, Int.reduceEq, Int.reduceNeg, reduceCtorEq, resV, resAll, ARes.ev, LV.flat, ite_true, ite_false, exists_eq_left', exists_eq_left, keyOf, implies_true, fillC, capOf]
  unfold touchC
  by_cases h1 : -1 ≤ c.a - d.a ∧ c.a - d.a ≤ 1
  · simp (disch := omega) only [h1, h.app.cell, ↓SXd, SXu, slBounds, ↓sop, ↓aop, ↓reduceIte, LV.cells, AOp.dst, LV.I, LV.B, LV.U, LV.S, LV.nil, Nat.reduceEqDiff, Nat.reduceAdd, Nat.reduceMul, Nat.reduceSub, Nat.reduceLeDiff, Nat.reduceBEq, Nat.reduceDiv, Nat.reduceMod, Int.reduceToNat, Int.reduceLT, Int.reduceLE, Int.reduceAdd, Int.reduceSub, Int.reduceMul, Int.reduceEq, Int.reduceNeg, reduceCtorEq, resV, resAll, ARes.ev, LV.flat, ite_true, ite_false, exists_eq_left', exists_eq_left, keyOf, implies_true, fillC, capOf]
    refine callK_of (g_within) ?_
    simp (disch := omega) only [↓SXd, SXu, slBounds, ↓sop, ↓aop, ↓reduceIte, LV.cells, AOp.dst, LV.I, LV.B, LV.U, LV.S, LV.nil, Nat.reduceEqDiff, Nat.reduceAdd, Nat.reduceMul, Nat.reduceSub, Nat.reduceLeDiff, Nat.reduceBEq, Nat.reduceDiv, Nat.reduceMod, Int.reduceToNat, Int.reduceLT, Int.reduceLE, Int.reduceAdd, Int.reduceSub, Int.reduceMul, Int.reduceEq, Int.reduceNeg, reduceCtorEq, resV, resAll, ARes.ev, LV.flat, ite_true, ite_false, exists_eq_left', exists_eq_left, keyOf, implies_true, fillC, capOf]
    by_cases h2 : -1 ≤ c.b - d.b ∧ c.b - d.b ≤ 1
    · simp (disch := omega) only [h1, h2, h.app.cell, ↓SXd, SXu, slBounds, ↓sop, ↓aop, ↓reduceIte, LV.cells, AOp.dst, LV.I, LV.B, LV.U, LV.S, LV.nil, Nat.reduceEqDiff, Nat.reduceAdd, Nat.reduceMul, Nat.reduceSub, Nat.reduceLeDiff, Nat.reduceBEq, Nat.reduceDiv, Nat.reduceMod, Int.reduceToNat, Int.reduceLT, Int.reduceLE, Int.reduceAdd, Int.reduceSub, Int.reduceMul, Int.reduceEq, Int.reduceNeg, reduceCtorEq, resV, resAll, ARes.ev, LV.flat, ite_true, ite_false, exists_eq_left', exists_eq_left, keyOf, implies_true, fillC, capOf]
      refine callK_of (g_within) ?_
      simp (disch := omega) only [↓SXd, SXu, slBounds, ↓sop, ↓aop, ↓reduceIte, LV.cells, AOp.dst, LV.I, LV.B, LV.U, LV.S, LV.nil, Nat.reduceEqDiff, Nat.reduceAdd, Nat.reduceMul, Nat.reduceSub, Nat.reduceLeDiff, Nat.reduceBEq, Nat.reduceDiv, Nat.reduceMod, Int.reduceToNat, Int.reduceLT, Int.reduceLE, Int.reduceAdd, Int.reduceSub, Int.reduceMul, Int.reduceEq, Int.reduceNeg, reduceCtorEq, resV, resAll, ARes.ev, LV.flat, ite_true, ite_false, exists_eq_left', exists_eq_left, keyOf, implies_true, fillC, capOf]
      exact cmp_drop rfl
    · simp (disch := omega) only [h1, h2, ↓SXd, SXu, slBounds, ↓sop, ↓aop, ↓reduceIte, LV.cells, AOp.dst, LV.I, LV.B, LV.U, LV.S, LV.nil, Nat.reduceEqDiff, Nat.reduceAdd, Nat.reduceMul, Nat.reduceSub, Nat.reduceLeDiff, Nat.reduceBEq, Nat.reduceDiv, Nat.reduceMod, Int.reduceToNat, Int.reduceLT, Int.reduceLE, Int.reduceAdd, Int.reduceSub, Int.reduceMul, Int.reduceEq, Int.reduceNeg, reduceCtorEq, resV, resAll, ARes.ev, LV.flat, ite_true, ite_false, exists_eq_left', exists_eq_left, keyOf, implies_true, fillC, capOf]
      exact cmp_drop rfl
  · simp (disch := omega) only [h1, ↓SXd, SXu, slBounds, ↓sop, ↓aop, ↓reduceIte, LV.cells, AOp.dst, LV.I, LV.B, LV.U, LV.S, LV.nil, Nat.reduceEqDiff, Nat.reduceAdd, Nat.reduceMul, Nat.reduceSub, Nat.reduceLeDiff, Nat.reduceBEq, Nat.reduceDiv, Nat.reduceMod, Int.reduceToNat, Int.reduceLT, Int.reduceLE, Int.reduceAdd, Int.reduceSub, Int.reduceMul, Int.reduceEq, Int.reduceNeg, reduceCtorEq, resV, resAll, ARes.ev, LV.flat, ite_true, ite_false, exists_eq_left', exists_eq_left, keyOf, implies_true, fillC, capOf]
    exact cmp_drop rfl

section
variable {x y z : Int} (hS : Sides x y z)
include hS
theorem g_clusters {t o : Nat} {cs : List Cell} {M : Mem} (h : Tri M t o cs) (hn : cs.length ≤ 1000000000) (hin : ∀ c ∈ cs, c.inBox x y z) :
    CallsTo PG F.impl_Heap_clusters [.agg [.I x, .I y, .I z, .ref t o cs.length]] M (.ref M.length 0 (clus x y z 65 fun c => decide (c ∈ cs)).length) (M ++ [some (.row (setL x y z (clus x y z 65 fun c => decide (c ∈ cs))) true 1)]) := by
  refine calls_run K.impl_Heap_clusters rfl ?_
  simp (disch := omega) only [C.impl_Heap_clusters, ↓SXd, SXu, slBounds, ↓sop, ↓aop, ↓reduceIte, LV.cells, AOp.dst, LV.I, LV.B, LV.U, LV.S, LV.nil, Nat.reduceEqDiff, Nat.reduceAdd, Nat.reduceMul, Nat.reduceSub, Nat.reduceLeDiff, Nat.reduceBEq, Nat.reduceDiv, Nat.reduceMod, Int.reduceToNat, Int.reduceLT, Int.reduceLE, Int.reduceAdd, Int.reduceSub, Int.reduceMul, Int.reduceEq, Int.reduceNeg, reduceCtorEq, resV, resAll, ARes.ev, LV.flat, ite_true, ite_false, exists_eq_left', exists_eq_left, keyOf, implies_true, fillC, capOf]
  refine callK_of (g_box) ?_
  simp (disch := omega) only [↓SXd, SXu, slBounds, ↓sop, ↓aop, ↓reduceIte, LV.cells, AOp.dst, LV.I, LV.B, LV.U, LV.S, LV.nil, Nat.reduceEqDiff, Nat.reduceAdd, Nat.reduceMul, Nat.reduceSub, Nat.reduceLeDiff, Nat.reduceBEq, Nat.reduceDiv, Nat.reduceMod, Int.reduceToNat, Int.reduceLT, Int.reduceLE, Int.reduceAdd, Int.reduceSub, Int.reduceMul, Int.reduceEq, Int.reduceNeg, reduceCtorEq, resV, resAll, ARes.ev, LV.flat, ite_true, ite_false, exists_eq_left', exists_eq_left, keyOf, implies_true, fillC, capOf]
  refine callK_of (g_cubes h.app hn hS hin) ?_
  simp (disch := omega) only [splice, ↓SXd, SXu, slBounds, ↓sop, ↓aop, ↓reduceIte, LV.cells, AOp.dst, LV.I, LV.B, LV.U, LV.S, LV.nil, Nat.reduceEqDiff, Nat.reduceAdd, Nat.reduceMul, Nat.reduceSub, Nat.reduceLeDiff, Nat.reduceBEq, Nat.reduceDiv, Nat.reduceMod, Int.reduceToNat, Int.reduceLT, Int.reduceLE, Int.reduceAdd, Int.reduceSub, Int.reduceMul, Int.reduceEq, Int.reduceNeg, reduceCtorEq, resV, resAll, ARes.ev, LV.flat, ite_true, ite_false, exists_eq_left', exists_eq_left, keyOf, implies_true, fillC, capOf]
  refine ev_loop (fun m fr M' => ∃ (p : Cell → Bool) (u : Nat) (L : List (List Cell)), clus x y z 65 (fun c => decide (c ∈ cs)) = L ++ clus x y z m p ∧ (pick x y z p).length < m ∧ L.length ≤ 65 ∧ Pre M M' ∧ Live M' (M.length + 2) (.row [.I x, .I y, .I z] true 0) ∧ Live M' u (.row (setL x y z L) true 1) ∧ M.length < u ∧
    fr 3 = .ptr (M.length + 2) 0 ∧ fr 4 = .W (bs x y z p) ∧ fr 5 = .ref u 0 L.length) 65
    ⟨fun c => decide (c ∈ cs), M.length + 1, [], rfl, by have := pick_len hS fun c => decide (c ∈ cs); omega, by simp, Pre.app _ _, Live.newj rfl, Live.newj rfl, by omega, rfl, rfl, rfl⟩ ?_
  rintro m fr M' ⟨p, u, L, hparts, hfuel, hL, hpre, hbox, hout, hu, f3, f4, f5⟩
  obtain ⟨m', rfl⟩ : ∃ m', m = m' + 1 := ⟨m - 1, by omega⟩
  simp (disch := omega) only [f3, f4, f5, ↓SXd, SXu, slBounds, ↓sop, ↓aop, ↓reduceIte, LV.cells, AOp.dst, LV.I, LV.B, LV.U, LV.S, LV.nil, Nat.reduceEqDiff, Nat.reduceAdd, Nat.reduceMul, Nat.reduceSub, Nat.reduceLeDiff, Nat.reduceBEq, Nat.reduceDiv, Nat.reduceMod, Int.reduceToNat, Int.reduceLT, Int.reduceLE, Int.reduceAdd, Int.reduceSub, Int.reduceMul, Int.reduceEq, Int.reduceNeg, reduceCtorEq, resV, resAll, ARes.ev, LV.flat, ite_true, ite_false, exists_eq_left', exists_eq_left, keyOf, implies_true, fillC, capOf]
  by_cases hz : bs x y z p = 0#64
  · simp (disch := omega) only [f3, f4, f5, hz, ↓SXd, SXu, slBounds, ↓sop, ↓aop, ↓reduceIte, LV.cells, AOp.dst, LV.I, LV.B, LV.U, LV.S, LV.nil, Nat.reduceEqDiff, Nat.reduceAdd, Nat.reduceMul, Nat.reduceSub, Nat.reduceLeDiff, Nat.reduceBEq, Nat.reduceDiv, Nat.reduceMod, Int.reduceToNat, Int.reduceLT, Int.reduceLE, Int.reduceAdd, Int.reduceSub, Int.reduceMul, Int.reduceEq, Int.reduceNeg, reduceCtorEq, resV, resAll, ARes.ev, LV.flat, ite_true, ite_false, exists_eq_left', exists_eq_left, keyOf, implies_true, fillC, capOf]
    have hnil : pick x y z p = [] := by
      have := (bs_zero hS).1 hz
      unfold pick; rw [List.filter_eq_nil_iff]
      intro c hc; rw [this c ((mem_cellsOf hS).1 hc)]; simp
    rw [show clus x y z (m' + 1) p = [] by simp only [clus, hnil], List.append_nil] at hparts
    rw [hparts]
    exact cmp_keepL hpre (by omega) hout setL_lo (by simp [rn, rn0, rn1])
  obtain ⟨c, rs, hpk⟩ : ∃ c rs, pick x y z p = c :: rs := by
    cases hh : pick x y z p with
    | nil => exact absurd ((bs_zero hS).2 fun c hc => by
        cases hpc : p c with
        | false => rfl
        | true => have := (mem_pick hS).2 ⟨hc, hpc⟩; rw [hh] at this; cases this) hz
    | cons c rs => exact ⟨c, rs, rfl⟩
  have hcq := (mem_pick hS (p := p) (c := c)).1 (by rw [hpk]; simp)
  have hlow : ∀ d, d.inBox x y z → p d = true → ¬ d.lt c := fun d hd hpd hlt => by
    have hm := (mem_pick hS).2 ⟨hd, hpd⟩
    have hs := pick_sorted hS p
    rw [hpk] at hm hs
    rcases List.mem_cons.1 hm with rfl | hm
    · exact Cell.lt_irrefl _ hlt
    · exact Cell.lt_irrefl _ (Cell.lt_trans hlt ((List.pairwise_cons.1 hs).1 d hm))
  have hpp : clus x y z (m' + 1) p = pick x y z (reachT x y z (fun d => decide (d = c)) p) :: clus x y z m' fun d => p d && !reachT x y z (fun d => decide (d = c)) p d := by simp only [clus, hpk]
  rw [hpp] at hparts
  simp (disch := omega) only [f3, f4, f5, hz, ↓SXd, SXu, slBounds, ↓sop, ↓aop, ↓reduceIte, LV.cells, AOp.dst, LV.I, LV.B, LV.U, LV.S, LV.nil, Nat.reduceEqDiff, Nat.reduceAdd, Nat.reduceMul, Nat.reduceSub, Nat.reduceLeDiff, Nat.reduceBEq, Nat.reduceDiv, Nat.reduceMod, Int.reduceToNat, Int.reduceLT, Int.reduceLE, Int.reduceAdd, Int.reduceSub, Int.reduceMul, Int.reduceEq, Int.reduceNeg, reduceCtorEq, resV, resAll, ARes.ev, LV.flat, ite_true, ite_false, exists_eq_left', exists_eq_left, keyOf, implies_true, fillC, capOf]
  rw [bs_low hS hcq.1 hcq.2 hlow]
  refine ev_loop (fun m fr N => ∃ r : Cell → Bool, rest x y z r = m ∧ (∀ d, d.inBox x y z → decide (d = c) = true → r d = true) ∧ (∀ d, d.inBox x y z → r d = true → ReachT x y z (fun d => decide (d = c)) p d) ∧ Pre M' N ∧
    fr 3 = .ptr (M.length + 2) 0 ∧ fr 4 = .W (bs x y z p) ∧ fr 5 = .ref u 0 L.length ∧ fr 6 = .W (bs x y z r)) (rest x y z fun d => decide (d = c))
    ⟨fun d => decide (d = c), rfl, fun _ _ h => h, fun _ h1 h2 => .base h1 h2, Pre.refl _, f3, f4, f5, rfl⟩ ?_
  clear f3 f4 f5
  rintro m fr N ⟨r, hm, hr0, hr1, hp1, f3, f4, f5, f6⟩
  have hbox1 := hbox.pre hp1
  simp (disch := omega) only [f3, f4, f5, f6, hbox1.cells, ↓SXd, SXu, slBounds, ↓sop, ↓aop, ↓reduceIte, LV.cells, AOp.dst, LV.I, LV.B, LV.U, LV.S, LV.nil, Nat.reduceEqDiff, Nat.reduceAdd, Nat.reduceMul, Nat.reduceSub, Nat.reduceLeDiff, Nat.reduceBEq, Nat.reduceDiv, Nat.reduceMod, Int.reduceToNat, Int.reduceLT, Int.reduceLE, Int.reduceAdd, Int.reduceSub, Int.reduceMul, Int.reduceEq, Int.reduceNeg, reduceCtorEq, resV, resAll, ARes.ev, LV.flat, ite_true, ite_false, exists_eq_left', exists_eq_left, keyOf, implies_true, fillC, capOf]
  refine callN_of (g_list hS (p := r)) ?_
  intro t1 N1 ht1 hp2 hr
  simp (disch := omega) only [f3, f4, f5, f6, ↓SXd, SXu, slBounds, ↓sop, ↓aop, ↓reduceIte, LV.cells, AOp.dst, LV.I, LV.B, LV.U, LV.S, LV.nil, Nat.reduceEqDiff, Nat.reduceAdd, Nat.reduceMul, Nat.reduceSub, Nat.reduceLeDiff, Nat.reduceBEq, Nat.reduceDiv, Nat.reduceMod, Int.reduceToNat, Int.reduceLT, Int.reduceLE, Int.reduceAdd, Int.reduceSub, Int.reduceMul, Int.reduceEq, Int.reduceNeg, reduceCtorEq, resV, resAll, ARes.ev, LV.flat, ite_true, ite_false, exists_eq_left', exists_eq_left, keyOf, implies_true, fillC, capOf]
  have hbox2 := hbox1.pre hp2
  have hlr := pick_len hS r
  refine ev_loop (fun m2 fr W => ∃ k : Nat, k + m2 = (pick x y z r).length ∧ Pre N1 W ∧ fr 3 = .ptr (M.length + 2) 0 ∧ fr 4 = .W (bs x y z p) ∧ fr 5 = .ref u 0 L.length ∧ fr 6 = .W (bs x y z r) ∧ fr 7 = .W (bs x y z (growT r p ((pick x y z r).take k))) ∧
    fr 24 = .ref t1 0 (pick x y z r).length ∧ fr 25 = .I ((pick x y z r).length : Nat) ∧ fr 26 = .I k) (pick x y z r).length
    ⟨0, by omega, Pre.refl _, f3, f4, f5, f6, by rw [show growT r p ((pick x y z r).take 0) = r by funext d; simp [growT]]; rfl, rfl, rfl, rfl⟩ ?_
  clear f3 f4 f5 f6
  rintro m2 fr W ⟨k, hk, hp3, f3, f4, f5, f6, f7, f24, f25, f26⟩
  simp (disch := omega) only [f3, f4, f5, f6, f7, f24, f25, f26, ↓SXd, SXu, slBounds, ↓sop, ↓aop, ↓reduceIte, LV.cells, AOp.dst, LV.I, LV.B, LV.U, LV.S, LV.nil, Nat.reduceEqDiff, Nat.reduceAdd, Nat.reduceMul, Nat.reduceSub, Nat.reduceLeDiff, Nat.reduceBEq, Nat.reduceDiv, Nat.reduceMod, Int.reduceToNat, Int.reduceLT, Int.reduceLE, Int.reduceAdd, Int.reduceSub, Int.reduceMul, Int.reduceEq, Int.reduceNeg, reduceCtorEq, resV, resAll, ARes.ev, LV.flat, ite_true, ite_false, exists_eq_left', exists_eq_left, keyOf, implies_true, fillC, capOf]
  refine condC_dec (fun hlt => ?_) (fun hlt => ?_)
  · have hkl : k < (pick x y z r).length := by omega
    have hrk := (hr.pre hp3).tri0 hkl
    have hcm := (mem_pick hS).1 (getD_mem' (d := default) hkl)
    have hbox3 := hbox2.pre hp3
    simp (disch := omega) only [f3, f4, f5, f6, f7, f24, f25, f26, hrk, Cell.row, splice, hbox3.app.cells, ↓SXd, SXu, slBounds, ↓sop, ↓aop, ↓reduceIte, LV.cells, AOp.dst, LV.I, LV.B, LV.U, LV.S, LV.nil, Nat.reduceEqDiff, Nat.reduceAdd, Nat.reduceMul, Nat.reduceSub, Nat.reduceLeDiff, Nat.reduceBEq, Nat.reduceDiv, Nat.reduceMod, Int.reduceToNat, Int.reduceLT, Int.reduceLE, Int.reduceAdd, Int.reduceSub, Int.reduceMul, Int.reduceEq, Int.reduceNeg, reduceCtorEq, resV, resAll, ARes.ev, LV.flat, ite_true, ite_false, exists_eq_left', exists_eq_left, keyOf, implies_true, fillC, capOf]
    refine callK_of (g_those hS (p := fun d => touchC ((pick x y z r).getD k default) d) (f := F.impl_Heap_clusters_1) (caps := [(W.length, 0)]) fun M3 hp j hj => ?_) ?_
    · exact g_clusters_1 hS (Live.new.pre hp) hcm.1 (cellAt_in hS (by omega) (by have := (vol_cast hS); omega)).1
    simp (disch := omega) only [f3, f4, f5, f6, f7, f24, f25, f26, ↓SXd, SXu, slBounds, ↓sop, ↓aop, ↓reduceIte, LV.cells, AOp.dst, LV.I, LV.B, LV.U, LV.S, LV.nil, Nat.reduceEqDiff, Nat.reduceAdd, Nat.reduceMul, Nat.reduceSub, Nat.reduceLeDiff, Nat.reduceBEq, Nat.reduceDiv, Nat.reduceMod, Int.reduceToNat, Int.reduceLT, Int.reduceLE, Int.reduceAdd, Int.reduceSub, Int.reduceMul, Int.reduceEq, Int.reduceNeg, reduceCtorEq, resV, resAll, ARes.ev, LV.flat, ite_true, ite_false, exists_eq_left', exists_eq_left, keyOf, implies_true, fillC, capOf]
    rw [bs_and hS, bs_or hS]
    refine ⟨m2 - 1, by omega, k + 1, by omega, hp3.app', f3, f4, f5, f6, ?_, f24, f25, eqI (natI _)⟩
    rw [show bs x y z (growT r p ((pick x y z r).take (k + 1))) = _ from (bs_eq hS).2 fun d _ => growT_succ hkl d]
    rfl
  · have : k = (pick x y z r).length := by omega
    subst this
    rw [List.take_length] at f7
    simp (disch := omega) only [f3, f4, f5, f6, f7, ↓SXd, SXu, slBounds, ↓sop, ↓aop, ↓reduceIte, LV.cells, AOp.dst, LV.I, LV.B, LV.U, LV.S, LV.nil, Nat.reduceEqDiff, Nat.reduceAdd, Nat.reduceMul, Nat.reduceSub, Nat.reduceLeDiff, Nat.reduceBEq, Nat.reduceDiv, Nat.reduceMod, Int.reduceToNat, Int.reduceLT, Int.reduceLE, Int.reduceAdd, Int.reduceSub, Int.reduceMul, Int.reduceEq, Int.reduceNeg, reduceCtorEq, resV, resAll, ARes.ev, LV.flat, ite_true, ite_false, exists_eq_left', exists_eq_left, keyOf, implies_true, fillC, capOf]
    refine condC_dec (fun he => ?_) (fun he => ?_)
    · have hfix := reachT_of_fix hS hr0 hr1 ((bs_eq hS).1 he)
      have hre : bs x y z r = bs x y z (reachT x y z (fun d => decide (d = c)) p) := (bs_eq hS).2 fun d hd => hfix d hd
      rw [hre] at f6
      have hpW := (hp1.trans hp2).trans hp3
      simp (disch := omega) only [f3, f4, f5, f6, ↓SXd, SXu, slBounds, ↓sop, ↓aop, ↓reduceIte, LV.cells, AOp.dst, LV.I, LV.B, LV.U, LV.S, LV.nil, Nat.reduceEqDiff, Nat.reduceAdd, Nat.reduceMul, Nat.reduceSub, Nat.reduceLeDiff, Nat.reduceBEq, Nat.reduceDiv, Nat.reduceMod, Int.reduceToNat, Int.reduceLT, Int.reduceLE, Int.reduceAdd, Int.reduceSub, Int.reduceMul, Int.reduceEq, Int.reduceNeg, reduceCtorEq, resV, resAll, ARes.ev, LV.flat, ite_true, ite_false, exists_eq_left', exists_eq_left, keyOf, implies_true, fillC, capOf]
      refine appendK_1 (acc := setL x y z L) (new := [.W (bs x y z (reachT x y z (fun d => decide (d = c)) p))]) (hout.pre hpW) (by rw [setL_len]; omega) rfl (by omega) (by omega) (by omega) fun N' l1 l2 l3 => ?_
      simp (disch := omega) only [f3, f4, f5, f6, ↓SXd, SXu, slBounds, ↓sop, ↓aop, ↓reduceIte, LV.cells, AOp.dst, LV.I, LV.B, LV.U, LV.S, LV.nil, Nat.reduceEqDiff, Nat.reduceAdd, Nat.reduceMul, Nat.reduceSub, Nat.reduceLeDiff, Nat.reduceBEq, Nat.reduceDiv, Nat.reduceMod, Int.reduceToNat, Int.reduceLT, Int.reduceLE, Int.reduceAdd, Int.reduceSub, Int.reduceMul, Int.reduceEq, Int.reduceNeg, reduceCtorEq, resV, resAll, ARes.ev, LV.flat, ite_true, ite_false, exists_eq_left', exists_eq_left, keyOf, implies_true, fillC, capOf]
      rw [bs_diff hS]
      have hpM := hpre.trans hpW
      refine ⟨m', by omega, fun d => p d && !reachT x y z (fun d => decide (d = c)) p d, W.length + 1, L ++ [pick x y z (reachT x y z (fun d => decide (d = c)) p)], ?_, ?_, ?_, pre_step hpM (by omega) l1 l3, live_step (hbox.pre hpW) ?_ l3, ?_, by have := hpM.1; omega, f3, rfl, ?_⟩
      · rw [hparts, List.append_assoc]; rfl
      · have := filter_lt hS (l := cellsOf x y z) (p := fun d => p d && !reachT x y z (fun d => decide (d = c)) p d) (q := p) (fun a _ ha => by simp only [Bool.and_eq_true] at ha; exact ha.1)
          ⟨c, (mem_cellsOf hS).2 hcq.1, hcq.2, by rw [(reachT_iff (c := c)).2 (.base hcq.1 (by simp))]; simp⟩
        unfold pick at hfuel ⊢
        omega
      · have h1 := clus_len (x := x) (y := y) (z := z) 65 fun c => decide (c ∈ cs)
        have h2 := congrArg List.length hparts
        simp only [List.length_append, List.length_cons] at h2
        simp; omega
      · exact (hbox.pre hpW).ne_esz (hout.pre hpW) (by decide)
      · rw [show setL x y z (L ++ [pick x y z (reachT x y z (fun d => decide (d = c)) p)]) = setL x y z L ++ [.W (bs x y z (reachT x y z (fun d => decide (d = c)) p))] by
          unfold setL
          rw [List.map_append, List.map_singleton]
          rw [(bs_eq hS).2 fun d hd => show decide (d ∈ pick x y z (reachT x y z (fun d => decide (d = c)) p)) = reachT x y z (fun d => decide (d = c)) p d by
            rw [Bool.eq_iff_iff, decide_eq_true_iff, mem_pick hS]; exact ⟨fun h => h.2, fun h => ⟨hd, h⟩⟩]]
        exact l2
      · rw [List.length_append, List.length_singleton]; rfl
    · simp (disch := omega) only [f3, f4, f5, f6, ↓SXd, SXu, slBounds, ↓sop, ↓aop, ↓reduceIte, LV.cells, AOp.dst, LV.I, LV.B, LV.U, LV.S, LV.nil, Nat.reduceEqDiff, Nat.reduceAdd, Nat.reduceMul, Nat.reduceSub, Nat.reduceLeDiff, Nat.reduceBEq, Nat.reduceDiv, Nat.reduceMod, Int.reduceToNat, Int.reduceLT, Int.reduceLE, Int.reduceAdd, Int.reduceSub, Int.reduceMul, Int.reduceEq, Int.reduceNeg, reduceCtorEq, resV, resAll, ARes.ev, LV.flat, ite_true, ite_false, exists_eq_left', exists_eq_left, keyOf, implies_true, fillC, capOf]
      refine ⟨rest x y z (growT r p (pick x y z r)), ?_, growT r p (pick x y z r), rfl, fun d hd h => ?_, fun d hd h => growT_in hS hr1 hd h, (hp1.trans hp2).trans hp3, f3, f4, f5, f7⟩
      · rw [← hm]
        refine rest_lt hS (fun d hd h => by unfold growT; rw [h]; rfl) ?_
        apply Classical.byContradiction
        intro hno
        apply he
        refine (bs_eq hS).2 fun d hd => ?_
        cases h1 : r d with
        | true => unfold growT; rw [h1]; rfl
        | false =>
          cases h2 : growT r p (pick x y z r) d with
          | false => rfl
          | true => exact absurd ⟨d, hd, h1, h2⟩ hno
      · unfold growT; rw [hr0 d hd h]; rfl
end
end Go.Ab

namespace Go.Ab
open Go
set_option maxRecDepth 20000

def cellK (p : Cell) : LV := .agg [.I p.a, .I p.b, .I p.c]
def metE (D : List Cell) : List (LV × LV) := D.map fun p => (cellK p, .B true)
theorem cellK_eq (p q : Cell) : keyEq (cellK p) (cellK q) = some (decide (p = q)) := by
  obtain ⟨a, b, c⟩ := p
  obtain ⟨a', b', c'⟩ := q
  simp only [keyEq, cellK, eqC, if_true, Option.map_some, Bool.and_true]
  congr 1
  rw [Bool.eq_iff_iff]
  simp only [Bool.and_eq_true, beq_iff_eq, decide_eq_true_eq, cell_eq]
theorem met_find (p : Cell) : ∀ D : List Cell, findE (cellK p) (metE D) = some (if p ∈ D then some (.B true) else none)
  | [] => rfl
  | q :: D => by
    show findE (cellK p) ((cellK q, LV.B true) :: metE D) = _
    unfold findE
    rw [cellK_eq]
    by_cases h : p = q
    · rw [decide_eq_true h, if_pos (by simp [h])]
    · rw [decide_eq_false h]
      simp only [met_find p D, List.mem_cons, h, false_or]
theorem met_put {p : Cell} : ∀ {D : List Cell}, p ∉ D → putE (cellK p) (.B true) (metE D) = some (metE (D ++ [p]))
  | [], _ => rfl
  | q :: D, hp => by
    show putE (cellK p) (LV.B true) ((cellK q, LV.B true) :: metE D) = _
    unfold putE
    rw [cellK_eq, decide_eq_false (fun e => hp (by simp [e]))]
    simp only [met_put (D := D) fun h => hp (List.mem_cons_of_mem _ h)]
    rfl
theorem met_look {M : Mem} {t : Nat} {D : List Cell} {p : Cell} (h : Live M t (.map (metE D))) : lookM 3 (.mp t) (.agg [.val (.int .i64 p.a), .val (.int .i64 p.b), .val (.int .i64 p.c)]) M = some (if p ∈ D then some (.B true) else none) := by
  unfold lookM
  simp only [show M[t]? = some (some (.map (metE D))) from h]
  rw [if_pos (by rfl)]
  exact met_find p D
theorem met_putM {M : Mem} {t : Nat} {D : List Cell} {p : Cell} (h : Live M t (.map (metE D))) (hp : p ∉ D) : putM 3 (.mp t) (.agg [.val (.int .i64 p.a), .val (.int .i64 p.b), .val (.int .i64 p.c)]) (.val (.bool true)) M = some (M.set t (some (.map (metE (D ++ [p]))))) := by
  unfold putM
  simp only [show M[t]? = some (some (.map (metE D))) from h]
  rw [if_pos (by rfl)]
  have := met_put hp
  unfold cellK at this
  rw [this]; rfl

theorem memK_put {M : Mem} {t : Nat} {D : List Cell} {p : Cell} {A : Mem → Prop} (h : Live M t (.map (metE D))) (hp : p ∉ D)
    (hA : ∀ N, N.length = M.length → Live N t (.map (metE (D ++ [p]))) → (∀ u, u ≠ t → u < M.length → N[u]? = M[u]?) → A N) : memK (putM 3 (.mp t) (.agg [.val (.int .i64 p.a), .val (.int .i64 p.b), .val (.int .i64 p.c)]) (.val (.bool true)) M) A := by
  rw [met_putM h hp]
  exact hA _ (by simp) h.set_eq fun u hu _ => List.getElem?_set_ne (fun e => hu e.symm)

def halfC (c : Cell) (j : Nat) : Cell := ⟨2 * c.a + ((j % 3 : Nat) : Int), 2 * c.b + ((j / 3 % 3 : Nat) : Int), 2 * c.c + ((j / 9 : Nat) : Int)⟩
theorem half_near {c p : Cell} : (∃ j, j < 27 ∧ p = halfC c j) ↔ nearTo p c 3 = true := by
  have e : nearTo p c 3 = true ↔ (0 ≤ p.a - 2 * c.a ∧ p.a - 2 * c.a ≤ 2) ∧ (0 ≤ p.b - 2 * c.b ∧ p.b - 2 * c.b ≤ 2) ∧ (0 ≤ p.c - 2 * c.c ∧ p.c - 2 * c.c ≤ 2) := by
    simp only [nearTo, nearD, Bool.and_eq_true, decide_eq_true_eq, Bool.true_and]
    exact ⟨fun h => ⟨h.1.1, h.1.2, h.2⟩, fun h => ⟨⟨h.1, h.2.1⟩, h.2.2⟩⟩
  rw [e]
  constructor
  · rintro ⟨j, hj, rfl⟩
    unfold halfC
    simp only
    omega
  · intro h
    refine ⟨(p.a - 2 * c.a).toNat + 3 * (p.b - 2 * c.b).toNat + 9 * (p.c - 2 * c.c).toNat, by omega, ?_⟩
    obtain ⟨a, b, d⟩ := p
    simp only at h ⊢
    unfold halfC
    rw [cell_eq]
    refine ⟨?_, ?_, ?_⟩ <;> simp only <;> omega

def kcount (D : List Cell) (k : Nat) : Int := ((D.countP fun p => decide (kindC p = k) : Nat) : Int)
def fourOf (D : List Cell) : List Int := [kcount D 0, kcount D 1, kcount D 2, kcount D 3]
theorem kind_lt (p : Cell) : kindC p < 4 := by unfold kindC; omega
theorem fourOf_snoc {D : List Cell} {p : Cell} : fourOf (D ++ [p]) = (fourOf D).set (kindC p) ((fourOf D).getD (kindC p) 0 + 1) := by
  have hk := kind_lt p
  unfold fourOf kcount
  rcases (show kindC p = 0 ∨ kindC p = 1 ∨ kindC p = 2 ∨ kindC p = 3 by omega) with h | h | h | h <;> simp [h, List.countP_append]

theorem counts_eq {x y z : Int} {cs D : List Cell} (hH : HeapOK x y z cs) (hD : D.Nodup) (hm : ∀ p, p ∈ D ↔ inBody cs p) : countsOf x y z cs = fourOf D := by
  obtain ⟨⟨_, _⟩, ⟨_, _⟩, ⟨_, _⟩⟩ := id hH.1
  have hg : ∀ p, p ∈ D ↔ p ∈ gridPts (2 * y + 1).toNat (2 * z + 1).toNat (2 * x + 1).toNat ∧ inBody cs p := fun p => by
    rw [hm]
    refine ⟨fun h => ⟨?_, h⟩, fun h => h.2⟩
    obtain ⟨c, hc, hn⟩ := h
    obtain ⟨j, hj, rfl⟩ := half_near.2 hn
    obtain ⟨⟨_, _⟩, ⟨_, _⟩, ⟨_, _⟩⟩ := hH.mem hc
    rw [mem_grid]
    unfold halfC
    simp only
    omega
  have hl : (countsOf x y z cs).length = 4 := (counts_four hH.1).1
  have hk : ∀ k, k < 4 → (countsOf x y z cs).getD k 0 = kcount D k := fun k hk => by
    have := (gridF_get (cs := cs) (ny := (2 * y + 1).toNat) (nz := (2 * z + 1).toNat) (out := [0, 0, 0, 0]) rfl hk (n := (2 * x + 1).toNat)).2
    rw [grid_count hD hg] at this
    unfold countsOf kcount
    rw [this]
    rcases (show k = 0 ∨ k = 1 ∨ k = 2 ∨ k = 3 by omega) with rfl | rfl | rfl | rfl <;> simp
  generalize countsOf x y z cs = out at hl hk
  match out, hl with
  | [a, b, c, d], _ =>
    have h0 := hk 0 (by omega); have h1 := hk 1 (by omega); have h2 := hk 2 (by omega); have h3 := hk 3 (by omega)
    simp only [List.getD_cons_zero, List.getD_cons_succ] at h0 h1 h2 h3
    rw [h0, h1, h2, h3]; rfl

theorem tmodN {j : Nat} {k : Nat} : ((j : Int)).tmod (k : Int) = ((j % k : Nat) : Int) := by
  rw [Int.tmod_eq_emod_of_nonneg (by omega)]; rfl
theorem tdivN {j : Nat} {k : Nat} : ((j : Int)).tdiv (k : Int) = ((j / k : Nat) : Int) := by
  rw [Int.tdiv_eq_ediv_of_nonneg (by omega)]; rfl
theorem fourOf_bound {D : List Cell} {k : Nat} : 0 ≤ (fourOf D).getD k 0 ∧ (fourOf D).getD k 0 ≤ D.length := by
  have h : ∀ k, 0 ≤ kcount D k ∧ kcount D k ≤ D.length := fun k => by
    unfold kcount
    have := List.countP_le_length (p := fun p => decide (kindC p = k)) (l := D)
    omega
  match k with
  | 0 => exact h 0
  | 1 => exact h 1
  | 2 => exact h 2
  | 3 => exact h 3
  | k + 4 => simp [fourOf]

theorem g_counts {x y z : Int} {t o : Nat} {cs : List Cell} {M : Mem} (h : Tri M t o cs) (hH : HeapOK x y z cs) :
    CallsTo PG F.impl_Heap_counts [.agg [.I x, .I y, .I z, .ref t o cs.length]] M (.agg (intL (countsOf x y z cs))) M := by
  have hlen := hH.len
  have hin : ∀ c ∈ cs, c.inBox 4 4 4 := fun c hc => box4 hH.1 (hH.mem hc)
  refine calls_run K.impl_Heap_counts rfl ?_
  simp (disch := omega) only [C.impl_Heap_counts, splice, ↓SXd, SXu, slBounds, ↓sop, ↓aop, ↓reduceIte, LV.cells, AOp.dst, LV.I, LV.B, LV.U, LV.S, LV.nil, Nat.reduceEqDiff, Nat.reduceAdd, Nat.reduceMul, Nat.reduceSub, Nat.reduceLeDiff, Nat.reduceBEq, Nat.reduceDiv, Nat.reduceMod, Int.reduceToNat, Int.reduceLT, Int.reduceLE, Int.reduceAdd, Int.reduceSub, Int.reduceMul, Int.reduceEq, Int.reduceNeg, reduceCtorEq, resV, resAll, ARes.ev, LV.flat, ite_true, ite_false, exists_eq_left', exists_eq_left, keyOf, implies_true, fillC, capOf]
  refine ev_loop (fun m fr M' => ∃ (i : Nat) (D : List Cell), i + m = cs.length ∧ D.Nodup ∧ D.length ≤ 27 * i ∧ (∀ p, p ∈ D ↔ inBody (cs.take i) p) ∧ Pre M M' ∧ Live M' (M.length + 1) (.row [.I 0, .I 0, .I 0, .I 0] true 0) ∧ Live M' (M.length + 2) (.map (metE D)) ∧ Live M' (M.length + 3) (.row (intL (fourOf D)) true 0) ∧
    fr 2 = .ptr (M.length + 1) 0 ∧ fr 3 = .mp (M.length + 2) ∧ fr 4 = .ptr (M.length + 3) 0 ∧ fr 12 = .ref t o cs.length ∧ fr 13 = .I cs.length ∧ fr 14 = .I i) cs.length
    ⟨0, [], by omega, by simp, by simp, fun p => by simp [inBody], Pre.app _ _, Live.newj rfl, Live.newj rfl, Live.newj rfl, rfl, rfl, rfl, rfl, rfl, rfl⟩ ?_
  rintro m fr M' ⟨i, D, hi, hD, hDl, hDm, hpre, b1, b2, b3, f2, f3, f4, f12, f13, f14⟩
  simp (disch := omega) only [f2, f3, f4, f12, f13, f14, ↓SXd, SXu, slBounds, ↓sop, ↓aop, ↓reduceIte, LV.cells, AOp.dst, LV.I, LV.B, LV.U, LV.S, LV.nil, Nat.reduceEqDiff, Nat.reduceAdd, Nat.reduceMul, Nat.reduceSub, Nat.reduceLeDiff, Nat.reduceBEq, Nat.reduceDiv, Nat.reduceMod, Int.reduceToNat, Int.reduceLT, Int.reduceLE, Int.reduceAdd, Int.reduceSub, Int.reduceMul, Int.reduceEq, Int.reduceNeg, reduceCtorEq, resV, resAll, ARes.ev, LV.flat, ite_true, ite_false, exists_eq_left', exists_eq_left, keyOf, implies_true, fillC, capOf]
  refine condC_dec (fun hlt => ?_) (fun hlt => ?_)
  · have hil : i < cs.length := by omega
    have hci := Tri.get (h.pre hpre) hil
    obtain ⟨⟨_, _⟩, ⟨_, _⟩, ⟨_, _⟩⟩ := hin _ (getD_mem' (d := default) hil)
    generalize hc : cs.getD i default = c at *
    have hts : cs.take (i + 1) = cs.take i ++ [c] := by
      rw [← hc, List.take_succ, List.getElem?_eq_getElem hil]; simp [hil]
    simp (disch := omega) only [f2, f3, f4, f12, f13, f14, hci, Cell.row, splice, ↓SXd, SXu, slBounds, ↓sop, ↓aop, ↓reduceIte, LV.cells, AOp.dst, LV.I, LV.B, LV.U, LV.S, LV.nil, Nat.reduceEqDiff, Nat.reduceAdd, Nat.reduceMul, Nat.reduceSub, Nat.reduceLeDiff, Nat.reduceBEq, Nat.reduceDiv, Nat.reduceMod, Int.reduceToNat, Int.reduceLT, Int.reduceLE, Int.reduceAdd, Int.reduceSub, Int.reduceMul, Int.reduceEq, Int.reduceNeg, reduceCtorEq, resV, resAll, ARes.ev, LV.flat, ite_true, ite_false, exists_eq_left', exists_eq_left, keyOf, implies_true, fillC, capOf]
    refine ev_loop (fun m2 fr N => ∃ (j : Nat) (E : List Cell), j + m2 = 27 ∧ E.Nodup ∧ E.length ≤ 27 * i + j ∧ (∀ p, p ∈ E ↔ inBody (cs.take i) p ∨ ∃ j', j' < j ∧ p = halfC c j') ∧ Pre M N ∧ Live N (M.length + 1) (.row [.I 0, .I 0, .I 0, .I 0] true 0) ∧ Live N (M.length + 2) (.map (metE E)) ∧ Live N (M.length + 3) (.row (intL (fourOf E)) true 0) ∧ Live N M'.length (.row [.I c.a, .I c.b, .I c.c] true 0) ∧
      fr 2 = .ptr (M.length + 1) 0 ∧ fr 3 = .mp (M.length + 2) ∧ fr 4 = .ptr (M.length + 3) 0 ∧ fr 6 = .ptr M'.length 0 ∧ fr 12 = .ref t o cs.length ∧ fr 13 = .I cs.length ∧ fr 14 = .I i ∧ fr 18 = .I j) 27
      ⟨0, D, by omega, hD, by omega, fun p => by rw [hDm]; simp, hpre.app', b1.app, b2.app, b3.app, Live.new, f2, f3, f4, rfl, f12, f13, f14, rfl⟩ ?_
    have hb3 := b3.lt
    clear b1 b2 b3 hpre f2 f3 f4 f12 f13 f14 hci hD hDl hDm
    rintro m2 fr N ⟨j, E, hj, hE, hEl, hEm, hpre, b1, b2, b3, b6, f2, f3, f4, f6, f12, f13, f14, f18⟩
    simp (disch := omega) only [f2, f3, f4, f6, f12, f13, f14, f18, ↓SXd, SXu, slBounds, ↓sop, ↓aop, ↓reduceIte, LV.cells, AOp.dst, LV.I, LV.B, LV.U, LV.S, LV.nil, Nat.reduceEqDiff, Nat.reduceAdd, Nat.reduceMul, Nat.reduceSub, Nat.reduceLeDiff, Nat.reduceBEq, Nat.reduceDiv, Nat.reduceMod, Int.reduceToNat, Int.reduceLT, Int.reduceLE, Int.reduceAdd, Int.reduceSub, Int.reduceMul, Int.reduceEq, Int.reduceNeg, reduceCtorEq, resV, resAll, ARes.ev, LV.flat, ite_true, ite_false, exists_eq_left', exists_eq_left, keyOf, implies_true, fillC, capOf]
    refine condC_dec (fun hlt2 => ?_) (fun hlt2 => ?_)
    · have hj27 : j < 27 := by omega
      have m3 : ((j : Int)).tmod 3 = ((j % 3 : Nat) : Int) := tmodN
      have d3 : ((j : Int)).tdiv 3 = ((j / 3 : Nat) : Int) := tdivN
      have m33 : ((j / 3 : Nat) : Int).tmod 3 = ((j / 3 % 3 : Nat) : Int) := tmodN
      have d9 : ((j : Int)).tdiv 9 = ((j / 9 : Nat) : Int) := tdivN
      have ha : 2 * c.a + ((j % 3 : Nat) : Int) = (halfC c j).a := rfl
      have hb : 2 * c.b + ((j / 3 % 3 : Nat) : Int) = (halfC c j).b := rfl
      have hcc : 2 * c.c + ((j / 9 : Nat) : Int) = (halfC c j).c := rfl
      have hpb : (0 ≤ (halfC c j).a ∧ (halfC c j).a ≤ 8) ∧ (0 ≤ (halfC c j).b ∧ (halfC c j).b ≤ 8) ∧ (0 ≤ (halfC c j).c ∧ (halfC c j).c ≤ 8) := by unfold halfC; simp only; omega
      have hpm : (∃ j', j' < j + 1 ∧ (halfC c j) = halfC c j') := ⟨j, by omega, rfl⟩
      have hEm2 : ∀ q, (inBody (cs.take i) q ∨ ∃ j', j' < j + 1 ∧ q = halfC c j') ↔ (q ∈ E ∨ q = halfC c j) := fun q => by
        rw [hEm]
        constructor
        · rintro (h | ⟨j', h1, h2⟩)
          · exact .inl (.inl h)
          · rcases Nat.lt_or_ge j' j with h3 | h3
            · exact .inl (.inr ⟨j', h3, h2⟩)
            · rw [show j' = j by omega] at h2; exact .inr h2
        · rintro ((h | ⟨j', h1, h2⟩) | h)
          · exact .inl h
          · exact .inr ⟨j', by omega, h2⟩
          · exact .inr ⟨j, by omega, h⟩
      generalize halfC c j = p at ha hb hcc hpb hpm hEm2
      simp (disch := omega) only [f2, f3, f4, f6, f12, f13, f14, f18, b6.cell, splice, m3, d3, m33, d9, ha, hb, hcc, (met_look (b2.app (L := [some (.row [.I p.a, .I p.b, .I p.c] true 0)]))), ↓SXd, SXu, slBounds, ↓sop, ↓aop, ↓reduceIte, LV.cells, AOp.dst, LV.I, LV.B, LV.U, LV.S, LV.nil, Nat.reduceEqDiff, Nat.reduceAdd, Nat.reduceMul, Nat.reduceSub, Nat.reduceLeDiff, Nat.reduceBEq, Nat.reduceDiv, Nat.reduceMod, Int.reduceToNat, Int.reduceLT, Int.reduceLE, Int.reduceAdd, Int.reduceSub, Int.reduceMul, Int.reduceEq, Int.reduceNeg, reduceCtorEq, resV, resAll, ARes.ev, LV.flat, ite_true, ite_false, exists_eq_left', exists_eq_left, keyOf, implies_true, fillC, capOf]
      by_cases hpE : p ∈ E
      · simp (disch := omega) only [f2, f3, f4, f6, f12, f13, f14, f18, hpE, Option.getD_some, ↓SXd, SXu, slBounds, ↓sop, ↓aop, ↓reduceIte, LV.cells, AOp.dst, LV.I, LV.B, LV.U, LV.S, LV.nil, Nat.reduceEqDiff, Nat.reduceAdd, Nat.reduceMul, Nat.reduceSub, Nat.reduceLeDiff, Nat.reduceBEq, Nat.reduceDiv, Nat.reduceMod, Int.reduceToNat, Int.reduceLT, Int.reduceLE, Int.reduceAdd, Int.reduceSub, Int.reduceMul, Int.reduceEq, Int.reduceNeg, reduceCtorEq, resV, resAll, ARes.ev, LV.flat, ite_true, ite_false, exists_eq_left', exists_eq_left, keyOf, implies_true, fillC, capOf]
        exact ⟨m2 - 1, by omega, j + 1, E, by omega, hE, by omega, fun q => by rw [hEm2]; exact ⟨.inl, fun h => h.elim id fun e => e ▸ hpE⟩, hpre.app', b1.app, b2.app, b3.app, b6.app, f2, f3, f4, f6, f12, f13, f14, eqI (natI _)⟩
      · have ta : p.a.tmod 2 = ((p.a.toNat % 2 : Nat) : Int) := by rw [Int.tmod_eq_emod_of_nonneg hpb.1.1]; omega
        have tb : p.b.tmod 2 = ((p.b.toNat % 2 : Nat) : Int) := by rw [Int.tmod_eq_emod_of_nonneg hpb.2.1.1]; omega
        have tc : p.c.tmod 2 = ((p.c.toNat % 2 : Nat) : Int) := by rw [Int.tmod_eq_emod_of_nonneg hpb.2.2.1]; omega
        have hkd : ((p.a.toNat % 2 : Nat) : Int) + ((p.b.toNat % 2 : Nat) : Int) + ((p.c.toNat % 2 : Nat) : Int) = ((kindC p : Nat) : Int) := by unfold kindC; omega
        have hk4 := kind_lt p
        have hfs := fourOf_snoc (D := E) (p := p)
        have hfb := fourOf_bound (D := E) (k := kindC p)
        simp (disch := omega) only [f2, f3, f4, f6, f12, f13, f14, f18, hpE, Option.getD_none, Bool.not_false, ↓SXd, SXu, slBounds, ↓sop, ↓aop, ↓reduceIte, LV.cells, AOp.dst, LV.I, LV.B, LV.U, LV.S, LV.nil, Nat.reduceEqDiff, Nat.reduceAdd, Nat.reduceMul, Nat.reduceSub, Nat.reduceLeDiff, Nat.reduceBEq, Nat.reduceDiv, Nat.reduceMod, Int.reduceToNat, Int.reduceLT, Int.reduceLE, Int.reduceAdd, Int.reduceSub, Int.reduceMul, Int.reduceEq, Int.reduceNeg, reduceCtorEq, resV, resAll, ARes.ev, LV.flat, ite_true, ite_false, exists_eq_left', exists_eq_left, keyOf, implies_true, fillC, capOf]
        refine memK_put (b2.app (L := [some (.row [.I p.a, .I p.b, .I p.c] true 0)])) hpE fun W1 k1 k2 k3 => ?_
        have hl3 := b3.lt
        have hl6 := b6.lt
        have c8 : Live W1 N.length (.row [.I p.a, .I p.b, .I p.c] true 0) := live_step Live.new (by omega) k3
        have c3 : Live W1 (M.length + 3) (.row (intL (fourOf E)) true 0) := live_step b3.app (by omega) k3
        have c1 : Live W1 (M.length + 1) (.row [.I 0, .I 0, .I 0, .I 0] true 0) := live_step b1.app (by omega) k3
        have c6 : Live W1 M'.length (.row [.I c.a, .I c.b, .I c.c] true 0) := live_step b6.app (by omega) k3
        have hgk : (intL (fourOf E))[kindC p]? = some (.I ((fourOf E).getD (kindC p) 0)) := by
          rw [intL, List.getElem?_map, List.getElem?_eq_getElem (show kindC p < (fourOf E).length from hk4)]
          simp [List.getD_eq_getElem?_getD, List.getElem?_eq_getElem (show kindC p < (fourOf E).length from hk4)]
        generalize kindC p = kd at hkd hk4 hfs hfb hgk
        simp (disch := omega) only [f2, f3, f4, f6, f12, f13, f14, f18, c8.cell, ta, tb, tc, hkd, c3.cell, hgk, Nat.mul_one, ↓SXd, SXu, slBounds, ↓sop, ↓aop, ↓reduceIte, LV.cells, AOp.dst, LV.I, LV.B, LV.U, LV.S, LV.nil, Nat.reduceEqDiff, Nat.reduceAdd, Nat.reduceMul, Nat.reduceSub, Nat.reduceLeDiff, Nat.reduceBEq, Nat.reduceDiv, Nat.reduceMod, Int.reduceToNat, Int.reduceLT, Int.reduceLE, Int.reduceAdd, Int.reduceSub, Int.reduceMul, Int.reduceEq, Int.reduceNeg, reduceCtorEq, resV, resAll, ARes.ev, LV.flat, ite_true, ite_false, exists_eq_left', exists_eq_left, keyOf, implies_true, fillC, capOf]
        refine memK_at c3 (by simp [intL, fourOf]; omega) fun W2 j1 j2 j3 => ?_
        rw [intL_set', ← hfs] at j2
        simp (disch := omega) only [f2, f3, f4, f6, f12, f13, f14, f18, ↓SXd, SXu, slBounds, ↓sop, ↓aop, ↓reduceIte, LV.cells, AOp.dst, LV.I, LV.B, LV.U, LV.S, LV.nil, Nat.reduceEqDiff, Nat.reduceAdd, Nat.reduceMul, Nat.reduceSub, Nat.reduceLeDiff, Nat.reduceBEq, Nat.reduceDiv, Nat.reduceMod, Int.reduceToNat, Int.reduceLT, Int.reduceLE, Int.reduceAdd, Int.reduceSub, Int.reduceMul, Int.reduceEq, Int.reduceNeg, reduceCtorEq, resV, resAll, ARes.ev, LV.flat, ite_true, ite_false, exists_eq_left', exists_eq_left, keyOf, implies_true, fillC, capOf]
        refine ⟨m2 - 1, by omega, j + 1, E ++ [p], by omega, ?_, by simp; omega, fun q => by rw [hEm2]; simp, ?_, live_step c1 (by omega) j3, live_step k2 (by omega) j3, j2, live_step c6 (by omega) j3, f2, f3, f4, f6, f12, f13, f14, eqI (natI _)⟩
        · rw [List.nodup_append]
          exact ⟨hE, by simp, fun a ha b hb e => hpE (by rw [List.mem_singleton] at hb; rw [← hb, ← e]; exact ha)⟩
        · exact pre_step (pre_step hpre.app' (by omega) (j := 0) k1 k3) (by omega) (j := 0) j1 j3
    · simp (disch := omega) only [f2, f3, f4, f6, f12, f13, f14, f18, ↓SXd, SXu, slBounds, ↓sop, ↓aop, ↓reduceIte, LV.cells, AOp.dst, LV.I, LV.B, LV.U, LV.S, LV.nil, Nat.reduceEqDiff, Nat.reduceAdd, Nat.reduceMul, Nat.reduceSub, Nat.reduceLeDiff, Nat.reduceBEq, Nat.reduceDiv, Nat.reduceMod, Int.reduceToNat, Int.reduceLT, Int.reduceLE, Int.reduceAdd, Int.reduceSub, Int.reduceMul, Int.reduceEq, Int.reduceNeg, reduceCtorEq, resV, resAll, ARes.ev, LV.flat, ite_true, ite_false, exists_eq_left', exists_eq_left, keyOf, implies_true, fillC, capOf]
      have : j = 27 := by omega
      subst this
      refine ⟨m - 1, by omega, i + 1, E, by omega, hE, by omega, fun q => ?_, hpre, b1, b2, b3, f2, f3, f4, f12, f13, eqI (natI _)⟩
      rw [hEm, hts]
      unfold inBody
      constructor
      · rintro (⟨d, h1, h2⟩ | h1)
        · exact ⟨d, by simp [h1], h2⟩
        · exact ⟨c, by simp, half_near.1 h1⟩
      · rintro ⟨d, h1, h2⟩
        rcases List.mem_append.1 h1 with h1 | h1
        · exact .inl ⟨d, h1, h2⟩
        · rw [List.mem_singleton.1 h1] at h2
          exact .inr (half_near.2 h2)
  · have : i = cs.length := by omega
    subst this
    rw [List.take_length] at hDm
    rw [counts_eq hH hD hDm]
    have hl3 := b3.lt
    obtain ⟨n0, n1, n2, n3, hq⟩ : ∃ a b c d, fourOf D = [a, b, c, d] := ⟨_, _, _, _, rfl⟩
    rw [hq] at b3 ⊢
    change Live M' (M.length + 3) (.row [.I n0, .I n1, .I n2, .I n3] true 0) at b3
    simp (disch := omega) only [f2, f3, f4, f12, f13, f14, b3.cells, ↓SXd, SXu, slBounds, ↓sop, ↓aop, ↓reduceIte, LV.cells, AOp.dst, LV.I, LV.B, LV.U, LV.S, LV.nil, Nat.reduceEqDiff, Nat.reduceAdd, Nat.reduceMul, Nat.reduceSub, Nat.reduceLeDiff, Nat.reduceBEq, Nat.reduceDiv, Nat.reduceMod, Int.reduceToNat, Int.reduceLT, Int.reduceLE, Int.reduceAdd, Int.reduceSub, Int.reduceMul, Int.reduceEq, Int.reduceNeg, reduceCtorEq, resV, resAll, ARes.ev, LV.flat, ite_true, ite_false, exists_eq_left', exists_eq_left, keyOf, implies_true, fillC, capOf]
    refine memK_box b1 (by simp) fun W k1 k2 k3 => ?_
    simp (disch := omega) only [f2, f3, f4, f12, f13, f14, k2.cells, ↓SXd, SXu, slBounds, ↓sop, ↓aop, ↓reduceIte, LV.cells, AOp.dst, LV.I, LV.B, LV.U, LV.S, LV.nil, Nat.reduceEqDiff, Nat.reduceAdd, Nat.reduceMul, Nat.reduceSub, Nat.reduceLeDiff, Nat.reduceBEq, Nat.reduceDiv, Nat.reduceMod, Int.reduceToNat, Int.reduceLT, Int.reduceLE, Int.reduceAdd, Int.reduceSub, Int.reduceMul, Int.reduceEq, Int.reduceNeg, reduceCtorEq, resV, resAll, ARes.ev, LV.flat, ite_true, ite_false, exists_eq_left', exists_eq_left, keyOf, implies_true, fillC, capOf]
    exact cmp_pre (pre_step hpre (by omega) (j := 0) k1 k3) rfl

theorem g_euler {x y z : Int} {t o : Nat} {cs : List Cell} {M : Mem} (h : Tri M t o cs) (hH : HeapOK x y z cs) :
    CallsTo PG F.impl_Heap_euler [.agg [.I x, .I y, .I z, .ref t o cs.length]] M (.I (eulerOf x y z cs)) M := by
  have hc := counts_four (cs := cs) hH.1
  have hcall := g_counts (M := M ++ [some (.row [.I x, .I y, .I z, .ref t o cs.length] true 0)]) h.app hH
  unfold eulerOf
  generalize countsOf x y z cs = out at hc hcall
  obtain ⟨n0, n1, n2, n3, rfl⟩ : ∃ a b c d, out = [a, b, c, d] := by
    match out, hc.1 with
    | [a, b, c, d], _ => exact ⟨a, b, c, d, rfl⟩
  have q0 : 0 ≤ n0 ∧ n0 ≤ 729 := hc.2 0 (by omega)
  have q1 : 0 ≤ n1 ∧ n1 ≤ 729 := hc.2 1 (by omega)
  have q2 : 0 ≤ n2 ∧ n2 ≤ 729 := hc.2 2 (by omega)
  have q3 : 0 ≤ n3 ∧ n3 ≤ 729 := hc.2 3 (by omega)
  refine calls_run K.impl_Heap_euler rfl ?_
  simp (disch := omega) only [C.impl_Heap_euler, ↓SXd, SXu, slBounds, ↓sop, ↓aop, ↓reduceIte, LV.cells, AOp.dst, LV.I, LV.B, LV.U, LV.S, LV.nil, Nat.reduceEqDiff, Nat.reduceAdd, Nat.reduceMul, Nat.reduceSub, Nat.reduceLeDiff, Nat.reduceBEq, Nat.reduceDiv, Nat.reduceMod, Int.reduceToNat, Int.reduceLT, Int.reduceLE, Int.reduceAdd, Int.reduceSub, Int.reduceMul, Int.reduceEq, Int.reduceNeg, reduceCtorEq, resV, resAll, ARes.ev, LV.flat, ite_true, ite_false, exists_eq_left', exists_eq_left, keyOf, implies_true, fillC, capOf]
  refine callK_of hcall ?_
  change putK _ _ _ (LV.agg [.I n0, .I n1, .I n2, .I n3]) _
  simp (disch := omega) only [splice, ↓SXd, SXu, slBounds, ↓sop, ↓aop, ↓reduceIte, LV.cells, AOp.dst, LV.I, LV.B, LV.U, LV.S, LV.nil, Nat.reduceEqDiff, Nat.reduceAdd, Nat.reduceMul, Nat.reduceSub, Nat.reduceLeDiff, Nat.reduceBEq, Nat.reduceDiv, Nat.reduceMod, Int.reduceToNat, Int.reduceLT, Int.reduceLE, Int.reduceAdd, Int.reduceSub, Int.reduceMul, Int.reduceEq, Int.reduceNeg, reduceCtorEq, resV, resAll, ARes.ev, LV.flat, ite_true, ite_false, exists_eq_left', exists_eq_left, keyOf, implies_true, fillC, capOf]
  exact cmp_pre (Pre.app _ _) rfl
end Go.Ab

namespace Go.Ab
open Go
set_option maxRecDepth 20000

section
variable {x y z : Int} (hS : Sides x y z)
include hS
theorem pick_fewer {p q : Cell → Bool} {c : Cell} (hc : c.inBox x y z) (h : ∀ d, p d = true → q d = true) (hq : q c = true) (hp : p c = false) : (pick x y z p).length < (pick x y z q).length := by
  have h1 : ((c :: pick x y z p)).length ≤ (pick x y z q).length := nodup_subG (List.nodup_cons.2 ⟨fun hm => (by rw [((mem_pick hS).1 hm).2] at hp; cases hp), (pick_ok hS _).nodup⟩) fun d hd => by
    rcases List.mem_cons.1 hd with rfl | hd
    · exact (mem_pick hS).2 ⟨hc, hq⟩
    · obtain ⟨k1, k2⟩ := (mem_pick hS).1 hd
      exact (mem_pick hS).2 ⟨k1, h d k2⟩
  rw [List.length_cons] at h1; omega
theorem parts_led : ∀ (f : Nat) {q : Cell → Bool}, (pick x y z q).length ≤ f → ∃ lc : List Cell, lc.length = (parts x y z f q).length ∧ ∀ d : Cell, d.inBox x y z → q d = true → ∃ l ∈ lc, l.inBox x y z ∧ q l = true ∧ l.a ≤ d.a ∧ Reach x y z (fun e => decide (e = l)) q d
  | 0, q, hf => ⟨[], by simp [parts], fun d hd hq => by
      have := (mem_pick hS).2 ⟨hd, hq⟩
      rw [List.eq_nil_of_length_eq_zero (by omega : (pick x y z q).length = 0)] at this
      cases this⟩
  | f + 1, q, hf => by
    cases hpk : pick x y z q with
    | nil =>
      refine ⟨[], by simp [parts, hpk], fun d hd hq => ?_⟩
      have := (mem_pick hS).2 ⟨hd, hq⟩
      rw [hpk] at this; cases this
    | cons c rs =>
      obtain ⟨hci, hqc⟩ := (mem_pick hS).1 (show c ∈ pick x y z q by rw [hpk]; simp)
      have hcc : reach x y z (fun d => decide (d = c)) q c = true := reach_iff.2 (.base hci (by simp))
      have hlt := pick_fewer hS (p := fun d => q d && !reach x y z (fun d => decide (d = c)) q d) (q := q) hci (fun d hd => by simp only [Bool.and_eq_true] at hd; exact hd.1) hqc (by simp [hcc])
      obtain ⟨lc, h1, h2⟩ := parts_led f (q := fun d => q d && !reach x y z (fun d => decide (d = c)) q d) (by omega)
      refine ⟨c :: lc, by simp only [parts, hpk, List.length_cons, h1], fun d hd hq => ?_⟩
      cases hr : reach x y z (fun d => decide (d = c)) q d with
      | true =>
        refine ⟨c, by simp, hci, hqc, ?_, reach_iff.1 hr⟩
        have hm := (mem_pick hS).2 ⟨hd, hq⟩
        have hso := pick_sorted hS q
        rw [hpk] at hm hso
        rcases List.mem_cons.1 hm with rfl | hm
        · exact Int.le_refl _
        · have := (List.pairwise_cons.1 hso).1 d hm
          unfold Cell.lt at this
          omega
      | false =>
        obtain ⟨l, k1, k2, k3, k4, k5⟩ := h2 d hd (by simp [hq, hr])
        simp only [Bool.and_eq_true] at k3
        exact ⟨l, List.mem_cons_of_mem _ k1, k2, k3.1, k4, k5.mono (fun e e1 e2 => .base e1 e2) fun e e1 e2 => by simp only [Bool.and_eq_true] at e2; exact e2.1⟩
omit hS in
def RkT (x y z : Int) (q : Cell → Bool) (ls : List Cell) : Nat → Cell → Prop
  | 0, d => d ∈ ls
  | n + 1, d => (∃ e, RkT x y z q ls n e ∧ touchC e d = true) ∧ d.inBox x y z ∧ q d = true
omit hS in
theorem RkT.mono {q q' : Cell → Bool} {ls ls' : List Cell} (h1 : ∀ d, q d = true → q' d = true) (h2 : ∀ d ∈ ls, d ∈ ls') : ∀ {n : Nat} {d : Cell}, RkT x y z q ls n d → RkT x y z q' ls' n d
  | 0, d, h => h2 d h
  | n + 1, d, ⟨⟨e, e1, e2⟩, h3, h4⟩ => ⟨⟨e, RkT.mono h1 h2 e1, e2⟩, h3, h1 d h4⟩
theorem clus_led : ∀ (f : Nat) {q : Cell → Bool}, (pick x y z q).length ≤ f → ∃ ls : List Cell, ls.length = (clus x y z f q).length ∧ (∀ l ∈ ls, l.inBox x y z ∧ q l = true) ∧ ∀ d : Cell, d.inBox x y z → q d = true → ∃ n, RkT x y z q ls n d
  | 0, q, hf => ⟨[], by simp [clus], by simp, fun d hd hq => by
      have := (mem_pick hS).2 ⟨hd, hq⟩
      rw [List.eq_nil_of_length_eq_zero (by omega : (pick x y z q).length = 0)] at this
      cases this⟩
  | f + 1, q, hf => by
    cases hpk : pick x y z q with
    | nil =>
      refine ⟨[], by simp [clus, hpk], by simp, fun d hd hq => ?_⟩
      have := (mem_pick hS).2 ⟨hd, hq⟩
      rw [hpk] at this; cases this
    | cons c rs =>
      obtain ⟨hci, hqc⟩ := (mem_pick hS).1 (show c ∈ pick x y z q by rw [hpk]; simp)
      have hcc : reachT x y z (fun d => decide (d = c)) q c = true := reachT_iff.2 (.base hci (by simp))
      have hlt := pick_fewer hS (p := fun d => q d && !reachT x y z (fun d => decide (d = c)) q d) (q := q) hci (fun d hd => by simp only [Bool.and_eq_true] at hd; exact hd.1) hqc (by simp [hcc])
      obtain ⟨ls, h1, h2, h3⟩ := clus_led f (q := fun d => q d && !reachT x y z (fun d => decide (d = c)) q d) (by omega)
      refine ⟨c :: ls, by simp only [clus, hpk, List.length_cons, h1], fun l hl => ?_, fun d hd hq => ?_⟩
      · rcases List.mem_cons.1 hl with rfl | hl
        · exact ⟨hci, hqc⟩
        · have := h2 l hl
          simp only [Bool.and_eq_true] at this
          exact ⟨this.1, this.2.1⟩
      · cases hr : reachT x y z (fun d => decide (d = c)) q d with
        | true =>
          refine (reachT_iff.1 hr).ind (P := fun d => ∃ n, RkT x y z q (c :: ls) n d) (fun e _ he => ⟨0, by rw [of_decide_eq_true he]; simp [RkT]⟩) fun e g ⟨n, hn⟩ k1 k2 k3 => ⟨n + 1, ⟨e, hn, k1⟩, k2, k3⟩
        | false =>
          obtain ⟨n, hn⟩ := h3 d hd (by simp [hq, hr])
          exact ⟨n, hn.mono (fun e he => by simp only [Bool.and_eq_true] at he; exact he.1) fun e he => List.mem_cons_of_mem _ he⟩
end
theorem least_nat {P : Nat → Prop} (h : ∃ n, P n) : ∃ n, P n ∧ ∀ m, P m → n ≤ m := by
  obtain ⟨n, hn⟩ := h
  induction n using Nat.strongRecOn with
  | ind n ih =>
    by_cases h : ∃ m, m < n ∧ P m
    · obtain ⟨m, h1, h2⟩ := h
      exact ih m h1 h2
    · exact ⟨n, hn, fun m hm => by
        rcases Nat.lt_or_ge m n with h1 | h1
        · exact absurd ⟨m, h1, hm⟩ h
        · exact h1⟩
theorem tree_of {x y z : Int} {cs ls : List Cell} (hH : HeapOK x y z cs) (h1 : ∀ l ∈ ls, l ∈ cs) (h2 : ∀ d ∈ cs, ∃ n, RkT x y z (fun c => decide (c ∈ cs)) ls n d) : ∃ key sO, TreeC cs ls key sO := by
  have hS := hH.1
  have hex : ∀ d : Cell, ∃ n, (d ∈ cs → RkT x y z (fun c => decide (c ∈ cs)) ls n d ∧ ∀ m, RkT x y z (fun c => decide (c ∈ cs)) ls m d → n ≤ m) := fun d => by
    by_cases hd : d ∈ cs
    · obtain ⟨n, hn⟩ := least_nat (h2 d hd)
      exact ⟨n, fun _ => hn⟩
    · exact ⟨0, fun h => absurd h hd⟩
  obtain ⟨rk, hrk⟩ := Classical.axiomOfChoice hex
  let key : Cell → Nat := fun d => 65 * rk d + (idx y z d).toNat
  have hidx : ∀ d ∈ cs, (idx y z d).toNat < 64 ∧ cellAt y z ((idx y z d).toNat : Nat) = d := fun d hd => by
    obtain ⟨k1, k2, k3⟩ := idx_in hS (hH.mem hd)
    have := vol_bound hS
    exact ⟨by omega, by rw [Int.toNat_of_nonneg k1]; exact k3⟩
  have hcor : ∀ c : Cell, ∃ s, (c ∈ cs → inC c s ∧ evP s ∧ (c ∉ ls → ∃ d ∈ cs, key d < key c ∧ inC d s)) := fun c => by
    by_cases hc : c ∈ cs
    · by_cases hl : c ∈ ls
      · exact ⟨⟨2 * c.a, 2 * c.b, 2 * c.c⟩, fun _ => ⟨⟨by simp only; omega, by simp only; omega, by simp only; omega⟩, ⟨by simp only; omega, by simp only; omega, by simp only; omega⟩, fun h => absurd hl h⟩⟩
      · obtain ⟨k1, k2⟩ := hrk c hc
        cases hn : rk c with
        | zero => rw [hn] at k1; exact absurd k1 hl
        | succ n =>
          rw [hn] at k1
          obtain ⟨⟨e, e1, e2⟩, e3, e4⟩ := k1
          have hec : e ∈ cs := by
            cases n with
            | zero => exact h1 e e1
            | succ n => exact of_decide_eq_true e1.2.2
          have hle := (hrk e hec).2 n e1
          unfold touchC at e2
          rw [decide_eq_true_eq] at e2
          obtain ⟨⟨_, _⟩, ⟨_, _⟩, ⟨_, _⟩⟩ := e2
          have h6 := (hidx e hec).1
          refine ⟨⟨max (2 * e.a) (2 * c.a), max (2 * e.b) (2 * c.b), max (2 * e.c) (2 * c.c)⟩, fun _ => ⟨⟨by simp only; omega, by simp only; omega, by simp only; omega⟩, ⟨by simp only; omega, by simp only; omega, by simp only; omega⟩, fun _ => ⟨e, hec, ?_, ⟨by simp only; omega, by simp only; omega, by simp only; omega⟩⟩⟩⟩
          show 65 * rk e + (idx y z e).toNat < 65 * rk c + (idx y z c).toNat
          rw [hn]; omega
    · exact ⟨default, fun h => absurd h hc⟩
  obtain ⟨sO, hsO⟩ := Classical.axiomOfChoice hcor
  refine ⟨key, sO, fun c hc => ⟨(hsO c hc).1, (hsO c hc).2.1⟩, fun c hc hl => (hsO c hc).2.2 hl, fun c hc d hd he => ?_⟩
  have i1 := hidx c hc
  have i2 := hidx d hd
  have he : 65 * rk c + (idx y z c).toNat = 65 * rk d + (idx y z d).toNat := he
  rw [← i1.2, ← i2.2, show (idx y z c).toNat = (idx y z d).toNat by omega]
theorem filter_split {D A : List Cell} (hD : D.Nodup) : D.length ≤ (D.filter fun p => !decide (p ∈ A)).length + A.length := by
  have := nodup_subG (m := (D.filter fun p => !decide (p ∈ A)) ++ A) hD fun p hp => by
    by_cases h : p ∈ A
    · exact List.mem_append_right _ h
    · exact List.mem_append_left _ (List.mem_filter.2 ⟨hp, by simp [h]⟩)
  rwa [List.length_append] at this
theorem euler_le {x y z : Int} {cs ls lc D : List Cell} {key : Cell → Nat} {sO : Cell → Cell} (hH : HeapOK x y z cs) (hT : TreeC cs ls key sO)
    (hled : ∀ d : Cell, d.inBox x y z → closed x y z (fun c => decide (c ∈ cs)) d = true → ∃ l ∈ lc, l.inBox x y z ∧ closed x y z (fun c => decide (c ∈ cs)) l = true ∧ l.a ≤ d.a ∧ Reach x y z (fun e => decide (e = l)) (closed x y z fun c => decide (c ∈ cs)) d)
    (hD : D.Nodup) (hm : ∀ p, p ∈ D ↔ inBody cs p) :
    (D.filter fun p => decide (kindC p = 0)).length + (D.filter fun p => decide (kindC p = 2)).length ≤ (D.filter fun p => decide (kindC p = 1)).length + cs.length + ls.length + lc.length := by
  have hnn : ∀ p, inBody cs p → 0 ≤ p.a ∧ 0 ≤ p.b ∧ 0 ≤ p.c := fun p hp => by
    obtain ⟨c, h1, h2⟩ := body_iff.1 hp
    obtain ⟨⟨_, _⟩, ⟨_, _⟩, ⟨_, _⟩⟩ := hH.mem h1
    obtain ⟨⟨_, _⟩, ⟨_, _⟩, ⟨_, _⟩⟩ := h2
    omega
  have hkd : ∀ p, inBody cs p → ∀ k : Nat, kindC p = k ↔ p.a % 2 + p.b % 2 + p.c % 2 = (k : Int) := fun p hp k => by
    have := hnn p hp
    unfold kindC
    omega
  have mk : ∀ (k : Nat) p, p ∈ (D.filter fun p => decide (kindC p = k)) ↔ inBody cs p ∧ p.a % 2 + p.b % 2 + p.c % 2 = (k : Int) := fun k p => by
    rw [List.mem_filter, hm, decide_eq_true_eq]
    exact ⟨fun h => ⟨h.1, (hkd p h.1 k).1 h.2⟩, fun h => ⟨h.1, (hkd p h.1 k).2 h.2⟩⟩
  have nk : ∀ k : Nat, (D.filter fun p => decide (kindC p = k)).Nodup := fun k => hD.filter _
  obtain ⟨t, ht1, ht2, ht3⟩ := forest hT
  have mV := mk 0
  have mE := mk 1
  have mF := mk 2
  have nV := nk 0
  have nE := nk 1
  have nF := nk 2
  generalize (D.filter fun p => decide (kindC p = 0)) = V at mV nV ⊢
  generalize (D.filter fun p => decide (kindC p = 1)) = E at mE nE ⊢
  generalize (D.filter fun p => decide (kindC p = 2)) = F at mF nF ⊢
  have h1 := filter_split (A := ls.map sO) nV
  have h2 := filter_split (A := (cs ++ lc).map lfC) nF
  rw [List.length_map] at h1 h2
  rw [List.length_append] at h2
  have mNR : ∀ v, v ∈ (V.filter fun p => !decide (p ∈ ls.map sO)) ↔ evP v ∧ inBody cs v ∧ v ∉ ls.map sO := fun v => by
    rw [List.mem_filter, mV, Bool.not_eq_true', decide_eq_false_iff_not]
    unfold evP
    constructor
    · rintro ⟨⟨a1, a2⟩, a3⟩; exact ⟨by omega, a1, a3⟩
    · rintro ⟨a1, a2, a3⟩; exact ⟨⟨a2, by omega⟩, a3⟩
  have nNR : (V.filter fun p => !decide (p ∈ ls.map sO)).Nodup := nV.filter _
  generalize (V.filter fun p => !decide (p ∈ ls.map sO)) = NR at h1 mNR nNR
  have h3 : (E.filter fun p => !decide (p ∈ NR.map t)).length + NR.length ≤ E.length := by
    have := nodup_subG (l := (E.filter fun p => !decide (p ∈ NR.map t)) ++ NR.map t) (m := E) (List.nodup_append.2 ⟨nE.filter _, List.pairwise_map.2 (List.Pairwise.imp_of_mem (fun {v w} hv hw hne he => by
      obtain ⟨v1, v2, v3⟩ := (mNR v).1 hv
      obtain ⟨w1, w2, w3⟩ := (mNR w).1 hw
      exact hne (ht2 v w v1 v2 v3 w1 w2 w3 he)) nNR), fun a ha b hb e => by
        subst e
        have := (List.mem_filter.1 ha).2
        simp [hb] at this⟩) fun e he => by
      rcases List.mem_append.1 he with he | he
      · exact (List.mem_filter.1 he).1
      · obtain ⟨v, hv, rfl⟩ := List.mem_map.1 he
        obtain ⟨v1, v2, v3⟩ := (mNR v).1 hv
        obtain ⟨k1, k2⟩ := ht1 v v1 v2 v3
        exact (mE _).2 ⟨k1, by rw [k2]; rfl⟩
    rwa [List.length_append, List.length_map] at this
  have mF' : ∀ p, p ∈ (F.filter fun p => !decide (p ∈ (cs ++ lc).map lfC)) ↔ (inBody cs p ∧ p.a % 2 + p.b % 2 + p.c % 2 = 2) ∧ p ∉ (cs ++ lc).map lfC := fun p => by
    rw [List.mem_filter, mF, Bool.not_eq_true', decide_eq_false_iff_not]; rfl
  have nF' : (F.filter fun p => !decide (p ∈ (cs ++ lc).map lfC)).Nodup := nF.filter _
  have mE' : ∀ e, e ∈ (E.filter fun p => !decide (p ∈ NR.map t)) ↔ (inBody cs e ∧ e.a % 2 + e.b % 2 + e.c % 2 = 1) ∧ e ∉ NR.map t := fun e => by
    rw [List.mem_filter, mE, Bool.not_eq_true', decide_eq_false_iff_not]; rfl
  generalize (F.filter fun p => !decide (p ∈ (cs ++ lc).map lfC)) = F' at h2 mF' nF'
  generalize (E.filter fun p => !decide (p ∈ NR.map t)) = E' at h3 mE'
  have h4 : F'.length ≤ E'.length := by
    refine pigeon (φ := fun l => E'.map (bdC (zOf F' l))) (fun l _ => by rw [List.length_map]) fun l l' hl hl' he => ?_
    have hsup : ∀ p, (zOf F' l p ^^ zOf F' l' p) = true → p ∈ F' := fun p hp => by
      by_cases h : p ∈ F'
      · exact h
      · rw [zOf_out h, zOf_out h] at hp; cases hp
    have hadd : ∀ e, bdC (fun p => zOf F' l p ^^ zOf F' l' p) e = (bdC (zOf F' l) e ^^ bdC (zOf F' l') e) := fun e => bd_add
    generalize hz : (fun p => zOf F' l p ^^ zOf F' l' p) = z0 at hadd
    have hz0 : ∀ p, z0 p = (zOf F' l p ^^ zOf F' l' p) := fun p => by rw [← hz]
    have hsup0 : ∀ p, z0 p = true → p ∈ F' := fun p hp => hsup p (by rw [← hz0]; exact hp)
    have hE0 : ∀ e ∈ E', bdC z0 e = false := fun e hm' => by
      rw [hadd, List.map_inj_left.1 he e hm', Bool.xor_self]
    have hy := ht3 (fun e => if e.a % 2 + e.b % 2 + e.c % 2 = 1 then bdC z0 e else false) (fun e hye => by
      by_cases hk : e.a % 2 + e.b % 2 + e.c % 2 = 1
      · rw [if_pos hk] at hye
        have hbody : inBody cs e := by
          have hsq : ∃ p, p ∈ F' ∧ ((e.a % 2 = 0 ∧ (p = ⟨e.a + 1, e.b, e.c⟩ ∨ p = ⟨e.a - 1, e.b, e.c⟩)) ∨ (e.b % 2 = 0 ∧ (p = ⟨e.a, e.b + 1, e.c⟩ ∨ p = ⟨e.a, e.b - 1, e.c⟩)) ∨ (e.c % 2 = 0 ∧ (p = ⟨e.a, e.b, e.c + 1⟩ ∨ p = ⟨e.a, e.b, e.c - 1⟩))) := by
            apply Classical.byContradiction
            intro hno
            have hf : ∀ p, ((e.a % 2 = 0 ∧ (p = ⟨e.a + 1, e.b, e.c⟩ ∨ p = ⟨e.a - 1, e.b, e.c⟩)) ∨ (e.b % 2 = 0 ∧ (p = ⟨e.a, e.b + 1, e.c⟩ ∨ p = ⟨e.a, e.b - 1, e.c⟩)) ∨ (e.c % 2 = 0 ∧ (p = ⟨e.a, e.b, e.c + 1⟩ ∨ p = ⟨e.a, e.b, e.c - 1⟩))) → z0 p = false := fun p hp => by
              cases hzp : z0 p with
              | false => rfl
              | true => exact absurd ⟨p, hsup0 p hzp, hp⟩ hno
            have : bdC z0 e = false := by
              unfold bdC
              have a1 : (if e.a % 2 = 0 then z0 ⟨e.a + 1, e.b, e.c⟩ ^^ z0 ⟨e.a - 1, e.b, e.c⟩ else false) = false := by
                by_cases h : e.a % 2 = 0
                · rw [if_pos h, hf _ (.inl ⟨h, .inl rfl⟩), hf _ (.inl ⟨h, .inr rfl⟩)]; rfl
                · rw [if_neg h]
              have a2 : (if e.b % 2 = 0 then z0 ⟨e.a, e.b + 1, e.c⟩ ^^ z0 ⟨e.a, e.b - 1, e.c⟩ else false) = false := by
                by_cases h : e.b % 2 = 0
                · rw [if_pos h, hf _ (.inr (.inl ⟨h, .inl rfl⟩)), hf _ (.inr (.inl ⟨h, .inr rfl⟩))]; rfl
                · rw [if_neg h]
              have a3 : (if e.c % 2 = 0 then z0 ⟨e.a, e.b, e.c + 1⟩ ^^ z0 ⟨e.a, e.b, e.c - 1⟩ else false) = false := by
                by_cases h : e.c % 2 = 0
                · rw [if_pos h, hf _ (.inr (.inr ⟨h, .inl rfl⟩)), hf _ (.inr (.inr ⟨h, .inr rfl⟩))]; rfl
                · rw [if_neg h]
              rw [a1, a2, a3]; rfl
            rw [this] at hye
            cases hye
          obtain ⟨p, hpF, hpe⟩ := hsq
          obtain ⟨⟨hpb, hpk⟩, _⟩ := (mF' p).1 hpF
          obtain ⟨c, c1, c2⟩ := body_iff.1 hpb
          refine body_iff.2 ⟨c, c1, ?_⟩
          obtain ⟨⟨_, _⟩, ⟨_, _⟩, ⟨_, _⟩⟩ := c2
          rcases hpe with ⟨q, rfl | rfl⟩ | ⟨q, rfl | rfl⟩ | ⟨q, rfl | rfl⟩ <;> simp only at * <;> exact ⟨⟨by omega, by omega⟩, ⟨by omega, by omega⟩, ⟨by omega, by omega⟩⟩
        by_cases hT' : e ∈ NR.map t
        · obtain ⟨v, hv, rfl⟩ := List.mem_map.1 hT'
          obtain ⟨v1, v2, v3⟩ := (mNR v).1 hv
          exact ⟨v, v1, v2, v3, rfl⟩
        · have := hE0 e ((mE' e).2 ⟨⟨hbody, hk⟩, hT'⟩)
          rw [this] at hye
          cases hye
      · rw [if_neg hk] at hye; cases hye) (fun v hv => by
      obtain ⟨e1, e2, e3⟩ := id hv
      have := deg_bd (z := z0) hv
      unfold degC at this ⊢
      dsimp only
      rw [if_pos (by omega), if_pos (by omega), if_pos (by omega), if_pos (by omega), if_pos (by omega), if_pos (by omega)]
      exact this)
    have hC : ChnC x y z cs lc z0 := ⟨hH, fun p hp => ((mF' p).1 (hsup0 p hp)).1.1, fun p hp => ((mF' p).1 (hsup0 p hp)).1.2, fun c hc => by
      cases hzc : z0 (lfC c) with
      | false => rfl
      | true => exact absurd (List.mem_map.2 ⟨c, by simp [hc], rfl⟩) ((mF' _).1 (hsup0 _ hzc)).2, fun c hc => by
      cases hzc : z0 (lfC c) with
      | false => rfl
      | true => exact absurd (List.mem_map.2 ⟨c, by simp [hc], rfl⟩) ((mF' _).1 (hsup0 _ hzc)).2, fun p hp => by
      have := hy p
      rwa [if_pos hp] at this, hled⟩
    refine zOf_inj nF' hl hl' fun p => ?_
    have := hC.zero p
    rw [hz0] at this
    revert this
    generalize zOf F' l p = q1
    generalize zOf F' l' p = q2
    cases q1 <;> cases q2 <;> decide
  omega
theorem tunnels_bound {x y z : Int} {cs : List Cell} (hH : HeapOK x y z cs) : eulerOf x y z cs ≤ ((clus x y z 65 fun c => decide (c ∈ cs)).length : Int) + (parts x y z 65 (closed x y z fun c => decide (c ∈ cs))).length ∧ (countsOf x y z cs).getD 3 0 = cs.length := by
  have hS := hH.1
  obtain ⟨lc, l1, l2⟩ := parts_led hS 65 (q := closed x y z fun c => decide (c ∈ cs)) (by have := pick_len hS (closed x y z fun c => decide (c ∈ cs)); omega)
  obtain ⟨ls, s1, s2, s3⟩ := clus_led hS 65 (q := fun c => decide (c ∈ cs)) (by have := pick_len hS fun c => decide (c ∈ cs); omega)
  obtain ⟨key, sO, hT⟩ := tree_of hH (fun l hl => of_decide_eq_true (s2 l hl).2) fun d hd => s3 d (hH.mem hd) (decide_eq_true hd)
  obtain ⟨⟨_, _⟩, ⟨_, _⟩, ⟨_, _⟩⟩ := id hS
  let D := (gridPts (2 * y + 1).toNat (2 * z + 1).toNat (2 * x + 1).toNat).filter fun p => decide (inBody cs p)
  have hD : D.Nodup := grid_nodup.filter _
  have hm : ∀ p, p ∈ D ↔ inBody cs p := fun p => by
    show p ∈ List.filter _ _ ↔ _
    rw [List.mem_filter, decide_eq_true_eq]
    refine ⟨fun h => h.2, fun h => ⟨?_, h⟩⟩
    obtain ⟨c, hc, hn⟩ := body_iff.1 h
    obtain ⟨⟨_, _⟩, ⟨_, _⟩, ⟨_, _⟩⟩ := hH.mem hc
    obtain ⟨⟨_, _⟩, ⟨_, _⟩, ⟨_, _⟩⟩ := hn
    rw [mem_grid]
    omega
  have hle := euler_le hH hT l2 hD hm
  have hce := counts_eq hH hD hm
  have h3 : (D.filter fun p => decide (kindC p = 3)).length = cs.length := by
    have hmap : (cs.map fun c : Cell => (⟨2 * c.a + 1, 2 * c.b + 1, 2 * c.c + 1⟩ : Cell)).Nodup := List.pairwise_map.2 (hH.nodup.imp fun {a b} hne he => hne (by
      rw [cell_eq] at he ⊢
      simp only at he
      omega))
    have := count_same (hD.filter fun p => decide (kindC p = 3)) hmap fun p => by
      rw [List.mem_filter, hm, decide_eq_true_eq, List.mem_map]
      constructor
      · rintro ⟨hb, hk⟩
        obtain ⟨c, hc, hn⟩ := body_iff.1 hb
        obtain ⟨⟨_, _⟩, ⟨_, _⟩, ⟨_, _⟩⟩ := hH.mem hc
        obtain ⟨⟨_, _⟩, ⟨_, _⟩, ⟨_, _⟩⟩ := hn
        refine ⟨c, hc, ?_⟩
        unfold kindC at hk
        rw [cell_eq]
        simp only
        omega
      · rintro ⟨c, hc, rfl⟩
        obtain ⟨⟨_, _⟩, ⟨_, _⟩, ⟨_, _⟩⟩ := hH.mem hc
        refine ⟨body_iff.2 ⟨c, hc, ⟨by simp only; omega, by simp only; omega⟩, ⟨by simp only; omega, by simp only; omega⟩, ⟨by simp only; omega, by simp only; omega⟩⟩, ?_⟩
        unfold kindC
        simp only
        omega
    rwa [List.length_map] at this
  have hk : ∀ k, kcount D k = ((D.filter fun p => decide (kindC p = k)).length : Nat) := fun k => by
    unfold kcount; rw [List.countP_eq_length_filter]
  unfold eulerOf
  rw [hce]
  unfold fourOf
  simp only [List.getD_cons_zero, List.getD_cons_succ]
  rw [hk, hk, hk, hk, h3]
  omega
end Go.Ab

namespace Go.Ab.C
open Go.Ab
end Go.Ab.C

namespace Go.Ab.K
open Go Go.Ab
end Go.Ab.K

namespace Go.Ab.C
open Go.Ab
end Go.Ab.C

namespace Go.Ab.K
open Go Go.Ab
end Go.Ab.K

namespace Go.Ab.C
open Go.Ab
end Go.Ab.C

namespace Go.Ab.K
open Go Go.Ab
end Go.Ab.K

namespace Go.Ab
open Go

end Go.Ab

namespace Go.Ab
open Go

def Firm (x y z : Int) (p : Cell → Bool) : Prop := ∀ c, c.inBox x y z → p c = true → stand x y z p c = true
noncomputable instance (x y z : Int) (p : Cell → Bool) : Decidable (Firm x y z p) := Classical.propDecidable _
section
variable {x y z : Int} (hS : Sides x y z)
include hS
noncomputable def canTake (x y z : Int) (p : Cell → Bool) (c : Cell) : Bool := p c && decide (Firm x y z fun d => p d && !decide (d = c))

end

end Go.Ab

namespace Go.Ab

def first (x y z : Int) (p : Cell → Bool) : Cell := (pick x y z p).headD default
section
variable {x y z : Int} (hS : Sides x y z)
include hS
def layC (q : Cell → Bool) (laid : List Cell) : Cell → Bool := fun c => q c && (!decide (c ∈ laid) && (decide (c.c = 0) || laid.any fun d => decide (apart d c = 1)))
def layL (x y z : Int) (q : Cell → Bool) : Nat → List Cell
  | 0 => []
  | k + 1 => layL x y z q k ++ [first x y z (layC q (layL x y z q k))]

noncomputable def takeL (x y z : Int) (q : Cell → Bool) : Nat → List Cell
  | 0 => []
  | k + 1 => takeL x y z q k ++ [first x y z (canTake x y z fun d => q d && !decide (d ∈ takeL x y z q k))]
end
end Go.Ab

namespace Go.Ab

def up (c : Cell) : Cell := ⟨c.a, c.b, c.c + 1⟩
def down (c : Cell) : Cell := ⟨c.a, c.b, c.c - 1⟩
noncomputable def hang (x y z : Int) (p : Cell → Bool) : Cell → Bool := fun c => p c && !stand x y z p c
noncomputable def sinkNext (x y z : Int) (p : Cell → Bool) : Cell → Bool := fun d => stand x y z p d || (decide ((up d).inBox x y z) && hang x y z p (up d))
noncomputable def sinkK (x y z : Int) (p : Cell → Bool) (k : Nat) : Cell → Bool := fun d => stand x y z p d || ((pick x y z (hang x y z p)).take k).any fun e => decide (d = down e)
noncomputable def sink (x y z : Int) : Nat → (Cell → Bool) → (Cell → Bool) × Nat
  | 0, p => (p, 0)
  | f + 1, p => if Firm x y z p then (p, 0) else ((sink x y z f (sinkNext x y z p)).1, (sink x y z f (sinkNext x y z p)).2 + 1)

def sumC (l : List Cell) : Nat := (l.map fun c => c.c.toNat).sum
section
variable {x y z : Int} (hS : Sides x y z)
include hS
end
end Go.Ab

namespace Go.Ab
open Go

noncomputable def sinkOf (x y z : Int) (cs : List Cell) : Option Hp := by
  classical
  exact if HeapOK x y z cs then some ⟨x, y, z, pick x y z (sink x y z 1000 fun c => decide (c ∈ cs)).1⟩ else none
noncomputable def sinkTimes (x y z : Int) (cs : List Cell) : Int := by
  classical
  exact if HeapOK x y z cs then ((sink x y z 1000 fun c => decide (c ∈ cs)).2 : Nat) else 0
end Go.Ab

namespace Go.Ab.C
open Go.Ab
end Go.Ab.C

namespace Go.Ab.K
open Go Go.Ab
end Go.Ab.K

namespace Go.Ab.C
open Go.Ab
end Go.Ab.C

namespace Go.Ab.K
open Go Go.Ab
end Go.Ab.K

namespace Go.Ab.C
open Go.Ab
end Go.Ab.C

namespace Go.Ab.K
open Go Go.Ab
end Go.Ab.K

namespace Go.Ab.C
open Go.Ab
end Go.Ab.C

namespace Go.Ab.K
open Go Go.Ab
end Go.Ab.K

namespace Go.Ab
open Go

def Filled (x y z : Int) (cs : List Cell) : Prop := HeapOK x y z cs ∧ 0 < cs.length
noncomputable instance (x y z : Int) (cs : List Cell) : Decidable (Filled x y z cs) := Classical.propDecidable _
noncomputable def formOf (x y z : Int) (cs : List Cell) : Option Hp := if Filled x y z cs then some (formHp x y z cs) else none
def symB (x y z : Int) (cs : List Cell) (T : Turn) : Bool := !lessHp (posHp x y z cs T) (cropHp cs) && !lessHp (cropHp cs) (posHp x y z cs T)
def symAt (x y z : Int) (cs : List Cell) (j : Nat) : Bool := match turns[j]? with
  | some T => symB x y z cs T
  | none => false
def symsK (x y z : Int) (cs : List Cell) (k : Nat) : List Int := ((List.range k).filter (symAt x y z cs)).map fun (j : Nat) => (j : Int)
noncomputable def symsOf (x y z : Int) (cs : List Cell) : Option (List Int) := if Filled x y z cs then some (symsK x y z cs 24) else none
noncomputable def posOf (x y z : Int) (cs : List Cell) : Int := if Filled x y z cs then ((24 : Int).tdiv ((symsK x y z cs 24).length : Nat)) else 0
end Go.Ab

namespace Go.Ab
open Go

def mirC (x : Int) (c : Cell) : Cell := ⟨x - 1 - c.a, c.b, c.c⟩
def mirHp (x y z : Int) (cs : List Cell) : List Cell := pick x y z fun d => decide (d ∈ cs.map (mirC x))
def handB (x y z : Int) (cs : List Cell) : Bool := !(!lessHp (formHp x y z (mirHp x y z cs)) (formHp x y z cs) && !lessHp (formHp x y z cs) (formHp x y z (mirHp x y z cs)))
noncomputable def sameForm (x y z : Int) (cs : List Cell) (x' y' z' : Int) (ds : List Cell) : Bool := !lessHp (formHp x y z cs) (formHp x' y' z' ds) && !lessHp (formHp x' y' z' ds) (formHp x y z cs)
end Go.Ab

namespace Go.Ab.C
open Go.Ab
def spec_l6Steps : AFn :=
 ⟨0, 8, [.cellN 0 18],
 .seq (.ops [(none, .alloc 0 [(.I 0), (.I 0), (.I 0), (.I 0), (.I 0), (.I 0), (.I 0), (.I 0), (.I 0), (.I 0), (.I 0), (.I 0), (.I 0), (.I 0), (.I 0), (.I 0), (.I 0), (.I 0)])])
 (.seq (.ops [(none, .build 1 [(.I 0), (.I 0), (.I 0)] [(0, 1, (.c (.I (-1)))), (1, 1, (.c (.I 0))), (2, 1, (.c (.I 0)))]),
 (none, .build 2 [(.I 0), (.I 0), (.I 0)] [(0, 1, (.c (.I 1))), (1, 1, (.c (.I 0))), (2, 1, (.c (.I 0)))]),
 (none, .build 3 [(.I 0), (.I 0), (.I 0)] [(0, 1, (.c (.I 0))), (1, 1, (.c (.I (-1)))), (2, 1, (.c (.I 0)))]),
 (none, .build 4 [(.I 0), (.I 0), (.I 0)] [(0, 1, (.c (.I 0))), (1, 1, (.c (.I 1))), (2, 1, (.c (.I 0)))]),
 (none, .build 5 [(.I 0), (.I 0), (.I 0)] [(0, 1, (.c (.I 0))), (1, 1, (.c (.I 0))), (2, 1, (.c (.I (-1))))]),
 (none, .build 6 [(.I 0), (.I 0), (.I 0)] [(0, 1, (.c (.I 0))), (1, 1, (.c (.I 0))), (2, 1, (.c (.I 1)))]),
 (none, .build 7 [(.I 0), (.I 0), (.I 0), (.I 0), (.I 0), (.I 0), (.I 0), (.I 0), (.I 0), (.I 0), (.I 0), (.I 0), (.I 0), (.I 0), (.I 0), (.I 0), (.I 0), (.I 0)] [(0, 3, (.t 1)), (3, 3, (.t 2)), (6, 3, (.t 3)), (9, 3, (.t 4)), (12, 3, (.t 5)), (15, 3, (.t 6))]),
 (none, .store 18 (.t 0) (.t 7))])
 (.ret))⟩
def spec_l6Beside : AFn :=
 ⟨2, 21, [.cellN 4 3],
 .seq (.ops [(none, .box 2 (.t 0)),
 (none, .box 3 (.t 1)),
 (none, .alloc 4 [(.I 0), (.I 0), (.I 0)])])
 (.seq (.ops [(none, .idxA 5 3 1 (.t 2) (.c (.I 0))),
 (none, .load1 6 (.t 5)),
 (none, .idxA 7 3 1 (.t 3) (.c (.I 0))),
 (none, .load1 8 (.t 7)),
 (none, .bin 9 .add (.t 6) (.t 8)),
 (none, .idxA 10 3 1 (.t 2) (.c (.I 1))),
 (none, .load1 11 (.t 10)),
 (none, .idxA 12 3 1 (.t 3) (.c (.I 1))),
 (none, .load1 13 (.t 12)),
 (none, .bin 14 .add (.t 11) (.t 13)),
 (none, .idxA 15 3 1 (.t 2) (.c (.I 2))),
 (none, .load1 16 (.t 15)),
 (none, .idxA 17 3 1 (.t 3) (.c (.I 2))),
 (none, .load1 18 (.t 17)),
 (none, .bin 19 .add (.t 16) (.t 18)),
 (none, .build 20 [(.I 0), (.I 0), (.I 0)] [(0, 1, (.t 9)), (1, 1, (.t 14)), (2, 1, (.t 19))]),
 (none, .store 3 (.t 4) (.t 20))])
 (.ret))⟩
def spec_l6Enclosed : AFn :=
 ⟨1, 129, [.tmp 2],
 .seq (.ops [(none, .box 1 (.t 0)),
 (none, .mv 2 (.c .nil))])
 (.seq (.ops [(none, .fieldAddr 15 (.t 1) 0),
 (none, .load1 16 (.t 15)),
 (none, .fieldAddr 17 (.t 1) 1),
 (none, .load1 18 (.t 17)),
 (none, .fieldAddr 19 (.t 1) 2),
 (none, .load1 20 (.t 19)),
 (none, .call (some 21) F.spec_l2Empty [(.t 16), (.t 18), (.t 20)]),
 (none, .alloc 3 [(.I 0), (.I 0), (.I 0), .nil]),
 (none, .store 4 (.t 3) (.t 21))])
 (.seq (.ops [(none, .buildSl 22 0 3 [] []),
 (none, .call (some 23) F.spec_l6Steps []),
 (none, .alloc 5 [(.I 0), (.I 0), (.I 0), (.I 0), (.I 0), (.I 0), (.I 0), (.I 0), (.I 0), (.I 0), (.I 0), (.I 0), (.I 0), (.I 0), (.I 0), (.I 0), (.I 0), (.I 0)]),
 (none, .mv 4 (.t 22)),
 (none, .store 18 (.t 5) (.t 23))])
 (.seq (.seq (.ops [(none, .mv 6 (.c (.I (-1))))])
 (.block 0 (.loop (.seq (.seq (.ops [(none, .mv 24 (.t 6)),
 (none, .fieldAddr 25 (.t 1) 0),
 (none, .load1 26 (.t 25)),
 (none, .bin 27 .leq (.t 24) (.t 26))])
 (.cond (.t 27) (.skip)
 (.exit 0)))
 (.seq (.block 1 (.seq (.ops [(none, .mv 7 (.c (.I (-1))))])
 (.block 2 (.loop (.seq (.seq (.ops [(none, .mv 30 (.t 7)),
 (none, .fieldAddr 31 (.t 1) 1),
 (none, .load1 32 (.t 31)),
 (none, .bin 33 .leq (.t 30) (.t 32))])
 (.cond (.t 33) (.skip)
 (.exit 2)))
 (.seq (.block 3 (.seq (.ops [(none, .mv 8 (.c (.I (-1))))])
 (.block 4 (.loop (.seq (.seq (.ops [(none, .mv 36 (.t 8)),
 (none, .fieldAddr 37 (.t 1) 2),
 (none, .load1 38 (.t 37)),
 (none, .bin 39 .leq (.t 36) (.t 38))])
 (.cond (.t 39) (.skip)
 (.exit 4)))
 (.seq (.block 5 (.seq (.ops [(none, .loadN 42 4 (.t 1)),
 (none, .mv 43 (.t 6)),
 (none, .mv 44 (.t 7)),
 (none, .mv 45 (.t 8)),
 (none, .build 46 [(.I 0), (.I 0), (.I 0)] [(0, 1, (.t 43)), (1, 1, (.t 44)), (2, 1, (.t 45))]),
 (none, .call (some 47) F.spec_l2In [(.t 42), (.t 46)]),
 (none, .un 48 .not (.t 47))])
 (.cond (.t 48) (.ops [(none, .mv 49 (.t 4)),
 (none, .mv 50 (.t 6)),
 (none, .mv 51 (.t 7)),
 (none, .mv 52 (.t 8)),
 (none, .build 53 [(.I 0), (.I 0), (.I 0)] [(0, 1, (.t 50)), (1, 1, (.t 51)), (2, 1, (.t 52))]),
 (none, .buildSl 54 1 3 [(.I 0), (.I 0), (.I 0)] [(0, 3, (.t 53))]),
 (none, .append 55 3 24 (.t 49) (.t 54)),
 (none, .mv 4 (.t 55))])
 (.skip))))
 (.ops [(none, .mv 40 (.t 8)),
 (none, .bin 41 .add (.t 40) (.c (.I 1))),
 (none, .mv 8 (.t 41))])))))))
 (.ops [(none, .mv 34 (.t 7)),
 (none, .bin 35 .add (.t 34) (.c (.I 1))),
 (none, .mv 7 (.t 35))])))))))
 (.ops [(none, .mv 28 (.t 6)),
 (none, .bin 29 .add (.t 28) (.c (.I 1))),
 (none, .mv 6 (.t 29))]))))))
 (.seq (.seq (.ops [(none, .mv 9 (.c (.I 0)))])
 (.block 6 (.loop (.seq (.seq (.ops [(none, .mv 56 (.t 9)),
 (none, .mv 57 (.t 4)),
 (none, .len 58 (.t 57)),
 (none, .bin 59 .lss (.t 56) (.t 58))])
 (.cond (.t 59) (.skip)
 (.exit 6)))
 (.seq (.block 7 (.seq (.ops [(none, .mv 10 (.c (.I 0)))])
 (.block 8 (.loop (.seq (.seq (.ops [(none, .mv 62 (.t 10)),
 (none, .bin 63 .lss (.t 62) (.c (.I 6)))])
 (.cond (.t 63) (.skip)
 (.exit 8)))
 (.seq (.block 9 (.seq (.draw [⟨(none, .mv 66 (.t 4)), [], []⟩,
 ⟨(none, .mv 67 (.t 9)), [], []⟩,
 ⟨(none, .idxS 68 3 (.t 66) (.t 67)), [], []⟩,
 ⟨(none, .loadN 69 3 (.t 68)), [], []⟩,
 ⟨(none, .mv 70 (.t 10)), [], []⟩,
 ⟨(none, .idxA 71 6 3 (.t 5) (.t 70)), [], []⟩,
 ⟨(none, .loadN 72 3 (.t 71)), [], []⟩,
 ⟨(none, .alloc 11 [(.I 0), (.I 0), (.I 0)]), [], []⟩,
 ⟨(none, .call (some 73) F.spec_l6Beside [(.t 69), (.t 72)]), [7], []⟩,
 ⟨(none, .store 3 (.t 11) (.t 73)), [], []⟩])
 (.seq (.ops [(none, .loadN 74 4 (.t 1)),
 (none, .loadN 75 3 (.t 11)),
 (none, .call (some 76) F.spec_l2In [(.t 74), (.t 75)]),
 (none, .mv 77 (.t 76)),
 (some (77, true), .loadN 78 4 (.t 1)),
 (some (77, true), .loadN 79 3 (.t 11)),
 (some (77, true), .call (some 80) F.spec_l2Has [(.t 78), (.t 79)]),
 (some (77, true), .un 81 .not (.t 80)),
 (none, .pick 82 (.t 77) (.t 81) (.c (.B false))),
 (none, .mv 83 (.t 82)),
 (some (83, true), .loadN 84 4 (.t 3)),
 (some (83, true), .loadN 85 3 (.t 11)),
 (some (83, true), .call (some 86) F.spec_l2Has [(.t 84), (.t 85)]),
 (some (83, true), .un 87 .not (.t 86)),
 (none, .pick 88 (.t 83) (.t 87) (.c (.B false)))])
 (.cond (.t 88) (.seq (.ops [(none, .loadN 89 4 (.t 3)),
 (none, .loadN 90 3 (.t 11)),
 (none, .call (some 91) F.spec_l2With [(.t 89), (.t 90)]),
 (none, .store 4 (.t 3) (.t 91))])
 (.ops [(none, .mv 92 (.t 4)),
 (none, .loadN 93 3 (.t 11)),
 (none, .buildSl 94 1 3 [(.I 0), (.I 0), (.I 0)] [(0, 3, (.t 93))]),
 (none, .append 95 3 24 (.t 92) (.t 94)),
 (none, .mv 4 (.t 95))]))
 (.skip)))))
 (.ops [(none, .mv 64 (.t 10)),
 (none, .bin 65 .add (.t 64) (.c (.I 1))),
 (none, .mv 10 (.t 65))])))))))
 (.ops [(none, .mv 60 (.t 9)),
 (none, .bin 61 .add (.t 60) (.c (.I 1))),
 (none, .mv 9 (.t 61))]))))))
 (.seq (.ops [(none, .buildSl 96 0 3 [] []),
 (none, .loadN 97 4 (.t 1)),
 (none, .call (some 98) F.spec_l2All [(.t 97)]),
 (none, .mv 12 (.t 96)),
 (none, .mv 13 (.t 98))])
 (.seq (.seq (.ops [(none, .mv 14 (.c (.I 0)))])
 (.block 10 (.loop (.seq (.seq (.ops [(none, .mv 99 (.t 14)),
 (none, .mv 100 (.t 13)),
 (none, .len 101 (.t 100)),
 (none, .bin 102 .lss (.t 99) (.t 101))])
 (.cond (.t 102) (.skip)
 (.exit 10)))
 (.seq (.block 11 (.seq (.draw [⟨(none, .loadN 105 4 (.t 1)), [], []⟩,
 ⟨(none, .mv 106 (.t 13)), [], []⟩,
 ⟨(none, .mv 107 (.t 14)), [], []⟩,
 ⟨(none, .idxS 108 3 (.t 106) (.t 107)), [], []⟩,
 ⟨(none, .loadN 109 3 (.t 108)), [], []⟩,
 ⟨(none, .call (some 110) F.spec_l2Has [(.t 105), (.t 109)]), [], []⟩,
 ⟨(none, .un 111 .not (.t 110)), [], []⟩,
 ⟨(none, .mv 112 (.t 111)), [], []⟩,
 ⟨(some (112, true), .loadN 113 4 (.t 3)), [], []⟩,
 ⟨(some (112, true), .mv 114 (.t 13)), [], []⟩,
 ⟨(some (112, true), .mv 115 (.t 14)), [], []⟩,
 ⟨(some (112, true), .idxS 116 3 (.t 114) (.t 115)), [], []⟩,
 ⟨(some (112, true), .loadN 117 3 (.t 116)), [], []⟩,
 ⟨(some (112, true), .call (some 118) F.spec_l2Has [(.t 113), (.t 117)]), [], []⟩,
 ⟨(some (112, true), .un 119 .not (.t 118)), [], []⟩,
 ⟨(none, .pick 120 (.t 112) (.t 119) (.c (.B false))), [], []⟩])
 (.cond (.t 120) (.ops [(none, .mv 121 (.t 12)),
 (none, .mv 122 (.t 13)),
 (none, .mv 123 (.t 14)),
 (none, .idxS 124 3 (.t 122) (.t 123)),
 (none, .loadN 125 3 (.t 124)),
 (none, .buildSl 126 1 3 [(.I 0), (.I 0), (.I 0)] [(0, 3, (.t 125))]),
 (none, .append 127 3 24 (.t 121) (.t 126)),
 (none, .mv 12 (.t 127))])
 (.skip))))
 (.ops [(none, .mv 103 (.t 14)),
 (none, .bin 104 .add (.t 103) (.c (.I 1))),
 (none, .mv 14 (.t 104))]))))))
 (.seq (.ops [(none, .mv 128 (.t 12)),
 (none, .mv 2 (.t 128))])
 (.ret))))))))⟩
end Go.Ab.C

namespace Go.Ab.K
open Go Go.Ab
theorem spec_l6Steps : prepF Go.Proofs.Try.prog F.spec_l6Steps = some C.spec_l6Steps := by kernel_rfl
theorem spec_l6Beside : prepF Go.Proofs.Try.prog F.spec_l6Beside = some C.spec_l6Beside := by kernel_rfl
theorem spec_l6Enclosed : prepF Go.Proofs.Try.prog F.spec_l6Enclosed = some C.spec_l6Enclosed := by kernel_rfl
end Go.Ab.K

namespace Go.Ab

theorem getD_get {α : Type} {l : List α} {i : Nat} {d : α} (h : i < l.length) : l.getD i d = l[i] := by simp [h]
def ExtC (x y z : Int) (c : Cell) : Prop := (-1 ≤ c.a ∧ c.a ≤ x) ∧ (-1 ≤ c.b ∧ c.b ≤ y) ∧ (-1 ≤ c.c ∧ c.c ≤ z)
theorem Cell.inBox.ext {x y z : Int} {c : Cell} (h : c.inBox x y z) : ExtC x y z c := by
  obtain ⟨⟨_, _⟩, ⟨_, _⟩, ⟨_, _⟩⟩ := h
  exact ⟨⟨by omega, by omega⟩, ⟨by omega, by omega⟩, ⟨by omega, by omega⟩⟩
def Bef (c : Cell) (i j k : Int) : Prop := c.a < i ∨ (c.a = i ∧ (c.b < j ∨ (c.b = j ∧ c.c < k)))
structure Mgn (x y z i j k : Int) (l : List Cell) : Prop where
  mem : ∀ c ∈ l, ExtC x y z c ∧ ¬ c.inBox x y z
  all : ∀ c, ExtC x y z c → ¬ c.inBox x y z → Bef c i j k → c ∈ l
  len : (l.length : Int) ≤ (i + 1) * 36 + (j + 1) * 6 + (k + 1)
theorem Mgn.nil {x y z : Int} : Mgn x y z (-1) (-1) (-1) [] := by
  refine ⟨by simp, fun c ⟨⟨_, _⟩, ⟨_, _⟩, ⟨_, _⟩⟩ _ hb => ?_, by simp⟩
  unfold Bef at hb
  omega
theorem Mgn.out {x y z i j k : Int} {l : List Cell} (h : Mgn x y z i j k l) (hk : k < 6) (hc : ExtC x y z ⟨i, j, k⟩) (ho : ¬ Cell.inBox x y z ⟨i, j, k⟩) : Mgn x y z i j (k + 1) (l ++ [⟨i, j, k⟩]) := by
  refine ⟨fun c hm => ?_, fun c h1 h2 h3 => ?_, ?_⟩
  · rcases List.mem_append.1 hm with hm | hm
    · exact h.mem c hm
    · rw [List.mem_singleton.1 hm]; exact ⟨hc, ho⟩
  · rw [List.mem_append, List.mem_singleton, cell_eq]
    unfold Bef at h3
    by_cases hb : Bef c i j k
    · exact .inl (h.all c h1 h2 hb)
    · right; unfold Bef at hb; simp only; omega
  · have := h.len; rw [List.length_append, List.length_singleton]; omega
theorem Mgn.in {x y z i j k : Int} {l : List Cell} (h : Mgn x y z i j k l) (ho : Cell.inBox x y z ⟨i, j, k⟩) : Mgn x y z i j (k + 1) l := by
  refine ⟨h.mem, fun c h1 h2 h3 => ?_, by have := h.len; omega⟩
  unfold Bef at h3
  by_cases hb : Bef c i j k
  · exact h.all c h1 h2 hb
  · unfold Bef at hb
    exact absurd (by rw [show c = ⟨i, j, k⟩ from cell_eq.2 (by simp only; omega)]; exact ho) h2
theorem Mgn.row {x y z i j k : Int} {l : List Cell} (h : Mgn x y z i j k l) (hk : z < k) (hz : k ≤ 5) : Mgn x y z i (j + 1) (-1) l := by
  refine ⟨h.mem, fun c h1 h2 h3 => h.all c h1 h2 ?_, by have := h.len; omega⟩
  obtain ⟨_, _, _, _⟩ := h1
  unfold Bef at h3 ⊢
  omega
theorem Mgn.plane {x y z i j : Int} {l : List Cell} (h : Mgn x y z i j (-1) l) (hk : y < j) (hz : j ≤ 5) : Mgn x y z (i + 1) (-1) (-1) l := by
  refine ⟨h.mem, fun c h1 h2 h3 => h.all c h1 h2 ?_, by have := h.len; omega⟩
  obtain ⟨_, ⟨_, _⟩, _, _⟩ := h1
  unfold Bef at h3 ⊢
  omega

structure Out (x y z : Int) (p : Cell → Bool) (n k : Nat) (mg r : List Cell) : Prop where
  base : ∀ c, ExtC x y z c → ¬ c.inBox x y z → c ∈ mg
  mgm : ∀ c ∈ mg, ExtC x y z c ∧ ¬ c.inBox x y z
  nodup : r.Nodup
  mem : ∀ d ∈ r, d.inBox x y z ∧ p d = false ∧ outer x y z p d = true
  done : ∀ i, i < n → i < (mg ++ r).length → ∀ e, e.inBox x y z → p e = false → apart ((mg ++ r).getD i default) e = 1 → e ∈ r
  part : ∀ j, j < k → ((nbrs ((mg ++ r).getD n default)).getD j default).inBox x y z → p ((nbrs ((mg ++ r).getD n default)).getD j default) = false → (nbrs ((mg ++ r).getD n default)).getD j default ∈ r

section
variable {x y z : Int} {p : Cell → Bool} {n k : Nat} {mg r : List Cell}
theorem Out.skip (h : Out x y z p n k mg r) (hs : ¬ ((((nbrs ((mg ++ r).getD n default)).getD k default).inBox x y z ∧ p ((nbrs ((mg ++ r).getD n default)).getD k default) = false) ∧ (nbrs ((mg ++ r).getD n default)).getD k default ∉ r)) : Out x y z p n (k + 1) mg r :=
  ⟨h.base, h.mgm, h.nodup, h.mem, h.done, fun j hj h1 h2 => by
    rcases Nat.lt_or_ge j k with h3 | h3
    · exact h.part j h3 h1 h2
    · rw [show j = k by omega] at h1 h2 ⊢
      exact Classical.byContradiction fun h4 => hs ⟨⟨h1, h2⟩, h4⟩⟩
theorem Out.add (h : Out x y z p n k mg r) (hk : k < 6) (hn : n < (mg ++ r).length) {e : Cell} (he : (nbrs ((mg ++ r).getD n default)).getD k default = e) (h1 : e.inBox x y z) (h2 : p e = false) (h3 : e ∉ r) : Out x y z p n (k + 1) mg (r ++ [e]) := by
  have hg : ∀ {j}, j < (mg ++ r).length → (mg ++ (r ++ [e])).getD j default = (mg ++ r).getD j default := fun {j} hj => by
    rw [← List.append_assoc]
    simp only [List.getD_eq_getElem?_getD]; rw [List.getElem?_append_left hj]
  have hap : apart ((mg ++ r).getD n default) e = 1 := mem_nbrs.1 (by rw [← he]; exact getD_mem' (by simpa [nbrs] using hk))
  have hout : outer x y z p e = true := by
    unfold outer
    rw [reach_iff]
    rcases List.mem_append.1 (getD_mem' (d := default) hn) with hm | hm
    · refine .base h1 ?_
      have := h.mgm _ hm
      rw [h2, (onRim_iff h1).2 ⟨_, by rw [apart_comm]; exact hap, this.2⟩]; rfl
    · have := (h.mem _ hm).2.2
      unfold outer at this
      rw [reach_iff] at this
      exact .step this hap h1 (by rw [h2]; rfl)
  refine ⟨h.base, h.mgm, ?_, fun d hd => ?_, fun i hi hil d hd hpd ha => ?_, fun j hj hb hpb => ?_⟩
  · rw [List.nodup_append]
    exact ⟨h.nodup, by simp, fun a ha b hb e' => by rw [List.mem_singleton.1 hb] at e'; subst e'; exact h3 ha⟩
  · rcases List.mem_append.1 hd with hd | hd
    · exact h.mem d hd
    · rw [List.mem_singleton.1 hd]; exact ⟨h1, h2, hout⟩
  · rw [hg (by omega)] at ha
    exact List.mem_append.2 (.inl (h.done i hi (by omega) d hd hpd ha))
  · rw [hg hn] at hb hpb ⊢
    rcases Nat.lt_or_ge j k with h5 | h5
    · exact List.mem_append.2 (.inl (h.part j h5 hb hpb))
    · rw [show j = k by omega, he]; simp
theorem Out.next (h : Out x y z p n 6 mg r) : Out x y z p (n + 1) 0 mg r := by
  refine ⟨h.base, h.mgm, h.nodup, h.mem, fun i hi hil d hd hpd ha => ?_, by omega⟩
  rcases Nat.lt_or_ge i n with h1 | h1
  · exact h.done i h1 hil d hd hpd ha
  · rw [show i = n by omega] at ha
    have hm := mem_nbrs.2 ha
    obtain ⟨j, hj, rfl⟩ := List.getElem_of_mem hm
    have hj6 : j < 6 := by simpa [nbrs] using hj
    rw [← getD_get (d := default) hj] at hd hpd ⊢
    exact h.part j hj6 hd hpd
theorem Out.final (h : Out x y z p n k mg r) (hn : (mg ++ r).length ≤ n) {d : Cell} (hd : d.inBox x y z) : d ∈ r ↔ outer x y z p d = true := by
  refine ⟨fun hm => (h.mem d hm).2.2, fun ho => ?_⟩
  have key : ∀ c e, c ∈ mg ++ r → e.inBox x y z → p e = false → apart c e = 1 → e ∈ r := fun c e hc he hpe ha => by
    obtain ⟨i, hi, rfl⟩ := List.getElem_of_mem hc
    exact h.done i (by omega) hi e he hpe (by rw [getD_get hi]; exact ha)
  unfold outer at ho
  rw [reach_iff] at ho
  refine ho.ind (P := fun d => d ∈ r) (fun c hc hp => ?_) fun c e hc ha he hq => ?_
  · simp only [Bool.and_eq_true, Bool.not_eq_true'] at hp
    obtain ⟨e, h1, h2⟩ := (onRim_iff hc).1 hp.2
    refine key e c (List.mem_append.2 (.inl (h.base e ?_ h2))) hc hp.1 (by rw [apart_comm]; exact h1)
    obtain ⟨⟨_, _⟩, ⟨_, _⟩, ⟨_, _⟩⟩ := hc
    unfold apart at h1
    exact ⟨⟨by omega, by omega⟩, ⟨by omega, by omega⟩, ⟨by omega, by omega⟩⟩
  · exact key c e (List.mem_append.2 (.inr hc)) he (by simpa using hq) ha
end
end Go.Ab
