/- Parts of the proof of FnExactSpareCellsSaid: Pw Vc Vd Ve LSpareCells Ra Rb Rc. -/
import Derived.Test.YtjpdjjeddagjlaaA9
import Derived.Test.YtjpdjjeddagjlaaA6
import Derived.Test.YtjpdjjeddagjlaaA4
import Derived.Test.YtjpdjjeddagjlaaA7
import Derived.Test.YtjpdjjeddagjlaaA5
import Derived.Test.YtjpdjjeddagjlaaA3
import Derived.Below
import Derived.Lib.SmallJoins
import Derived.Deep.Slices
import Derived.Laws.IdiomArrays
import Derived.ChangeSlices
set_option linter.all false
/- Plain words: the library's count of a 64-bit set is the number of its bits. -/
namespace Go.Ab

def rep : Nat → Nat → Nat
  | 0, _ => 0
  | k + 1, c => c + 256 * rep k c
def ofB : List Nat → Nat
  | [] => 0
  | l :: ls => l + 256 * ofB ls
theorem and_split {a b l c : Nat} (hl : l < 256) (hc : c < 256) : (l + 256 * a) &&& (c + 256 * b) = (l &&& c) + 256 * (a &&& b) := by
  have h1 : ((l + 256 * a) &&& (c + 256 * b)) % 2 ^ 8 = l &&& c := by
    rw [Nat.and_mod_two_pow]
    congr 1 <;> omega
  have h2 : ((l + 256 * a) &&& (c + 256 * b)) / 2 ^ 8 = a &&& b := by
    rw [Nat.and_div_two_pow]
    congr 1 <;> omega
  have := Nat.mod_add_div ((l + 256 * a) &&& (c + 256 * b)) (2 ^ 8)
  rw [h1, h2] at this
  rw [← this]
def a8 (l : Nat) : Nat := (l / 2 &&& 85) + (l &&& 85)
def b8 (l : Nat) : Nat := (l / 4 &&& 51) + (l &&& 51)
def c8 (l : Nat) : Nat := (l / 16 + l) % 16
theorem low_a : ∀ b, b < 2 → ∀ m, m < 128 → (128 * b + m) &&& 85 = m &&& 85 := by decide +kernel
theorem low_b : ∀ b, b < 4 → ∀ m, m < 64 → (64 * b + m) &&& 51 = m &&& 51 := by decide +kernel
theorem all_a : ∀ {ls : List Nat}, (∀ l ∈ ls, l < 256) → (ofB ls / 2 &&& rep ls.length 85) + (ofB ls &&& rep ls.length 85) = ofB (ls.map a8)
  | [], _ => rfl
  | l :: ls, h => by
    have hl := h l (by simp)
    have ih := all_a (ls := ls) fun m hm => h m (by simp [hm])
    simp only [ofB, List.length_cons, rep, List.map_cons]
    rw [and_split hl (by omega), show (l + 256 * ofB ls) / 2 = (128 * (ofB ls % 2) + l / 2) + 256 * (ofB ls / 2) by omega, and_split (by omega) (by omega), low_a _ (by omega) _ (by omega), ← ih]
    unfold a8; omega
theorem all_b : ∀ {ls : List Nat}, (∀ l ∈ ls, l < 256) → (ofB ls / 4 &&& rep ls.length 51) + (ofB ls &&& rep ls.length 51) = ofB (ls.map b8)
  | [], _ => rfl
  | l :: ls, h => by
    have hl := h l (by simp)
    have ih := all_b (ls := ls) fun m hm => h m (by simp [hm])
    simp only [ofB, List.length_cons, rep, List.map_cons]
    rw [and_split hl (by omega), show (l + 256 * ofB ls) / 4 = (64 * (ofB ls % 4) + l / 4) + 256 * (ofB ls / 4) by omega, and_split (by omega) (by omega), low_b _ (by omega) _ (by omega), ← ih]
    unfold b8; omega
theorem and15 (n : Nat) : n &&& 15 = n % 16 := Nat.and_two_pow_sub_one_eq_mod n 4
theorem all_c : ∀ {ls : List Nat}, (∀ l ∈ ls, l < 256 ∧ l % 16 ≤ 4 ∧ l / 16 ≤ 4) → (ofB ls / 16 + ofB ls &&& rep ls.length 15) = ofB (ls.map c8)
  | [], _ => rfl
  | l :: ls, h => by
    have hl := h l (by simp)
    have ih := all_c (ls := ls) fun m hm => h m (by simp [hm])
    have ht : ofB ls % 16 ≤ 4 := by
      cases ls with
      | nil => simp [ofB]
      | cons m ms => have := h m (by simp); simp only [ofB]; omega
    simp only [ofB, List.length_cons, rep, List.map_cons]
    rw [show (l + 256 * ofB ls) / 16 + (l + 256 * ofB ls) = (16 * (ofB ls % 16) + l / 16 + l) + 256 * (ofB ls / 16 + ofB ls) by omega, and_split (by omega) (by omega), ih, and15]
    unfold c8; omega
def pc8 (l : Nat) : Nat := (List.range 8).countP fun j => l.testBit j
theorem byte_ok : ∀ l, l < 256 → a8 l < 256 ∧ b8 (a8 l) < 256 ∧ b8 (a8 l) % 16 ≤ 4 ∧ b8 (a8 l) / 16 ≤ 4 ∧ c8 (b8 (a8 l)) = pc8 l ∧ pc8 l ≤ 8 := by decide +kernel

theorem m85 : (6148914691236517205#64).toNat = rep 8 85 := by decide +kernel
theorem m51 : (3689348814741910323#64).toNat = rep 8 51 := by decide +kernel
theorem m15 : (1085102592571150095#64).toNat = rep 8 15 := by decide +kernel
theorem ofB_lt : ∀ {ls : List Nat}, (∀ l ∈ ls, l < 256) → ofB ls < 256 ^ ls.length
  | [], _ => by simp [ofB]
  | l :: ls, h => by
    have h1 := h l (by simp)
    have ih := ofB_lt (ls := ls) fun m hm => h m (by simp [hm])
    simp only [ofB, List.length_cons, Nat.pow_succ]; omega
theorem ofB_le {k : Nat} : ∀ {ls : List Nat}, (∀ l ∈ ls, l ≤ k) → 255 * ofB ls + k ≤ k * 256 ^ ls.length
  | [], _ => by simp [ofB]
  | l :: ls, h => by
    have h1 := h l (by simp)
    have ih := ofB_le (ls := ls) fun m hm => h m (by simp [hm])
    rw [List.length_cons, Nat.pow_succ, ← Nat.mul_assoc]
    simp only [ofB]; omega
theorem p256 : (256 : Nat) ^ 8 = 18446744073709551616 := by decide +kernel
theorem ofB_lt8 {ls : List Nat} (hl : ls.length = 8) (h : ∀ l ∈ ls, l < 256) : ofB ls < 18446744073709551616 := by
  have := ofB_lt h
  rw [hl, p256] at this; exact this
theorem ofB_le8 {ls : List Nat} (hl : ls.length = 8) (h : ∀ l ∈ ls, l ≤ 68) : ofB ls < 9223372036854775808 := by
  have := ofB_le h
  rw [hl, p256] at this; omega
theorem ofB8_lt {a b c d e f g h : Nat} (h0 : a < 256) (h1 : b < 256) (h2 : c < 256) (h3 : d < 256) (h4 : e < 256) (h5 : f < 256) (h6 : g < 256) (h7 : h < 256) : ofB [a, b, c, d, e, f, g, h] < 18446744073709551616 :=
  ofB_lt8 rfl (by simp [h0, h1, h2, h3, h4, h5, h6, h7])
theorem ofB8_68 {a b c d e f g h : Nat} (h0 : a ≤ 68) (h1 : b ≤ 68) (h2 : c ≤ 68) (h3 : d ≤ 68) (h4 : e ≤ 68) (h5 : f ≤ 68) (h6 : g ≤ 68) (h7 : h ≤ 68) : ofB [a, b, c, d, e, f, g, h] < 9223372036854775808 :=
  ofB_le8 rfl (by simp [h0, h1, h2, h3, h4, h5, h6, h7])
theorem ofB_div {a : Nat} {ls : List Nat} (h : a < 256) : ofB (a :: ls) / 256 = ofB ls := by simp only [ofB]; omega
theorem p64 : (2 : Nat) ^ 64 = 18446744073709551616 := by decide +kernel
theorem swar1_b {ls : List Nat} (hl : ls.length = 8) (hb : ∀ l ∈ ls, l < 256) (hlt : ofB (ls.map a8) < 18446744073709551616) {x : BitVec 64} (hx : x.toNat = ofB ls) : (swar1 x).toNat = ofB (ls.map a8) := by
  have := all_a hb
  rw [hl] at this
  unfold swar1
  rw [BitVec.toNat_add, BitVec.toNat_and, BitVec.toNat_and, BitVec.toNat_ushiftRight, hx, Nat.shiftRight_eq_div_pow, m85, Nat.pow_one, this, p64, Nat.mod_eq_of_lt hlt]
theorem swar2_b {ls : List Nat} (hl : ls.length = 8) (hb : ∀ l ∈ ls, l < 256) (hlt : ofB (ls.map b8) < 18446744073709551616) {x : BitVec 64} (hx : x.toNat = ofB ls) : (swar2 x).toNat = ofB (ls.map b8) := by
  have := all_b hb
  rw [hl] at this
  unfold swar2
  rw [BitVec.toNat_add, BitVec.toNat_and, BitVec.toNat_and, BitVec.toNat_ushiftRight, hx, Nat.shiftRight_eq_div_pow, m51, show (2 : Nat) ^ 2 = 4 from rfl, this, p64, Nat.mod_eq_of_lt hlt]
theorem swar3_b {ls : List Nat} (hl : ls.length = 8) (hb : ∀ l ∈ ls, l < 256 ∧ l % 16 ≤ 4 ∧ l / 16 ≤ 4) (hlt : ofB ls < 9223372036854775808) {x : BitVec 64} (hx : x.toNat = ofB ls) : (swar3 x).toNat = ofB (ls.map c8) := by
  have := all_c hb
  rw [hl] at this
  unfold swar3
  rw [BitVec.toNat_and, BitVec.toNat_add, BitVec.toNat_ushiftRight, hx, Nat.shiftRight_eq_div_pow, m15, show (2 : Nat) ^ 4 = 16 from rfl, p64, Nat.mod_eq_of_lt (by omega), this]
theorem swar_tail {a b c d e f g h : Nat} (h0 : a ≤ 8) (h1 : b ≤ 8) (h2 : c ≤ 8) (h3 : d ≤ 8) (h4 : e ≤ 8) (h5 : f ≤ 8) (h6 : g ≤ 8) (h7 : h ≤ 8) {y : BitVec 64} (hy : y.toNat = ofB [a, b, c, d, e, f, g, h]) :
    (swar6 (swar5 (swar4 y)) &&& 127#64).toNat = a + b + c + d + e + f + g + h := by
  have e4 : (swar4 y).toNat = ofB [a + b, b + c, c + d, d + e, e + f, f + g, g + h, h] := by
    have hs : ofB [a, b, c, d, e, f, g, h] + ofB [b, c, d, e, f, g, h] = ofB [a + b, b + c, c + d, d + e, e + f, f + g, g + h, h] := by simp only [ofB]; omega
    have hlt := ofB8_lt (a := a + b) (b := b + c) (c := c + d) (d := d + e) (e := e + f) (f := f + g) (g := g + h) (h := h) (by omega) (by omega) (by omega) (by omega) (by omega) (by omega) (by omega) (by omega)
    unfold swar4
    rw [BitVec.toNat_add, BitVec.toNat_ushiftRight, Nat.shiftRight_eq_div_pow, hy, show (2 : Nat) ^ 8 = 256 from rfl, ofB_div (by omega), hs, p64, Nat.mod_eq_of_lt hlt]
  have e5 : (swar5 (swar4 y)).toNat = ofB [a + b + (c + d), b + c + (d + e), c + d + (e + f), d + e + (f + g), e + f + (g + h), f + g + h, g + h, h] := by
    have hs : ofB [a + b, b + c, c + d, d + e, e + f, f + g, g + h, h] + ofB [c + d, d + e, e + f, f + g, g + h, h] = ofB [a + b + (c + d), b + c + (d + e), c + d + (e + f), d + e + (f + g), e + f + (g + h), f + g + h, g + h, h] := by simp only [ofB]; omega
    have hlt := ofB8_lt (a := a + b + (c + d)) (b := b + c + (d + e)) (c := c + d + (e + f)) (d := d + e + (f + g)) (e := e + f + (g + h)) (f := f + g + h) (g := g + h) (h := h) (by omega) (by omega) (by omega) (by omega) (by omega) (by omega) (by omega) (by omega)
    unfold swar5
    rw [BitVec.toNat_add, BitVec.toNat_ushiftRight, Nat.shiftRight_eq_div_pow, e4, show (2 : Nat) ^ 16 = 256 * 256 from rfl, ← Nat.div_div_eq_div_mul, ofB_div (by omega), ofB_div (by omega), hs, p64, Nat.mod_eq_of_lt hlt]
  have e6 : (swar6 (swar5 (swar4 y))).toNat % 256 = a + b + c + d + e + f + g + h := by
    unfold swar6
    rw [BitVec.toNat_add, BitVec.toNat_ushiftRight, Nat.shiftRight_eq_div_pow, e5, show (2 : Nat) ^ 32 = 256 * 256 * 256 * 256 from rfl, ← Nat.div_div_eq_div_mul, ← Nat.div_div_eq_div_mul, ← Nat.div_div_eq_div_mul, ofB_div (by omega), ofB_div (by omega), ofB_div (by omega), ofB_div (by omega), p64]
    simp only [ofB]; omega
  rw [BitVec.toNat_and, show (127#64).toNat = 2 ^ 7 - 1 from rfl, Nat.and_two_pow_sub_one_eq_mod]
  omega
set_option maxHeartbeats 2000000 in
theorem swar_bytes {l0 l1 l2 l3 l4 l5 l6 l7 : Nat} (h0 : l0 < 256) (h1 : l1 < 256) (h2 : l2 < 256) (h3 : l3 < 256) (h4 : l4 < 256) (h5 : l5 < 256) (h6 : l6 < 256) (h7 : l7 < 256) {x : BitVec 64} (hx : x.toNat = ofB [l0, l1, l2, l3, l4, l5, l6, l7]) :
    (swar x).toNat = pc8 l0 + pc8 l1 + pc8 l2 + pc8 l3 + pc8 l4 + pc8 l5 + pc8 l6 + pc8 l7 := by
  obtain ⟨f0, g0, q0, r0, e30, u0⟩ := byte_ok l0 h0
  obtain ⟨f1, g1, q1, r1, e31, u1⟩ := byte_ok l1 h1
  obtain ⟨f2, g2, q2, r2, e32, u2⟩ := byte_ok l2 h2
  obtain ⟨f3, g3, q3, r3, e33, u3⟩ := byte_ok l3 h3
  obtain ⟨f4, g4, q4, r4, e34, u4⟩ := byte_ok l4 h4
  obtain ⟨f5, g5, q5, r5, e35, u5⟩ := byte_ok l5 h5
  obtain ⟨f6, g6, q6, r6, e36, u6⟩ := byte_ok l6 h6
  obtain ⟨f7, g7, q7, r7, e37, u7⟩ := byte_ok l7 h7
  have e1 := swar1_b (ls := [l0, l1, l2, l3, l4, l5, l6, l7]) rfl (by simp [h0, h1, h2, h3, h4, h5, h6, h7]) (ofB8_lt f0 f1 f2 f3 f4 f5 f6 f7) hx
  simp only [List.map_cons, List.map_nil] at e1
  have e2 := swar2_b (ls := [a8 l0, a8 l1, a8 l2, a8 l3, a8 l4, a8 l5, a8 l6, a8 l7]) rfl (by simp [f0, f1, f2, f3, f4, f5, f6, f7]) (ofB8_lt g0 g1 g2 g3 g4 g5 g6 g7) e1
  simp only [List.map_cons, List.map_nil] at e2
  have e3 := swar3_b (ls := [b8 (a8 l0), b8 (a8 l1), b8 (a8 l2), b8 (a8 l3), b8 (a8 l4), b8 (a8 l5), b8 (a8 l6), b8 (a8 l7)]) rfl (by simp [g0, g1, g2, g3, g4, g5, g6, g7, q0, q1, q2, q3, q4, q5, q6, q7, r0, r1, r2, r3, r4, r5, r6, r7]) (ofB8_68 (by omega) (by omega) (by omega) (by omega) (by omega) (by omega) (by omega) (by omega)) e2
  simp only [List.map_cons, List.map_nil, e30, e31, e32, e33, e34, e35, e36, e37] at e3
  exact swar_tail u0 u1 u2 u3 u4 u5 u6 u7 e3
theorem byte_bit (x : BitVec 64) (k j : Nat) (hj : j < 8) : (x.toNat / 256 ^ k % 256).testBit j = x.getLsbD (8 * k + j) := by
  rw [show (256 : Nat) = 2 ^ 8 from rfl, Nat.testBit_mod_two_pow, decide_eq_true hj, Bool.true_and, ← Nat.pow_mul, Nat.testBit_div_two_pow, Nat.add_comm]
  rfl
theorem pc8_byte (x : BitVec 64) (k : Nat) : pc8 (x.toNat / 256 ^ k % 256) = (List.range 8).countP fun j => x.getLsbD (8 * k + j) := by
  unfold pc8
  apply List.countP_congr
  intro j hj
  rw [byte_bit x k j (List.mem_range.1 hj)]
theorem range64 : List.range 64 = (List.range 8).flatMap fun k => (List.range 8).map fun j => 8 * k + j := by decide +kernel
/-- The library's count is the number of bits. -/
theorem swar_eq (x : BitVec 64) : (swar x).toNat = (List.range 64).countP x.getLsbD := by
  have hx := x.isLt
  have hb : ∀ n, n % 256 < 256 := fun n => Nat.mod_lt _ (by omega)
  rw [swar_bytes (x := x) (l0 := x.toNat / 256 ^ 0 % 256) (l1 := x.toNat / 256 ^ 1 % 256) (l2 := x.toNat / 256 ^ 2 % 256) (l3 := x.toNat / 256 ^ 3 % 256) (l4 := x.toNat / 256 ^ 4 % 256) (l5 := x.toNat / 256 ^ 5 % 256) (l6 := x.toNat / 256 ^ 6 % 256) (l7 := x.toNat / 256 ^ 7 % 256)
    (hb _) (hb _) (hb _) (hb _) (hb _) (hb _) (hb _) (hb _) (by simp only [ofB, Nat.reducePow]; omega)]
  simp only [pc8_byte]
  rw [range64, List.countP_flatMap]
  simp only [show List.range 8 = [0, 1, 2, 3, 4, 5, 6, 7] from rfl, List.map_cons, List.map_nil, List.sum_cons, List.sum_nil, Function.comp, Nat.add_zero, Nat.add_assoc]
  rfl
theorem swar_bs {x y z : Int} (hS : Sides x y z) (p : Cell → Bool) : (swar (bs x y z p)).toNat = (pick x y z p).length := by
  have hv := vol_cast hS
  rw [swar_eq, show List.range 64 = List.range (vol x y z) ++ (List.range (64 - vol x y z)).map (vol x y z + ·) by rw [← List.range_add]; congr 1; omega, List.countP_append]
  have h1 : (List.range (vol x y z)).countP (bs x y z p).getLsbD = (pick x y z p).length := by
    unfold pick cellsOf
    rw [← List.countP_eq_length_filter, List.countP_map]
    apply List.countP_congr
    intro i hi
    rw [bs_bit hS, decide_eq_true (List.mem_range.1 hi), Bool.true_and]; rfl
  have h2 : ((List.range (64 - vol x y z)).map (vol x y z + ·)).countP (bs x y z p).getLsbD = 0 := by
    rw [List.countP_eq_zero]
    intro i hi
    obtain ⟨j, _, rfl⟩ := List.mem_map.1 hi
    rw [bs_bit hS, decide_eq_false (by omega)]; simp
  rw [h1, h2, Nat.add_zero]
end Go.Ab

/- Contracts: lines that need a cube, and cells that must be, the program's side. -/
namespace Go.Ab
open Go
set_option linter.unusedSimpArgs false
set_option linter.unusedVariables false
set_option maxRecDepth 20000

theorem appendK_1a {M : Mem} {a : Option Blk} {t n e b : Nat} {acc new : List LV} {A : LV → Mem → Prop} (ht : Live (M ++ [a]) t (.row acc true e)) (hn : acc.length = n * e) (hne : new.length = e) (he : 0 < e)
    (hb : (n + 1) * b ≤ 140737488355328) (hn' : n + 1 ≤ 9223372036854775807)
    (hA : ∀ M', M'.length = M.length + 3 → Live M' (M.length + 2) (.row (acc ++ new) true e) → (∀ u, u ≠ t → u < M.length + 1 → M'[u]? = (M ++ [a])[u]?) → A (.ref (M.length + 2) 0 (n + 1)) M') :
    appendK e b (.ref t 0 n) (.ref (M.length + 1) 0 1) (M ++ [a, some (.row new true e)]) A := by
  have := appendK_1 (M := M ++ [a]) (A := A) ht hn hne he hb hn' fun M' k1 k2 k3 => by
    have hl : (M ++ [a]).length = M.length + 1 := by simp
    rw [hl] at k1 k2 k3 ⊢
    exact hA M' k1 k2 k3
  rw [show (M ++ [a]).length = M.length + 1 by simp, List.append_assoc] at this
  exact this
theorem g_countB {x y z : Int} (hS : Sides x y z) {p : Cell → Bool} {M : Mem} : CallsTo PG F.impl_set_count [.W (bs x y z p)] M (.I (((pick x y z p).length : Nat) : Int)) M := by
  have := g_count (s := bs x y z p) (M := M)
  rwa [swar_bs hS] at this
theorem g_needs_1 {x y z : Int} {c : Cell} {t o t' o' t2 o2 u v w d i : Nat} {tp fr sd : List Int} {M : Mem} (hS : Sides x y z) (hc : c.inBox x y z) (hd : d < 3)
    (hb : Live M u (.row [.I x, .I y, .I z, .ref t o tp.length, .ref t' o' fr.length, .ref t2 o2 sd.length] true 0)) (hv : Live M v (.row [.I d] true 0)) (hw : Live M w (.row [.I i] true 0)) :
    CallsTo PG F.impl_Shadow_needs_1 ([.agg [.I c.a, .I c.b, .I c.c]] ++ [(u, 0), (v, 0), (w, 0)].map fun p => .ptr p.1 p.2) M (.B (onLine y z d i c)) M := by
  have hul := hb.lt
  have hvl := hv.lt
  have hwl := hw.lt
  obtain ⟨hl1, hl2⟩ := lineOf_in hS hc hd
  refine calls_run K.impl_Shadow_needs_1 rfl ?_
  simp (disch := omega) only [C.impl_Shadow_needs_1, List.map_cons, List.map_nil, hb.app.cells, hv.app.cell, hw.app.cell, ↓SXd, SXu, slBounds, ↓sop, ↓aop, ↓reduceIte, LV.cells, AOp.dst, LV.I, LV.B, LV.U, LV.S, LV.nil, Nat.reduceEqDiff, Nat.reduceAdd, Nat.reduceMul, Nat.reduceSub, Nat.reduceLeDiff, Nat.reduceBEq, Nat.reduceDiv, Nat.reduceMod, Int.reduceToNat, Int.reduceLT, Int.reduceLE, Int.reduceAdd, Int.reduceSub, Int.reduceMul, Int.reduceEq, Int.reduceNeg, reduceCtorEq, resV, resAll, ARes.ev, LV.flat, ite_true, ite_false, exists_eq_left', exists_eq_left, keyOf, implies_true, fillC, capOf]
  refine callK_of (g_Shadow_box) ?_
  simp (disch := omega) only [↓SXd, SXu, slBounds, ↓sop, ↓aop, ↓reduceIte, LV.cells, AOp.dst, LV.I, LV.B, LV.U, LV.S, LV.nil, Nat.reduceEqDiff, Nat.reduceAdd, Nat.reduceMul, Nat.reduceSub, Nat.reduceLeDiff, Nat.reduceBEq, Nat.reduceDiv, Nat.reduceMod, Int.reduceToNat, Int.reduceLT, Int.reduceLE, Int.reduceAdd, Int.reduceSub, Int.reduceMul, Int.reduceEq, Int.reduceNeg, reduceCtorEq, resV, resAll, ARes.ev, LV.flat, ite_true, ite_false, exists_eq_left', exists_eq_left, keyOf, implies_true, fillC, capOf]
  refine callK_of (g_line hS hc hd) ?_
  simp (disch := omega) only [↓SXd, SXu, slBounds, ↓sop, ↓aop, ↓reduceIte, LV.cells, AOp.dst, LV.I, LV.B, LV.U, LV.S, LV.nil, Nat.reduceEqDiff, Nat.reduceAdd, Nat.reduceMul, Nat.reduceSub, Nat.reduceLeDiff, Nat.reduceBEq, Nat.reduceDiv, Nat.reduceMod, Int.reduceToNat, Int.reduceLT, Int.reduceLE, Int.reduceAdd, Int.reduceSub, Int.reduceMul, Int.reduceEq, Int.reduceNeg, reduceCtorEq, resV, resAll, ARes.ev, LV.flat, ite_true, ite_false, exists_eq_left', exists_eq_left, keyOf, implies_true, fillC, capOf]
  rw [show decide (lineOf y z c d = i) = onLine y z d i c from decide_eq_decide.2 ⟨fun h => by omega, fun h => by omega⟩]
  exact cmp_drop rfl

theorem ShdOK.len16 {x y z : Int} {tp fr sd : List Int} (hok : ShdOK x y z tp fr sd) (d : Nat) : (shdList d tp fr sd).length ≤ 16 := by
  have hS := hok.1
  have h0 := (hok.list (d := 0) (by omega)).2
  have h1 := (hok.list (d := 1) (by omega)).2
  have h2 := (hok.list (d := 2) (by omega)).2
  have q0 := lines_le hS (d := 0) (by omega)
  have q1 := lines_le hS (d := 1) (by omega)
  have q2 := lines_le hS (d := 2) (by omega)
  have e2 : (shdList 2 tp fr sd).length ≤ 16 := by omega
  rcases (show d = 0 ∨ d = 1 ∨ 2 ≤ d by omega) with rfl | rfl | hd
  · omega
  · omega
  · rwa [show shdList d tp fr sd = shdList 2 tp fr sd by unfold shdList; rw [if_neg (by omega), if_neg (by omega)]; rfl]
theorem lits_len {x y z : Int} {tp fr sd : List Int} (hok : ShdOK x y z tp fr sd) : (lits tp fr sd).length ≤ 64 := litTo_len (n := 16) hok.len16 (by omega)
section
variable {x y z : Int} {t o t' o' t2 o2 : Nat} {tp fr sd : List Int} {M : Mem} (h1 : Ints M t o tp) (h2 : Ints M t' o' fr) (h3 : Ints M t2 o2 sd) (hok : ShdOK x y z tp fr sd)
include h1 h2 h3 hok
theorem g_needs : CallsTo PG F.impl_Shadow_needs [.agg [.I x, .I y, .I z, .ref t o tp.length, .ref t' o' fr.length, .ref t2 o2 sd.length]] M (.ref M.length 0 (lits tp fr sd).length)
    (M ++ [some (.row (lineSets x y z (allowedB y z tp fr sd) (lits tp fr sd)) true 1)]) := by
  have hS := hok.1
  have ht := h1.lt
  have ht' := h2.lt
  have ht2 := h3.lt
  have hll := hok.len16
  refine calls_run K.impl_Shadow_needs rfl ?_
  simp (disch := omega) only [C.impl_Shadow_needs, ↓SXd, SXu, slBounds, ↓sop, ↓aop, ↓reduceIte, LV.cells, AOp.dst, LV.I, LV.B, LV.U, LV.S, LV.nil, Nat.reduceEqDiff, Nat.reduceAdd, Nat.reduceMul, Nat.reduceSub, Nat.reduceLeDiff, Nat.reduceBEq, Nat.reduceDiv, Nat.reduceMod, Int.reduceToNat, Int.reduceLT, Int.reduceLE, Int.reduceAdd, Int.reduceSub, Int.reduceMul, Int.reduceEq, Int.reduceNeg, reduceCtorEq, resV, resAll, ARes.ev, LV.flat, ite_true, ite_false, exists_eq_left', exists_eq_left, keyOf, implies_true, fillC, capOf]
  refine callK_of (g_allowed h1.app h2.app h3.app hok) ?_
  simp (disch := omega) only [↓SXd, SXu, slBounds, ↓sop, ↓aop, ↓reduceIte, LV.cells, AOp.dst, LV.I, LV.B, LV.U, LV.S, LV.nil, Nat.reduceEqDiff, Nat.reduceAdd, Nat.reduceMul, Nat.reduceSub, Nat.reduceLeDiff, Nat.reduceBEq, Nat.reduceDiv, Nat.reduceMod, Int.reduceToNat, Int.reduceLT, Int.reduceLE, Int.reduceAdd, Int.reduceSub, Int.reduceMul, Int.reduceEq, Int.reduceNeg, reduceCtorEq, resV, resAll, ARes.ev, LV.flat, ite_true, ite_false, exists_eq_left', exists_eq_left, keyOf, implies_true, fillC, capOf]
  generalize hA : allowedB y z tp fr sd = A
  refine ev_loop (fun m fr1 M' => ∃ d u : Nat, d + m = 3 ∧ Pre M M' ∧ Live M' M.length (.row [.I x, .I y, .I z, .ref t o tp.length, .ref t' o' fr.length, .ref t2 o2 sd.length] true 0) ∧ Live M' u (.row (lineSets x y z A (litTo tp fr sd d 0)) true 1) ∧ M.length < u ∧
    fr1 1 = .ptr M.length 0 ∧ fr1 3 = .ref u 0 (litTo tp fr sd d 0).length ∧ fr1 4 = .W (bs x y z A) ∧ fr1 11 = .I d) 3
    ⟨0, M.length + 1, rfl, Pre.app _ _, Live.new, Live.newj rfl, by omega, rfl, rfl, rfl, rfl⟩ ?_
  rintro m fr1 M' ⟨d, u, hd, hpre, b1, bu, hu, f1, f3, f4, f11⟩
  simp (disch := omega) only [f1, f3, f4, f11, ↓SXd, SXu, slBounds, ↓sop, ↓aop, ↓reduceIte, LV.cells, AOp.dst, LV.I, LV.B, LV.U, LV.S, LV.nil, Nat.reduceEqDiff, Nat.reduceAdd, Nat.reduceMul, Nat.reduceSub, Nat.reduceLeDiff, Nat.reduceBEq, Nat.reduceDiv, Nat.reduceMod, Int.reduceToNat, Int.reduceLT, Int.reduceLE, Int.reduceAdd, Int.reduceSub, Int.reduceMul, Int.reduceEq, Int.reduceNeg, reduceCtorEq, resV, resAll, ARes.ev, LV.flat, ite_true, ite_false, exists_eq_left', exists_eq_left, keyOf, implies_true, fillC, capOf]
  refine condC_dec (fun hlt => ?_) (fun hlt => ?_)
  · have hd3 : d < 3 := by omega
    obtain ⟨tt, oo, hq, hI⟩ : ∃ tt oo, (if d = 0 then LV.ref t2 o2 sd.length else if d = 1 then LV.ref t' o' fr.length else LV.ref t o tp.length) = .ref tt oo (shdList d tp fr sd).length ∧ Ints M tt oo (shdList d tp fr sd) := by
      unfold shdList
      rcases (show d = 0 ∨ d = 1 ∨ d = 2 by omega) with rfl | rfl | rfl
      · exact ⟨_, _, rfl, h3⟩
      · exact ⟨_, _, rfl, h2⟩
      · exact ⟨_, _, rfl, h1⟩
    have hMl := hpre.1
    have hlist := g_Shadow_list (x := x) (y := y) (z := z) (t := t) (t' := t') (t2 := t2) (o := o) (o' := o') (o2 := o2) (n := tp.length) (n' := fr.length) (n2 := sd.length) (M := M' ++ [some (.row [.I d] true 0)]) hd3 (by simp; omega) (by simp; omega) (by simp; omega)
    rw [hq] at hlist
    have hb1 := b1.lt
    simp (disch := omega) only [f1, f3, f4, f11, splice, b1.app.cells, ↓SXd, SXu, slBounds, ↓sop, ↓aop, ↓reduceIte, LV.cells, AOp.dst, LV.I, LV.B, LV.U, LV.S, LV.nil, Nat.reduceEqDiff, Nat.reduceAdd, Nat.reduceMul, Nat.reduceSub, Nat.reduceLeDiff, Nat.reduceBEq, Nat.reduceDiv, Nat.reduceMod, Int.reduceToNat, Int.reduceLT, Int.reduceLE, Int.reduceAdd, Int.reduceSub, Int.reduceMul, Int.reduceEq, Int.reduceNeg, reduceCtorEq, resV, resAll, ARes.ev, LV.flat, ite_true, ite_false, exists_eq_left', exists_eq_left, keyOf, implies_true, fillC, capOf]
    refine callK_of (hlist) ?_
    simp (disch := omega) only [f1, f3, f4, f11, ↓SXd, SXu, slBounds, ↓sop, ↓aop, ↓reduceIte, LV.cells, AOp.dst, LV.I, LV.B, LV.U, LV.S, LV.nil, Nat.reduceEqDiff, Nat.reduceAdd, Nat.reduceMul, Nat.reduceSub, Nat.reduceLeDiff, Nat.reduceBEq, Nat.reduceDiv, Nat.reduceMod, Int.reduceToNat, Int.reduceLT, Int.reduceLE, Int.reduceAdd, Int.reduceSub, Int.reduceMul, Int.reduceEq, Int.reduceNeg, reduceCtorEq, resV, resAll, ARes.ev, LV.flat, ite_true, ite_false, exists_eq_left', exists_eq_left, keyOf, implies_true, fillC, capOf]
    refine ev_loop (fun m2 fr2 M2 => ∃ i v : Nat, i + m2 = (shdList d tp fr sd).length ∧ Pre M M2 ∧ Live M2 M.length (.row [.I x, .I y, .I z, .ref t o tp.length, .ref t' o' fr.length, .ref t2 o2 sd.length] true 0) ∧ Live M2 M'.length (.row [.I d] true 0) ∧ Live M2 v (.row (lineSets x y z A (litTo tp fr sd d i)) true 1) ∧ M.length < v ∧ v ≠ M'.length ∧
      fr2 1 = .ptr M.length 0 ∧ fr2 3 = .ref v 0 (litTo tp fr sd d i).length ∧ fr2 4 = .W (bs x y z A) ∧ fr2 5 = .ptr M'.length 0 ∧ fr2 11 = .I d ∧ fr2 16 = .ref tt oo (shdList d tp fr sd).length ∧ fr2 17 = .I (shdList d tp fr sd).length ∧ fr2 18 = .I i) (shdList d tp fr sd).length
      ⟨0, u, by omega, hpre.app', b1.app, Live.new, bu.app, hu, by have := bu.lt; omega, f1, f3, f4, rfl, f11, rfl, rfl, rfl⟩ ?_
    rintro m2 fr2 M2 ⟨i, v, hi, p2, c1, c5, cv, hv, hvn, g1, g3, g4, g5, g11, g16, g17, g18⟩
    simp (disch := omega) only [g1, g3, g4, g5, g11, g16, g17, g18, ↓SXd, SXu, slBounds, ↓sop, ↓aop, ↓reduceIte, LV.cells, AOp.dst, LV.I, LV.B, LV.U, LV.S, LV.nil, Nat.reduceEqDiff, Nat.reduceAdd, Nat.reduceMul, Nat.reduceSub, Nat.reduceLeDiff, Nat.reduceBEq, Nat.reduceDiv, Nat.reduceMod, Int.reduceToNat, Int.reduceLT, Int.reduceLE, Int.reduceAdd, Int.reduceSub, Int.reduceMul, Int.reduceEq, Int.reduceNeg, reduceCtorEq, resV, resAll, ARes.ev, LV.flat, ite_true, ite_false, exists_eq_left', exists_eq_left, keyOf, implies_true, fillC, capOf]
    refine condC_dec (fun hlt2 => ?_) (fun hlt2 => ?_)
    · have hil : i < (shdList d tp fr sd).length := by omega
      have hgx := Ints.get ((hI.pre p2).app (L := [some (.row [.I 0] true 0)])) hil
      have hgx0 := Ints.get (hI.pre p2) hil
      have hll1 := hll d
      have hlen := litTo_len (tp := tp) (fr := fr) (sd := sd) (n := 16) hll (d := d) (i := i) (by have := hll d; omega)
      have hls : (litTo tp fr sd d i).length ≤ 64 := by
        have : (d + 1) * 16 ≤ 48 := by omega
        omega
      have hsucc := litTo_succ (tp := tp) (fr := fr) (sd := sd) (d := d) (i := i)
      simp (disch := omega) only [g1, g3, g4, g5, g11, g16, g17, g18, hgx0, hgx, splice, Nat.mul_one, ↓SXd, SXu, slBounds, ↓sop, ↓aop, ↓reduceIte, LV.cells, AOp.dst, LV.I, LV.B, LV.U, LV.S, LV.nil, Nat.reduceEqDiff, Nat.reduceAdd, Nat.reduceMul, Nat.reduceSub, Nat.reduceLeDiff, Nat.reduceBEq, Nat.reduceDiv, Nat.reduceMod, Int.reduceToNat, Int.reduceLT, Int.reduceLE, Int.reduceAdd, Int.reduceSub, Int.reduceMul, Int.reduceEq, Int.reduceNeg, reduceCtorEq, resV, resAll, ARes.ev, LV.flat, ite_true, ite_false, exists_eq_left', exists_eq_left, keyOf, implies_true, fillC, capOf]
      by_cases hz : (shdList d tp fr sd).getD i 0 = 1
      · rw [if_pos hz] at hsucc
        have hc1 := c1.lt
        simp (disch := omega) only [g1, g3, g4, g5, g11, g16, g17, g18, hz, c1.app.cells, ↓SXd, SXu, slBounds, ↓sop, ↓aop, ↓reduceIte, LV.cells, AOp.dst, LV.I, LV.B, LV.U, LV.S, LV.nil, Nat.reduceEqDiff, Nat.reduceAdd, Nat.reduceMul, Nat.reduceSub, Nat.reduceLeDiff, Nat.reduceBEq, Nat.reduceDiv, Nat.reduceMod, Int.reduceToNat, Int.reduceLT, Int.reduceLE, Int.reduceAdd, Int.reduceSub, Int.reduceMul, Int.reduceEq, Int.reduceNeg, reduceCtorEq, resV, resAll, ARes.ev, LV.flat, ite_true, ite_false, exists_eq_left', exists_eq_left, keyOf, implies_true, fillC, capOf]
        refine callK_of (g_Shadow_box) ?_
        simp (disch := omega) only [g1, g3, g4, g5, g11, g16, g17, g18, ↓SXd, SXu, slBounds, ↓sop, ↓aop, ↓reduceIte, LV.cells, AOp.dst, LV.I, LV.B, LV.U, LV.S, LV.nil, Nat.reduceEqDiff, Nat.reduceAdd, Nat.reduceMul, Nat.reduceSub, Nat.reduceLeDiff, Nat.reduceBEq, Nat.reduceDiv, Nat.reduceMod, Int.reduceToNat, Int.reduceLT, Int.reduceLE, Int.reduceAdd, Int.reduceSub, Int.reduceMul, Int.reduceEq, Int.reduceNeg, reduceCtorEq, resV, resAll, ARes.ev, LV.flat, ite_true, ite_false, exists_eq_left', exists_eq_left, keyOf, implies_true, fillC, capOf]
        refine callK_of (g_those hS (p := onLine y z d i) (f := F.impl_Shadow_needs_1) (caps := [(M.length, 0), (M'.length, 0), (M2.length, 0)]) fun M3 hp j hj => ?_) ?_
        · exact g_needs_1 hS (cellAt_in hS (by omega) (by have := (vol_cast hS).1; omega)).1 hd3 (c1.app.pre hp) (c5.app.pre hp) (Live.new.pre hp)
        simp (disch := omega) only [g1, g3, g4, g5, g11, g16, g17, g18, ↓SXd, SXu, slBounds, ↓sop, ↓aop, ↓reduceIte, LV.cells, AOp.dst, LV.I, LV.B, LV.U, LV.S, LV.nil, Nat.reduceEqDiff, Nat.reduceAdd, Nat.reduceMul, Nat.reduceSub, Nat.reduceLeDiff, Nat.reduceBEq, Nat.reduceDiv, Nat.reduceMod, Int.reduceToNat, Int.reduceLT, Int.reduceLE, Int.reduceAdd, Int.reduceSub, Int.reduceMul, Int.reduceEq, Int.reduceNeg, reduceCtorEq, resV, resAll, ARes.ev, LV.flat, ite_true, ite_false, exists_eq_left', exists_eq_left, keyOf, implies_true, fillC, capOf]
        rw [bs_and hS]
        refine appendK_1a (acc := lineSets x y z A (litTo tp fr sd d i)) (new := [.W (bs x y z (inLine y z A (d, i)))]) cv.app (by rw [lineSets_len]; omega) rfl (by omega) (by omega) (by omega) fun N l1 l2 l3 => ?_
        simp (disch := omega) only [g1, g3, g4, g5, g11, g16, g17, g18, ↓SXd, SXu, slBounds, ↓sop, ↓aop, ↓reduceIte, LV.cells, AOp.dst, LV.I, LV.B, LV.U, LV.S, LV.nil, Nat.reduceEqDiff, Nat.reduceAdd, Nat.reduceMul, Nat.reduceSub, Nat.reduceLeDiff, Nat.reduceBEq, Nat.reduceDiv, Nat.reduceMod, Int.reduceToNat, Int.reduceLT, Int.reduceLE, Int.reduceAdd, Int.reduceSub, Int.reduceMul, Int.reduceEq, Int.reduceNeg, reduceCtorEq, resV, resAll, ARes.ev, LV.flat, ite_true, ite_false, exists_eq_left', exists_eq_left, keyOf, implies_true, fillC, capOf]
        have hcv := cv.lt
        have hc5 := c5.lt
        have hpl := p2.1
        have e : lineSets x y z A (litTo tp fr sd d i) ++ [.W (bs x y z (inLine y z A (d, i)))] = lineSets x y z A (litTo tp fr sd d (i + 1)) := by
          rw [hsucc]; unfold lineSets; rw [List.map_append]; rfl
        rw [e] at l2
        have l3' : ∀ u, u ≠ v → u < (M2 ++ [some (Blk.row [.I i] true 0)]).length → N[u]? = (M2 ++ [some (Blk.row [.I i] true 0)])[u]? := by simpa using l3
        exact ⟨m2 - 1, by omega, i + 1, M2.length + 2, by omega, pre_step (p2.app' (L := [some (.row [.I i] true 0)])) (by omega) (j := 2) (by simp; omega) l3', live_step c1.app (by omega) l3', live_step c5.app (by omega) l3', l2, by omega, by omega, g1, by rw [hsucc, List.length_append, List.length_singleton]; rfl, g4, g5, g11, g16, g17, eqI (natI _)⟩
      · rw [if_neg hz, List.append_nil] at hsucc
        simp (disch := omega) only [g1, g3, g4, g5, g11, g16, g17, g18, hz, ↓SXd, SXu, slBounds, ↓sop, ↓aop, ↓reduceIte, LV.cells, AOp.dst, LV.I, LV.B, LV.U, LV.S, LV.nil, Nat.reduceEqDiff, Nat.reduceAdd, Nat.reduceMul, Nat.reduceSub, Nat.reduceLeDiff, Nat.reduceBEq, Nat.reduceDiv, Nat.reduceMod, Int.reduceToNat, Int.reduceLT, Int.reduceLE, Int.reduceAdd, Int.reduceSub, Int.reduceMul, Int.reduceEq, Int.reduceNeg, reduceCtorEq, resV, resAll, ARes.ev, LV.flat, ite_true, ite_false, exists_eq_left', exists_eq_left, keyOf, implies_true, fillC, capOf]
        rw [← hsucc] at cv g3
        have hcv := cv.lt
        exact ⟨m2 - 1, by omega, i + 1, v, by omega, p2.app', c1.app, c5.app, cv.app, hv, hvn, g1, g3, g4, g5, g11, g16, g17, eqI (natI _)⟩
    · simp (disch := omega) only [g1, g3, g4, g5, g11, g16, g17, g18, ↓SXd, SXu, slBounds, ↓sop, ↓aop, ↓reduceIte, LV.cells, AOp.dst, LV.I, LV.B, LV.U, LV.S, LV.nil, Nat.reduceEqDiff, Nat.reduceAdd, Nat.reduceMul, Nat.reduceSub, Nat.reduceLeDiff, Nat.reduceBEq, Nat.reduceDiv, Nat.reduceMod, Int.reduceToNat, Int.reduceLT, Int.reduceLE, Int.reduceAdd, Int.reduceSub, Int.reduceMul, Int.reduceEq, Int.reduceNeg, reduceCtorEq, resV, resAll, ARes.ev, LV.flat, ite_true, ite_false, exists_eq_left', exists_eq_left, keyOf, implies_true, fillC, capOf]
      have : i = (shdList d tp fr sd).length := by omega
      subst this
      rw [litTo_next] at cv g3
      exact ⟨m - 1, by omega, d + 1, v, by omega, p2, c1, cv, hv, g1, g3, g4, eqI (natI _)⟩
  · simp (disch := omega) only [f1, f3, f4, f11, ↓SXd, SXu, slBounds, ↓sop, ↓aop, ↓reduceIte, LV.cells, AOp.dst, LV.I, LV.B, LV.U, LV.S, LV.nil, Nat.reduceEqDiff, Nat.reduceAdd, Nat.reduceMul, Nat.reduceSub, Nat.reduceLeDiff, Nat.reduceBEq, Nat.reduceDiv, Nat.reduceMod, Int.reduceToNat, Int.reduceLT, Int.reduceLE, Int.reduceAdd, Int.reduceSub, Int.reduceMul, Int.reduceEq, Int.reduceNeg, reduceCtorEq, resV, resAll, ARes.ev, LV.flat, ite_true, ite_false, exists_eq_left', exists_eq_left, keyOf, implies_true, fillC, capOf]
    have : d = 3 := by omega
    subst this
    exact cmp_keepL hpre (by omega) bu lineSets_lo (by simp [rn, rn0, rn1, lits])
theorem g_must : CallsTo PG F.impl_Shadow_must [.agg [.I x, .I y, .I z, .ref t o tp.length, .ref t' o' fr.length, .ref t2 o2 sd.length]] M (.W (bs x y z (mustTo x y z (allowedB y z tp fr sd) (lits tp fr sd)))) M := by
  have hS := hok.1
  have ht := h1.lt
  have ht' := h2.lt
  have ht2 := h3.lt
  refine calls_run K.impl_Shadow_must rfl ?_
  simp (disch := omega) only [C.impl_Shadow_must, ↓SXd, SXu, slBounds, ↓sop, ↓aop, ↓reduceIte, LV.cells, AOp.dst, LV.I, LV.B, LV.U, LV.S, LV.nil, Nat.reduceEqDiff, Nat.reduceAdd, Nat.reduceMul, Nat.reduceSub, Nat.reduceLeDiff, Nat.reduceBEq, Nat.reduceDiv, Nat.reduceMod, Int.reduceToNat, Int.reduceLT, Int.reduceLE, Int.reduceAdd, Int.reduceSub, Int.reduceMul, Int.reduceEq, Int.reduceNeg, reduceCtorEq, resV, resAll, ARes.ev, LV.flat, ite_true, ite_false, exists_eq_left', exists_eq_left, keyOf, implies_true, fillC, capOf]
  refine callN_of (g_needs h1.app h2.app h3.app hok) ?_
  intro u N hu hp hn
  generalize allowedB y z tp fr sd = A at hn ⊢
  have hLl := lits_len hok
  generalize lits tp fr sd = L at hn hLl ⊢
  simp (disch := omega) only [↓SXd, SXu, slBounds, ↓sop, ↓aop, ↓reduceIte, LV.cells, AOp.dst, LV.I, LV.B, LV.U, LV.S, LV.nil, Nat.reduceEqDiff, Nat.reduceAdd, Nat.reduceMul, Nat.reduceSub, Nat.reduceLeDiff, Nat.reduceBEq, Nat.reduceDiv, Nat.reduceMod, Int.reduceToNat, Int.reduceLT, Int.reduceLE, Int.reduceAdd, Int.reduceSub, Int.reduceMul, Int.reduceEq, Int.reduceNeg, reduceCtorEq, resV, resAll, ARes.ev, LV.flat, ite_true, ite_false, exists_eq_left', exists_eq_left, keyOf, implies_true, fillC, capOf]
  have hpM : Pre M N := (Pre.app _ _).trans hp
  refine ev_loop (fun m fr1 M' => ∃ i : Nat, i + m = L.length ∧ M' = N ∧ fr1 3 = .W (bs x y z (mustTo x y z A (L.take i))) ∧ fr1 7 = .ref u 0 L.length ∧ fr1 8 = .I L.length ∧ fr1 9 = .I i) L.length
    ⟨0, by omega, rfl, by rw [show bs x y z (mustTo x y z A (L.take 0)) = 0#64 from (bs_zero hS).2 fun c _ => by simp [mustTo]]; rfl, rfl, rfl, rfl⟩ ?_
  rintro m fr1 M' ⟨i, hi, rfl, f3, f7, f8, f9⟩
  simp (disch := omega) only [f3, f7, f8, f9, ↓SXd, SXu, slBounds, ↓sop, ↓aop, ↓reduceIte, LV.cells, AOp.dst, LV.I, LV.B, LV.U, LV.S, LV.nil, Nat.reduceEqDiff, Nat.reduceAdd, Nat.reduceMul, Nat.reduceSub, Nat.reduceLeDiff, Nat.reduceBEq, Nat.reduceDiv, Nat.reduceMod, Int.reduceToNat, Int.reduceLT, Int.reduceLE, Int.reduceAdd, Int.reduceSub, Int.reduceMul, Int.reduceEq, Int.reduceNeg, reduceCtorEq, resV, resAll, ARes.ev, LV.flat, ite_true, ite_false, exists_eq_left', exists_eq_left, keyOf, implies_true, fillC, capOf]
  refine condC_dec (fun hlt => ?_) (fun hlt => ?_)
  · have hil : i < L.length := by omega
    have hg := hn.cell (o := i)
    rw [lineSets_get hil] at hg
    have hts : L.take (i + 1) = L.take i ++ [L.getD i (0, 0)] := by
      rw [List.take_succ, List.getElem?_eq_getElem hil]; simp [hil]
    have hsn := fun c => mustTo_snoc (x := x) (y := y) (z := z) (p := A) (L := L.take i) (q := L.getD i (0, 0)) (c := c)
    rw [← hts] at hsn
    generalize L.getD i (0, 0) = q at hg hsn
    simp (disch := omega) only [f3, f7, f8, f9, hg, Nat.mul_one, ↓SXd, SXu, slBounds, ↓sop, ↓aop, ↓reduceIte, LV.cells, AOp.dst, LV.I, LV.B, LV.U, LV.S, LV.nil, Nat.reduceEqDiff, Nat.reduceAdd, Nat.reduceMul, Nat.reduceSub, Nat.reduceLeDiff, Nat.reduceBEq, Nat.reduceDiv, Nat.reduceMod, Int.reduceToNat, Int.reduceLT, Int.reduceLE, Int.reduceAdd, Int.reduceSub, Int.reduceMul, Int.reduceEq, Int.reduceNeg, reduceCtorEq, resV, resAll, ARes.ev, LV.flat, ite_true, ite_false, exists_eq_left', exists_eq_left, keyOf, implies_true, fillC, capOf]
    refine callK_of (g_countB hS) ?_
    simp (disch := omega) only [f3, f7, f8, f9, ↓SXd, SXu, slBounds, ↓sop, ↓aop, ↓reduceIte, LV.cells, AOp.dst, LV.I, LV.B, LV.U, LV.S, LV.nil, Nat.reduceEqDiff, Nat.reduceAdd, Nat.reduceMul, Nat.reduceSub, Nat.reduceLeDiff, Nat.reduceBEq, Nat.reduceDiv, Nat.reduceMod, Int.reduceToNat, Int.reduceLT, Int.reduceLE, Int.reduceAdd, Int.reduceSub, Int.reduceMul, Int.reduceEq, Int.reduceNeg, reduceCtorEq, resV, resAll, ARes.ev, LV.flat, ite_true, ite_false, exists_eq_left', exists_eq_left, keyOf, implies_true, fillC, capOf]
    by_cases hc : (((pick x y z (inLine y z A q)).length : Nat) : Int) = 1
    · simp (disch := omega) only [f3, f7, f8, f9, hc, ↓SXd, SXu, slBounds, ↓sop, ↓aop, ↓reduceIte, LV.cells, AOp.dst, LV.I, LV.B, LV.U, LV.S, LV.nil, Nat.reduceEqDiff, Nat.reduceAdd, Nat.reduceMul, Nat.reduceSub, Nat.reduceLeDiff, Nat.reduceBEq, Nat.reduceDiv, Nat.reduceMod, Int.reduceToNat, Int.reduceLT, Int.reduceLE, Int.reduceAdd, Int.reduceSub, Int.reduceMul, Int.reduceEq, Int.reduceNeg, reduceCtorEq, resV, resAll, ARes.ev, LV.flat, ite_true, ite_false, exists_eq_left', exists_eq_left, keyOf, implies_true, fillC, capOf]
      rw [bs_or hS]
      exact ⟨m - 1, by omega, i + 1, by omega, rfl, by
        rw [(bs_eq hS).2 fun c _ => show (mustTo x y z A (L.take i) c || inLine y z A q c) = mustTo x y z A (L.take (i + 1)) c by rw [hsn, decide_eq_true (by omega), Bool.true_and]]; rfl, f7, f8, eqI (natI _)⟩
    · simp (disch := omega) only [f3, f7, f8, f9, hc, ↓SXd, SXu, slBounds, ↓sop, ↓aop, ↓reduceIte, LV.cells, AOp.dst, LV.I, LV.B, LV.U, LV.S, LV.nil, Nat.reduceEqDiff, Nat.reduceAdd, Nat.reduceMul, Nat.reduceSub, Nat.reduceLeDiff, Nat.reduceBEq, Nat.reduceDiv, Nat.reduceMod, Int.reduceToNat, Int.reduceLT, Int.reduceLE, Int.reduceAdd, Int.reduceSub, Int.reduceMul, Int.reduceEq, Int.reduceNeg, reduceCtorEq, resV, resAll, ARes.ev, LV.flat, ite_true, ite_false, exists_eq_left', exists_eq_left, keyOf, implies_true, fillC, capOf]
      exact ⟨m - 1, by omega, i + 1, by omega, rfl, by
        show fr1 3 = _
        rw [f3, (bs_eq hS).2 fun c _ => show mustTo x y z A (L.take i) c = mustTo x y z A (L.take (i + 1)) c by rw [hsn, decide_eq_false (by omega), Bool.false_and, Bool.or_false]], f7, f8, eqI (natI _)⟩
  · simp (disch := omega) only [f3, f7, f8, f9, ↓SXd, SXu, slBounds, ↓sop, ↓aop, ↓reduceIte, LV.cells, AOp.dst, LV.I, LV.B, LV.U, LV.S, LV.nil, Nat.reduceEqDiff, Nat.reduceAdd, Nat.reduceMul, Nat.reduceSub, Nat.reduceLeDiff, Nat.reduceBEq, Nat.reduceDiv, Nat.reduceMod, Int.reduceToNat, Int.reduceLT, Int.reduceLE, Int.reduceAdd, Int.reduceSub, Int.reduceMul, Int.reduceEq, Int.reduceNeg, reduceCtorEq, resV, resAll, ARes.ev, LV.flat, ite_true, ite_false, exists_eq_left', exists_eq_left, keyOf, implies_true, fillC, capOf]
    have : i = L.length := by omega
    subst this
    rw [List.take_length]
    exact cmp_pre hpM rfl
end
end Go.Ab

/- Contracts: cells that must be, the reference's side; MustCells and SpareCells, both sides. -/
namespace Go.Ab
open Go
set_option linter.unusedSimpArgs false
set_option linter.unusedVariables false
set_option maxRecDepth 20000

theorem h_l3Must {x y z : Int} {t o : Nat} {cs : List Cell} {c : Cell} {M : Mem} (h : Tri M t o cs) (hH : HeapOK x y z cs) (hc : c.inBox x y z) :
    CallsTo PG F.spec_l3Must [.agg [.I x, .I y, .I z, .ref t o cs.length], .agg [.I c.a, .I c.b, .I c.c]] M (.B (aloneK y z cs 3 c)) M := by
  have hS := hH.1
  have ht := h.lt
  refine calls_run K.spec_l3Must rfl ?_
  simp (disch := omega) only [C.spec_l3Must, ↓SXd, SXu, slBounds, ↓sop, ↓aop, ↓reduceIte, LV.cells, AOp.dst, LV.I, LV.B, LV.U, LV.S, LV.nil, Nat.reduceEqDiff, Nat.reduceAdd, Nat.reduceMul, Nat.reduceSub, Nat.reduceLeDiff, Nat.reduceBEq, Nat.reduceDiv, Nat.reduceMod, Int.reduceToNat, Int.reduceLT, Int.reduceLE, Int.reduceAdd, Int.reduceSub, Int.reduceMul, Int.reduceEq, Int.reduceNeg, reduceCtorEq, resV, resAll, ARes.ev, LV.flat, ite_true, ite_false, exists_eq_left', exists_eq_left, keyOf, implies_true, fillC, capOf]
  refine ev_loop (fun m fr M' => ∃ d : Nat, d + m = 3 ∧ Pre M M' ∧ Live M' M.length (.row [.I x, .I y, .I z, .ref t o cs.length] true 0) ∧ Live M' (M.length + 1) (.row [.I c.a, .I c.b, .I c.c] true 0) ∧ aloneK y z cs d c = false ∧ fr 2 = .ptr M.length 0 ∧ fr 3 = .ptr (M.length + 1) 0 ∧ fr 5 = .I d) 3
    ⟨0, rfl, Pre.app _ _, Live.new, Live.newj rfl, rfl, rfl, rfl, rfl⟩ ?_
  rintro m fr M' ⟨d, hd, hpre, b2, b3, hal, f2, f3, f5⟩
  simp (disch := omega) only [f2, f3, f5, ↓SXd, SXu, slBounds, ↓sop, ↓aop, ↓reduceIte, LV.cells, AOp.dst, LV.I, LV.B, LV.U, LV.S, LV.nil, Nat.reduceEqDiff, Nat.reduceAdd, Nat.reduceMul, Nat.reduceSub, Nat.reduceLeDiff, Nat.reduceBEq, Nat.reduceDiv, Nat.reduceMod, Int.reduceToNat, Int.reduceLT, Int.reduceLE, Int.reduceAdd, Int.reduceSub, Int.reduceMul, Int.reduceEq, Int.reduceNeg, reduceCtorEq, resV, resAll, ARes.ev, LV.flat, ite_true, ite_false, exists_eq_left', exists_eq_left, keyOf, implies_true, fillC, capOf]
  refine condC_dec (fun hlt => ?_) (fun hlt => ?_)
  · have hd3 : d < 3 := by omega
    have hll := lines_le hS hd3
    have hvl := viewL_len (x := x) (y := y) (z := z) (d := d) (cs := cs)
    obtain ⟨l1, l2⟩ := lineOf_in hS hc hd3
    have hget := viewL_get (x := x) (y := y) (z := z) (d := d) (cs := cs) (i := (lineOf y z c d).toNat) (by omega)
    have hsu : aloneK y z cs (d + 1) c = decide (cs.countP (onLine y z d (lineOf y z c d).toNat) = 1) := by
      show (aloneK y z cs d c || _) = _
      rw [hal, Bool.false_or]
    have hda : Dir (if d = 0 then 1 else 0) := by unfold Dir; split <;> omega
    have hdb : Dir (if d = 2 then 1 else 2) := by unfold Dir; split <;> omega
    have hline : c.at (if d = 0 then 1 else 0) * sideOf x y z (if d = 2 then 1 else 2) + c.at (if d = 2 then 1 else 2) = lineOf y z c d := by
      rcases (show d = 0 ∨ d = 1 ∨ d = 2 by omega) with rfl | rfl | rfl <;> rfl
    have hrA : 0 ≤ (if d = 0 then (1 : Int) else 0) ∧ (if d = 0 then (1 : Int) else 0) < 3 := by split <;> omega
    have hrB : 0 ≤ (if d = 2 then (1 : Int) else 2) ∧ (if d = 2 then (1 : Int) else 2) < 3 := by split <;> omega
    simp (disch := omega) only [f2, f3, f5, ↓SXd, SXu, slBounds, ↓sop, ↓aop, ↓reduceIte, LV.cells, AOp.dst, LV.I, LV.B, LV.U, LV.S, LV.nil, Nat.reduceEqDiff, Nat.reduceAdd, Nat.reduceMul, Nat.reduceSub, Nat.reduceLeDiff, Nat.reduceBEq, Nat.reduceDiv, Nat.reduceMod, Int.reduceToNat, Int.reduceLT, Int.reduceLE, Int.reduceAdd, Int.reduceSub, Int.reduceMul, Int.reduceEq, Int.reduceNeg, reduceCtorEq, resV, resAll, ARes.ev, LV.flat, ite_true, ite_false, exists_eq_left', exists_eq_left, keyOf, implies_true, fillC, capOf]
    refine callK_of (h_l2Others hd3) ?_
    simp (disch := omega) only [f2, f3, f5, b2.cells, ↓SXd, SXu, slBounds, ↓sop, ↓aop, ↓reduceIte, LV.cells, AOp.dst, LV.I, LV.B, LV.U, LV.S, LV.nil, Nat.reduceEqDiff, Nat.reduceAdd, Nat.reduceMul, Nat.reduceSub, Nat.reduceLeDiff, Nat.reduceBEq, Nat.reduceDiv, Nat.reduceMod, Int.reduceToNat, Int.reduceLT, Int.reduceLE, Int.reduceAdd, Int.reduceSub, Int.reduceMul, Int.reduceEq, Int.reduceNeg, reduceCtorEq, resV, resAll, ARes.ev, LV.flat, ite_true, ite_false, exists_eq_left', exists_eq_left, keyOf, implies_true, fillC, capOf]
    generalize (if d = 0 then (1 : Int) else 0) = A at hda hline hrA ⊢
    generalize (if d = 2 then (1 : Int) else 2) = B at hdb hline hrB ⊢
    obtain ⟨rA1, rA2⟩ := hrA
    obtain ⟨rB1, rB2⟩ := hrB
    have aA := at_in hc A
    have aB := at_in hc B
    have sB := sideOf_in hS B
    have sA := sideOf_in hS A
    have hmul : 0 ≤ c.at A * sideOf x y z B ∧ c.at A * sideOf x y z B ≤ 16 := by
      rcases (show sideOf x y z B = 1 ∨ sideOf x y z B = 2 ∨ sideOf x y z B = 3 ∨ sideOf x y z B = 4 by omega) with e | e | e | e <;> rw [e] <;> omega
    have kA : [LV.I c.a, .I c.b, .I c.c][A.toNat]? = some (.I (c.at A)) := by
      rcases (show A = 0 ∨ A = 1 ∨ A = 2 by omega) with rfl | rfl | rfl <;> rfl
    have kB : [LV.I c.a, .I c.b, .I c.c][B.toNat]? = some (.I (c.at B)) := by
      rcases (show B = 0 ∨ B = 1 ∨ B = 2 by omega) with rfl | rfl | rfl <;> rfl
    have gA := b3.cell (o := A.toNat)
    have gB := b3.cell (o := B.toNat)
    rw [kA] at gA
    rw [kB] at gB
    simp (disch := omega) only [f2, f3, f5, gA, gB, b2.cells, Nat.mul_one, Nat.zero_add, ↓SXd, SXu, slBounds, ↓sop, ↓aop, ↓reduceIte, LV.cells, AOp.dst, LV.I, LV.B, LV.U, LV.S, LV.nil, Nat.reduceEqDiff, Nat.reduceAdd, Nat.reduceMul, Nat.reduceSub, Nat.reduceLeDiff, Nat.reduceBEq, Nat.reduceDiv, Nat.reduceMod, Int.reduceToNat, Int.reduceLT, Int.reduceLE, Int.reduceAdd, Int.reduceSub, Int.reduceMul, Int.reduceEq, Int.reduceNeg, reduceCtorEq, resV, resAll, ARes.ev, LV.flat, ite_true, ite_false, exists_eq_left', exists_eq_left, keyOf, implies_true, fillC, capOf]
    refine callK_of (h_l2View (h.pre hpre) hH hd3) ?_
    simp (disch := omega) only [f2, f3, f5, ↓SXd, SXu, slBounds, ↓sop, ↓aop, ↓reduceIte, LV.cells, AOp.dst, LV.I, LV.B, LV.U, LV.S, LV.nil, Nat.reduceEqDiff, Nat.reduceAdd, Nat.reduceMul, Nat.reduceSub, Nat.reduceLeDiff, Nat.reduceBEq, Nat.reduceDiv, Nat.reduceMod, Int.reduceToNat, Int.reduceLT, Int.reduceLE, Int.reduceAdd, Int.reduceSub, Int.reduceMul, Int.reduceEq, Int.reduceNeg, reduceCtorEq, resV, resAll, ARes.ev, LV.flat, ite_true, ite_false, exists_eq_left', exists_eq_left, keyOf, implies_true, fillC, capOf]
    refine callK_of (h_l2Long hdb) ?_
    simp (disch := omega) only [f2, f3, f5, hline, intL_get, hget, ↓SXd, SXu, slBounds, ↓sop, ↓aop, ↓reduceIte, LV.cells, AOp.dst, LV.I, LV.B, LV.U, LV.S, LV.nil, Nat.reduceEqDiff, Nat.reduceAdd, Nat.reduceMul, Nat.reduceSub, Nat.reduceLeDiff, Nat.reduceBEq, Nat.reduceDiv, Nat.reduceMod, Int.reduceToNat, Int.reduceLT, Int.reduceLE, Int.reduceAdd, Int.reduceSub, Int.reduceMul, Int.reduceEq, Int.reduceNeg, reduceCtorEq, resV, resAll, ARes.ev, LV.flat, ite_true, ite_false, exists_eq_left', exists_eq_left, keyOf, implies_true, fillC, capOf]
    have hcv : (((cs.countP (onLine y z d (lineOf y z c d).toNat) : Nat) : Int) = 1) = (cs.countP (onLine y z d (lineOf y z c d).toNat) = 1) := by rw [eq_iff_iff]; omega
    by_cases h1 : cs.countP (onLine y z d (lineOf y z c d).toNat) = 1
    · simp (disch := omega) only [f2, f3, f5, hcv, h1, ↓SXd, SXu, slBounds, ↓sop, ↓aop, ↓reduceIte, LV.cells, AOp.dst, LV.I, LV.B, LV.U, LV.S, LV.nil, Nat.reduceEqDiff, Nat.reduceAdd, Nat.reduceMul, Nat.reduceSub, Nat.reduceLeDiff, Nat.reduceBEq, Nat.reduceDiv, Nat.reduceMod, Int.reduceToNat, Int.reduceLT, Int.reduceLE, Int.reduceAdd, Int.reduceSub, Int.reduceMul, Int.reduceEq, Int.reduceNeg, reduceCtorEq, resV, resAll, ARes.ev, LV.flat, ite_true, ite_false, exists_eq_left', exists_eq_left, keyOf, implies_true, fillC, capOf]
      rw [aloneK_iff.2 ⟨d, hd3, h1⟩]
      exact cmp_pre hpre.app' rfl
    · simp (disch := omega) only [f2, f3, f5, hcv, h1, ↓SXd, SXu, slBounds, ↓sop, ↓aop, ↓reduceIte, LV.cells, AOp.dst, LV.I, LV.B, LV.U, LV.S, LV.nil, Nat.reduceEqDiff, Nat.reduceAdd, Nat.reduceMul, Nat.reduceSub, Nat.reduceLeDiff, Nat.reduceBEq, Nat.reduceDiv, Nat.reduceMod, Int.reduceToNat, Int.reduceLT, Int.reduceLE, Int.reduceAdd, Int.reduceSub, Int.reduceMul, Int.reduceEq, Int.reduceNeg, reduceCtorEq, resV, resAll, ARes.ev, LV.flat, ite_true, ite_false, exists_eq_left', exists_eq_left, keyOf, implies_true, fillC, capOf]
      rw [decide_eq_false h1] at hsu
      exact ⟨m - 1, by omega, d + 1, by omega, hpre.app', b2.app, b3.app, hsu, f2, f3, eqI (natI _)⟩
  · simp (disch := omega) only [f2, f3, f5, ↓SXd, SXu, slBounds, ↓sop, ↓aop, ↓reduceIte, LV.cells, AOp.dst, LV.I, LV.B, LV.U, LV.S, LV.nil, Nat.reduceEqDiff, Nat.reduceAdd, Nat.reduceMul, Nat.reduceSub, Nat.reduceLeDiff, Nat.reduceBEq, Nat.reduceDiv, Nat.reduceMod, Int.reduceToNat, Int.reduceLT, Int.reduceLE, Int.reduceAdd, Int.reduceSub, Int.reduceMul, Int.reduceEq, Int.reduceNeg, reduceCtorEq, resV, resAll, ARes.ev, LV.flat, ite_true, ite_false, exists_eq_left', exists_eq_left, keyOf, implies_true, fillC, capOf]
    have : d = 3 := by omega
    subst this
    rw [hal]
    exact cmp_pre hpre rfl
/-- Of the allowed cells those that must be (sp false), or the others. -/
def parted (x y z : Int) (tp fr sd : List Int) (sp : Bool) : List Cell := (pick x y z (allowedB y z tp fr sd)).filter fun c => aloneK y z (pick x y z (allowedB y z tp fr sd)) 3 c != sp
section
variable {x y z : Int} {t o t' o' t2 o2 : Nat} {tp fr sd : List Int} {M : Mem} (h1 : Ints M t o tp) (h2 : Ints M t' o' fr) (h3 : Ints M t2 o2 sd)
include h1 h2 h3
theorem h_l3Parted {sp : Bool} (hok : ShdOK x y z tp fr sd) : CallsTo PG F.spec_l3Parted [.agg [.I x, .I y, .I z, .ref t o tp.length, .ref t' o' fr.length, .ref t2 o2 sd.length], .B sp] M (.ref M.length 0 (parted x y z tp fr sd sp).length)
    (M ++ [some (.row (triL (parted x y z tp fr sd sp)) true 3)]) := by
  have hS := hok.1
  have ht := h1.lt
  have ht' := h2.lt
  have ht2 := h3.lt
  refine calls_run K.spec_l3Parted rfl ?_
  simp (disch := omega) only [C.spec_l3Parted, ↓SXd, SXu, slBounds, ↓sop, ↓aop, ↓reduceIte, LV.cells, AOp.dst, LV.I, LV.B, LV.U, LV.S, LV.nil, Nat.reduceEqDiff, Nat.reduceAdd, Nat.reduceMul, Nat.reduceSub, Nat.reduceLeDiff, Nat.reduceBEq, Nat.reduceDiv, Nat.reduceMod, Int.reduceToNat, Int.reduceLT, Int.reduceLE, Int.reduceAdd, Int.reduceSub, Int.reduceMul, Int.reduceEq, Int.reduceNeg, reduceCtorEq, resV, resAll, ARes.ev, LV.flat, ite_true, ite_false, exists_eq_left', exists_eq_left, keyOf, implies_true, fillC, capOf]
  refine callK_of (h_l3Allowed h1.app h2.app h3.app hok) ?_
  simp (disch := omega) only [splice, ↓SXd, SXu, slBounds, ↓sop, ↓aop, ↓reduceIte, LV.cells, AOp.dst, LV.I, LV.B, LV.U, LV.S, LV.nil, Nat.reduceEqDiff, Nat.reduceAdd, Nat.reduceMul, Nat.reduceSub, Nat.reduceLeDiff, Nat.reduceBEq, Nat.reduceDiv, Nat.reduceMod, Int.reduceToNat, Int.reduceLT, Int.reduceLE, Int.reduceAdd, Int.reduceSub, Int.reduceMul, Int.reduceEq, Int.reduceNeg, reduceCtorEq, resV, resAll, ARes.ev, LV.flat, ite_true, ite_false, exists_eq_left', exists_eq_left, keyOf, implies_true, fillC, capOf]
  unfold parted
  have hH := pick_ok hS (allowedB y z tp fr sd)
  have hAl := pick_len hS (allowedB y z tp fr sd)
  generalize pick x y z (allowedB y z tp fr sd) = A at hH hAl ⊢
  refine ev_loop (fun m fr1 M' => ∃ i u : Nat, i + m = A.length ∧ Pre M M' ∧ Live M' (M.length + 2) (.row (triL A) true 3) ∧ Live M' (M.length + 3) (.row [.I x, .I y, .I z, .ref (M.length + 2) 0 A.length] true 0) ∧ Live M' u (.row (triL ((A.take i).filter fun c => aloneK y z A 3 c != sp)) true 3) ∧ M.length ≤ u ∧ u ≠ M.length + 2 ∧ u ≠ M.length + 3 ∧
    fr1 1 = .B sp ∧ fr1 5 = .ref u 0 ((A.take i).filter fun c => aloneK y z A 3 c != sp).length ∧ fr1 6 = .ptr (M.length + 3) 0 ∧ fr1 7 = .I i) A.length
    ⟨0, M.length + 1, by omega, Pre.app _ _, Live.newj rfl, Live.newj rfl, Live.newj rfl, by omega, by omega, by omega, rfl, rfl, rfl, rfl⟩ ?_
  rintro m fr1 M' ⟨i, u, hi, hpre, ba, b6, bu, hu, hu2, hu3, f1, f5, f6, f7⟩
  simp (disch := omega) only [f1, f5, f6, f7, b6.cell, ↓SXd, SXu, slBounds, ↓sop, ↓aop, ↓reduceIte, LV.cells, AOp.dst, LV.I, LV.B, LV.U, LV.S, LV.nil, Nat.reduceEqDiff, Nat.reduceAdd, Nat.reduceMul, Nat.reduceSub, Nat.reduceLeDiff, Nat.reduceBEq, Nat.reduceDiv, Nat.reduceMod, Int.reduceToNat, Int.reduceLT, Int.reduceLE, Int.reduceAdd, Int.reduceSub, Int.reduceMul, Int.reduceEq, Int.reduceNeg, reduceCtorEq, resV, resAll, ARes.ev, LV.flat, ite_true, ite_false, exists_eq_left', exists_eq_left, keyOf, implies_true, fillC, capOf]
  refine condC_dec (fun hlt => ?_) (fun hlt => ?_)
  · have hil : i < A.length := by omega
    have hg := ba.tri0 hil
    have hc := hH.mem (getD_mem' (d := default) hil)
    have hts : A.take (i + 1) = A.take i ++ [A.getD i default] := by
      rw [List.take_succ, List.getElem?_eq_getElem hil]; simp [hil]
    have hfl := List.length_filter_le (fun c => aloneK y z A 3 c != sp) (A.take i)
    have htl := List.length_take_le i A
    generalize A.getD i default = c at hg hc hts
    have hstep : (A.take (i + 1)).filter (fun c => aloneK y z A 3 c != sp) = (A.take i).filter (fun c => aloneK y z A 3 c != sp) ++ (if aloneK y z A 3 c != sp then [c] else []) := by
      rw [hts, List.filter_append, List.filter_cons, List.filter_nil]
    simp (disch := omega) only [f1, f5, f6, f7, hg, Cell.row, b6.cell, b6.cells, ↓SXd, SXu, slBounds, ↓sop, ↓aop, ↓reduceIte, LV.cells, AOp.dst, LV.I, LV.B, LV.U, LV.S, LV.nil, Nat.reduceEqDiff, Nat.reduceAdd, Nat.reduceMul, Nat.reduceSub, Nat.reduceLeDiff, Nat.reduceBEq, Nat.reduceDiv, Nat.reduceMod, Int.reduceToNat, Int.reduceLT, Int.reduceLE, Int.reduceAdd, Int.reduceSub, Int.reduceMul, Int.reduceEq, Int.reduceNeg, reduceCtorEq, resV, resAll, ARes.ev, LV.flat, ite_true, ite_false, exists_eq_left', exists_eq_left, keyOf, implies_true, fillC, capOf]
    refine callK_of (h_l3Must (ba.has) hH hc) ?_
    simp (disch := omega) only [f1, f5, f6, f7, ↓SXd, SXu, slBounds, ↓sop, ↓aop, ↓reduceIte, LV.cells, AOp.dst, LV.I, LV.B, LV.U, LV.S, LV.nil, Nat.reduceEqDiff, Nat.reduceAdd, Nat.reduceMul, Nat.reduceSub, Nat.reduceLeDiff, Nat.reduceBEq, Nat.reduceDiv, Nat.reduceMod, Int.reduceToNat, Int.reduceLT, Int.reduceLE, Int.reduceAdd, Int.reduceSub, Int.reduceMul, Int.reduceEq, Int.reduceNeg, reduceCtorEq, resV, resAll, ARes.ev, LV.flat, ite_true, ite_false, exists_eq_left', exists_eq_left, keyOf, implies_true, fillC, capOf]
    have hne : ∀ b : Bool, (b != sp) = !(b == sp) := fun b => by cases b <;> cases sp <;> rfl
    generalize aloneK y z A 3 c = al at hstep ⊢
    have hb6 := b6.lt
    by_cases he : al = sp
    · subst he
      rw [if_neg (by simp), List.append_nil] at hstep
      rw [show (al == al) = true by simp]
      simp (disch := omega) only [f1, f5, f6, f7, ↓SXd, SXu, slBounds, ↓sop, ↓aop, ↓reduceIte, LV.cells, AOp.dst, LV.I, LV.B, LV.U, LV.S, LV.nil, Nat.reduceEqDiff, Nat.reduceAdd, Nat.reduceMul, Nat.reduceSub, Nat.reduceLeDiff, Nat.reduceBEq, Nat.reduceDiv, Nat.reduceMod, Int.reduceToNat, Int.reduceLT, Int.reduceLE, Int.reduceAdd, Int.reduceSub, Int.reduceMul, Int.reduceEq, Int.reduceNeg, reduceCtorEq, resV, resAll, ARes.ev, LV.flat, ite_true, ite_false, exists_eq_left', exists_eq_left, keyOf, implies_true, fillC, capOf]
      rw [← hstep] at bu f5
      exact ⟨m - 1, by omega, i + 1, u, by omega, hpre, ba, b6, bu, hu, hu2, hu3, f1, f5, f6, eqI (natI _)⟩
    · rw [if_pos (by simpa using he)] at hstep
      rw [show (al == sp) = false by simpa using he]
      simp (disch := omega) only [f1, f5, f6, f7, hg, Cell.row, splice, b6.cell, ↓SXd, SXu, slBounds, ↓sop, ↓aop, ↓reduceIte, LV.cells, AOp.dst, LV.I, LV.B, LV.U, LV.S, LV.nil, Nat.reduceEqDiff, Nat.reduceAdd, Nat.reduceMul, Nat.reduceSub, Nat.reduceLeDiff, Nat.reduceBEq, Nat.reduceDiv, Nat.reduceMod, Int.reduceToNat, Int.reduceLT, Int.reduceLE, Int.reduceAdd, Int.reduceSub, Int.reduceMul, Int.reduceEq, Int.reduceNeg, reduceCtorEq, resV, resAll, ARes.ev, LV.flat, ite_true, ite_false, exists_eq_left', exists_eq_left, keyOf, implies_true, fillC, capOf]
      refine appendK_cell bu (by omega) fun N l1 l2 l3 => ?_
      simp (disch := omega) only [f1, f5, f6, f7, ↓SXd, SXu, slBounds, ↓sop, ↓aop, ↓reduceIte, LV.cells, AOp.dst, LV.I, LV.B, LV.U, LV.S, LV.nil, Nat.reduceEqDiff, Nat.reduceAdd, Nat.reduceMul, Nat.reduceSub, Nat.reduceLeDiff, Nat.reduceBEq, Nat.reduceDiv, Nat.reduceMod, Int.reduceToNat, Int.reduceLT, Int.reduceLE, Int.reduceAdd, Int.reduceSub, Int.reduceMul, Int.reduceEq, Int.reduceNeg, reduceCtorEq, resV, resAll, ARes.ev, LV.flat, ite_true, ite_false, exists_eq_left', exists_eq_left, keyOf, implies_true, fillC, capOf]
      rw [cell_eta, ← hstep] at l2
      exact ⟨m - 1, by omega, i + 1, M'.length + 1, by omega, pre_step hpre (by omega) l1 l3, live_step ba (by omega) l3, live_step b6 (by omega) l3, l2, by omega, by omega, by omega, f1, by rw [hstep, List.length_append, List.length_singleton]; rfl, f6, eqI (natI _)⟩
  · simp (disch := omega) only [f1, f5, f6, f7, ↓SXd, SXu, slBounds, ↓sop, ↓aop, ↓reduceIte, LV.cells, AOp.dst, LV.I, LV.B, LV.U, LV.S, LV.nil, Nat.reduceEqDiff, Nat.reduceAdd, Nat.reduceMul, Nat.reduceSub, Nat.reduceLeDiff, Nat.reduceBEq, Nat.reduceDiv, Nat.reduceMod, Int.reduceToNat, Int.reduceLT, Int.reduceLE, Int.reduceAdd, Int.reduceSub, Int.reduceMul, Int.reduceEq, Int.reduceNeg, reduceCtorEq, resV, resAll, ARes.ev, LV.flat, ite_true, ite_false, exists_eq_left', exists_eq_left, keyOf, implies_true, fillC, capOf]
    have : i = A.length := by omega
    subst this
    rw [List.take_length] at bu f5
    exact cmp_keepL hpre (by omega) bu (triL_lo _) (by simp [rn, rn0, rn1])
end
end Go.Ab

/- Contracts: MustCells and SpareCells, both sides. -/
namespace Go.Ab
open Go
set_option linter.unusedSimpArgs false
set_option linter.unusedVariables false
set_option maxRecDepth 20000

/-- A valid shadow whose lists fit together. -/
def Fits (x y z : Int) (tp fr sd : List Int) : Prop := ShdOK x y z tp fr sd ∧ HasShd x y z tp fr sd (pick x y z (allowedB y z tp fr sd))
instance (x y z : Int) (tp fr sd : List Int) : Decidable (Fits x y z tp fr sd) := by unfold Fits; exact inferInstance
theorem parted_pick {x y z : Int} {tp fr sd : List Int} {sp : Bool} (hok : ShdOK x y z tp fr sd) :
    parted x y z tp fr sd sp = pick x y z fun c => allowedB y z tp fr sd c && (mustTo x y z (allowedB y z tp fr sd) (lits tp fr sd) c != sp) := by
  unfold parted
  rw [show ∀ q, (pick x y z (allowedB y z tp fr sd)).filter q = pick x y z fun c => allowedB y z tp fr sd c && q c from fun q => by unfold pick; rw [List.filter_filter]; apply List.filter_congr; intro c _; rw [Bool.and_comm]]
  refine pick_congr hok.1 fun c hc => ?_
  rw [must_eq hok hc]
  cases allowedB y z tp fr sd c <;> simp
theorem parted_must {x y z : Int} {tp fr sd : List Int} (hok : ShdOK x y z tp fr sd) : parted x y z tp fr sd false = pick x y z (mustTo x y z (allowedB y z tp fr sd) (lits tp fr sd)) := by
  rw [parted_pick hok]
  refine pick_congr hok.1 fun c hc => ?_
  rw [must_eq hok hc]
  cases allowedB y z tp fr sd c <;> simp
theorem parted_spare {x y z : Int} {tp fr sd : List Int} (hok : ShdOK x y z tp fr sd) : parted x y z tp fr sd true = pick x y z fun c => allowedB y z tp fr sd c && !mustTo x y z (allowedB y z tp fr sd) (lits tp fr sd) c := by
  rw [parted_pick hok]
  refine pick_congr hok.1 fun c hc => ?_
  simp
def partOf (x y z : Int) (tp fr sd : List Int) (sp : Bool) : Option (List Cell) := if Fits x y z tp fr sd then some (parted x y z tp fr sd sp) else none
theorem partOf_len {x y z : Int} {tp fr sd : List Int} {sp : Bool} : ((partOf x y z tp fr sd sp).getD []).length ≤ 1000000 := by
  unfold partOf
  split
  · rename_i h
    rw [Option.getD_some, parted_pick h.1]
    have := pick_len h.1.1 fun c => allowedB y z tp fr sd c && (mustTo x y z (allowedB y z tp fr sd) (lits tp fr sd) c != sp)
    omega
  · simp
section
variable {x y z : Int} {t o t' o' t2 o2 : Nat} {tp fr sd : List Int} {M : Mem} (h1 : Ints M t o tp) (h2 : Ints M t' o' fr) (h3 : Ints M t2 o2 sd) (l1 : tp.length ≤ 1000000000) (l2 : fr.length ≤ 1000000000) (l3 : sd.length ≤ 1000000000)
include h1 h2 h3 l1 l2 l3
theorem h_sMustCells : CallsR PG F.spec_MustCells [.agg [.I x, .I y, .I z, .ref t o tp.length, .ref t' o' fr.length, .ref t2 o2 sd.length]] M (CellsRes M (partOf x y z tp fr sd false)) := by
  refine callsR_run K.spec_MustCells rfl ?_
  simp (disch := omega) only [C.spec_MustCells, ↓SXd, SXu, slBounds, ↓sop, ↓aop, ↓reduceIte, LV.cells, AOp.dst, LV.I, LV.B, LV.U, LV.S, LV.nil, Nat.reduceEqDiff, Nat.reduceAdd, Nat.reduceMul, Nat.reduceSub, Nat.reduceLeDiff, Nat.reduceBEq, Nat.reduceDiv, Nat.reduceMod, Int.reduceToNat, Int.reduceLT, Int.reduceLE, Int.reduceAdd, Int.reduceSub, Int.reduceMul, Int.reduceEq, Int.reduceNeg, reduceCtorEq, resV, resAll, ARes.ev, LV.flat, ite_true, ite_false, exists_eq_left', exists_eq_left, keyOf, implies_true, fillC, capOf]
  refine callK_of (h_l3Fit h1.app h2.app h3.app l1 l2 l3) ?_

  by_cases hF : Fits x y z tp fr sd
  · rw [show decide (ShdOK x y z tp fr sd ∧ HasShd x y z tp fr sd (pick x y z (allowedB y z tp fr sd))) = true from decide_eq_true hF]
    simp (disch := omega) only [↓SXd, SXu, slBounds, ↓sop, ↓aop, ↓reduceIte, LV.cells, AOp.dst, LV.I, LV.B, LV.U, LV.S, LV.nil, Nat.reduceEqDiff, Nat.reduceAdd, Nat.reduceMul, Nat.reduceSub, Nat.reduceLeDiff, Nat.reduceBEq, Nat.reduceDiv, Nat.reduceMod, Int.reduceToNat, Int.reduceLT, Int.reduceLE, Int.reduceAdd, Int.reduceSub, Int.reduceMul, Int.reduceEq, Int.reduceNeg, reduceCtorEq, resV, resAll, ARes.ev, LV.flat, ite_true, ite_false, exists_eq_left', exists_eq_left, keyOf, implies_true, fillC, capOf]
    refine callN_of (h_l3Parted h1.app h2.app h3.app hF.1) ?_
    intro u N hu hp hl
    simp (disch := omega) only [↓SXd, SXu, slBounds, ↓sop, ↓aop, ↓reduceIte, LV.cells, AOp.dst, LV.I, LV.B, LV.U, LV.S, LV.nil, Nat.reduceEqDiff, Nat.reduceAdd, Nat.reduceMul, Nat.reduceSub, Nat.reduceLeDiff, Nat.reduceBEq, Nat.reduceDiv, Nat.reduceMod, Int.reduceToNat, Int.reduceLT, Int.reduceLE, Int.reduceAdd, Int.reduceSub, Int.reduceMul, Int.reduceEq, Int.reduceNeg, reduceCtorEq, resV, resAll, ARes.ev, LV.flat, ite_true, ite_false, exists_eq_left', exists_eq_left, keyOf, implies_true, fillC, capOf]
    unfold partOf
    rw [if_pos hF]
    exact ⟨_, rfl, SlC.of hl, Newer.of (by simp at hu; omega), (Pre.app _ _).trans hp⟩
  · rw [show decide (ShdOK x y z tp fr sd ∧ HasShd x y z tp fr sd (pick x y z (allowedB y z tp fr sd))) = false from decide_eq_false hF]
    simp (disch := omega) only [↓SXd, SXu, slBounds, ↓sop, ↓aop, ↓reduceIte, LV.cells, AOp.dst, LV.I, LV.B, LV.U, LV.S, LV.nil, Nat.reduceEqDiff, Nat.reduceAdd, Nat.reduceMul, Nat.reduceSub, Nat.reduceLeDiff, Nat.reduceBEq, Nat.reduceDiv, Nat.reduceMod, Int.reduceToNat, Int.reduceLT, Int.reduceLE, Int.reduceAdd, Int.reduceSub, Int.reduceMul, Int.reduceEq, Int.reduceNeg, reduceCtorEq, resV, resAll, ARes.ev, LV.flat, ite_true, ite_false, exists_eq_left', exists_eq_left, keyOf, implies_true, fillC, capOf]
    unfold partOf
    rw [if_neg hF]
    exact ⟨_, rfl, SlC.of (l := []) (Live.newj (j := 1) rfl), Newer.of (by omega), Pre.app _ _⟩
theorem h_sSpareCells : CallsR PG F.spec_SpareCells [.agg [.I x, .I y, .I z, .ref t o tp.length, .ref t' o' fr.length, .ref t2 o2 sd.length]] M (CellsRes M (partOf x y z tp fr sd true)) := by
  refine callsR_run K.spec_SpareCells rfl ?_
  simp (disch := omega) only [C.spec_SpareCells, ↓SXd, SXu, slBounds, ↓sop, ↓aop, ↓reduceIte, LV.cells, AOp.dst, LV.I, LV.B, LV.U, LV.S, LV.nil, Nat.reduceEqDiff, Nat.reduceAdd, Nat.reduceMul, Nat.reduceSub, Nat.reduceLeDiff, Nat.reduceBEq, Nat.reduceDiv, Nat.reduceMod, Int.reduceToNat, Int.reduceLT, Int.reduceLE, Int.reduceAdd, Int.reduceSub, Int.reduceMul, Int.reduceEq, Int.reduceNeg, reduceCtorEq, resV, resAll, ARes.ev, LV.flat, ite_true, ite_false, exists_eq_left', exists_eq_left, keyOf, implies_true, fillC, capOf]
  refine callK_of (h_l3Fit h1.app h2.app h3.app l1 l2 l3) ?_

  by_cases hF : Fits x y z tp fr sd
  · rw [show decide (ShdOK x y z tp fr sd ∧ HasShd x y z tp fr sd (pick x y z (allowedB y z tp fr sd))) = true from decide_eq_true hF]
    simp (disch := omega) only [↓SXd, SXu, slBounds, ↓sop, ↓aop, ↓reduceIte, LV.cells, AOp.dst, LV.I, LV.B, LV.U, LV.S, LV.nil, Nat.reduceEqDiff, Nat.reduceAdd, Nat.reduceMul, Nat.reduceSub, Nat.reduceLeDiff, Nat.reduceBEq, Nat.reduceDiv, Nat.reduceMod, Int.reduceToNat, Int.reduceLT, Int.reduceLE, Int.reduceAdd, Int.reduceSub, Int.reduceMul, Int.reduceEq, Int.reduceNeg, reduceCtorEq, resV, resAll, ARes.ev, LV.flat, ite_true, ite_false, exists_eq_left', exists_eq_left, keyOf, implies_true, fillC, capOf]
    refine callN_of (h_l3Parted h1.app h2.app h3.app hF.1) ?_
    intro u N hu hp hl
    simp (disch := omega) only [↓SXd, SXu, slBounds, ↓sop, ↓aop, ↓reduceIte, LV.cells, AOp.dst, LV.I, LV.B, LV.U, LV.S, LV.nil, Nat.reduceEqDiff, Nat.reduceAdd, Nat.reduceMul, Nat.reduceSub, Nat.reduceLeDiff, Nat.reduceBEq, Nat.reduceDiv, Nat.reduceMod, Int.reduceToNat, Int.reduceLT, Int.reduceLE, Int.reduceAdd, Int.reduceSub, Int.reduceMul, Int.reduceEq, Int.reduceNeg, reduceCtorEq, resV, resAll, ARes.ev, LV.flat, ite_true, ite_false, exists_eq_left', exists_eq_left, keyOf, implies_true, fillC, capOf]
    unfold partOf
    rw [if_pos hF]
    exact ⟨_, rfl, SlC.of hl, Newer.of (by simp at hu; omega), (Pre.app _ _).trans hp⟩
  · rw [show decide (ShdOK x y z tp fr sd ∧ HasShd x y z tp fr sd (pick x y z (allowedB y z tp fr sd))) = false from decide_eq_false hF]
    simp (disch := omega) only [↓SXd, SXu, slBounds, ↓sop, ↓aop, ↓reduceIte, LV.cells, AOp.dst, LV.I, LV.B, LV.U, LV.S, LV.nil, Nat.reduceEqDiff, Nat.reduceAdd, Nat.reduceMul, Nat.reduceSub, Nat.reduceLeDiff, Nat.reduceBEq, Nat.reduceDiv, Nat.reduceMod, Int.reduceToNat, Int.reduceLT, Int.reduceLE, Int.reduceAdd, Int.reduceSub, Int.reduceMul, Int.reduceEq, Int.reduceNeg, reduceCtorEq, resV, resAll, ARes.ev, LV.flat, ite_true, ite_false, exists_eq_left', exists_eq_left, keyOf, implies_true, fillC, capOf]
    unfold partOf
    rw [if_neg hF]
    exact ⟨_, rfl, SlC.of (l := []) (Live.newj (j := 1) rfl), Newer.of (by omega), Pre.app _ _⟩
theorem g_MustCells : CallsR PG F.impl_MustCells [.agg [.I x, .I y, .I z, .ref t o tp.length, .ref t' o' fr.length, .ref t2 o2 sd.length]] M (CellsRes M (partOf x y z tp fr sd false)) := by
  refine callsR_run K.impl_MustCells rfl ?_
  simp (disch := omega) only [C.impl_MustCells, ↓SXd, SXu, slBounds, ↓sop, ↓aop, ↓reduceIte, LV.cells, AOp.dst, LV.I, LV.B, LV.U, LV.S, LV.nil, Nat.reduceEqDiff, Nat.reduceAdd, Nat.reduceMul, Nat.reduceSub, Nat.reduceLeDiff, Nat.reduceBEq, Nat.reduceDiv, Nat.reduceMod, Int.reduceToNat, Int.reduceLT, Int.reduceLE, Int.reduceAdd, Int.reduceSub, Int.reduceMul, Int.reduceEq, Int.reduceNeg, reduceCtorEq, resV, resAll, ARes.ev, LV.flat, ite_true, ite_false, exists_eq_left', exists_eq_left, keyOf, implies_true, fillC, capOf]
  refine callR_of (g_isFitting h1.app h2.app h3.app l1 l2 l3) ?_
  rintro _ N ⟨rfl, hp⟩
  have hM : Pre M N := (Pre.app _ _).trans hp
  have b1 : Live N M.length (.row [.I x, .I y, .I z, .ref t o tp.length, .ref t' o' fr.length, .ref t2 o2 sd.length] true 0) := Live.new.pre hp
  by_cases hF : Fits x y z tp fr sd
  · rw [show decide (ShdOK x y z tp fr sd ∧ HasShd x y z tp fr sd (pick x y z (allowedB y z tp fr sd))) = true from decide_eq_true hF]
    simp (disch := omega) only [b1.cells, ↓SXd, SXu, slBounds, ↓sop, ↓aop, ↓reduceIte, LV.cells, AOp.dst, LV.I, LV.B, LV.U, LV.S, LV.nil, Nat.reduceEqDiff, Nat.reduceAdd, Nat.reduceMul, Nat.reduceSub, Nat.reduceLeDiff, Nat.reduceBEq, Nat.reduceDiv, Nat.reduceMod, Int.reduceToNat, Int.reduceLT, Int.reduceLE, Int.reduceAdd, Int.reduceSub, Int.reduceMul, Int.reduceEq, Int.reduceNeg, reduceCtorEq, resV, resAll, ARes.ev, LV.flat, ite_true, ite_false, exists_eq_left', exists_eq_left, keyOf, implies_true, fillC, capOf]
    refine callK_of (g_Shadow_box) ?_
    simp (disch := omega) only [↓SXd, SXu, slBounds, ↓sop, ↓aop, ↓reduceIte, LV.cells, AOp.dst, LV.I, LV.B, LV.U, LV.S, LV.nil, Nat.reduceEqDiff, Nat.reduceAdd, Nat.reduceMul, Nat.reduceSub, Nat.reduceLeDiff, Nat.reduceBEq, Nat.reduceDiv, Nat.reduceMod, Int.reduceToNat, Int.reduceLT, Int.reduceLE, Int.reduceAdd, Int.reduceSub, Int.reduceMul, Int.reduceEq, Int.reduceNeg, reduceCtorEq, resV, resAll, ARes.ev, LV.flat, ite_true, ite_false, exists_eq_left', exists_eq_left, keyOf, implies_true, fillC, capOf]
    refine callK_of (g_must (h1.pre hM) (h2.pre hM) (h3.pre hM) hF.1) ?_
    simp (disch := omega) only [↓SXd, SXu, slBounds, ↓sop, ↓aop, ↓reduceIte, LV.cells, AOp.dst, LV.I, LV.B, LV.U, LV.S, LV.nil, Nat.reduceEqDiff, Nat.reduceAdd, Nat.reduceMul, Nat.reduceSub, Nat.reduceLeDiff, Nat.reduceBEq, Nat.reduceDiv, Nat.reduceMod, Int.reduceToNat, Int.reduceLT, Int.reduceLE, Int.reduceAdd, Int.reduceSub, Int.reduceMul, Int.reduceEq, Int.reduceNeg, reduceCtorEq, resV, resAll, ARes.ev, LV.flat, ite_true, ite_false, exists_eq_left', exists_eq_left, keyOf, implies_true, fillC, capOf]
    refine callN_of (g_list hF.1.1) ?_
    intro u N2 hu hp2 hl
    simp (disch := omega) only [↓SXd, SXu, slBounds, ↓sop, ↓aop, ↓reduceIte, LV.cells, AOp.dst, LV.I, LV.B, LV.U, LV.S, LV.nil, Nat.reduceEqDiff, Nat.reduceAdd, Nat.reduceMul, Nat.reduceSub, Nat.reduceLeDiff, Nat.reduceBEq, Nat.reduceDiv, Nat.reduceMod, Int.reduceToNat, Int.reduceLT, Int.reduceLE, Int.reduceAdd, Int.reduceSub, Int.reduceMul, Int.reduceEq, Int.reduceNeg, reduceCtorEq, resV, resAll, ARes.ev, LV.flat, ite_true, ite_false, exists_eq_left', exists_eq_left, keyOf, implies_true, fillC, capOf]
    unfold partOf
    rw [if_pos hF, parted_must hF.1]
    exact ⟨_, rfl, SlC.of hl, Newer.of (by have := hM.1; omega), hM.trans hp2⟩
  · rw [show decide (ShdOK x y z tp fr sd ∧ HasShd x y z tp fr sd (pick x y z (allowedB y z tp fr sd))) = false from decide_eq_false hF]
    simp (disch := omega) only [↓SXd, SXu, slBounds, ↓sop, ↓aop, ↓reduceIte, LV.cells, AOp.dst, LV.I, LV.B, LV.U, LV.S, LV.nil, Nat.reduceEqDiff, Nat.reduceAdd, Nat.reduceMul, Nat.reduceSub, Nat.reduceLeDiff, Nat.reduceBEq, Nat.reduceDiv, Nat.reduceMod, Int.reduceToNat, Int.reduceLT, Int.reduceLE, Int.reduceAdd, Int.reduceSub, Int.reduceMul, Int.reduceEq, Int.reduceNeg, reduceCtorEq, resV, resAll, ARes.ev, LV.flat, ite_true, ite_false, exists_eq_left', exists_eq_left, keyOf, implies_true, fillC, capOf]
    unfold partOf
    rw [if_neg hF]
    exact ⟨_, rfl, SlC.nil, Newer.nil, hM⟩
theorem g_SpareCells : CallsR PG F.impl_SpareCells [.agg [.I x, .I y, .I z, .ref t o tp.length, .ref t' o' fr.length, .ref t2 o2 sd.length]] M (CellsRes M (partOf x y z tp fr sd true)) := by
  refine callsR_run K.impl_SpareCells rfl ?_
  simp (disch := omega) only [C.impl_SpareCells, ↓SXd, SXu, slBounds, ↓sop, ↓aop, ↓reduceIte, LV.cells, AOp.dst, LV.I, LV.B, LV.U, LV.S, LV.nil, Nat.reduceEqDiff, Nat.reduceAdd, Nat.reduceMul, Nat.reduceSub, Nat.reduceLeDiff, Nat.reduceBEq, Nat.reduceDiv, Nat.reduceMod, Int.reduceToNat, Int.reduceLT, Int.reduceLE, Int.reduceAdd, Int.reduceSub, Int.reduceMul, Int.reduceEq, Int.reduceNeg, reduceCtorEq, resV, resAll, ARes.ev, LV.flat, ite_true, ite_false, exists_eq_left', exists_eq_left, keyOf, implies_true, fillC, capOf]
  refine callR_of (g_isFitting h1.app h2.app h3.app l1 l2 l3) ?_
  rintro _ N ⟨rfl, hp⟩
  have hM : Pre M N := (Pre.app _ _).trans hp
  have b1 : Live N M.length (.row [.I x, .I y, .I z, .ref t o tp.length, .ref t' o' fr.length, .ref t2 o2 sd.length] true 0) := Live.new.pre hp
  by_cases hF : Fits x y z tp fr sd
  · rw [show decide (ShdOK x y z tp fr sd ∧ HasShd x y z tp fr sd (pick x y z (allowedB y z tp fr sd))) = true from decide_eq_true hF]
    simp (disch := omega) only [b1.cells, ↓SXd, SXu, slBounds, ↓sop, ↓aop, ↓reduceIte, LV.cells, AOp.dst, LV.I, LV.B, LV.U, LV.S, LV.nil, Nat.reduceEqDiff, Nat.reduceAdd, Nat.reduceMul, Nat.reduceSub, Nat.reduceLeDiff, Nat.reduceBEq, Nat.reduceDiv, Nat.reduceMod, Int.reduceToNat, Int.reduceLT, Int.reduceLE, Int.reduceAdd, Int.reduceSub, Int.reduceMul, Int.reduceEq, Int.reduceNeg, reduceCtorEq, resV, resAll, ARes.ev, LV.flat, ite_true, ite_false, exists_eq_left', exists_eq_left, keyOf, implies_true, fillC, capOf]
    refine callK_of (g_Shadow_box) ?_
    simp (disch := omega) only [↓SXd, SXu, slBounds, ↓sop, ↓aop, ↓reduceIte, LV.cells, AOp.dst, LV.I, LV.B, LV.U, LV.S, LV.nil, Nat.reduceEqDiff, Nat.reduceAdd, Nat.reduceMul, Nat.reduceSub, Nat.reduceLeDiff, Nat.reduceBEq, Nat.reduceDiv, Nat.reduceMod, Int.reduceToNat, Int.reduceLT, Int.reduceLE, Int.reduceAdd, Int.reduceSub, Int.reduceMul, Int.reduceEq, Int.reduceNeg, reduceCtorEq, resV, resAll, ARes.ev, LV.flat, ite_true, ite_false, exists_eq_left', exists_eq_left, keyOf, implies_true, fillC, capOf]
    refine callK_of (g_allowed (h1.pre hM) (h2.pre hM) (h3.pre hM) hF.1) ?_
    simp (disch := omega) only [↓SXd, SXu, slBounds, ↓sop, ↓aop, ↓reduceIte, LV.cells, AOp.dst, LV.I, LV.B, LV.U, LV.S, LV.nil, Nat.reduceEqDiff, Nat.reduceAdd, Nat.reduceMul, Nat.reduceSub, Nat.reduceLeDiff, Nat.reduceBEq, Nat.reduceDiv, Nat.reduceMod, Int.reduceToNat, Int.reduceLT, Int.reduceLE, Int.reduceAdd, Int.reduceSub, Int.reduceMul, Int.reduceEq, Int.reduceNeg, reduceCtorEq, resV, resAll, ARes.ev, LV.flat, ite_true, ite_false, exists_eq_left', exists_eq_left, keyOf, implies_true, fillC, capOf]
    refine callK_of (g_must (h1.pre hM) (h2.pre hM) (h3.pre hM) hF.1) ?_
    simp (disch := omega) only [↓SXd, SXu, slBounds, ↓sop, ↓aop, ↓reduceIte, LV.cells, AOp.dst, LV.I, LV.B, LV.U, LV.S, LV.nil, Nat.reduceEqDiff, Nat.reduceAdd, Nat.reduceMul, Nat.reduceSub, Nat.reduceLeDiff, Nat.reduceBEq, Nat.reduceDiv, Nat.reduceMod, Int.reduceToNat, Int.reduceLT, Int.reduceLE, Int.reduceAdd, Int.reduceSub, Int.reduceMul, Int.reduceEq, Int.reduceNeg, reduceCtorEq, resV, resAll, ARes.ev, LV.flat, ite_true, ite_false, exists_eq_left', exists_eq_left, keyOf, implies_true, fillC, capOf]
    rw [bs_diff hF.1.1]
    refine callN_of (g_list hF.1.1) ?_
    intro u N2 hu hp2 hl
    simp (disch := omega) only [↓SXd, SXu, slBounds, ↓sop, ↓aop, ↓reduceIte, LV.cells, AOp.dst, LV.I, LV.B, LV.U, LV.S, LV.nil, Nat.reduceEqDiff, Nat.reduceAdd, Nat.reduceMul, Nat.reduceSub, Nat.reduceLeDiff, Nat.reduceBEq, Nat.reduceDiv, Nat.reduceMod, Int.reduceToNat, Int.reduceLT, Int.reduceLE, Int.reduceAdd, Int.reduceSub, Int.reduceMul, Int.reduceEq, Int.reduceNeg, reduceCtorEq, resV, resAll, ARes.ev, LV.flat, ite_true, ite_false, exists_eq_left', exists_eq_left, keyOf, implies_true, fillC, capOf]
    unfold partOf
    rw [if_pos hF, parted_spare hF.1]
    exact ⟨_, rfl, SlC.of hl, Newer.of (by have := hM.1; omega), hM.trans hp2⟩
  · rw [show decide (ShdOK x y z tp fr sd ∧ HasShd x y z tp fr sd (pick x y z (allowedB y z tp fr sd))) = false from decide_eq_false hF]
    simp (disch := omega) only [↓SXd, SXu, slBounds, ↓sop, ↓aop, ↓reduceIte, LV.cells, AOp.dst, LV.I, LV.B, LV.U, LV.S, LV.nil, Nat.reduceEqDiff, Nat.reduceAdd, Nat.reduceMul, Nat.reduceSub, Nat.reduceLeDiff, Nat.reduceBEq, Nat.reduceDiv, Nat.reduceMod, Int.reduceToNat, Int.reduceLT, Int.reduceLE, Int.reduceAdd, Int.reduceSub, Int.reduceMul, Int.reduceEq, Int.reduceNeg, reduceCtorEq, resV, resAll, ARes.ev, LV.flat, ite_true, ite_false, exists_eq_left', exists_eq_left, keyOf, implies_true, fillC, capOf]
    unfold partOf
    rw [if_neg hF]
    exact ⟨_, rfl, SlC.nil, Newer.nil, hM⟩
end
end Go.Ab

/- The law of SpareCells. -/
namespace Go.Ab
open Go
set_option linter.unusedSimpArgs false
set_option linter.unusedVariables false
set_option maxRecDepth 20000

theorem l_SpareCells {x y z : Int} {t o t' o' t2 o2 : Nat} {tp fr sd : List Int} {M : Mem} (h1 : Ints M t o tp) (n1 : tp.length ≤ 9223372036854775807) (h2 : Ints M t' o' fr) (n2 : fr.length ≤ 9223372036854775807) (h3 : Ints M t2 o2 sd) (n3 : sd.length ≤ 9223372036854775807) :
    CallsR PG F.laws_FnExactSpareCells [.agg [.I x, .I y, .I z, .ref t o tp.length, .ref t' o' fr.length, .ref t2 o2 sd.length]] M fun v _ => v = .B true := by
  have ht := h1.lt
  have ht' := h2.lt
  have ht2 := h3.lt
  refine callsR_run K.laws_FnExactSpareCells rfl ?_
  simp (disch := omega) only [C.laws_FnExactSpareCells, ↓SXd, SXu, slBounds, ↓sop, ↓aop, ↓reduceIte, LV.cells, AOp.dst, LV.I, LV.B, LV.U, LV.S, LV.nil, Nat.reduceEqDiff, Nat.reduceAdd, Nat.reduceMul, Nat.reduceSub, Nat.reduceLeDiff, Nat.reduceBEq, Nat.reduceDiv, Nat.reduceMod, Int.reduceToNat, Int.reduceLT, Int.reduceLE, Int.reduceAdd, Int.reduceSub, Int.reduceMul, Int.reduceEq, Int.reduceNeg, reduceCtorEq, resV, resAll, ARes.ev, LV.flat, ite_true, ite_false, exists_eq_left', exists_eq_left, keyOf, implies_true, fillC, capOf]
  refine callK_of (h_szShadow (by omega) (by omega) n1 n2 n3) ?_
  simp (disch := omega) only [↓SXd, SXu, slBounds, ↓sop, ↓aop, ↓reduceIte, LV.cells, AOp.dst, LV.I, LV.B, LV.U, LV.S, LV.nil, Nat.reduceEqDiff, Nat.reduceAdd, Nat.reduceMul, Nat.reduceSub, Nat.reduceLeDiff, Nat.reduceBEq, Nat.reduceDiv, Nat.reduceMod, Int.reduceToNat, Int.reduceLT, Int.reduceLE, Int.reduceAdd, Int.reduceSub, Int.reduceMul, Int.reduceEq, Int.reduceNeg, reduceCtorEq, resV, resAll, ARes.ev, LV.flat, ite_true, ite_false, exists_eq_left', exists_eq_left, keyOf, implies_true, fillC, capOf]
  by_cases hl : (1048576 : Int) < tp.length + fr.length + sd.length
  · rw [if_pos hl]
    simp (disch := omega) only [Int.reduceLT, ↓SXd, SXu, slBounds, ↓sop, ↓aop, ↓reduceIte, LV.cells, AOp.dst, LV.I, LV.B, LV.U, LV.S, LV.nil, Nat.reduceEqDiff, Nat.reduceAdd, Nat.reduceMul, Nat.reduceSub, Nat.reduceLeDiff, Nat.reduceBEq, Nat.reduceDiv, Nat.reduceMod, Int.reduceToNat, Int.reduceLT, Int.reduceLE, Int.reduceAdd, Int.reduceSub, Int.reduceMul, Int.reduceEq, Int.reduceNeg, reduceCtorEq, resV, resAll, ARes.ev, LV.flat, ite_true, ite_false, exists_eq_left', exists_eq_left, keyOf, implies_true, fillC, capOf]
    rfl
  · rw [if_neg hl]
    have l1 : tp.length ≤ 1000000000 := by omega
    have l2 : fr.length ≤ 1000000000 := by omega
    have l3 : sd.length ≤ 1000000000 := by omega
    simp (disch := omega) only [↓SXd, SXu, slBounds, ↓sop, ↓aop, ↓reduceIte, LV.cells, AOp.dst, LV.I, LV.B, LV.U, LV.S, LV.nil, Nat.reduceEqDiff, Nat.reduceAdd, Nat.reduceMul, Nat.reduceSub, Nat.reduceLeDiff, Nat.reduceBEq, Nat.reduceDiv, Nat.reduceMod, Int.reduceToNat, Int.reduceLT, Int.reduceLE, Int.reduceAdd, Int.reduceSub, Int.reduceMul, Int.reduceEq, Int.reduceNeg, reduceCtorEq, resV, resAll, ARes.ev, LV.flat, ite_true, ite_false, exists_eq_left', exists_eq_left, keyOf, implies_true, fillC, capOf]
    refine callR_of (h_toShadow h1.app h2.app h3.app l1 l2 l3) ?_
    rintro _ N1 ⟨a, b, c, rfl, ha, hb, hc, _, _, _, la, lb, lc, hp1⟩
    have b1 : Live N1 M.length (.row [.I x, .I y, .I z, .ref t o tp.length, .ref t' o' fr.length, .ref t2 o2 sd.length] true 0) := Live.new.pre hp1
    have hM1 : Pre M N1 := (Pre.app _ _).trans hp1
    simp (disch := omega) only [↓SXd, SXu, slBounds, ↓sop, ↓aop, ↓reduceIte, LV.cells, AOp.dst, LV.I, LV.B, LV.U, LV.S, LV.nil, Nat.reduceEqDiff, Nat.reduceAdd, Nat.reduceMul, Nat.reduceSub, Nat.reduceLeDiff, Nat.reduceBEq, Nat.reduceDiv, Nat.reduceMod, Int.reduceToNat, Int.reduceLT, Int.reduceLE, Int.reduceAdd, Int.reduceSub, Int.reduceMul, Int.reduceEq, Int.reduceNeg, reduceCtorEq, resV, resAll, ARes.ev, LV.flat, ite_true, ite_false, exists_eq_left', exists_eq_left, keyOf, implies_true, fillC, capOf]
    have hrl : ((partOf x y z tp fr sd true).getD []).length ≤ 1000000000 := Nat.le_trans partOf_len (by omega)
    refine callR_of (h_sSpareCells la.has lb.has lc.has l1 l2 l3) ?_
    rintro _ N2 ⟨w, rfl, hw, hwn, hp2⟩
    have b2 := b1.pre hp2
    have hM2 := hM1.trans hp2
    simp (disch := omega) only [b2.cells, ↓SXd, SXu, slBounds, ↓sop, ↓aop, ↓reduceIte, LV.cells, AOp.dst, LV.I, LV.B, LV.U, LV.S, LV.nil, Nat.reduceEqDiff, Nat.reduceAdd, Nat.reduceMul, Nat.reduceSub, Nat.reduceLeDiff, Nat.reduceBEq, Nat.reduceDiv, Nat.reduceMod, Int.reduceToNat, Int.reduceLT, Int.reduceLE, Int.reduceAdd, Int.reduceSub, Int.reduceMul, Int.reduceEq, Int.reduceNeg, reduceCtorEq, resV, resAll, ARes.ev, LV.flat, ite_true, ite_false, exists_eq_left', exists_eq_left, keyOf, implies_true, fillC, capOf]
    clear la lb lc
    refine callR_of (h_toShadow (h1.pre hM2) (h2.pre hM2) (h3.pre hM2) l1 l2 l3) ?_
    rintro _ N3 ⟨a, b, c, rfl, ha, hb, hc, hab, hac, hbc, la, lb, lc, hp3⟩
    have b3 := b2.pre hp3
    have hM3 := hM2.trans hp3
    have hlb3 := b3.lt
    have hla3 := la.lt
    have hlb3' := lb.lt
    have hlc3 := lc.lt
    simp (disch := omega) only [↓SXd, SXu, slBounds, ↓sop, ↓aop, ↓reduceIte, LV.cells, AOp.dst, LV.I, LV.B, LV.U, LV.S, LV.nil, Nat.reduceEqDiff, Nat.reduceAdd, Nat.reduceMul, Nat.reduceSub, Nat.reduceLeDiff, Nat.reduceBEq, Nat.reduceDiv, Nat.reduceMod, Int.reduceToNat, Int.reduceLT, Int.reduceLE, Int.reduceAdd, Int.reduceSub, Int.reduceMul, Int.reduceEq, Int.reduceNeg, reduceCtorEq, resV, resAll, ARes.ev, LV.flat, ite_true, ite_false, exists_eq_left', exists_eq_left, keyOf, implies_true, fillC, capOf]
    refine callR_of (g_SpareCells la.app.has lb.app.has lc.app.has l1 l2 l3) ?_
    rintro _ N4 ⟨g, rfl, hg, hgn, hp4⟩
    have b4 := (b3.app).pre hp4
    have hM4 := (hM3.app').trans hp4
    have x4 : Live N4 N3.length (.row [.I x, .I y, .I z, .ref a 0 tp.length, .ref b 0 fr.length, .ref c 0 sd.length] true 0) := Live.new.pre hp4
    have la4 := la.app.pre hp4
    have lb4 := lb.app.pre hp4
    have lc4 := lc.app.pre hp4
    have hw4 := (hw.pre hp3).pre ((Pre.app _ _).trans hp4)
    have hb2l := b2.lt
    simp (disch := omega) only [↓SXd, SXu, slBounds, ↓sop, ↓aop, ↓reduceIte, LV.cells, AOp.dst, LV.I, LV.B, LV.U, LV.S, LV.nil, Nat.reduceEqDiff, Nat.reduceAdd, Nat.reduceMul, Nat.reduceSub, Nat.reduceLeDiff, Nat.reduceBEq, Nat.reduceDiv, Nat.reduceMod, Int.reduceToNat, Int.reduceLT, Int.reduceLE, Int.reduceAdd, Int.reduceSub, Int.reduceMul, Int.reduceEq, Int.reduceNeg, reduceCtorEq, resV, resAll, ARes.ev, LV.flat, ite_true, ite_false, exists_eq_left', exists_eq_left, keyOf, implies_true, fillC, capOf]
    refine callK_of (h_eqCells hg.v hw4.v hrl hrl) ?_
    rw [decide_eq_true (rfl : (partOf x y z tp fr sd true).getD [] = (partOf x y z tp fr sd true).getD [])]
    simp (disch := omega) only [b4.cells, x4.cells, ↓SXd, SXu, slBounds, ↓sop, ↓aop, ↓reduceIte, LV.cells, AOp.dst, LV.I, LV.B, LV.U, LV.S, LV.nil, Nat.reduceEqDiff, Nat.reduceAdd, Nat.reduceMul, Nat.reduceSub, Nat.reduceLeDiff, Nat.reduceBEq, Nat.reduceDiv, Nat.reduceMod, Int.reduceToNat, Int.reduceLT, Int.reduceLE, Int.reduceAdd, Int.reduceSub, Int.reduceMul, Int.reduceEq, Int.reduceNeg, reduceCtorEq, resV, resAll, ARes.ev, LV.flat, ite_true, ite_false, exists_eq_left', exists_eq_left, keyOf, implies_true, fillC, capOf]
    refine callR_of (h_toShadow (h1.pre hM4) (h2.pre hM4) (h3.pre hM4) l1 l2 l3) ?_
    rintro _ N5 ⟨a', b', c', rfl, ha', hb', hc', _, _, _, la', lb', lc', hp5⟩
    have x5 := x4.pre hp5
    have b5 := b4.pre hp5
    simp (disch := omega) only [x5.cells, ↓SXd, SXu, slBounds, ↓sop, ↓aop, ↓reduceIte, LV.cells, AOp.dst, LV.I, LV.B, LV.U, LV.S, LV.nil, Nat.reduceEqDiff, Nat.reduceAdd, Nat.reduceMul, Nat.reduceSub, Nat.reduceLeDiff, Nat.reduceBEq, Nat.reduceDiv, Nat.reduceMod, Int.reduceToNat, Int.reduceLT, Int.reduceLE, Int.reduceAdd, Int.reduceSub, Int.reduceMul, Int.reduceEq, Int.reduceNeg, reduceCtorEq, resV, resAll, ARes.ev, LV.flat, ite_true, ite_false, exists_eq_left', exists_eq_left, keyOf, implies_true, fillC, capOf]
    have he := h_eqShadow (x := x) (y := y) (z := z) (x' := x) (y' := y) (z' := z) (M := N5) (.inr ⟨_, _, rfl, (la4.pre hp5).has⟩) (.inr ⟨_, _, rfl, (lb4.pre hp5).has⟩) (.inr ⟨_, _, rfl, (lc4.pre hp5).has⟩) (.inr ⟨_, _, rfl, la'.has⟩) (.inr ⟨_, _, rfl, lb'.has⟩) (.inr ⟨_, _, rfl, lc'.has⟩) l1 l2 l3 l1 l2 l3
    rw [decide_eq_true (by simp)] at he
    refine ⟨fun q hq => (x5.trans x4.symm).trans hq, ?_⟩
    refine callK_of he ?_
    simp (disch := omega) only [x5.cells, ↓SXd, SXu, slBounds, ↓sop, ↓aop, ↓reduceIte, LV.cells, AOp.dst, LV.I, LV.B, LV.U, LV.S, LV.nil, Nat.reduceEqDiff, Nat.reduceAdd, Nat.reduceMul, Nat.reduceSub, Nat.reduceLeDiff, Nat.reduceBEq, Nat.reduceDiv, Nat.reduceMod, Int.reduceToNat, Int.reduceLT, Int.reduceLE, Int.reduceAdd, Int.reduceSub, Int.reduceMul, Int.reduceEq, Int.reduceNeg, reduceCtorEq, resV, resAll, ARes.ev, LV.flat, ite_true, ite_false, exists_eq_left', exists_eq_left, keyOf, implies_true, fillC, capOf]
    refine callR_of (h_markShadow (la4.pre hp5) (lb4.pre hp5) (lc4.pre hp5) hab hac hbc (by omega) (by omega) (by omega) (by omega)) ?_
    rintro _ N6 ⟨rfl, hp6⟩
    have hlen3 : N3.length < N4.length := x4.lt
    have hNg : Newer N3 g := hgn.mono (Pre.app _ _)
    have hlen2 : N2.length ≤ N3.length := hp3.1
    have hwo := hw.older
    have hg6 := hp6.slC (hg.pre hp5) (hNg _ hla3) (hNg _ hlb3') (hNg _ hlc3)
    have hw6 := hp6.slC (hw4.pre hp5) (hwo.off ha) (hwo.off hb) (hwo.off hc)
    have b6 := hp6.live b5 (by omega) (by omega) (by omega)
    have hM6 : Pre M N6 := hp6.pre (hM4.trans hp5) (by omega) (by omega) (by omega)
    have hk : ¬ (1 + (tp.length : Int) + (fr.length : Int) + (sd.length : Int) < 0) := by omega
    simp (disch := omega) only [hk, ↓SXd, SXu, slBounds, ↓sop, ↓aop, ↓reduceIte, LV.cells, AOp.dst, LV.I, LV.B, LV.U, LV.S, LV.nil, Nat.reduceEqDiff, Nat.reduceAdd, Nat.reduceMul, Nat.reduceSub, Nat.reduceLeDiff, Nat.reduceBEq, Nat.reduceDiv, Nat.reduceMod, Int.reduceToNat, Int.reduceLT, Int.reduceLE, Int.reduceAdd, Int.reduceSub, Int.reduceMul, Int.reduceEq, Int.reduceNeg, reduceCtorEq, resV, resAll, ARes.ev, LV.flat, ite_true, ite_false, exists_eq_left', exists_eq_left, keyOf, implies_true, fillC, capOf]
    refine callK_of (h_eqCells hg6.v hw6.v hrl hrl) ?_
    rw [decide_eq_true (rfl : (partOf x y z tp fr sd true).getD [] = (partOf x y z tp fr sd true).getD [])]
    simp (disch := omega) only [↓SXd, SXu, slBounds, ↓sop, ↓aop, ↓reduceIte, LV.cells, AOp.dst, LV.I, LV.B, LV.U, LV.S, LV.nil, Nat.reduceEqDiff, Nat.reduceAdd, Nat.reduceMul, Nat.reduceSub, Nat.reduceLeDiff, Nat.reduceBEq, Nat.reduceDiv, Nat.reduceMod, Int.reduceToNat, Int.reduceLT, Int.reduceLE, Int.reduceAdd, Int.reduceSub, Int.reduceMul, Int.reduceEq, Int.reduceNeg, reduceCtorEq, resV, resAll, ARes.ev, LV.flat, ite_true, ite_false, exists_eq_left', exists_eq_left, keyOf, implies_true, fillC, capOf]
    refine callR_of (h_markIntA3S hg6 hrl (by omega)) ?_
    rintro _ N7 hmk
    obtain ⟨rfl, hg7, _, _⟩ := id hmk
    have hp7 := hmk.pre
    have hgw : Apart g w := Newer.apart hNg fun q r n e => Nat.lt_of_lt_of_le (hwo q r n e) hlen2
    have hw7 := hp7.slC hw6 hgw
    have hgM : Newer M g := hNg.mono hM3
    have hM7 := hp7.pre hM6 hgM
    have b7 := hp7.live b6 (hNg _ hlb3)
    simp (disch := omega) only [↓SXd, SXu, slBounds, ↓sop, ↓aop, ↓reduceIte, LV.cells, AOp.dst, LV.I, LV.B, LV.U, LV.S, LV.nil, Nat.reduceEqDiff, Nat.reduceAdd, Nat.reduceMul, Nat.reduceSub, Nat.reduceLeDiff, Nat.reduceBEq, Nat.reduceDiv, Nat.reduceMod, Int.reduceToNat, Int.reduceLT, Int.reduceLE, Int.reduceAdd, Int.reduceSub, Int.reduceMul, Int.reduceEq, Int.reduceNeg, reduceCtorEq, resV, resAll, ARes.ev, LV.flat, ite_true, ite_false, exists_eq_left', exists_eq_left, keyOf, implies_true, fillC, capOf]
    refine callK_of (h_heldIntA3S hg7.v hrl (by omega)) ?_
    simp (disch := omega) only [b7.cells, ↓SXd, SXu, slBounds, ↓sop, ↓aop, ↓reduceIte, LV.cells, AOp.dst, LV.I, LV.B, LV.U, LV.S, LV.nil, Nat.reduceEqDiff, Nat.reduceAdd, Nat.reduceMul, Nat.reduceSub, Nat.reduceLeDiff, Nat.reduceBEq, Nat.reduceDiv, Nat.reduceMod, Int.reduceToNat, Int.reduceLT, Int.reduceLE, Int.reduceAdd, Int.reduceSub, Int.reduceMul, Int.reduceEq, Int.reduceNeg, reduceCtorEq, resV, resAll, ARes.ev, LV.flat, ite_true, ite_false, exists_eq_left', exists_eq_left, keyOf, implies_true, fillC, capOf]
    refine callR_of (h_toShadow (h1.pre hM7) (h2.pre hM7) (h3.pre hM7) l1 l2 l3) ?_
    rintro _ N8 ⟨a', b', c', rfl, ha', hb', hc', _, _, _, la', lb', lc', hp8⟩
    simp (disch := omega) only [↓SXd, SXu, slBounds, ↓sop, ↓aop, ↓reduceIte, LV.cells, AOp.dst, LV.I, LV.B, LV.U, LV.S, LV.nil, Nat.reduceEqDiff, Nat.reduceAdd, Nat.reduceMul, Nat.reduceSub, Nat.reduceLeDiff, Nat.reduceBEq, Nat.reduceDiv, Nat.reduceMod, Int.reduceToNat, Int.reduceLT, Int.reduceLE, Int.reduceAdd, Int.reduceSub, Int.reduceMul, Int.reduceEq, Int.reduceNeg, reduceCtorEq, resV, resAll, ARes.ev, LV.flat, ite_true, ite_false, exists_eq_left', exists_eq_left, keyOf, implies_true, fillC, capOf]
    refine callR_of (g_SpareCells la'.has lb'.has lc'.has l1 l2 l3) ?_
    rintro _ N9 ⟨g9, rfl, hg9, _, hp9⟩
    have hp79 : Pre N7 N9 := hp8.trans hp9
    simp (disch := omega) only [↓SXd, SXu, slBounds, ↓sop, ↓aop, ↓reduceIte, LV.cells, AOp.dst, LV.I, LV.B, LV.U, LV.S, LV.nil, Nat.reduceEqDiff, Nat.reduceAdd, Nat.reduceMul, Nat.reduceSub, Nat.reduceLeDiff, Nat.reduceBEq, Nat.reduceDiv, Nat.reduceMod, Int.reduceToNat, Int.reduceLT, Int.reduceLE, Int.reduceAdd, Int.reduceSub, Int.reduceMul, Int.reduceEq, Int.reduceNeg, reduceCtorEq, resV, resAll, ARes.ev, LV.flat, ite_true, ite_false, exists_eq_left', exists_eq_left, keyOf, implies_true, fillC, capOf]
    refine callK_of (h_eqCells hg9.v (hw7.pre hp79).v hrl hrl) ?_
    rw [decide_eq_true (rfl : (partOf x y z tp fr sd true).getD [] = (partOf x y z tp fr sd true).getD [])]
    simp (disch := omega) only [↓SXd, SXu, slBounds, ↓sop, ↓aop, ↓reduceIte, LV.cells, AOp.dst, LV.I, LV.B, LV.U, LV.S, LV.nil, Nat.reduceEqDiff, Nat.reduceAdd, Nat.reduceMul, Nat.reduceSub, Nat.reduceLeDiff, Nat.reduceBEq, Nat.reduceDiv, Nat.reduceMod, Int.reduceToNat, Int.reduceLT, Int.reduceLE, Int.reduceAdd, Int.reduceSub, Int.reduceMul, Int.reduceEq, Int.reduceNeg, reduceCtorEq, resV, resAll, ARes.ev, LV.flat, ite_true, ite_false, exists_eq_left', exists_eq_left, keyOf, implies_true, fillC, capOf]
    refine callK_of (h_heldIntA3S (hg7.pre hp79).v hrl (by omega)) ?_
    simp (disch := omega) only [↓SXd, SXu, slBounds, ↓sop, ↓aop, ↓reduceIte, LV.cells, AOp.dst, LV.I, LV.B, LV.U, LV.S, LV.nil, Nat.reduceEqDiff, Nat.reduceAdd, Nat.reduceMul, Nat.reduceSub, Nat.reduceLeDiff, Nat.reduceBEq, Nat.reduceDiv, Nat.reduceMod, Int.reduceToNat, Int.reduceLT, Int.reduceLE, Int.reduceAdd, Int.reduceSub, Int.reduceMul, Int.reduceEq, Int.reduceNeg, reduceCtorEq, resV, resAll, ARes.ev, LV.flat, ite_true, ite_false, exists_eq_left', exists_eq_left, keyOf, implies_true, fillC, capOf]
    rfl
end Go.Ab

/- From the abstract machine to a row: a law that is called with what came in. -/
namespace Go.Ab
open Go Go.RowKit

/-- A memory of which nothing is ours. -/
def NoOwn (M : Mem) : Prop := ∀ t b, Live M t b → b.isOwn = false

theorem law_calls {P : Program} {f : FuncId} {args : List LV} {M N : Mem} {b : Bool} {G : Gh} {w : World} {xs : List Value} (hc : CallsTo P f args M (.B b) N) (hi : Inv G M w) (hn : NoOwn M) (hx : All2 (VR G) args xs) :
    Calls P f xs.toArray w fun e w' => e = .returned (.bool b) ∧ Below w.heap.size w w' := by
  refine (hc.2 G w xs hi hx).mono ?_
  rintro e w' ⟨v, N, x, G', ⟨rfl, rfl⟩, rfl, h1, h2, h3⟩
  refine ⟨by rw [(vr_val h1).1], h3.os, h3.tape, h3.output, h3.size, fun k hk => h3.keep k hk ?_⟩
  rintro ⟨t, blk, β, hl, ho, _⟩
  rw [hn t blk hl] at ho; cases ho

theorem law_callsR {P : Program} {f : FuncId} {args : List LV} {M : Mem} {b : Bool} {G : Gh} {w : World} {xs : List Value} (hc : CallsR P f args M fun v _ => v = .B b) (hi : Inv G M w) (hn : NoOwn M) (hx : All2 (VR G) args xs) :
    Calls P f xs.toArray w fun e w' => e = .returned (.bool b) ∧ Below w.heap.size w w' := by
  refine (hc.2 G w xs hi hx).mono ?_
  rintro e w' ⟨v, N, x, G', rfl, rfl, h1, h2, h3⟩
  refine ⟨by rw [(vr_val h1).1], h3.os, h3.tape, h3.output, h3.size, fun k hk => h3.keep k hk ?_⟩
  rintro ⟨t, blk, β, hl, ho, _⟩
  rw [hn t blk hl] at ho; cases ho
end Go.Ab

/- A heap that came in, opened. -/
namespace Go.Ab
open Go Go.RowKit

section
variable {H : Type} {enc : TypeId × Value → H} {P : Program} {w : World} {held : Bool}

/-- What the abstract machine is told of a slice of cells that came in. -/
def RowOf (w : World) (a : Option Addr) (len cap : Nat) (cs : List Cell) : Prop :=
  cs.length = len ∧ len ≤ cap ∧ cap ≤ maxLen ∧ (cap = 0 ∨ ∃ b o c e fz, a = some ⟨b, o, none⟩ ∧ w.heap[b]? = some (.cells c e fz) ∧ ∀ i, i < len → ∀ j v, (cs.getD i default).row[j]? = some (.I v) → c[o + (i * 3 + j)]? = some (.int .i64 v))

theorem cell_heap {a : Addr} {v : Value} (h : w.cell? a = some v) : ∃ b o c e fz, a = ⟨b, o, none⟩ ∧ w.heap[b]? = some (.cells c e fz) ∧ c[o]? = some v := by
  unfold World.cell? at h
  split at h
  · rename_i c e fz hh
    split at h
    · cases h
    · rename_i hs
      obtain ⟨b, o, s⟩ := a
      cases s with
      | some s => simp at hs
      | none => exact ⟨b, o, c, e, fz, rfl, hh, h⟩
  · cases h

theorem open_cells {ts ta ti : TypeId} {fuel : Nat} {cs : List Value} {x : DataW H × List MemPlace} (hts : P.underlying ts = some (.slice ta)) (hta : P.underlying ta = some (.array 3 ti)) (hti : P.underlying ti = some (.int .i64)) (hca : P.cellsOf ta = 3) (hci : P.cellsOf ti = 1)
    (h : DataW.trod enc P w 0 (fun _ => true) held fuel ts cs = some x) : ∃ a len cap ds, cs = [.slice a len cap] ∧ RowOf w a len cap ds := by
  rcases Go.Deep.open_slice hts h with ⟨rfl, _⟩ | ⟨a, len, cap, m, n, D, Pl, rfl, _, hl, hm, hme, _, hel⟩
  · exact ⟨none, 0, 0, [], rfl, rfl, Nat.le_refl _, Nat.zero_le _, .inl rfl⟩
  · have hmc : m = cap := by simpa using hme
    subst hmc
    have hel' : ∀ i, i < m → ∃ z : Cell, ∀ j v, z.row[j]? = some (.I v) → w.cell? (a.add (i * 3 + j)) = some (.int .i64 v) := fun i hi => by
      obtain ⟨cs', h1, h2⟩ := hel i hi
      rw [hca] at h1
      have r3 : List.range 3 = [0, 1, 2] := rfl
      simp only [World.cells?, Nat.zero_le, if_true, r3, List.mapM_cons, List.mapM_nil, Option.bind_eq_bind, Option.bind_eq_some_iff, Option.pure_def, Option.some.injEq] at h1
      obtain ⟨c0, e0, r, ⟨c1, e1, r', ⟨c2, e2, r'', rfl, rfl⟩, rfl⟩, rfl⟩ := h1
      obtain ⟨y0, y1, y2, n', _, k0, k1, k2⟩ := Go.ChangeShapes.trod_array3 hta hci h2
      obtain ⟨z0, q0, _, _⟩ := DataW.trod_int hti k0
      obtain ⟨z1, q1, _, _⟩ := DataW.trod_int hti k1
      obtain ⟨z2, q2, _, _⟩ := DataW.trod_int hti k2
      simp only [List.cons.injEq, and_true] at q0 q1 q2
      subst q0; subst q1; subst q2
      simp only [Go.Deep.add_add] at e0 e1 e2
      refine ⟨⟨z0, z1, z2⟩, fun j v hj => ?_⟩
      match j with
      | 0 => cases hj; exact e0
      | 1 => cases hj; exact e1
      | 2 => cases hj; exact e2
      | j + 3 => cases hj
    obtain ⟨f, hf⟩ : ∃ f : Nat → Cell, ∀ i, i < m → ∀ j v, (f i).row[j]? = some (.I v) → w.cell? (a.add (i * 3 + j)) = some (.int .i64 v) :=
      ⟨fun i => if h : i < m then Classical.choose (hel' i h) else default, fun i hi => by simp only [hi, dif_pos]; exact Classical.choose_spec (hel' i hi)⟩
    refine ⟨some a, len, m, (List.range len).map f, rfl, by simp, hl, hm, ?_⟩
    rcases Nat.eq_zero_or_pos m with h0 | h0
    · exact .inl h0
    · refine .inr ?_
      have hc0 := hf 0 h0 0 (f 0).a rfl
      obtain ⟨b, o, c, e, fz, ha, hh, _⟩ := cell_heap hc0
      have ha' : a = ⟨b, o, none⟩ := by simpa [Addr.add] using ha
      subst ha'
      refine ⟨b, o, c, e, fz, rfl, hh, fun i hi j v hj => ?_⟩
      have hg : ((List.range len).map f).getD i default = f i := by simp [hi]
      rw [hg] at hj
      have hcell := hf i (by omega) j v hj
      have hadd : (⟨b, o, none⟩ : Addr).add (i * 3 + j) = ⟨b, o + (i * 3 + j), none⟩ := addr_add _ _ _
      rw [hadd] at hcell
      unfold World.cell? at hcell
      simp only [hh] at hcell
      simpa using hcell
end

/-- A row that came in is laid into the abstract memory, to be read. -/
theorem Inv.addRow {G : Gh} {M : Mem} {w : World} (hi : Inv G M w) (hno : NoOwn M) {a : Option Addr} {len cap esz : Nat} {ls : List LV} (hl : len ≤ cap) (hll : ls.length ≤ cap * esz)
    (h : (cap = 0 ∧ ls = []) ∨ ∃ b o c e fz, a = some ⟨b, o, none⟩ ∧ w.heap[b]? = some (.cells c e fz) ∧ ∀ j l, ls[j]? = some l → ∃ x, c[o + j]? = some x ∧ VR1 G l x) :
    ∃ G', Ext G G' ∧ Inv G' (M ++ [some (.row ls false esz)]) w ∧ NoOwn (M ++ [some (.row ls false esz)]) ∧ VR1 G' (.ref M.length 0 len) (.slice a len cap) := by
  obtain ⟨β, hβ, hv⟩ : ∃ β : Base, (∀ G' : Gh, Ext G G' → EmbB G' w (.row ls false esz) β) ∧ (∀ G' : Gh, G' M.length = some β → VR1 G' (.ref M.length 0 len) (.slice a len cap)) := by
    rcases h with ⟨rfl, rfl⟩ | ⟨b, o, c, e, fz, rfl, hh, hc⟩
    · refine ⟨⟨0, 0, esz, 0, true⟩, fun G' _ => ⟨rfl, .inl ⟨rfl, rfl⟩⟩, fun G' hg => ⟨_, hg, a, 0, rfl, .inl ⟨by omega, rfl⟩⟩⟩
    · refine ⟨⟨b, o, esz, cap * esz, false⟩, fun G' hx => ⟨rfl, .inr ⟨rfl, c, e, fz, hh, (fun h => by cases h), hll, fun j l hj => ?_⟩⟩, fun G' hg => ⟨_, hg, _, cap, rfl, .inr ⟨rfl, rfl, hl, by simp⟩⟩⟩
      obtain ⟨x, h1, h2⟩ := hc j l hj
      exact ⟨x, h1, h2.ext hx⟩
  have hx : Ext G (G.put M.length β) := Gh.put_ext (hi.top _ (Nat.le_refl _))
  have hat : (G.put M.length β) M.length = some β := by simp [Gh.put]
  have hno' : NoOwn (M ++ [some (.row ls false esz)]) := fun t b hb => by
    rcases live_push hb with ⟨_, h1⟩ | ⟨_, rfl⟩
    · exact hno t b h1
    · rfl
  refine ⟨G.put M.length β, hx, ⟨fun t b hb => ?_, fun t t' b b' γ γ' _ hb _ ho => ?_, fun t ht => ?_⟩, hno', hv _ hat⟩
  · rcases live_push hb with ⟨hlt, h1⟩ | ⟨rfl, rfl⟩
    · obtain ⟨γ, hg, he⟩ := hi.emb t b h1
      exact ⟨γ, hx _ _ hg, he.ext hx fun _ => rfl⟩
    · exact ⟨β, hat, hβ _ hx⟩
  · rw [hno' t b hb] at ho; cases ho
  · simp at ht
    unfold Gh.put
    rw [if_neg (by omega)]
    exact hi.top t (by omega)

theorem Inv.none (w : World) : Inv (fun _ => Option.none) [] w := ⟨fun t b h => by unfold Live at h; simp at h, fun t t' b b' _ _ _ h => by unfold Live at h; simp at h, fun _ _ => rfl⟩
theorem NoOwn.none : NoOwn [] := fun t b h => by unfold Live at h; simp at h

theorem Inv.addCells {G : Gh} {M : Mem} {w : World} (hi : Inv G M w) (hno : NoOwn M) {a : Option Addr} {len cap : Nat} {cs : List Cell} (h : RowOf w a len cap cs) :
    ∃ G', Ext G G' ∧ Inv G' (M ++ [some (.row (triL cs) false 3)]) w ∧ NoOwn (M ++ [some (.row (triL cs) false 3)]) ∧ VR1 G' (.ref M.length 0 len) (.slice a len cap) := by
  obtain ⟨h1, h2, h3, h4⟩ := h
  refine hi.addRow hno h2 (by rw [triL_len]; omega) ?_
  rcases h4 with h0 | ⟨b, o, c, e, fz, ha, hh, hc⟩
  · refine .inl ⟨h0, ?_⟩
    have : cs = [] := List.eq_nil_of_length_eq_zero (by omega)
    rw [this]; rfl
  · refine .inr ⟨b, o, c, e, fz, ha, hh, fun j l hj => ?_⟩
    have hjl : j < cs.length * 3 := by
      rw [← triL_len]
      rcases Nat.lt_or_ge j (triL cs).length with h | h
      · exact h
      · rw [List.getElem?_eq_none h] at hj; cases hj
    have hat := triL_at (cs := cs) (k := j / 3) (by omega)
    have hrow : (cs.getD (j / 3) default).row[j % 3]? = some l := by
      rw [← hat, List.getElem?_take, if_pos (Nat.mod_lt _ (by omega)), List.getElem?_drop]
      rw [show j / 3 * 3 + j % 3 = j by omega]; exact hj
    have hI : ∃ v, l = .I v := by
      have hm : j % 3 < 3 := Nat.mod_lt _ (by omega)
      generalize j % 3 = r at hrow hm
      match r with
      | 0 => cases hrow; exact ⟨_, rfl⟩
      | 1 => cases hrow; exact ⟨_, rfl⟩
      | 2 => cases hrow; exact ⟨_, rfl⟩
    obtain ⟨v, rfl⟩ := hI
    refine ⟨.int .i64 v, ?_, rfl, rfl⟩
    have := hc (j / 3) (by omega) (j % 3) v hrow
    rwa [show j / 3 * 3 + j % 3 = j by omega] at this
end Go.Ab

/- A list of numbers that came in, opened. -/
namespace Go.Ab
open Go Go.RowKit Go.Joins Go.ChangeShapes Go.WideShapes Go.Deep Go.WideElems Go.Maps

/-- What the abstract machine is told of a slice of numbers that came in. -/
def RowOfI (w : World) (a : Option Addr) (len cap : Nat) (xs : List Int) : Prop :=
  xs.length = len ∧ len ≤ cap ∧ cap ≤ maxLen ∧ (cap = 0 ∨ ∃ b o c e fz, a = some ⟨b, o, none⟩ ∧ w.heap[b]? = some (.cells c e fz) ∧ ∀ i, i < len → c[o + i]? = some (.int .i64 (xs.getD i 0)))

section
variable {H : Type} {enc : TypeId × Value → H} {P : Program} {w : World} {held : Bool}
theorem open_intsI {ts ti : TypeId} {fuel : Nat} {cs : List Value} {x : DataW H × List MemPlace} (hts : P.underlying ts = some (.slice ti)) (hti : P.underlying ti = some (.int .i64)) (hci : P.cellsOf ti = 1)
    (h : DataW.trod enc P w 0 (fun _ => true) held fuel ts cs = some x) : ∃ a len cap xs, cs = [.slice a len cap] ∧ RowOfI w a len cap xs := by
  rcases Go.ChangeShapes.open_ints hts hti hci h with ⟨rfl, _⟩ | ⟨a, len, cap, zs, rfl, _, hl, hm, hz, _, hel, _⟩
  · exact ⟨none, 0, 0, [], rfl, rfl, Nat.le_refl _, Nat.zero_le _, .inl rfl⟩
  · have hzl : zs.length = cap := by simpa using hz
    refine ⟨some a, len, cap, zs.take len, rfl, by simp; omega, hl, hm, ?_⟩
    rcases Nat.eq_zero_or_pos cap with h0 | h0
    · exact .inl h0
    · refine .inr ?_
      have hc0 := hel 0 (by omega)
      obtain ⟨b, o, c, e, fz, ha, hh, _⟩ := cell_heap hc0
      have ha' : a = ⟨b, o, none⟩ := by simpa [Addr.add] using ha
      subst ha'
      refine ⟨b, o, c, e, fz, rfl, hh, fun i hi => ?_⟩
      have hcell := hel i (by omega)
      have hadd : (⟨b, o, none⟩ : Addr).add i = ⟨b, o + i, none⟩ := addr_add _ _ _
      rw [hadd] at hcell
      unfold World.cell? at hcell
      simp only [hh] at hcell
      have hg : (zs.take len).getD i 0 = zs.getD i 0 := by simp [List.getElem?_take, hi]
      rw [hg]
      simpa using hcell
end

theorem Inv.addInts {G : Gh} {M : Mem} {w : World} (hi : Inv G M w) (hno : NoOwn M) {a : Option Addr} {len cap : Nat} {xs : List Int} (h : RowOfI w a len cap xs) :
    ∃ G', Ext G G' ∧ Inv G' (M ++ [some (.row (intL xs) false 1)]) w ∧ NoOwn (M ++ [some (.row (intL xs) false 1)]) ∧ VR1 G' (.ref M.length 0 len) (.slice a len cap) := by
  obtain ⟨h1, h2, h3, h4⟩ := h
  refine hi.addRow hno h2 (by rw [intL_len]; omega) ?_
  rcases h4 with h0 | ⟨b, o, c, e, fz, ha, hh, hc⟩
  · refine .inl ⟨h0, ?_⟩
    have : xs = [] := List.eq_nil_of_length_eq_zero (by omega)
    rw [this]; rfl
  · refine .inr ⟨b, o, c, e, fz, ha, hh, fun j l hj => ?_⟩
    have hjl : j < xs.length := by
      rw [← intL_len]
      rcases Nat.lt_or_ge j (intL xs).length with h | h
      · exact h
      · rw [List.getElem?_eq_none h] at hj; cases hj
    rw [intL_get hjl] at hj
    cases hj
    exact ⟨_, hc j (by omega), rfl, rfl⟩

theorem array6 {α : Type} {cs : Array α} (h : cs.size = 6) : ∃ c0 c1 c2 c3 c4 c5, cs = #[c0, c1, c2, c3, c4, c5] := by
  obtain ⟨l⟩ := cs
  match l, h with
  | [c0, c1, c2, c3, c4, c5], _ => exact ⟨c0, c1, c2, c3, c4, c5, rfl⟩
section
variable {H : Type} {enc : TypeId × Value → H} {P : Program} {w : World} {base : Nat} {spare : Nat → Bool} {held : Bool}
/-- A struct of six fields, read. -/
theorem trod_struct6 {t : TypeId} {f0 f1 f2 f3 f4 f5 : Field} {fuel : Nat} {cs : List Value} {x : DataW H × List MemPlace} (ht : P.underlying t = some (.struct #[f0, f1, f2, f3, f4, f5])) (h : DataW.trod enc P w base spare held fuel t cs = some x) :
    ∃ y0 y1 y2 y3 y4 y5 n, x = (.agg [y0.1, y1.1, y2.1, y3.1, y4.1, y5.1], y0.2 ++ (y1.2 ++ (y2.2 ++ (y3.2 ++ (y4.2 ++ (y5.2)))))) ∧ cs.length = P.cellsOf t ∧ DataW.trod enc P w base spare held n f0.type ((cs.drop f0.offset).take (P.cellsOf f0.type)) = some y0 ∧ DataW.trod enc P w base spare held n f1.type ((cs.drop f1.offset).take (P.cellsOf f1.type)) = some y1 ∧ DataW.trod enc P w base spare held n f2.type ((cs.drop f2.offset).take (P.cellsOf f2.type)) = some y2 ∧ DataW.trod enc P w base spare held n f3.type ((cs.drop f3.offset).take (P.cellsOf f3.type)) = some y3 ∧ DataW.trod enc P w base spare held n f4.type ((cs.drop f4.offset).take (P.cellsOf f4.type)) = some y4 ∧ DataW.trod enc P w base spare held n f5.type ((cs.drop f5.offset).take (P.cellsOf f5.type)) = some y5 := by
  obtain ⟨xs, n, _, rfl, hl, hlen, hf⟩ := DataW.trod_struct ht h
  match xs, hlen with
  | [y0, y1, y2, y3, y4, y5], _ => exact ⟨y0, y1, y2, y3, y4, y5, n, by simp, hl, by simpa using hf 0 f0 rfl, by simpa using hf 1 f1 rfl, by simpa using hf 2 f2 rfl, by simpa using hf 3 f3 rfl, by simpa using hf 4 f4 rfl, by simpa using hf 5 f5 rfl⟩
/-- A struct of six one-cell fields by value, opened. -/
theorem open_agg6 {r : Go.Reach} {b0 : Nat} {t : TypeId} {f0 f1 f2 f3 f4 f5 : Field} {v : Value} {d : DataW H} {p : List MemPlace} (hs : P.underlying t = some (.struct #[f0, f1, f2, f3, f4, f5])) (hone : oneCellFields P #[f0, f1, f2, f3, f4, f5] = true) (hC : P.cellsOf t = 6)
    (hv : Value.okWide P w r b0 t v) (h : DataW.Trod enc P w base spare held t v d p) :
    ∃ (v0 v1 v2 v3 v4 v5 : Value) (y0 y1 y2 y3 y4 y5 : DataW H × List MemPlace) (n : Nat), v = .agg #[v0, v1, v2, v3, v4, v5] ∧ d = .agg [y0.1, y1.1, y2.1, y3.1, y4.1, y5.1] ∧ p = y0.2 ++ (y1.2 ++ (y2.2 ++ (y3.2 ++ (y4.2 ++ (y5.2))))) ∧
      DataW.trod enc P w base spare held n f0.type [v0] = some y0 ∧ DataW.trod enc P w base spare held n f1.type [v1] = some y1 ∧ DataW.trod enc P w base spare held n f2.type [v2] = some y2 ∧ DataW.trod enc P w base spare held n f3.type [v3] = some y3 ∧ DataW.trod enc P w base spare held n f4.type [v4] = some y4 ∧ DataW.trod enc P w base spare held n f5.type [v5] = some y5 := by
  obtain ⟨cs, rfl, hsz⟩ := okWide_struct hs hv
  obtain ⟨c0, c1, c2, c3, c4, c5, rfl⟩ := array6 (hsz.trans hC)
  obtain ⟨fuel, hf⟩ := h
  obtain ⟨y0, y1, y2, y3, y4, y5, n, hx, _, h0, h1, h2, h3, h4, h5⟩ := trod_struct6 hs hf
  obtain ⟨o0, k0⟩ := hone_of hone 0 f0 rfl
  obtain ⟨o1, k1⟩ := hone_of hone 1 f1 rfl
  obtain ⟨o2, k2⟩ := hone_of hone 2 f2 rfl
  obtain ⟨o3, k3⟩ := hone_of hone 3 f3 rfl
  obtain ⟨o4, k4⟩ := hone_of hone 4 f4 rfl
  obtain ⟨o5, k5⟩ := hone_of hone 5 f5 rfl
  simp only [Prod.mk.injEq] at hx
  exact ⟨c0, c1, c2, c3, c4, c5, y0, y1, y2, y3, y4, y5, n, rfl, hx.1, hx.2, by simpa [Value.cells, o0, k0] using h0, by simpa [Value.cells, o1, k1] using h1, by simpa [Value.cells, o2, k2] using h2, by simpa [Value.cells, o3, k3] using h3, by simpa [Value.cells, o4, k4] using h4, by simpa [Value.cells, o5, k5] using h5⟩
end
end Go.Ab
