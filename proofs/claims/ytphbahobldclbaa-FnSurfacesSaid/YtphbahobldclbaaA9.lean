/- Parts of the proof of FnSurfacesSaid: Um Pw Vc Vd Ve Jo C_Jb K_Jb C_Ja K_Ja C_Zd K_Zd C_Zc K_Zc C_Zb K_Zb C_Za K_Za Za C_Yh K_Yh C_Yf K_Yf Yf C_Gf K_Gf C_Gc K_Gc Gc Gf Yg Yh Zb C_Yi K_Yi Yi Zc Zd Ja Jb Jc Jf C_Jg K_Jg Jg Jp C_Jw K_Jw C_Jv K_Jv C_Ju K_Ju Tx Js Ju C_Ty K_Ty. -/
import Derived.Test.YtphbahobldclbaaA8
import Derived.Test.YtphbahobldclbaaA4
import Derived.Test.YtphbahobldclbaaA6
import Derived.Test.YtphbahobldclbaaA5
import Derived.Test.YtphbahobldclbaaA7
import Derived.Test.YtphbahobldclbaaA3
import Derived.Test.YtphbahobldclbaaProg
import Derived.KernelRfl
set_option linter.all false
/- Contracts: whether a heap has a shadow, the program's side; IsShadowOf, both sides. -/
namespace Go.Ab
open Go
set_option linter.unusedSimpArgs false
set_option linter.unusedVariables false
set_option maxRecDepth 20000

section
variable {x y z : Int} {t o t' o' t2 o2 : Nat} {tp fr sd : List Int} {M : Mem} (h1 : Ints M t o tp) (h2 : Ints M t' o' fr) (h3 : Ints M t2 o2 sd) (l1 : tp.length ≤ 1000000000) (l2 : fr.length ≤ 1000000000) (l3 : sd.length ≤ 1000000000)
include h1 h2 h3 l1 l2 l3
/-- What IsShadowOf returns. -/
noncomputable def isShdOf (x y z : Int) (tp fr sd : List Int) (x' y' z' : Int) (cs : List Cell) : LV := .tup [.B (decide ((ShdOK x y z tp fr sd ∧ HeapOK x' y' z' cs) ∧ (x = x' ∧ y = y' ∧ z = z') ∧ HasShd x y z tp fr sd cs)), .B (decide (ShdOK x y z tp fr sd ∧ HeapOK x' y' z' cs))]
variable {x' y' z' : Int} {q r : Nat} {cs : List Cell} (h : Tri M q r cs) (hn : cs.length ≤ 1000000000)
include h hn
end
end Go.Ab

/- Plain words: the library's count of a 64-bit set is the number of its bits. -/
namespace Go.Ab

def rep : Nat → Nat → Nat
  | 0, _ => 0
  | k + 1, c => c + 256 * rep k c
def ofB : List Nat → Nat
  | [] => 0
  | l :: ls => l + 256 * ofB ls
theorem and_split {a b l c : Nat} (hl : l < 256) (hc : c < 256) : (l + 256 * a) &&& (c + 256 * b) = (l &&& c) + 256 * (a &&& b) := by
  have h1 : ((l + 256 * a) &&& (c + 256 * b)) % 2 ^ 8 = l &&& c := by
    rw [Nat.and_mod_two_pow]
    congr 1 <;> omega
  have h2 : ((l + 256 * a) &&& (c + 256 * b)) / 2 ^ 8 = a &&& b := by
    rw [Nat.and_div_two_pow]
    congr 1 <;> omega
  have := Nat.mod_add_div ((l + 256 * a) &&& (c + 256 * b)) (2 ^ 8)
  rw [h1, h2] at this
  rw [← this]
def a8 (l : Nat) : Nat := (l / 2 &&& 85) + (l &&& 85)
def b8 (l : Nat) : Nat := (l / 4 &&& 51) + (l &&& 51)
def c8 (l : Nat) : Nat := (l / 16 + l) % 16
theorem low_a : ∀ b, b < 2 → ∀ m, m < 128 → (128 * b + m) &&& 85 = m &&& 85 := by decide +kernel
theorem low_b : ∀ b, b < 4 → ∀ m, m < 64 → (64 * b + m) &&& 51 = m &&& 51 := by decide +kernel
theorem all_a : ∀ {ls : List Nat}, (∀ l ∈ ls, l < 256) → (ofB ls / 2 &&& rep ls.length 85) + (ofB ls &&& rep ls.length 85) = ofB (ls.map a8)
  | [], _ => rfl
  | l :: ls, h => by
    have hl := h l (by simp)
    have ih := all_a (ls := ls) fun m hm => h m (by simp [hm])
    simp only [ofB, List.length_cons, rep, List.map_cons]
    rw [and_split hl (by omega), show (l + 256 * ofB ls) / 2 = (128 * (ofB ls % 2) + l / 2) + 256 * (ofB ls / 2) by omega, and_split (by omega) (by omega), low_a _ (by omega) _ (by omega), ← ih]
    unfold a8; omega
theorem all_b : ∀ {ls : List Nat}, (∀ l ∈ ls, l < 256) → (ofB ls / 4 &&& rep ls.length 51) + (ofB ls &&& rep ls.length 51) = ofB (ls.map b8)
  | [], _ => rfl
  | l :: ls, h => by
    have hl := h l (by simp)
    have ih := all_b (ls := ls) fun m hm => h m (by simp [hm])
    simp only [ofB, List.length_cons, rep, List.map_cons]
    rw [and_split hl (by omega), show (l + 256 * ofB ls) / 4 = (64 * (ofB ls % 4) + l / 4) + 256 * (ofB ls / 4) by omega, and_split (by omega) (by omega), low_b _ (by omega) _ (by omega), ← ih]
    unfold b8; omega
theorem and15 (n : Nat) : n &&& 15 = n % 16 := Nat.and_two_pow_sub_one_eq_mod n 4
theorem all_c : ∀ {ls : List Nat}, (∀ l ∈ ls, l < 256 ∧ l % 16 ≤ 4 ∧ l / 16 ≤ 4) → (ofB ls / 16 + ofB ls &&& rep ls.length 15) = ofB (ls.map c8)
  | [], _ => rfl
  | l :: ls, h => by
    have hl := h l (by simp)
    have ih := all_c (ls := ls) fun m hm => h m (by simp [hm])
    have ht : ofB ls % 16 ≤ 4 := by
      cases ls with
      | nil => simp [ofB]
      | cons m ms => have := h m (by simp); simp only [ofB]; omega
    simp only [ofB, List.length_cons, rep, List.map_cons]
    rw [show (l + 256 * ofB ls) / 16 + (l + 256 * ofB ls) = (16 * (ofB ls % 16) + l / 16 + l) + 256 * (ofB ls / 16 + ofB ls) by omega, and_split (by omega) (by omega), ih, and15]
    unfold c8; omega
def pc8 (l : Nat) : Nat := (List.range 8).countP fun j => l.testBit j
theorem byte_ok : ∀ l, l < 256 → a8 l < 256 ∧ b8 (a8 l) < 256 ∧ b8 (a8 l) % 16 ≤ 4 ∧ b8 (a8 l) / 16 ≤ 4 ∧ c8 (b8 (a8 l)) = pc8 l ∧ pc8 l ≤ 8 := by decide +kernel

theorem m85 : (6148914691236517205#64).toNat = rep 8 85 := by decide +kernel
theorem m51 : (3689348814741910323#64).toNat = rep 8 51 := by decide +kernel
theorem m15 : (1085102592571150095#64).toNat = rep 8 15 := by decide +kernel
theorem ofB_lt : ∀ {ls : List Nat}, (∀ l ∈ ls, l < 256) → ofB ls < 256 ^ ls.length
  | [], _ => by simp [ofB]
  | l :: ls, h => by
    have h1 := h l (by simp)
    have ih := ofB_lt (ls := ls) fun m hm => h m (by simp [hm])
    simp only [ofB, List.length_cons, Nat.pow_succ]; omega
theorem ofB_le {k : Nat} : ∀ {ls : List Nat}, (∀ l ∈ ls, l ≤ k) → 255 * ofB ls + k ≤ k * 256 ^ ls.length
  | [], _ => by simp [ofB]
  | l :: ls, h => by
    have h1 := h l (by simp)
    have ih := ofB_le (ls := ls) fun m hm => h m (by simp [hm])
    rw [List.length_cons, Nat.pow_succ, ← Nat.mul_assoc]
    simp only [ofB]; omega
theorem p256 : (256 : Nat) ^ 8 = 18446744073709551616 := by decide +kernel
theorem ofB_lt8 {ls : List Nat} (hl : ls.length = 8) (h : ∀ l ∈ ls, l < 256) : ofB ls < 18446744073709551616 := by
  have := ofB_lt h
  rw [hl, p256] at this; exact this
theorem ofB_le8 {ls : List Nat} (hl : ls.length = 8) (h : ∀ l ∈ ls, l ≤ 68) : ofB ls < 9223372036854775808 := by
  have := ofB_le h
  rw [hl, p256] at this; omega
theorem ofB8_lt {a b c d e f g h : Nat} (h0 : a < 256) (h1 : b < 256) (h2 : c < 256) (h3 : d < 256) (h4 : e < 256) (h5 : f < 256) (h6 : g < 256) (h7 : h < 256) : ofB [a, b, c, d, e, f, g, h] < 18446744073709551616 :=
  ofB_lt8 rfl (by simp [h0, h1, h2, h3, h4, h5, h6, h7])
theorem ofB8_68 {a b c d e f g h : Nat} (h0 : a ≤ 68) (h1 : b ≤ 68) (h2 : c ≤ 68) (h3 : d ≤ 68) (h4 : e ≤ 68) (h5 : f ≤ 68) (h6 : g ≤ 68) (h7 : h ≤ 68) : ofB [a, b, c, d, e, f, g, h] < 9223372036854775808 :=
  ofB_le8 rfl (by simp [h0, h1, h2, h3, h4, h5, h6, h7])
theorem ofB_div {a : Nat} {ls : List Nat} (h : a < 256) : ofB (a :: ls) / 256 = ofB ls := by simp only [ofB]; omega
theorem p64 : (2 : Nat) ^ 64 = 18446744073709551616 := by decide +kernel
theorem swar1_b {ls : List Nat} (hl : ls.length = 8) (hb : ∀ l ∈ ls, l < 256) (hlt : ofB (ls.map a8) < 18446744073709551616) {x : BitVec 64} (hx : x.toNat = ofB ls) : (swar1 x).toNat = ofB (ls.map a8) := by
  have := all_a hb
  rw [hl] at this
  unfold swar1
  rw [BitVec.toNat_add, BitVec.toNat_and, BitVec.toNat_and, BitVec.toNat_ushiftRight, hx, Nat.shiftRight_eq_div_pow, m85, Nat.pow_one, this, p64, Nat.mod_eq_of_lt hlt]
theorem swar2_b {ls : List Nat} (hl : ls.length = 8) (hb : ∀ l ∈ ls, l < 256) (hlt : ofB (ls.map b8) < 18446744073709551616) {x : BitVec 64} (hx : x.toNat = ofB ls) : (swar2 x).toNat = ofB (ls.map b8) := by
  have := all_b hb
  rw [hl] at this
  unfold swar2
  rw [BitVec.toNat_add, BitVec.toNat_and, BitVec.toNat_and, BitVec.toNat_ushiftRight, hx, Nat.shiftRight_eq_div_pow, m51, show (2 : Nat) ^ 2 = 4 from rfl, this, p64, Nat.mod_eq_of_lt hlt]
theorem swar3_b {ls : List Nat} (hl : ls.length = 8) (hb : ∀ l ∈ ls, l < 256 ∧ l % 16 ≤ 4 ∧ l / 16 ≤ 4) (hlt : ofB ls < 9223372036854775808) {x : BitVec 64} (hx : x.toNat = ofB ls) : (swar3 x).toNat = ofB (ls.map c8) := by
  have := all_c hb
  rw [hl] at this
  unfold swar3
  rw [BitVec.toNat_and, BitVec.toNat_add, BitVec.toNat_ushiftRight, hx, Nat.shiftRight_eq_div_pow, m15, show (2 : Nat) ^ 4 = 16 from rfl, p64, Nat.mod_eq_of_lt (by omega), this]
theorem swar_tail {a b c d e f g h : Nat} (h0 : a ≤ 8) (h1 : b ≤ 8) (h2 : c ≤ 8) (h3 : d ≤ 8) (h4 : e ≤ 8) (h5 : f ≤ 8) (h6 : g ≤ 8) (h7 : h ≤ 8) {y : BitVec 64} (hy : y.toNat = ofB [a, b, c, d, e, f, g, h]) :
    (swar6 (swar5 (swar4 y)) &&& 127#64).toNat = a + b + c + d + e + f + g + h := by
  have e4 : (swar4 y).toNat = ofB [a + b, b + c, c + d, d + e, e + f, f + g, g + h, h] := by
    have hs : ofB [a, b, c, d, e, f, g, h] + ofB [b, c, d, e, f, g, h] = ofB [a + b, b + c, c + d, d + e, e + f, f + g, g + h, h] := by simp only [ofB]; omega
    have hlt := ofB8_lt (a := a + b) (b := b + c) (c := c + d) (d := d + e) (e := e + f) (f := f + g) (g := g + h) (h := h) (by omega) (by omega) (by omega) (by omega) (by omega) (by omega) (by omega) (by omega)
    unfold swar4
    rw [BitVec.toNat_add, BitVec.toNat_ushiftRight, Nat.shiftRight_eq_div_pow, hy, show (2 : Nat) ^ 8 = 256 from rfl, ofB_div (by omega), hs, p64, Nat.mod_eq_of_lt hlt]
  have e5 : (swar5 (swar4 y)).toNat = ofB [a + b + (c + d), b + c + (d + e), c + d + (e + f), d + e + (f + g), e + f + (g + h), f + g + h, g + h, h] := by
    have hs : ofB [a + b, b + c, c + d, d + e, e + f, f + g, g + h, h] + ofB [c + d, d + e, e + f, f + g, g + h, h] = ofB [a + b + (c + d), b + c + (d + e), c + d + (e + f), d + e + (f + g), e + f + (g + h), f + g + h, g + h, h] := by simp only [ofB]; omega
    have hlt := ofB8_lt (a := a + b + (c + d)) (b := b + c + (d + e)) (c := c + d + (e + f)) (d := d + e + (f + g)) (e := e + f + (g + h)) (f := f + g + h) (g := g + h) (h := h) (by omega) (by omega) (by omega) (by omega) (by omega) (by omega) (by omega) (by omega)
    unfold swar5
    rw [BitVec.toNat_add, BitVec.toNat_ushiftRight, Nat.shiftRight_eq_div_pow, e4, show (2 : Nat) ^ 16 = 256 * 256 from rfl, ← Nat.div_div_eq_div_mul, ofB_div (by omega), ofB_div (by omega), hs, p64, Nat.mod_eq_of_lt hlt]
  have e6 : (swar6 (swar5 (swar4 y))).toNat % 256 = a + b + c + d + e + f + g + h := by
    unfold swar6
    rw [BitVec.toNat_add, BitVec.toNat_ushiftRight, Nat.shiftRight_eq_div_pow, e5, show (2 : Nat) ^ 32 = 256 * 256 * 256 * 256 from rfl, ← Nat.div_div_eq_div_mul, ← Nat.div_div_eq_div_mul, ← Nat.div_div_eq_div_mul, ofB_div (by omega), ofB_div (by omega), ofB_div (by omega), ofB_div (by omega), p64]
    simp only [ofB]; omega
  rw [BitVec.toNat_and, show (127#64).toNat = 2 ^ 7 - 1 from rfl, Nat.and_two_pow_sub_one_eq_mod]
  omega
set_option maxHeartbeats 2000000 in
theorem swar_bytes {l0 l1 l2 l3 l4 l5 l6 l7 : Nat} (h0 : l0 < 256) (h1 : l1 < 256) (h2 : l2 < 256) (h3 : l3 < 256) (h4 : l4 < 256) (h5 : l5 < 256) (h6 : l6 < 256) (h7 : l7 < 256) {x : BitVec 64} (hx : x.toNat = ofB [l0, l1, l2, l3, l4, l5, l6, l7]) :
    (swar x).toNat = pc8 l0 + pc8 l1 + pc8 l2 + pc8 l3 + pc8 l4 + pc8 l5 + pc8 l6 + pc8 l7 := by
  obtain ⟨f0, g0, q0, r0, e30, u0⟩ := byte_ok l0 h0
  obtain ⟨f1, g1, q1, r1, e31, u1⟩ := byte_ok l1 h1
  obtain ⟨f2, g2, q2, r2, e32, u2⟩ := byte_ok l2 h2
  obtain ⟨f3, g3, q3, r3, e33, u3⟩ := byte_ok l3 h3
  obtain ⟨f4, g4, q4, r4, e34, u4⟩ := byte_ok l4 h4
  obtain ⟨f5, g5, q5, r5, e35, u5⟩ := byte_ok l5 h5
  obtain ⟨f6, g6, q6, r6, e36, u6⟩ := byte_ok l6 h6
  obtain ⟨f7, g7, q7, r7, e37, u7⟩ := byte_ok l7 h7
  have e1 := swar1_b (ls := [l0, l1, l2, l3, l4, l5, l6, l7]) rfl (by simp [h0, h1, h2, h3, h4, h5, h6, h7]) (ofB8_lt f0 f1 f2 f3 f4 f5 f6 f7) hx
  simp only [List.map_cons, List.map_nil] at e1
  have e2 := swar2_b (ls := [a8 l0, a8 l1, a8 l2, a8 l3, a8 l4, a8 l5, a8 l6, a8 l7]) rfl (by simp [f0, f1, f2, f3, f4, f5, f6, f7]) (ofB8_lt g0 g1 g2 g3 g4 g5 g6 g7) e1
  simp only [List.map_cons, List.map_nil] at e2
  have e3 := swar3_b (ls := [b8 (a8 l0), b8 (a8 l1), b8 (a8 l2), b8 (a8 l3), b8 (a8 l4), b8 (a8 l5), b8 (a8 l6), b8 (a8 l7)]) rfl (by simp [g0, g1, g2, g3, g4, g5, g6, g7, q0, q1, q2, q3, q4, q5, q6, q7, r0, r1, r2, r3, r4, r5, r6, r7]) (ofB8_68 (by omega) (by omega) (by omega) (by omega) (by omega) (by omega) (by omega) (by omega)) e2
  simp only [List.map_cons, List.map_nil, e30, e31, e32, e33, e34, e35, e36, e37] at e3
  exact swar_tail u0 u1 u2 u3 u4 u5 u6 u7 e3
theorem byte_bit (x : BitVec 64) (k j : Nat) (hj : j < 8) : (x.toNat / 256 ^ k % 256).testBit j = x.getLsbD (8 * k + j) := by
  rw [show (256 : Nat) = 2 ^ 8 from rfl, Nat.testBit_mod_two_pow, decide_eq_true hj, Bool.true_and, ← Nat.pow_mul, Nat.testBit_div_two_pow, Nat.add_comm]
  rfl
theorem pc8_byte (x : BitVec 64) (k : Nat) : pc8 (x.toNat / 256 ^ k % 256) = (List.range 8).countP fun j => x.getLsbD (8 * k + j) := by
  unfold pc8
  apply List.countP_congr
  intro j hj
  rw [byte_bit x k j (List.mem_range.1 hj)]
theorem range64 : List.range 64 = (List.range 8).flatMap fun k => (List.range 8).map fun j => 8 * k + j := by decide +kernel
/-- The library's count is the number of bits. -/
theorem swar_eq (x : BitVec 64) : (swar x).toNat = (List.range 64).countP x.getLsbD := by
  have hx := x.isLt
  have hb : ∀ n, n % 256 < 256 := fun n => Nat.mod_lt _ (by omega)
  rw [swar_bytes (x := x) (l0 := x.toNat / 256 ^ 0 % 256) (l1 := x.toNat / 256 ^ 1 % 256) (l2 := x.toNat / 256 ^ 2 % 256) (l3 := x.toNat / 256 ^ 3 % 256) (l4 := x.toNat / 256 ^ 4 % 256) (l5 := x.toNat / 256 ^ 5 % 256) (l6 := x.toNat / 256 ^ 6 % 256) (l7 := x.toNat / 256 ^ 7 % 256)
    (hb _) (hb _) (hb _) (hb _) (hb _) (hb _) (hb _) (hb _) (by simp only [ofB, Nat.reducePow]; omega)]
  simp only [pc8_byte]
  rw [range64, List.countP_flatMap]
  simp only [show List.range 8 = [0, 1, 2, 3, 4, 5, 6, 7] from rfl, List.map_cons, List.map_nil, List.sum_cons, List.sum_nil, Function.comp, Nat.add_zero, Nat.add_assoc]
  rfl
theorem swar_bs {x y z : Int} (hS : Sides x y z) (p : Cell → Bool) : (swar (bs x y z p)).toNat = (pick x y z p).length := by
  have hv := vol_cast hS
  rw [swar_eq, show List.range 64 = List.range (vol x y z) ++ (List.range (64 - vol x y z)).map (vol x y z + ·) by rw [← List.range_add]; congr 1; omega, List.countP_append]
  have h1 : (List.range (vol x y z)).countP (bs x y z p).getLsbD = (pick x y z p).length := by
    unfold pick cellsOf
    rw [← List.countP_eq_length_filter, List.countP_map]
    apply List.countP_congr
    intro i hi
    rw [bs_bit hS, decide_eq_true (List.mem_range.1 hi), Bool.true_and]; rfl
  have h2 : ((List.range (64 - vol x y z)).map (vol x y z + ·)).countP (bs x y z p).getLsbD = 0 := by
    rw [List.countP_eq_zero]
    intro i hi
    obtain ⟨j, _, rfl⟩ := List.mem_map.1 hi
    rw [bs_bit hS, decide_eq_false (by omega)]; simp
  rw [h1, h2, Nat.add_zero]
end Go.Ab

/- Contracts: lines that need a cube, and cells that must be, the program's side. -/
namespace Go.Ab
open Go
set_option linter.unusedSimpArgs false
set_option linter.unusedVariables false
set_option maxRecDepth 20000

section
variable {x y z : Int} {t o t' o' t2 o2 : Nat} {tp fr sd : List Int} {M : Mem} (h1 : Ints M t o tp) (h2 : Ints M t' o' fr) (h3 : Ints M t2 o2 sd) (hok : ShdOK x y z tp fr sd)
include h1 h2 h3 hok
end
end Go.Ab

/- Contracts: cells that must be, the reference's side; MustCells and SpareCells, both sides. -/
namespace Go.Ab
open Go
set_option linter.unusedSimpArgs false
set_option linter.unusedVariables false
set_option maxRecDepth 20000

/-- Of the allowed cells those that must be (sp false), or the others. -/
def shdPart (x y z : Int) (tp fr sd : List Int) (sp : Bool) : List Cell := (pick x y z (allowedB y z tp fr sd)).filter fun c => aloneK y z (pick x y z (allowedB y z tp fr sd)) 3 c != sp
section
variable {x y z : Int} {t o t' o' t2 o2 : Nat} {tp fr sd : List Int} {M : Mem} (h1 : Ints M t o tp) (h2 : Ints M t' o' fr) (h3 : Ints M t2 o2 sd)
include h1 h2 h3
end
end Go.Ab

/- Contracts: MustCells and SpareCells, both sides. -/
namespace Go.Ab
open Go
set_option linter.unusedSimpArgs false
set_option linter.unusedVariables false
set_option maxRecDepth 20000

/-- A valid shadow whose lists fit together. -/
def Fits (x y z : Int) (tp fr sd : List Int) : Prop := ShdOK x y z tp fr sd ∧ HasShd x y z tp fr sd (pick x y z (allowedB y z tp fr sd))
instance (x y z : Int) (tp fr sd : List Int) : Decidable (Fits x y z tp fr sd) := by unfold Fits; exact inferInstance
def partOf (x y z : Int) (tp fr sd : List Int) (sp : Bool) : Option (List Cell) := if Fits x y z tp fr sd then some (shdPart x y z tp fr sd sp) else none
section
variable {x y z : Int} {t o t' o' t2 o2 : Nat} {tp fr sd : List Int} {M : Mem} (h1 : Ints M t o tp) (h2 : Ints M t' o' fr) (h3 : Ints M t2 o2 sd) (l1 : tp.length ≤ 1000000000) (l2 : fr.length ≤ 1000000000) (l3 : sd.length ≤ 1000000000)
include h1 h2 h3 l1 l2 l3
end
end Go.Ab

/- Plain: what the law of shadows says. -/
namespace Go.Ab
open Go
set_option linter.unusedSimpArgs false
set_option linter.unusedVariables false
set_option maxRecDepth 20000

theorem shd_get {x y z : Int} {d i : Nat} {cs : List Cell} (h : i < (linesOf x y z d).toNat) : (shdOf x y z d cs).getD i 0 = min ((cs.countP (onLine y z d i) : Nat) : Int) 1 := by
  have hl : i < (viewL x y z d cs).length := by rw [viewL_len]; exact h
  have hv := viewL_get (cs := cs) h
  unfold shdOf onesL
  rw [← hv]
  simp [hl]
theorem shd_ones {x y z : Int} {d : Nat} {cs : List Cell} : Ones (shdOf x y z d cs) := ones_of fun j hj => by
  rw [shdOf_len] at hj
  rw [shd_get hj]
  omega
theorem int_ext {l l' : List Int} (hl : l.length = l'.length) (h : ∀ j, j < l.length → l.getD j 0 = l'.getD j 0) : l = l' := by
  apply List.ext_getElem hl
  intro i h2 h3
  have := h i h2
  simpa [h2, h3] using this
section
variable {x y z : Int} {tp fr sd : List Int} (hok : ShdOK x y z tp fr sd)
include hok
end
/-- The number of lit lines. -/
def litSum : List Int → Int
  | [] => 0
  | a :: l => a + litSum l
theorem litSum_snoc {l : List Int} {a : Int} : litSum (l ++ [a]) = litSum l + a := by
  induction l with
  | nil => simp [litSum]
  | cons b l ih => simp only [List.cons_append, litSum, ih]; omega
theorem litSum_take {l : List Int} {k : Nat} (hk : k < l.length) : litSum (l.take (k + 1)) = litSum (l.take k) + l.getD k 0 := by
  rw [List.take_succ, List.getElem?_eq_getElem hk, Option.toList_some, litSum_snoc]
  simp [hk]
theorem litSum_bound : ∀ {l : List Int}, Ones l → 0 ≤ litSum l ∧ litSum l ≤ l.length
  | [], _ => by simp [litSum]
  | a :: l, h => by
    have := litSum_bound (l := l) fun v hv => h v (by simp [hv])
    have := h a (by simp)
    simp only [litSum, List.length_cons]; omega
theorem litSum_set : ∀ {l : List Int} {i : Nat} {v : Int}, i < l.length → litSum (l.set i v) = litSum l - l.getD i 0 + v
  | a :: l, 0, v, _ => by simp only [List.set, litSum]; simp; omega
  | a :: l, i + 1, v, h => by
    have := litSum_set (l := l) (i := i) (v := v) (by simpa using h)
    simp only [List.set, litSum, this]
    simp; omega
theorem litSum_ones : ∀ {l : List Int}, (∀ v ∈ l, 0 ≤ v) → litSum (onesL l) ≤ litSum l
  | [], _ => Int.le_refl _
  | a :: l, h => by
    have := litSum_ones (l := l) fun v hv => h v (by simp [hv])
    have := h a (by simp)
    unfold onesL at *
    simp only [List.map, litSum]; omega
theorem litSum_zero : ∀ n : Nat, litSum (List.replicate n 0) = 0
  | 0 => rfl
  | n + 1 => by simp only [List.replicate_succ, litSum, litSum_zero n]; rfl
theorem view_sum {x y z : Int} (hS : Sides x y z) {d : Nat} (hd : d < 3) : ∀ {cs : List Cell} {v : List Int}, (∀ c ∈ cs, c.inBox x y z) → v.length = (linesOf x y z d).toNat → litSum (cs.foldl (viewStep y z d) v) = litSum v + cs.length
  | [], v, _, _ => by simp
  | c :: cs, v, hin, hl => by
    have h1 := lineOf_in hS (hin c (by simp)) hd
    rw [List.foldl_cons, view_sum hS hd (fun e he => hin e (by simp [he])) (by unfold viewStep; simpa using hl)]
    unfold viewStep
    rw [litSum_set (by omega)]
    simp only [List.length_cons]; omega
theorem lit_le {x y z : Int} {cs : List Cell} (hH : HeapOK x y z cs) {d : Nat} (hd : d < 3) : litSum (shdOf x y z d cs) ≤ cs.length := by
  have h1 := view_sum hH.1 hd (cs := cs) (v := List.replicate (linesOf x y z d).toNat 0) (fun c hc => hH.mem hc) (by simp)
  rw [litSum_zero] at h1
  have h2 := litSum_ones (l := viewL x y z d cs) fun v hv => by
    obtain ⟨i, hi, rfl⟩ := List.getElem_of_mem hv
    have hi' := hi
    rw [viewL_len] at hi'
    have := viewL_get (cs := cs) hi'
    rw [List.getD_eq_getElem?_getD, List.getElem?_eq_getElem hi, Option.getD_some] at this
    rw [this]; omega
  have h3 : litSum (viewL x y z d cs) = cs.length := by unfold viewL; rw [h1]; omega
  unfold shdOf
  omega
end Go.Ab

/- The abstract code of some functions (written by a program of mine from the translation, by way of prepF). -/
namespace Go.Ab.C
open Go.Ab
end Go.Ab.C

/- That the program has this code. -/
namespace Go.Ab.K
open Go Go.Ab
end Go.Ab.K

/- The abstract code of some functions (written by a program of mine from the translation, by way of prepF). -/
namespace Go.Ab.C
open Go.Ab
end Go.Ab.C

/- That the program has this code. -/
namespace Go.Ab.K
open Go Go.Ab
end Go.Ab.K

/- The abstract code of some functions (written by a program of mine from the translation, by way of prepF). -/
namespace Go.Ab.C
open Go.Ab
end Go.Ab.C

/- That the program has this code. -/
namespace Go.Ab.K
open Go Go.Ab
end Go.Ab.K

/- The abstract code of some functions (written by a program of mine from the translation, by way of prepF). -/
namespace Go.Ab.C
open Go.Ab
end Go.Ab.C

/- That the program has this code. -/
namespace Go.Ab.K
open Go Go.Ab
end Go.Ab.K

/- The abstract code of some functions (written by a program of mine from the translation, by way of prepF). -/
namespace Go.Ab.C
open Go.Ab
end Go.Ab.C

/- That the program has this code. -/
namespace Go.Ab.K
open Go Go.Ab
end Go.Ab.K

/- The abstract code of some functions (written by a program of mine from the translation, by way of prepF). -/
namespace Go.Ab.C
open Go.Ab
end Go.Ab.C

/- That the program has this code. -/
namespace Go.Ab.K
open Go Go.Ab
end Go.Ab.K

/- Contracts: the laws' helpers on lists of pairs of numbers. -/
namespace Go.Ab
open Go
set_option linter.unusedSimpArgs false
set_option linter.unusedVariables false
set_option maxRecDepth 20000

/-- A list of n pairs, number by number, that is one's own. -/
def SlF (N : Mem) (v : LV) (n : Nat) (Z : List Int) : Prop := Z.length = n * 2 ∧ ((v = .nil ∧ n = 0) ∨ ∃ t, v = .ref t 0 n ∧ Live N t (.row (intL Z) true 2))
theorem SlF.pre {M N : Mem} {v : LV} {n : Nat} {Z : List Int} (h : SlF M v n Z) (hp : Pre M N) : SlF N v n Z := by
  obtain ⟨h0, h | ⟨t, h1, h2⟩⟩ := h
  · exact ⟨h0, .inl h⟩
  · exact ⟨h0, .inr ⟨t, h1, h2.pre hp⟩⟩
theorem SlF.lenV {N : Mem} {v : LV} {n : Nat} {Z : List Int} (h : SlF N v n Z) : lenV v = some (n : Int) := by
  obtain ⟨h0, ⟨rfl, rfl⟩ | ⟨t, rfl, h2⟩⟩ := h <;> rfl
theorem SlF.older {M : Mem} {v : LV} {n : Nat} {Z : List Int} (h : SlF M v n Z) : Older M v := fun t o m e => by
  obtain ⟨h0, ⟨rfl, rfl⟩ | ⟨t', rfl, h2⟩⟩ := h
  · cases e
  · cases e; exact h2.lt
theorem SlF.at {M N : Mem} {w : LV} {n : Nat} {Z : List Int} (h : SlF M w n Z) (hk : ∀ t o m, w = .ref t o m → N[t]? = M[t]?) : SlF N w n Z := by
  obtain ⟨h0, h | ⟨t, h1, h2⟩⟩ := h
  · exact ⟨h0, .inl h⟩
  · refine ⟨h0, .inr ⟨t, h1, ?_⟩⟩
    unfold Live; rw [hk _ _ _ h1]; exact h2
end Go.Ab

/- The abstract code of some functions (written by a program of mine from the translation, by way of prepF). -/
namespace Go.Ab.C
open Go.Ab
end Go.Ab.C

/- That the program has this code. -/
namespace Go.Ab.K
open Go Go.Ab
end Go.Ab.K

/- The abstract code of some functions (written by a program of mine from the translation, by way of prepF). -/
namespace Go.Ab.C
open Go.Ab
end Go.Ab.C

/- That the program has this code. -/
namespace Go.Ab.K
open Go Go.Ab
end Go.Ab.K

/- Contracts: pieces placed in a box, the program's side. -/
namespace Go.Ab
open Go
set_option linter.unusedSimpArgs false
set_option linter.unusedVariables false
set_option maxRecDepth 20000

def At4 (at' : Cell) : Prop := (0 ≤ at'.a ∧ at'.a ≤ 4) ∧ (0 ≤ at'.b ∧ at'.b ≤ 4) ∧ (0 ≤ at'.c ∧ at'.c ≤ 4)
def PlacedOK (x y z : Int) (fr : Cell → Bool) (l : List Cell) (at' : Cell) : Prop := At4 at' ∧ ∀ c ∈ l, (shift at' c).inBox x y z ∧ fr (shift at' c) = true
noncomputable instance {x y z : Int} {fr : Cell → Bool} {l : List Cell} {at' : Cell} : Decidable (PlacedOK x y z fr l at') := Classical.propDecidable _
instance {at' : Cell} : Decidable (At4 at') := by unfold At4; exact inferInstance
end Go.Ab

/- The abstract code of some functions (written by a program of mine from the translation, by way of prepF). -/
namespace Go.Ab.C
open Go.Ab
end Go.Ab.C

/- That the program has this code. -/
namespace Go.Ab.K
open Go Go.Ab
end Go.Ab.K

/- The abstract code of some functions (written by a program of mine from the translation, by way of prepF). -/
namespace Go.Ab.C
open Go.Ab
end Go.Ab.C

/- That the program has this code. -/
namespace Go.Ab.K
open Go Go.Ab
end Go.Ab.K

/- Contracts: marks that are held, on lists of cells and on heaps. -/
namespace Go.Ab
open Go
set_option linter.unusedSimpArgs false
set_option linter.unusedVariables false

end Go.Ab

/- Contracts: the laws' helpers on lists of lists of cells. -/
namespace Go.Ab
open Go
set_option linter.unusedSimpArgs false
set_option linter.unusedVariables false

/-- A list of lists of cells that may be read. -/
def CssV (N : Mem) (v : LV) (L : List (List Cell)) : Prop := (v = .nil ∧ L = []) ∨ ∃ (t : Nat) (refs : List LV), v = .ref t 0 L.length ∧ Live N t (.row refs true 1) ∧ refs.length = L.length ∧ ∀ i, i < L.length → ∃ r, refs[i]? = some r ∧ CellsV N r (L.getD i [])
/-- A list of lists of cells that is one's own, and behind M. -/
def SlCC (M N : Mem) (v : LV) (L : List (List Cell)) : Prop := (v = .nil ∧ L = []) ∨ ∃ (t : Nat) (refs : List LV), v = .ref t 0 L.length ∧ M.length ≤ t ∧ Live N t (.row refs true 1) ∧ refs.length = L.length ∧
  (∀ i, i < L.length → ∃ r, refs[i]? = some r ∧ SlC N r (L.getD i []) ∧ Newer M r) ∧ ∀ (i j : Nat) (r s : LV), i ≠ j → refs[i]? = some r → refs[j]? = some s → Apart r s
theorem CssV.lenV {N : Mem} {v : LV} {L : List (List Cell)} (h : CssV N v L) : lenV v = some (L.length : Int) := by
  rcases h with ⟨rfl, rfl⟩ | ⟨t, refs, rfl, _⟩ <;> rfl
theorem SlCC.v {M N : Mem} {v : LV} {L : List (List Cell)} (h : SlCC M N v L) : CssV N v L := by
  rcases h with h | ⟨t, refs, h1, h2, h3, h4, h5, _⟩
  · exact .inl h
  · exact .inr ⟨t, refs, h1, h3, h4, fun i hi => by obtain ⟨r, k1, k2, _⟩ := h5 i hi; exact ⟨r, k1, k2.v⟩⟩
theorem CssV.pre {M N : Mem} {v : LV} {L : List (List Cell)} (h : CssV M v L) (hp : Pre M N) : CssV N v L := by
  rcases h with h | ⟨t, refs, h1, h3, h4, h5⟩
  · exact .inl h
  · exact .inr ⟨t, refs, h1, h3.pre hp, h4, fun i hi => by obtain ⟨r, k1, k2⟩ := h5 i hi; exact ⟨r, k1, k2.pre hp⟩⟩
/-- What is not behind M may have changed. -/
theorem SlCC.keep {M N N' : Mem} {v : LV} {L : List (List Cell)} (h : SlCC M N v L) (hp : ∀ u, M.length ≤ u → u < N.length → N'[u]? = N[u]?) : SlCC M N' v L := by
  have hl : ∀ {u : Nat} {b : Blk}, Live N u b → M.length ≤ u → Live N' u b := fun {u b} hL hu => by unfold Live; rw [hp u hu hL.lt]; exact hL
  rcases h with h | ⟨t, refs, h1, h2, h3, h4, h5, h6⟩
  · exact .inl h
  · refine .inr ⟨t, refs, h1, h2, hl h3 h2, h4, fun i hi => ?_, h6⟩
    obtain ⟨r, k1, k2, k3⟩ := h5 i hi
    refine ⟨r, k1, ?_, k3⟩
    rcases k2 with k2 | ⟨t', ex, q1, q2⟩
    · exact .inl k2
    · refine .inr ⟨t', ex, q1, hl q2 (Nat.not_lt.1 fun h => ?_)⟩
      rw [q1] at k3
      exact (k3 t' h) rfl
theorem SlCC.pre {M N N' : Mem} {v : LV} {L : List (List Cell)} (h : SlCC M N v L) (hp : Pre N N') : SlCC M N' v L := h.keep fun u _ hu => hp.2 u hu
theorem SlCC.mono {M M' N : Mem} {v : LV} {L : List (List Cell)} (h : SlCC M' N v L) (hp : Pre M M') : SlCC M N v L := by
  rcases h with h | ⟨t, refs, h1, h2, h3, h4, h5, h6⟩
  · exact .inl h
  · exact .inr ⟨t, refs, h1, Nat.le_trans hp.1 h2, h3, h4, fun i hi => by obtain ⟨r, k1, k2, k3⟩ := h5 i hi; exact ⟨r, k1, k2, k3.mono hp⟩, h6⟩
theorem SlCC.nil {M N : Mem} : SlCC M N .nil [] := .inl ⟨rfl, rfl⟩
theorem Css.ge {N : Mem} {hi : Nat} : ∀ {lo : Nat} {rs : List LV} {ls : List (List Cell)}, Css N lo hi rs ls → ∀ s ∈ rs, ∃ u n, s = .ref u 0 n ∧ lo ≤ u
  | _, [], _, _, s, hs => by cases hs
  | _, _ :: _, [], h, _, _ => h.elim
  | lo, r :: rs, l :: ls, ⟨u, h1, h2, h3, h4, h5⟩, s, hs => by
    rcases List.mem_cons.1 hs with rfl | hs
    · exact ⟨u, _, h3, h1⟩
    · obtain ⟨w, n, k1, k2⟩ := h5.ge s hs
      exact ⟨w, n, k1, by omega⟩
theorem Css.pair {N : Mem} {hi : Nat} : ∀ {lo : Nat} {rs : List LV} {ls : List (List Cell)}, Css N lo hi rs ls → rs.Pairwise Apart
  | _, [], _, _ => List.Pairwise.nil
  | _, _ :: _, [], h => h.elim
  | lo, r :: rs, l :: ls, ⟨u, h1, h2, h3, h4, h5⟩ => List.pairwise_cons.2 ⟨fun s hs t o n e => by
      obtain ⟨w, m, k1, k2⟩ := h5.ge s hs
      rw [k1] at e; cases e
      rw [h3]; show t ≠ u; omega, h5.pair⟩
theorem SlCC.of {M N : Mem} {u lo hi : Nat} {refs : List LV} {L : List (List Cell)} (hu : M.length ≤ u) (hlo : M.length ≤ lo) (h : Live N u (.row refs true 1)) (hc : Css N lo hi refs L) : SlCC M N (.ref u 0 refs.length) L := by
  have hpw := hc.pair
  rw [List.pairwise_iff_getElem] at hpw
  refine .inr ⟨u, refs, by rw [hc.len], hu, h, hc.len, fun i hi => ?_, fun i j r s hij hr hs => ?_⟩
  · obtain ⟨w, k1, k2, k3, k4⟩ := hc.get hi
    exact ⟨_, k3, SlC.of k4, Newer.of (by omega)⟩
  · obtain ⟨h1, rfl⟩ := List.getElem?_eq_some_iff.1 hr
    obtain ⟨h2, rfl⟩ := List.getElem?_eq_some_iff.1 hs
    rcases Nat.lt_or_ge i j with h3 | h3
    · exact hpw i j h1 h2 h3
    · exact (hpw j i h2 h1 (by omega)).symm

def tot : List (List Cell) → Nat
  | [] => 0
  | l :: ls => l.length + tot ls
/-- Of which the first i lists are marked. -/
def marksT (k : Int) (L : List (List Cell)) (i : Nat) : List (List Cell) := (List.range L.length).map fun j => if j < i then marks3 (k + 3 * (tot (L.take j) : Nat)) (L.getD j []).length else L.getD j []
/-- A list of lists of cells, or none, and whether there is one. -/
def CssRes (M : Mem) (r : Option (List (List Cell))) (v : LV) (N : Mem) : Prop := ∃ w, v = .tup [w, .B r.isSome] ∧ SlCC M N w (r.getD []) ∧ Pre M N
end Go.Ab

/- Plain: packings, as both sides see them. -/
namespace Go.Ab
open Go
set_option linter.unusedSimpArgs false
set_option linter.unusedVariables false

def atL (y z : Int) (xs : List Int) (c : Cell) : Int := xs.getD (idx y z c).toNat 0
/-- The cells with a number. -/
def fib (x y z : Int) (xs : List Int) (k : Nat) : List Cell := pick x y z fun c => decide (atL y z xs c = k)
/-- The free cells without those of the first pieces. -/
def leftP (y z : Int) (cs : List Cell) (xs : List Int) (i : Nat) (c : Cell) : Bool := freeP cs c && !decide (0 ≤ atL y z xs c ∧ atL y z xs c < i)
def negC (c : Cell) : Cell := ⟨-c.a, -c.b, -c.c⟩
/-- Where the program tries a piece. -/
def tryAt (x y z : Int) (L : List (List Cell)) (xs : List Int) (i : Nat) : Cell := shift (negC ((L.getD i []).getD 0 default)) ((fib x y z xs i).getD 0 default)
def StepOK (x y z : Int) (cs : List Cell) (L : List (List Cell)) (xs : List Int) (i : Nat) : Prop :=
  fib x y z xs i ≠ [] ∧ PlacedOK x y z (leftP y z cs xs i) (L.getD i []) (tryAt x y z L xs i) ∧ ∀ d, d.inBox x y z → (d ∈ (L.getD i []).map (shift (tryAt x y z L xs i)) ↔ d ∈ fib x y z xs i)
def ImplPk (x y z : Int) (cs : List Cell) (L : List (List Cell)) (xs : List Int) : Prop :=
  xs.length = vol x y z ∧ (∀ v ∈ xs, -1 ≤ v ∧ v ≤ (L.length : Int) - 1) ∧ (∀ i, i < L.length → StepOK x y z cs L xs i) ∧ ∀ c, c.inBox x y z → leftP y z cs xs L.length c = false
def DiffOK (x y z : Int) (L : List (List Cell)) (xs : List Int) (k : Nat) : Prop :=
  (fib x y z xs k).length = (L.getD k []).length ∧ ∀ i, 1 ≤ i → i < (fib x y z xs k).length → ∀ d : Nat, d < 3 → Cell.at ((fib x y z xs k).getD i default) (d : Int) - Cell.at ((fib x y z xs k).getD 0 default) (d : Int) = Cell.at ((L.getD k []).getD i default) (d : Int) - Cell.at ((L.getD k []).getD 0 default) (d : Int)
def SpecPk (x y z : Int) (cs : List Cell) (L : List (List Cell)) (xs : List Int) : Prop :=
  xs.length = vol x y z ∧ tot L + cs.length = vol x y z ∧ (∀ i, i < vol x y z → (-1 ≤ xs.getD i 0 ∧ xs.getD i 0 ≤ (L.length : Int) - 1) ∧ (xs.getD i 0 < 0 ↔ cellAt y z i ∈ cs)) ∧ ∀ k, k < L.length → DiffOK x y z L xs k

section
variable {x y z : Int} {cs : List Cell} {L : List (List Cell)} {xs : List Int} (hA : AskOK x y z cs L)
include hA
end
end Go.Ab

/- Contracts: packings, the reference's side. -/
namespace Go.Ab
open Go
set_option linter.unusedSimpArgs false
set_option linter.unusedVariables false
set_option maxRecDepth 20000

noncomputable instance {x y z : Int} {cs : List Cell} {L : List (List Cell)} {xs : List Int} : Decidable (SpecPk x y z cs L xs) := Classical.propDecidable _
noncomputable def pkP (x y z : Int) (cs : List Cell) (L : List (List Cell)) (xs : List Int) : Bool × Bool := if AskOK x y z cs L then (decide (SpecPk x y z cs L xs), true) else (false, false)
end Go.Ab

/- Contracts: FaultPlanes, the reference's side. -/
namespace Go.Ab
open Go
set_option linter.unusedSimpArgs false
set_option linter.unusedVariables false
set_option maxRecDepth 20000

/-- Cell i lies before plane k, cell j not, and both are of one piece. -/
def CrossAt (y z : Int) (xs : List Int) (d k i j : Nat) : Prop := 0 ≤ xs.getD i 0 ∧ xs.getD j 0 = xs.getD i 0 ∧ (cellAt y z i).at (d : Int) < k ∧ (k : Int) ≤ (cellAt y z j).at (d : Int)
def Crossed (x y z : Int) (xs : List Int) (d k : Nat) : Prop := ∃ i, i < vol x y z ∧ ∃ j, j < vol x y z ∧ CrossAt y z xs d k i j
noncomputable instance {x y z : Int} {xs : List Int} {d k : Nat} : Decidable (Crossed x y z xs d k) := Classical.propDecidable _
noncomputable def plK (x y z : Int) (xs : List Int) (d : Nat) : Nat → List Int
  | 0 => []
  | k + 1 => plK x y z xs d k ++ (if 1 ≤ k ∧ ¬ Crossed x y z xs d k then [(d : Int), (k : Int)] else [])
noncomputable def plD (x y z : Int) (xs : List Int) : Nat → List Int
  | 0 => []
  | d + 1 => plD x y z xs d ++ plK x y z xs d (sideOf x y z (d : Int)).toNat
noncomputable def planesN (x y z : Int) (cs : List Cell) (L : List (List Cell)) (xs : List Int) : Option (List Int) := if AskOK x y z cs L ∧ SpecPk x y z cs L xs then some (plD x y z xs 3) else none
/-- A list of pairs of numbers, or none, and whether there is one. -/
def PairsRes (M : Mem) (r : Option (List Int)) (v : LV) (N : Mem) : Prop := ∃ w n, v = .tup [w, .B r.isSome] ∧ SlF N w n (r.getD []) ∧ n ≤ 100 ∧ Newer M w ∧ Pre M N

end Go.Ab

/- The abstract code of some functions (written by a program of mine from the translation, by way of prepF). -/
namespace Go.Ab.C
open Go.Ab
end Go.Ab.C

/- That the program has this code. -/
namespace Go.Ab.K
open Go Go.Ab
end Go.Ab.K

/- Contracts: packings, the program's side. -/
namespace Go.Ab
open Go
set_option linter.unusedSimpArgs false
set_option linter.unusedVariables false
set_option maxRecDepth 20000

end Go.Ab

/- Contracts: FaultPlanes, the program's side. -/
namespace Go.Ab
open Go
set_option linter.unusedSimpArgs false
set_option linter.unusedVariables false
set_option maxRecDepth 20000

end Go.Ab

/- Contracts: pieces put into a list of numbers, the reference's side. -/
namespace Go.Ab
open Go
set_option linter.unusedSimpArgs false
set_option linter.unusedVariables false
set_option maxRecDepth 20000

def At3 (p : Cell) : Prop := (0 ≤ p.a ∧ p.a ≤ 3) ∧ (0 ≤ p.b ∧ p.b ≤ 3) ∧ (0 ≤ p.c ∧ p.c ≤ 3)
def FitsP (x y z : Int) (cs l : List Cell) (p : Cell) : Prop := At3 p ∧ ∀ c ∈ l, (shift p c).inBox x y z ∧ shift p c ∉ cs
def startL (x y z : Int) (cs : List Cell) : List Int := (cellsOf x y z).map fun c => if c ∈ cs then -1 else -2
def setsL (y z : Int) (n : Int) (xs : List Int) (ds : List Cell) : List Int := ds.foldl (fun v d => v.set (idx y z d).toNat n) xs
def PutOK (x y z : Int) (cs l : List Cell) (p : Cell) (xs : List Int) : Prop := FitsP x y z cs l p ∧ ∀ c ∈ l, atL y z xs (shift p c) = -2
noncomputable instance {x y z : Int} {cs l : List Cell} {p : Cell} : Decidable (FitsP x y z cs l p) := Classical.propDecidable _
noncomputable instance {x y z : Int} {cs l : List Cell} {p : Cell} {xs : List Int} : Decidable (PutOK x y z cs l p xs) := Classical.propDecidable _
noncomputable def putR (x y z : Int) (cs l : List Cell) (p : Cell) (xs : List Int) (n : Int) : List Int := if PutOK x y z cs l p xs then setsL y z n xs (l.map (shift p)) else []

section
variable {l : List Cell} {t o : Nat} {M : Mem} {p : Cell} (h : Tri M t o l) (hn : l.length ≤ 64) (hin : ∀ c ∈ l, c.inBox 4 4 4) (hp : At3 p)
include h hn hin hp
end
section
variable {x y z : Int} {t o u q : Nat} {cs l : List Cell} {p : Cell} {M : Mem} (h : Tri M t o cs) (hH : HeapOK x y z cs) (hl : Tri M u q l) (hn : l.length ≤ 64) (hin : ∀ c ∈ l, c.inBox 4 4 4)
include h hH hl hn hin
end
end Go.Ab

/- Contracts: pieces that fit, places, boxes, parities: the reference's side. -/
namespace Go.Ab
open Go
set_option linter.unusedSimpArgs false
set_option linter.unusedVariables false
set_option maxRecDepth 20000

theorem PieceOK.le {l : List Cell} (h : PieceOK l) : l.length ≤ 5 := h.1.2
def FitQ (x y z : Int) (cs l : List Cell) : Prop := HeapOK x y z cs ∧ PieceOK l
noncomputable def fitOf (x y z : Int) (cs l : List Cell) (p : Cell) : Option Bool := by
  classical
  exact if FitQ x y z cs l then some (decide (FitsP x y z cs l p)) else none
noncomputable def placesOf (x y z : Int) (cs l : List Cell) : Option (List Cell) := by
  classical
  exact if FitQ x y z cs l then some (pick x y z fun c => decide (FitsP x y z cs l c)) else none
noncomputable def boxOf (x y z : Int) : Option (List Cell) := by
  classical
  exact if Sides x y z ∧ vol x y z ≤ 5 then some (cellsOf x y z) else none
noncomputable def ppOf (l : List Cell) : Option Int := by
  classical
  exact if PieceOK l then some (max (parL l) (0 - parL l)) else none
noncomputable def fpOf (x y z : Int) (cs : List Cell) : Option Int := by
  classical
  exact if HeapOK x y z cs then some (parL (pick x y z (freeP cs))) else none
section
variable {x y z : Int} {t o u q : Nat} {cs l : List Cell} {M : Mem} (h : Tri M t o cs) (hn : cs.length ≤ 1000000000) (hl : Tri M u q l) (hln : l.length ≤ 1000000000)
include hl hln
include h hn
end
end Go.Ab

/- Contracts: pieces that fit, places, boxes, parities, other cells: the program's side. -/
namespace Go.Ab
open Go
set_option linter.unusedSimpArgs false
set_option linter.unusedVariables false
set_option maxRecDepth 20000

noncomputable instance {x y z : Int} {cs l : List Cell} : Decidable (FitQ x y z cs l) := Classical.propDecidable _
section
variable {x y z : Int} {t o u q : Nat} {cs l : List Cell} {M : Mem} (h : Tri M t o cs) (hn : cs.length ≤ 1000000000) (hl : Tri M u q l) (hln : l.length ≤ 1000000000)
include hl hln
include h hn
end
end Go.Ab

/- Plain: boxes as pieces; parities of all cells; places. -/
namespace Go.Ab
open Go
set_option linter.unusedSimpArgs false
set_option linter.unusedVariables false
set_option maxRecDepth 20000

end Go.Ab

/- Heaps that a law keeps: mirrored, swapped, joined, common, shifted, cropped and widened ones, plainly. -/
namespace Go.Ab
open Go
set_option linter.unusedSimpArgs false
set_option linter.unusedVariables false
set_option maxRecDepth 20000

/-- A heap, or the empty one and false; its cells lie in a block of their own. -/
def HeapX (M : Mem) (r : Option Hp) (v : LV) (N : Mem) : Prop := ∃ u : Nat, v = .tup [.agg [.I (r.getD Hp.none).x, .I (r.getD Hp.none).y, .I (r.getD Hp.none).z, .ref u 0 (r.getD Hp.none).cs.length], .B r.isSome] ∧ Live N u (.row (triL (r.getD Hp.none).cs) true 3) ∧ Pre M N
theorem heapX_some {M N : Mem} {g : Hp} {v : LV} (h : HeapT M g v N) (hp : Pre M N) : HeapX M (some g) v N := by
  obtain ⟨u, rfl, hu, _⟩ := h
  exact ⟨u, rfl, hu, hp⟩
theorem heapX_of {f : FuncId} {args : List LV} {M : Mem} {r : Option Hp} (h : CallsR PG f args M fun v N => (∃ g, r = some g ∧ HeapT M g v N ∧ Pre M N) ∨ (r = none ∧ v = .tup [.agg [.I 0, .I 0, .I 0, .nil], .B false] ∧ Pre M N)) : CallsR PG f args M (HeapX M r) := by
  refine h.den (e := 3) ?_
  rintro v N (⟨g, rfl, hg, hp⟩ | ⟨rfl, rfl, hp⟩)
  · exact .inl (heapX_some hg hp)
  · exact .inr ⟨.tup [.agg [.I 0, .I 0, .I 0, .ref N.length 0 0], .B false], .inr ⟨_, _, rfl, rfl, .inr ⟨_, _, rfl, rfl, .rfl, .rfl, .rfl, .nil, trivial⟩, .rfl, trivial⟩, N.length, rfl, Live.new, hp.trans (Pre.app _ _)⟩
theorem heapX_no {M : Mem} {r : Option Hp} {v : LV} {N : Mem} (hr : r = none) (hv : v = .tup [.agg [.I 0, .I 0, .I 0, .nil], .B false]) (hp : Pre M N) : (∃ g, r = some g ∧ HeapT M g v N ∧ Pre M N) ∨ (r = none ∧ v = .tup [.agg [.I 0, .I 0, .I 0, .nil], .B false] ∧ Pre M N) := .inr ⟨hr, hv, hp⟩
section
variable (x y z : Int) (cs : List Cell)
noncomputable def mirOf (d : Int) : Option Hp := by
  classical
  exact if HeapOK x y z cs ∧ Dir d then some ⟨x, y, z, mirD x y z d cs⟩ else none
noncomputable def othOf : Option Hp := by
  classical
  exact if HeapOK x y z cs then some ⟨x, y, z, pick x y z (freeP cs)⟩ else none
end
/-- Two coordinates exchanged. -/
def swI (a b i : Int) : Int := if i = a then b else if i = b then a else i
def swC (a b : Int) (c : Cell) : Cell := ⟨c.at (swI a b 0), c.at (swI a b 1), c.at (swI a b 2)⟩
def swX (a b : Int) (x y z : Int) (cs : List Cell) : Hp := ⟨(swC a b ⟨x, y, z⟩).a, (swC a b ⟨x, y, z⟩).b, (swC a b ⟨x, y, z⟩).c, pick (swC a b ⟨x, y, z⟩).a (swC a b ⟨x, y, z⟩).b (swC a b ⟨x, y, z⟩).c fun d => decide (d ∈ cs.map (swC a b))⟩
section
variable {x y z : Int} {cs : List Cell}
end
section
variable (x y z : Int) (cs : List Cell)
noncomputable def swpOf (a b : Int) : Option Hp := by
  classical
  exact if HeapOK x y z cs ∧ Dir a ∧ Dir b then some (swX a b x y z cs) else none
/-- Both are heaps, in the same box. -/
def Alike (x' y' z' : Int) (ds : List Cell) : Prop := HeapOK x y z cs ∧ HeapOK x' y' z' ds ∧ x = x' ∧ y = y' ∧ z = z'
noncomputable instance {x y z : Int} {cs : List Cell} {x' y' z' : Int} {ds : List Cell} : Decidable (Alike x y z cs x' y' z' ds) := Classical.propDecidable _
noncomputable def jnOf (x' y' z' : Int) (ds : List Cell) : Option Hp := if Alike x y z cs x' y' z' ds then some ⟨x, y, z, pick x y z fun c => decide (c ∈ cs) || decide (c ∈ ds)⟩ else none
noncomputable def cmOf (x' y' z' : Int) (ds : List Cell) : Option Hp := if Alike x y z cs x' y' z' ds then some ⟨x, y, z, pick x y z fun c => decide (c ∈ cs) && decide (c ∈ ds)⟩ else none
/-- A shift that is not too far. -/
def Near4 (p : Cell) : Prop := (-4 ≤ p.a ∧ p.a ≤ 4) ∧ (-4 ≤ p.b ∧ p.b ≤ 4) ∧ (-4 ≤ p.c ∧ p.c ≤ 4)
noncomputable def shOf (p : Cell) : Option Hp := by
  classical
  exact if HeapOK x y z cs ∧ Near4 p ∧ HeapOK x y z (cs.map (shift p)) then some ⟨x, y, z, cs.map (shift p)⟩ else none
noncomputable def crOf : Option Hp := by
  classical
  exact if HeapOK x y z cs ∧ 0 < cs.length then some (cropHp cs) else none
noncomputable def wdOf (X Y Z : Int) : Option Hp := by
  classical
  exact if HeapOK x y z cs ∧ HeapOK X Y Z cs then some ⟨X, Y, Z, cs⟩ else none
end
end Go.Ab

/- The abstract code of some functions (written by a program of mine from the translation, by way of prepF). -/
namespace Go.Ab.C
open Go.Ab
end Go.Ab.C

/- That the program has this code. -/
namespace Go.Ab.K
open Go Go.Ab
end Go.Ab.K

/- Contracts: the reference's mirrored, other, cropped, widened and shifted heaps. -/
namespace Go.Ab
open Go
set_option linter.unusedSimpArgs false
set_option linter.unusedVariables false
set_option maxRecDepth 20000

section
variable {x y z : Int} {t : Nat} {w : Bool} {cs : List Cell} {M : Mem} (h : Live M t (.row (triL cs) w 3)) (hn : cs.length ≤ 1000000000)
include h hn
end
end Go.Ab

/- Contracts: shadows that fit together, greatest heaps, bounds, clean shadows, taken cubes. -/
namespace Go.Ab
open Go
set_option linter.unusedSimpArgs false
set_option linter.unusedVariables false
set_option maxRecDepth 20000

structure Shd where
  x : Int
  y : Int
  z : Int
  tp : List Int
  fr : List Int
  sd : List Int
def Shd.none : Shd := ⟨0, 0, 0, [], [], []⟩
/-- A shadow, or the one of all zeros and false; its lists may be read. -/
def ShdX (M : Mem) (r : Option Shd) (v : LV) (N : Mem) : Prop := ∃ a b c : Nat, v = .tup [.agg [.I (r.getD Shd.none).x, .I (r.getD Shd.none).y, .I (r.getD Shd.none).z, .ref a 0 (r.getD Shd.none).tp.length, .ref b 0 (r.getD Shd.none).fr.length, .ref c 0 (r.getD Shd.none).sd.length], .B r.isSome] ∧
  Ints N a 0 (r.getD Shd.none).tp ∧ Ints N b 0 (r.getD Shd.none).fr ∧ Ints N c 0 (r.getD Shd.none).sd ∧ Pre M N
section
variable (x y z : Int) (tp fr sd : List Int)
noncomputable def grtOf : Option Hp := by
  classical
  exact if Fits x y z tp fr sd then some ⟨x, y, z, pick x y z (allowedB y z tp fr sd)⟩ else none
noncomputable def clnOf : Option Shd := by
  classical
  exact if ShdOK x y z tp fr sd then some ⟨x, y, z, shdOf x y z 2 (pick x y z (allowedB y z tp fr sd)), shdOf x y z 1 (pick x y z (allowedB y z tp fr sd)), shdOf x y z 0 (pick x y z (allowedB y z tp fr sd))⟩ else none
noncomputable def lbdOf : Option Int := by
  classical
  exact if ShdOK x y z tp fr sd then some (max (litSum tp) (max (litSum fr) (litSum sd))) else none
end
section
variable {x y z : Int} {t o t' o' t2 o2 : Nat} {tp fr sd : List Int} {M : Mem} (h1 : Ints M t o tp) (h2 : Ints M t' o' fr) (h3 : Ints M t2 o2 sd) (l1 : tp.length ≤ 1000000000) (l2 : fr.length ≤ 1000000000) (l3 : sd.length ≤ 1000000000)
include h1 h2 h3 l1 l2 l3
end
theorem g_ShadowsOf {x y z : Int} {t : Nat} {cs : List Cell} {M : Mem} (h : Tri M t 0 cs) (hH : HeapOK x y z cs) : CallsR PG F.impl_ShadowsOf [.agg [.I x, .I y, .I z, .ref t 0 cs.length]] M fun v N => ∃ a b c : Nat, v = .tup [.agg [.I x, .I y, .I z, .ref a 0 (shdOf x y z 2 cs).length, .ref b 0 (shdOf x y z 1 cs).length, .ref c 0 (shdOf x y z 0 cs).length], .B true] ∧ Ints N a 0 (shdOf x y z 2 cs) ∧ Ints N b 0 (shdOf x y z 1 cs) ∧ Ints N c 0 (shdOf x y z 0 cs) ∧ Pre M N := by
  have hlen := hH.len
  have hpk : pick x y z (fun c => decide (c ∈ cs)) = cs := hH.pick.symm
  refine callsR_run K.impl_ShadowsOf rfl ?_
  simp (disch := omega) only [C.impl_ShadowsOf, ↓SXd, SXu, slBounds, ↓sop, ↓aop, ↓reduceIte, LV.cells, AOp.dst, LV.I, LV.B, LV.U, LV.S, LV.nil, Nat.reduceEqDiff, Nat.reduceAdd, Nat.reduceMul, Nat.reduceSub, Nat.reduceLeDiff, Nat.reduceBEq, Nat.reduceDiv, Nat.reduceMod, Int.reduceToNat, Int.reduceLT, Int.reduceLE, Int.reduceAdd, Int.reduceSub, Int.reduceMul, Int.reduceEq, Int.reduceNeg, reduceCtorEq, resV, resAll, ARes.ev, LV.flat, ite_true, ite_false, exists_eq_left', exists_eq_left, keyOf, implies_true, fillC, capOf]
  refine callK_of (g_IsHeap h.app (by omega)) ?_
  simp (disch := omega) only [hH, ↓SXd, SXu, slBounds, ↓sop, ↓aop, ↓reduceIte, LV.cells, AOp.dst, LV.I, LV.B, LV.U, LV.S, LV.nil, Nat.reduceEqDiff, Nat.reduceAdd, Nat.reduceMul, Nat.reduceSub, Nat.reduceLeDiff, Nat.reduceBEq, Nat.reduceDiv, Nat.reduceMod, Int.reduceToNat, Int.reduceLT, Int.reduceLE, Int.reduceAdd, Int.reduceSub, Int.reduceMul, Int.reduceEq, Int.reduceNeg, reduceCtorEq, resV, resAll, ARes.ev, LV.flat, ite_true, ite_false, exists_eq_left', exists_eq_left, keyOf, implies_true, fillC, capOf]
  refine callK_of (g_box) ?_
  simp (disch := omega) only [↓SXd, SXu, slBounds, ↓sop, ↓aop, ↓reduceIte, LV.cells, AOp.dst, LV.I, LV.B, LV.U, LV.S, LV.nil, Nat.reduceEqDiff, Nat.reduceAdd, Nat.reduceMul, Nat.reduceSub, Nat.reduceLeDiff, Nat.reduceBEq, Nat.reduceDiv, Nat.reduceMod, Int.reduceToNat, Int.reduceLT, Int.reduceLE, Int.reduceAdd, Int.reduceSub, Int.reduceMul, Int.reduceEq, Int.reduceNeg, reduceCtorEq, resV, resAll, ARes.ev, LV.flat, ite_true, ite_false, exists_eq_left', exists_eq_left, keyOf, implies_true, fillC, capOf]
  refine callK_of (g_cubes h.app (by omega) hH.1 (fun c hc => hH.mem hc)) ?_
  simp (disch := omega) only [↓SXd, SXu, slBounds, ↓sop, ↓aop, ↓reduceIte, LV.cells, AOp.dst, LV.I, LV.B, LV.U, LV.S, LV.nil, Nat.reduceEqDiff, Nat.reduceAdd, Nat.reduceMul, Nat.reduceSub, Nat.reduceLeDiff, Nat.reduceBEq, Nat.reduceDiv, Nat.reduceMod, Int.reduceToNat, Int.reduceLT, Int.reduceLE, Int.reduceAdd, Int.reduceSub, Int.reduceMul, Int.reduceEq, Int.reduceNeg, reduceCtorEq, resV, resAll, ARes.ev, LV.flat, ite_true, ite_false, exists_eq_left', exists_eq_left, keyOf, implies_true, fillC, capOf]
  have hgs := g_shadow (x := x) (y := y) (z := z) (p := fun c => decide (c ∈ cs)) (M := M ++ [some (.row [.I x, .I y, .I z, .ref t 0 cs.length] true 0), some (.row [.I 0, .I 0, .I 0, .nil, .nil, .nil] true 0)]) hH.1
  rw [hpk] at hgs
  refine callR_of hgs ?_
  rintro _ N2 ⟨a, b, c, rfl, ha, hb', hc, _, _, _, la, lb, lc, hp2⟩
  have b2 : Live N2 (M.length + 1) (.row [.I 0, .I 0, .I 0, .nil, .nil, .nil] true 0) := (Live.newj (j := 1) rfl).pre hp2
  have hP : Pre M N2 := (Pre.app _ _).trans hp2
  simp only [List.length_append, List.length_cons, List.length_nil] at ha hb' hc
  simp (disch := omega) only [↓SXd, SXu, slBounds, ↓sop, ↓aop, ↓reduceIte, LV.cells, AOp.dst, LV.I, LV.B, LV.U, LV.S, LV.nil, Nat.reduceEqDiff, Nat.reduceAdd, Nat.reduceMul, Nat.reduceSub, Nat.reduceLeDiff, Nat.reduceBEq, Nat.reduceDiv, Nat.reduceMod, Int.reduceToNat, Int.reduceLT, Int.reduceLE, Int.reduceAdd, Int.reduceSub, Int.reduceMul, Int.reduceEq, Int.reduceNeg, reduceCtorEq, resV, resAll, ARes.ev, LV.flat, ite_true, ite_false, exists_eq_left', exists_eq_left, keyOf, implies_true, fillC, capOf]
  refine memK_box b2 (by simp) fun N3 k1 k2 k3 => ?_
  simp (disch := omega) only [k2.cells, ↓SXd, SXu, slBounds, ↓sop, ↓aop, ↓reduceIte, LV.cells, AOp.dst, LV.I, LV.B, LV.U, LV.S, LV.nil, Nat.reduceEqDiff, Nat.reduceAdd, Nat.reduceMul, Nat.reduceSub, Nat.reduceLeDiff, Nat.reduceBEq, Nat.reduceDiv, Nat.reduceMod, Int.reduceToNat, Int.reduceLT, Int.reduceLE, Int.reduceAdd, Int.reduceSub, Int.reduceMul, Int.reduceEq, Int.reduceNeg, reduceCtorEq, resV, resAll, ARes.ev, LV.flat, ite_true, ite_false, exists_eq_left', exists_eq_left, keyOf, implies_true, fillC, capOf]
  exact ⟨a, b, c, rfl, (live_step la (by omega) k3).has, (live_step lb (by omega) k3).has, (live_step lc (by omega) k3).has, pre_step hP (by omega) (j := 0) k1 k3⟩
end Go.Ab

/- The abstract code of some functions (written by a program of mine from the translation, by way of prepF). -/
namespace Go.Ab.C
open Go.Ab
def spec_l6Stretches : AFn :=
 ⟨2, 69, [.tmp 4],
 .seq (.ops [(none, .box 2 (.t 0)),
 (none, .mv 4 (.c .nil))])
 (.seq (.ops [(none, .loadN 11 4 (.t 2)),
 (none, .mv 12 (.t 1)),
 (none, .call (some 13) F.spec_l2View [(.t 11), (.t 12)]),
 (none, .len 14 (.t 13)),
 (none, .mksl 15 1 8 [(.I 0)] (.t 14) (.t 14)),
 (none, .build 16 [(.I 0), (.I 0), (.I 0)] []),
 (none, .alloc 6 [(.I 0), (.I 0), (.I 0)]),
 (none, .mv 5 (.t 15)),
 (none, .store 3 (.t 6) (.t 16))])
 (.seq (.ops [(none, .mv 18 (.t 1)),
 (none, .call (some 19) F.spec_l2Others [(.t 18)]),
 (none, .mv 17 (.t 19)),
 (none, .extract 20 (.t 17) 0),
 (none, .extract 21 (.t 17) 1),
 (none, .mv 7 (.t 20)),
 (none, .mv 8 (.t 21))])
 (.seq (.ops [(none, .mv 22 (.t 1)),
 (none, .idxA 23 3 1 (.t 6) (.t 22)),
 (none, .store 1 (.t 23) (.c (.I 1)))])
 (.seq (.seq (.ops [(none, .mv 9 (.c (.I 0)))])
 (.block 0 (.loop (.seq (.seq (.ops [(none, .mv 24 (.t 9)),
 (none, .fieldAddr 25 (.t 2) 3),
 (none, .load1 26 (.t 25)),
 (none, .len 27 (.t 26)),
 (none, .bin 28 .lss (.t 24) (.t 27))])
 (.cond (.t 28) (.skip)
 (.exit 0)))
 (.seq (.block 1 (.seq (.draw [⟨(none, .fieldAddr 31 (.t 2) 3), [], []⟩,
 ⟨(none, .load1 32 (.t 31)), [], []⟩,
 ⟨(none, .mv 33 (.t 9)), [], []⟩,
 ⟨(none, .mv 34 (.t 7)), [], []⟩,
 ⟨(none, .idxS 35 3 (.t 32) (.t 33)), [], []⟩,
 ⟨(none, .idxA 36 3 1 (.t 35) (.t 34)), [], []⟩,
 ⟨(none, .load1 37 (.t 36)), [], []⟩,
 ⟨(none, .loadN 38 4 (.t 2)), [], []⟩,
 ⟨(none, .mv 39 (.t 8)), [], []⟩,
 ⟨(none, .fieldAddr 42 (.t 2) 3), [], []⟩,
 ⟨(none, .load1 43 (.t 42)), [], []⟩,
 ⟨(none, .mv 44 (.t 9)), [], []⟩,
 ⟨(none, .mv 45 (.t 8)), [], []⟩,
 ⟨(none, .idxS 46 3 (.t 43) (.t 44)), [], []⟩,
 ⟨(none, .idxA 47 3 1 (.t 46) (.t 45)), [], []⟩,
 ⟨(none, .load1 48 (.t 47)), [], []⟩,
 ⟨(none, .call (some 40) F.spec_l2Long [(.t 38), (.t 39)]), [], [0, 1, 2, 3, 4, 5, 6, 9, 10, 11, 12, 13, 14, 15]⟩,
 ⟨(none, .bin 41 .mul (.t 37) (.t 40)), [], []⟩,
 ⟨(none, .bin 49 .add (.t 41) (.t 48)), [], []⟩,
 ⟨(none, .mv 10 (.t 49)), [], []⟩])
 (.seq (.draw [⟨(none, .loadN 50 4 (.t 2)), [], []⟩,
 ⟨(none, .fieldAddr 51 (.t 2) 3), [], []⟩,
 ⟨(none, .load1 52 (.t 51)), [], []⟩,
 ⟨(none, .mv 53 (.t 9)), [], []⟩,
 ⟨(none, .idxS 54 3 (.t 52) (.t 53)), [], []⟩,
 ⟨(none, .loadN 55 3 (.t 54)), [], []⟩,
 ⟨(none, .loadN 56 3 (.t 6)), [], []⟩,
 ⟨(none, .call (some 57) F.spec_l6Beside [(.t 55), (.t 56)]), [], [0]⟩,
 ⟨(none, .call (some 58) F.spec_l2Has [(.t 50), (.t 57)]), [], []⟩,
 ⟨(none, .un 59 .not (.t 58)), [], []⟩])
 (.cond (.t 59) (.ops [(none, .mv 60 (.t 5)),
 (none, .mv 61 (.t 10)),
 (none, .mv 62 (.t 5)),
 (none, .mv 63 (.t 10)),
 (none, .idxS 64 1 (.t 62) (.t 63)),
 (none, .load1 65 (.t 64)),
 (none, .bin 66 .add (.t 65) (.c (.I 2))),
 (none, .idxS 67 1 (.t 60) (.t 61)),
 (none, .store 1 (.t 67) (.t 66))])
 (.skip)))))
 (.ops [(none, .mv 29 (.t 9)),
 (none, .bin 30 .add (.t 29) (.c (.I 1))),
 (none, .mv 9 (.t 30))]))))))
 (.seq (.ops [(none, .mv 68 (.t 5)),
 (none, .mv 4 (.t 68))])
 (.ret))))))⟩
def spec_BareSquares : AFn :=
 ⟨2, 18, [.tmp 4, .tmp 5],
 .seq (.ops [(none, .box 2 (.t 0)),
 (none, .mv 4 (.c .nil)),
 (none, .mv 5 (.c (.B false)))])
 (.seq (.seq (.ops [(none, .loadN 6 4 (.t 2)),
 (none, .call (some 7) F.spec_l2Heap [(.t 6)]),
 (none, .un 8 .not (.t 7)),
 (none, .mv 9 (.t 8)),
 (some (9, false), .mv 10 (.t 1)),
 (some (9, false), .call (some 11) F.spec_l1In [(.t 10), (.c (.I 0)), (.c (.I 2))]),
 (some (9, false), .un 12 .not (.t 11)),
 (none, .pick 13 (.t 9) (.c (.B true)) (.t 12))])
 (.cond (.t 13) (.seq (.ops [(none, .buildSl 14 0 1 [] []),
 (none, .mv 4 (.t 14)),
 (none, .mv 5 (.c (.B false)))])
 (.ret))
 (.skip)))
 (.seq (.ops [(none, .loadN 15 4 (.t 2)),
 (none, .mv 16 (.t 1)),
 (none, .call (some 17) F.spec_l6Stretches [(.t 15), (.t 16)]),
 (none, .mv 4 (.t 17)),
 (none, .mv 5 (.c (.B true)))])
 (.ret)))⟩
def impl_BareSquares : AFn :=
 ⟨2, 56, [.tmp 4, .tmp 5],
 .seq (.ops [(none, .box 2 (.t 0)),
 (none, .mv 4 (.c .nil)),
 (none, .mv 5 (.c (.B false)))])
 (.seq (.seq (.ops [(none, .loadN 10 4 (.t 2)),
 (none, .call (some 11) F.impl_IsHeap [(.t 10)]),
 (none, .un 12 .not (.t 11)),
 (none, .mv 13 (.t 12)),
 (some (13, false), .mv 14 (.t 1)),
 (some (13, false), .call (some 15) F.impl_isDirection [(.t 14)]),
 (some (13, false), .un 16 .not (.t 15)),
 (none, .pick 17 (.t 13) (.c (.B true)) (.t 16))])
 (.cond (.t 17) (.seq (.ops [(none, .mv 4 (.c .nil)),
 (none, .mv 5 (.c (.B false)))])
 (.ret))
 (.skip)))
 (.seq (.ops [(none, .loadN 18 4 (.t 2)),
 (none, .call (some 19) F.impl_Heap_box [(.t 18)]),
 (none, .mv 20 (.t 1)),
 (none, .call (some 21) F.impl_box_lines [(.t 19), (.t 20)]),
 (none, .mksl 22 1 8 [(.I 0)] (.t 21) (.t 21)),
 (none, .mv 6 (.t 22))])
 (.seq (.seq (.ops [(none, .fieldAddr 23 (.t 2) 3),
 (none, .load1 24 (.t 23)),
 (none, .len 25 (.t 24)),
 (none, .mv 26 (.c (.I 0)))])
 (.block 0 (.loop (.seq (.ops [(none, .bin 27 .lss (.t 26) (.t 25))])
 (.seq (.cond (.t 27) (.skip)
 (.exit 0))
 (.seq (.block 1 (.seq (.ops [(none, .idxS 28 3 (.t 24) (.t 26)),
 (none, .loadN 29 3 (.t 28)),
 (none, .alloc 8 [(.I 0), (.I 0), (.I 0)]),
 (none, .store 3 (.t 8) (.t 29))])
 (.seq (.ops [(none, .mv 30 (.t 1)),
 (none, .bin 31 .mul (.c (.I 2)) (.t 30)),
 (none, .mv 9 (.t 31))])
 (.block 2 (.loop (.seq (.seq (.ops [(none, .mv 32 (.t 9)),
 (none, .mv 33 (.t 1)),
 (none, .bin 34 .mul (.c (.I 2)) (.t 33)),
 (none, .bin 35 .add (.t 34) (.c (.I 2))),
 (none, .bin 36 .lss (.t 32) (.t 35))])
 (.cond (.t 36) (.skip)
 (.exit 2)))
 (.seq (.block 3 (.seq (.draw [⟨(none, .loadN 39 4 (.t 2)), [], []⟩,
 ⟨(none, .loadN 40 3 (.t 8)), [], []⟩,
 ⟨(none, .mv 41 (.t 9)), [], []⟩,
 ⟨(none, .call (some 42) F.impl_beyond [(.t 40), (.t 41)]), [], [0]⟩,
 ⟨(none, .call (some 43) F.impl_Heap_isBare [(.t 39), (.t 42)]), [], []⟩])
 (.cond (.t 43) (.draw [⟨(none, .mv 44 (.t 6)), [], []⟩,
 ⟨(none, .loadN 45 4 (.t 2)), [], []⟩,
 ⟨(none, .loadN 47 3 (.t 8)), [], []⟩,
 ⟨(none, .mv 48 (.t 1)), [], []⟩,
 ⟨(none, .call (some 46) F.impl_Heap_box [(.t 45)]), [], [0, 2, 3]⟩,
 ⟨(none, .call (some 49) F.impl_box_line [(.t 46), (.t 47), (.t 48)]), [], [0]⟩,
 ⟨(none, .idxS 50 1 (.t 44) (.t 49)), [], []⟩,
 ⟨(none, .load1 51 (.t 50)), [], []⟩,
 ⟨(none, .bin 52 .add (.t 51) (.c (.I 1))), [], []⟩,
 ⟨(none, .idxS 53 1 (.t 44) (.t 49)), [], []⟩,
 ⟨(none, .store 1 (.t 53) (.t 52)), [], []⟩])
 (.skip))))
 (.ops [(none, .mv 37 (.t 9)),
 (none, .bin 38 .add (.t 37) (.c (.I 1))),
 (none, .mv 9 (.t 38))]))))))))
 (.ops [(none, .bin 54 .add (.t 26) (.c (.I 1))),
 (none, .mv 26 (.t 54))])))))))
 (.seq (.ops [(none, .mv 55 (.t 6)),
 (none, .mv 4 (.t 55)),
 (none, .mv 5 (.c (.B true)))])
 (.ret)))))⟩
end Go.Ab.C

/- That the program has this code. -/
namespace Go.Ab.K
open Go Go.Ab
theorem spec_l6Stretches : prepF Go.Proofs.Try.prog F.spec_l6Stretches = some C.spec_l6Stretches := by kernel_rfl
theorem spec_BareSquares : prepF Go.Proofs.Try.prog F.spec_BareSquares = some C.spec_BareSquares := by kernel_rfl
theorem impl_BareSquares : prepF Go.Proofs.Try.prog F.impl_BareSquares = some C.impl_BareSquares := by kernel_rfl
end Go.Ab.K

/- The abstract code of some functions (written by a program of mine from the translation, by way of prepF). -/
namespace Go.Ab.C
open Go.Ab
def impl_TouchingFaces : AFn :=
 ⟨1, 30, [.tmp 2, .tmp 3],
 .seq (.ops [(none, .box 1 (.t 0)),
 (none, .mv 2 (.c (.I 0))),
 (none, .mv 3 (.c (.B false)))])
 (.seq (.seq (.ops [(none, .loadN 7 4 (.t 1)),
 (none, .call (some 8) F.impl_IsHeap [(.t 7)]),
 (none, .un 9 .not (.t 8))])
 (.cond (.t 9) (.seq (.ops [(none, .mv 2 (.c (.I 0))),
 (none, .mv 3 (.c (.B false)))])
 (.ret))
 (.skip)))
 (.seq (.ops [(none, .mv 4 (.c (.I 0)))])
 (.seq (.seq (.ops [(none, .fieldAddr 10 (.t 1) 3),
 (none, .load1 11 (.t 10)),
 (none, .len 12 (.t 11)),
 (none, .mv 13 (.c (.I 0)))])
 (.block 0 (.loop (.seq (.ops [(none, .bin 14 .lss (.t 13) (.t 12))])
 (.seq (.cond (.t 14) (.skip)
 (.exit 0))
 (.seq (.block 1 (.seq (.ops [(none, .idxS 15 3 (.t 11) (.t 13)),
 (none, .loadN 16 3 (.t 15)),
 (none, .alloc 6 [(.I 0), (.I 0), (.I 0)]),
 (none, .store 3 (.t 6) (.t 16))])
 (.draw [⟨(none, .mv 17 (.t 4)), [], []⟩,
 ⟨(none, .loadN 18 4 (.t 1)), [], []⟩,
 ⟨(none, .loadN 20 3 (.t 6)), [], []⟩,
 ⟨(none, .loadN 22 4 (.t 1)), [], []⟩,
 ⟨(none, .call (some 19) F.impl_Heap_box [(.t 18)]), [], [0, 2, 3]⟩,
 ⟨(none, .call (some 21) F.impl_box_near [(.t 19), (.t 20)]), [], [0, 3]⟩,
 ⟨(none, .call (some 23) F.impl_Heap_cubes [(.t 22)]), [], [0]⟩,
 ⟨(none, .bin 24 .and (.t 21) (.t 23)), [], []⟩,
 ⟨(none, .call (some 25) F.impl_set_count [(.t 24)]), [], [0]⟩,
 ⟨(none, .bin 26 .add (.t 17) (.t 25)), [], []⟩,
 ⟨(none, .mv 4 (.t 26)), [], []⟩])))
 (.ops [(none, .bin 27 .add (.t 13) (.c (.I 1))),
 (none, .mv 13 (.t 27))])))))))
 (.seq (.ops [(none, .mv 28 (.t 4)),
 (none, .bin 29 .quo (.t 28) (.c (.I 2))),
 (none, .mv 2 (.t 29)),
 (none, .mv 3 (.c (.B true)))])
 (.ret)))))⟩
def impl_BareFaces : AFn :=
 ⟨1, 10, [.cellN 2 6, .tmp 3],
 .seq (.ops [(none, .box 1 (.t 0)),
 (none, .alloc 2 [(.I 0), (.I 0), (.I 0), (.I 0), (.I 0), (.I 0)]),
 (none, .mv 3 (.c (.B false)))])
 (.seq (.seq (.ops [(none, .loadN 4 4 (.t 1)),
 (none, .call (some 5) F.impl_IsHeap [(.t 4)]),
 (none, .un 6 .not (.t 5))])
 (.cond (.t 6) (.seq (.ops [(none, .build 7 [(.I 0), (.I 0), (.I 0), (.I 0), (.I 0), (.I 0)] []),
 (none, .store 6 (.t 2) (.t 7)),
 (none, .mv 3 (.c (.B false)))])
 (.ret))
 (.skip)))
 (.seq (.ops [(none, .loadN 8 4 (.t 1)),
 (none, .call (some 9) F.impl_Heap_bareFaces [(.t 8)]),
 (none, .store 6 (.t 2) (.t 9)),
 (none, .mv 3 (.c (.B true)))])
 (.ret)))⟩
def impl_OutsideFaces : AFn :=
 ⟨1, 52, [.tmp 2, .tmp 3],
 .seq (.ops [(none, .box 1 (.t 0)),
 (none, .mv 2 (.c (.I 0))),
 (none, .mv 3 (.c (.B false)))])
 (.seq (.seq (.ops [(none, .loadN 10 4 (.t 1)),
 (none, .call (some 11) F.impl_IsHeap [(.t 10)]),
 (none, .un 12 .not (.t 11))])
 (.cond (.t 12) (.seq (.ops [(none, .mv 2 (.c (.I 0))),
 (none, .mv 3 (.c (.B false)))])
 (.ret))
 (.skip)))
 (.seq (.ops [(none, .loadN 13 4 (.t 1)),
 (none, .call (some 14) F.impl_Heap_enclosed [(.t 13)]),
 (none, .mv 4 (.c (.I 0))),
 (none, .mv 5 (.t 14))])
 (.seq (.seq (.ops [(none, .fieldAddr 15 (.t 1) 3),
 (none, .load1 16 (.t 15)),
 (none, .len 17 (.t 16)),
 (none, .mv 18 (.c (.I 0)))])
 (.block 0 (.loop (.seq (.ops [(none, .bin 19 .lss (.t 18) (.t 17))])
 (.seq (.cond (.t 19) (.skip)
 (.exit 0))
 (.seq (.block 1 (.seq (.ops [(none, .idxS 20 3 (.t 16) (.t 18)),
 (none, .loadN 21 3 (.t 20)),
 (none, .alloc 7 [(.I 0), (.I 0), (.I 0)]),
 (none, .store 3 (.t 7) (.t 21))])
 (.seq (.ops [(none, .mv 22 (.c (.I 0)))])
 (.block 2 (.loop (.seq (.ops [(none, .bin 23 .lss (.t 22) (.c (.I 6)))])
 (.seq (.cond (.t 23) (.skip)
 (.exit 2))
 (.seq (.block 3 (.seq (.ops [(none, .mv 24 (.t 22)),
 (none, .mv 8 (.t 24))])
 (.seq (.ops [(none, .loadN 25 3 (.t 7)),
 (none, .mv 26 (.t 8)),
 (none, .call (some 27) F.impl_beyond [(.t 25), (.t 26)]),
 (none, .alloc 9 [(.I 0), (.I 0), (.I 0)]),
 (none, .store 3 (.t 9) (.t 27))])
 (.seq (.draw [⟨(none, .loadN 28 4 (.t 1)), [], []⟩,
 ⟨(none, .loadN 29 3 (.t 9)), [], []⟩,
 ⟨(none, .call (some 30) F.impl_Heap_isBare [(.t 28), (.t 29)]), [], []⟩,
 ⟨(none, .mv 31 (.t 30)), [], []⟩,
 ⟨(some (31, true), .loadN 32 4 (.t 1)), [], []⟩,
 ⟨(some (31, true), .loadN 34 3 (.t 9)), [], []⟩,
 ⟨(some (31, true), .call (some 33) F.impl_Heap_box [(.t 32)]), [], [5]⟩,
 ⟨(some (31, true), .call (some 35) F.impl_box_has [(.t 33), (.t 34)]), [], []⟩,
 ⟨(some (31, true), .un 36 .not (.t 35)), [], []⟩,
 ⟨(some (31, true), .mv 37 (.t 36)), [], []⟩,
 ⟨(some (37, false), .mv 38 (.t 5)), [], []⟩,
 ⟨(some (37, false), .loadN 39 4 (.t 1)), [], []⟩,
 ⟨(some (37, false), .loadN 41 3 (.t 9)), [], []⟩,
 ⟨(some (37, false), .call (some 40) F.impl_Heap_box [(.t 39)]), [], [10, 12]⟩,
 ⟨(some (37, false), .call (some 42) F.impl_box_index [(.t 40), (.t 41)]), [], [10]⟩,
 ⟨(some (37, false), .call (some 43) F.impl_set_has [(.t 38), (.t 42)]), [], []⟩,
 ⟨(some (37, false), .un 44 .not (.t 43)), [], []⟩,
 ⟨(some (31, true), .pick 45 (.t 37) (.c (.B true)) (.t 44)), [], []⟩,
 ⟨(none, .pick 46 (.t 31) (.t 45) (.c (.B false))), [], []⟩])
 (.cond (.t 46) (.ops [(none, .mv 47 (.t 4)),
 (none, .bin 48 .add (.t 47) (.c (.I 1))),
 (none, .mv 4 (.t 48))])
 (.skip))))))
 (.ops [(none, .bin 49 .add (.t 22) (.c (.I 1))),
 (none, .mv 22 (.t 49))])))))))))
 (.ops [(none, .bin 50 .add (.t 18) (.c (.I 1))),
 (none, .mv 18 (.t 50))])))))))
 (.seq (.ops [(none, .mv 51 (.t 4)),
 (none, .mv 2 (.t 51)),
 (none, .mv 3 (.c (.B true)))])
 (.ret)))))⟩
end Go.Ab.C

/- That the program has this code. -/
namespace Go.Ab.K
open Go Go.Ab
theorem impl_TouchingFaces : prepF Go.Proofs.Try.prog F.impl_TouchingFaces = some C.impl_TouchingFaces := by kernel_rfl
theorem impl_BareFaces : prepF Go.Proofs.Try.prog F.impl_BareFaces = some C.impl_BareFaces := by kernel_rfl
theorem impl_OutsideFaces : prepF Go.Proofs.Try.prog F.impl_OutsideFaces = some C.impl_OutsideFaces := by kernel_rfl
end Go.Ab.K

/- The abstract code of some functions (written by a program of mine from the translation, by way of prepF). -/
namespace Go.Ab.C
open Go.Ab
def spec_l6Bare : AFn :=
 ⟨2, 52, [.cellN 4 6],
 .seq (.ops [(none, .box 2 (.t 0)),
 (none, .alloc 4 [(.I 0), (.I 0), (.I 0), (.I 0), (.I 0), (.I 0)])])
 (.seq (.ops [(none, .build 11 [(.I 0), (.I 0), (.I 0), (.I 0), (.I 0), (.I 0)] []),
 (none, .call (some 12) F.spec_l6Steps []),
 (none, .alloc 5 [(.I 0), (.I 0), (.I 0), (.I 0), (.I 0), (.I 0)]),
 (none, .alloc 6 [(.I 0), (.I 0), (.I 0), (.I 0), (.I 0), (.I 0), (.I 0), (.I 0), (.I 0), (.I 0), (.I 0), (.I 0), (.I 0), (.I 0), (.I 0), (.I 0), (.I 0), (.I 0)]),
 (none, .store 6 (.t 5) (.t 11)),
 (none, .store 18 (.t 6) (.t 12))])
 (.seq (.ops [(none, .loadN 13 4 (.t 2)),
 (none, .mv 14 (.t 1)),
 (none, .call (some 15) F.spec_l2Made [(.t 13), (.t 14)]),
 (none, .alloc 7 [(.I 0), (.I 0), (.I 0), .nil]),
 (none, .store 4 (.t 7) (.t 15))])
 (.seq (.seq (.ops [(none, .mv 8 (.c (.I 0)))])
 (.block 0 (.loop (.seq (.seq (.ops [(none, .mv 16 (.t 8)),
 (none, .fieldAddr 17 (.t 2) 3),
 (none, .load1 18 (.t 17)),
 (none, .len 19 (.t 18)),
 (none, .bin 20 .lss (.t 16) (.t 19))])
 (.cond (.t 20) (.skip)
 (.exit 0)))
 (.seq (.block 1 (.seq (.ops [(none, .mv 9 (.c (.I 0)))])
 (.block 2 (.loop (.seq (.seq (.ops [(none, .mv 23 (.t 9)),
 (none, .bin 24 .lss (.t 23) (.c (.I 6)))])
 (.cond (.t 24) (.skip)
 (.exit 2)))
 (.seq (.block 3 (.seq (.draw [⟨(none, .fieldAddr 27 (.t 2) 3), [], []⟩,
 ⟨(none, .load1 28 (.t 27)), [], []⟩,
 ⟨(none, .mv 29 (.t 8)), [], []⟩,
 ⟨(none, .idxS 30 3 (.t 28) (.t 29)), [], []⟩,
 ⟨(none, .loadN 31 3 (.t 30)), [], []⟩,
 ⟨(none, .mv 32 (.t 9)), [], []⟩,
 ⟨(none, .idxA 33 6 3 (.t 6) (.t 32)), [], []⟩,
 ⟨(none, .loadN 34 3 (.t 33)), [], []⟩,
 ⟨(none, .alloc 10 [(.I 0), (.I 0), (.I 0)]), [], []⟩,
 ⟨(none, .call (some 35) F.spec_l6Beside [(.t 31), (.t 34)]), [8], []⟩,
 ⟨(none, .store 3 (.t 10) (.t 35)), [], []⟩])
 (.seq (.ops [(none, .loadN 36 4 (.t 2)),
 (none, .loadN 37 3 (.t 10)),
 (none, .call (some 38) F.spec_l2Has [(.t 36), (.t 37)]),
 (none, .un 39 .not (.t 38)),
 (none, .mv 40 (.t 39)),
 (some (40, true), .loadN 41 4 (.t 7)),
 (some (40, true), .loadN 42 3 (.t 10)),
 (some (40, true), .call (some 43) F.spec_l2Has [(.t 41), (.t 42)]),
 (some (40, true), .un 44 .not (.t 43)),
 (none, .pick 45 (.t 40) (.t 44) (.c (.B false)))])
 (.cond (.t 45) (.ops [(none, .mv 46 (.t 9)),
 (none, .idxA 47 6 1 (.t 5) (.t 46)),
 (none, .load1 48 (.t 47)),
 (none, .bin 49 .add (.t 48) (.c (.I 1))),
 (none, .idxA 50 6 1 (.t 5) (.t 46)),
 (none, .store 1 (.t 50) (.t 49))])
 (.skip)))))
 (.ops [(none, .mv 25 (.t 9)),
 (none, .bin 26 .add (.t 25) (.c (.I 1))),
 (none, .mv 9 (.t 26))])))))))
 (.ops [(none, .mv 21 (.t 8)),
 (none, .bin 22 .add (.t 21) (.c (.I 1))),
 (none, .mv 8 (.t 22))]))))))
 (.seq (.ops [(none, .loadN 51 6 (.t 5)),
 (none, .store 6 (.t 4) (.t 51))])
 (.ret)))))⟩
def spec_l6Sum : AFn :=
 ⟨1, 15, [.tmp 2],
 .seq (.ops [(none, .box 1 (.t 0)),
 (none, .mv 2 (.c (.I 0)))])
 (.seq (.ops [(none, .mv 3 (.c (.I 0)))])
 (.seq (.seq (.ops [(none, .mv 4 (.c (.I 0)))])
 (.block 0 (.loop (.seq (.seq (.ops [(none, .mv 5 (.t 4)),
 (none, .bin 6 .lss (.t 5) (.c (.I 6)))])
 (.cond (.t 6) (.skip)
 (.exit 0)))
 (.seq (.block 1 (.ops [(none, .mv 9 (.t 3)),
 (none, .mv 10 (.t 4)),
 (none, .idxA 11 6 1 (.t 1) (.t 10)),
 (none, .load1 12 (.t 11)),
 (none, .bin 13 .add (.t 9) (.t 12)),
 (none, .mv 3 (.t 13))]))
 (.ops [(none, .mv 7 (.t 4)),
 (none, .bin 8 .add (.t 7) (.c (.I 1))),
 (none, .mv 4 (.t 8))]))))))
 (.seq (.ops [(none, .mv 14 (.t 3)),
 (none, .mv 2 (.t 14))])
 (.ret))))⟩
def spec_BareFaces : AFn :=
 ⟨1, 11, [.cellN 2 6, .tmp 3],
 .seq (.ops [(none, .box 1 (.t 0)),
 (none, .alloc 2 [(.I 0), (.I 0), (.I 0), (.I 0), (.I 0), (.I 0)]),
 (none, .mv 3 (.c (.B false)))])
 (.seq (.seq (.ops [(none, .loadN 4 4 (.t 1)),
 (none, .call (some 5) F.spec_l2Heap [(.t 4)]),
 (none, .un 6 .not (.t 5))])
 (.cond (.t 6) (.seq (.ops [(none, .build 7 [(.I 0), (.I 0), (.I 0), (.I 0), (.I 0), (.I 0)] []),
 (none, .store 6 (.t 2) (.t 7)),
 (none, .mv 3 (.c (.B false)))])
 (.ret))
 (.skip)))
 (.seq (.ops [(none, .loadN 8 4 (.t 1)),
 (none, .buildSl 9 0 3 [] []),
 (none, .call (some 10) F.spec_l6Bare [(.t 8), (.t 9)]),
 (none, .store 6 (.t 2) (.t 10)),
 (none, .mv 3 (.c (.B true)))])
 (.ret)))⟩
def spec_SurfaceOf : AFn :=
 ⟨1, 11, [.tmp 2, .tmp 3],
 .seq (.ops [(none, .box 1 (.t 0)),
 (none, .mv 2 (.c (.I 0))),
 (none, .mv 3 (.c (.B false)))])
 (.seq (.seq (.ops [(none, .loadN 4 4 (.t 1)),
 (none, .call (some 5) F.spec_l2Heap [(.t 4)]),
 (none, .un 6 .not (.t 5))])
 (.cond (.t 6) (.seq (.ops [(none, .mv 2 (.c (.I 0))),
 (none, .mv 3 (.c (.B false)))])
 (.ret))
 (.skip)))
 (.seq (.ops [(none, .loadN 7 4 (.t 1)),
 (none, .buildSl 8 0 3 [] []),
 (none, .call (some 9) F.spec_l6Bare [(.t 7), (.t 8)]),
 (none, .call (some 10) F.spec_l6Sum [(.t 9)]),
 (none, .mv 2 (.t 10)),
 (none, .mv 3 (.c (.B true)))])
 (.ret)))⟩
def spec_OutsideFaces : AFn :=
 ⟨1, 12, [.tmp 2, .tmp 3],
 .seq (.ops [(none, .box 1 (.t 0)),
 (none, .mv 2 (.c (.I 0))),
 (none, .mv 3 (.c (.B false)))])
 (.seq (.seq (.ops [(none, .loadN 4 4 (.t 1)),
 (none, .call (some 5) F.spec_l2Heap [(.t 4)]),
 (none, .un 6 .not (.t 5))])
 (.cond (.t 6) (.seq (.ops [(none, .mv 2 (.c (.I 0))),
 (none, .mv 3 (.c (.B false)))])
 (.ret))
 (.skip)))
 (.seq (.draw [⟨(none, .loadN 7 4 (.t 1)), [], []⟩,
 ⟨(none, .loadN 8 4 (.t 1)), [], []⟩,
 ⟨(none, .call (some 9) F.spec_l6Enclosed [(.t 8)]), [], [0]⟩,
 ⟨(none, .call (some 10) F.spec_l6Bare [(.t 7), (.t 9)]), [], []⟩,
 ⟨(none, .call (some 11) F.spec_l6Sum [(.t 10)]), [], []⟩,
 ⟨(none, .mv 2 (.t 11)), [], []⟩,
 ⟨(none, .mv 3 (.c (.B true))), [], []⟩])
 (.ret)))⟩
def spec_l6Pairs : AFn :=
 ⟨1, 24, [.tmp 2],
 .seq (.ops [(none, .box 1 (.t 0)),
 (none, .mv 2 (.c (.I 0)))])
 (.seq (.ops [(none, .mv 3 (.c (.I 0)))])
 (.seq (.seq (.ops [(none, .mv 4 (.c (.I 0)))])
 (.block 0 (.loop (.seq (.seq (.ops [(none, .mv 5 (.t 4)),
 (none, .fieldAddr 6 (.t 1) 3),
 (none, .load1 7 (.t 6)),
 (none, .len 8 (.t 7)),
 (none, .bin 9 .lss (.t 5) (.t 8))])
 (.cond (.t 9) (.skip)
 (.exit 0)))
 (.seq (.block 1 (.draw [⟨(none, .mv 12 (.t 3)), [], []⟩,
 ⟨(none, .loadN 13 4 (.t 1)), [], []⟩,
 ⟨(none, .fieldAddr 14 (.t 1) 3), [], []⟩,
 ⟨(none, .load1 15 (.t 14)), [], []⟩,
 ⟨(none, .mv 16 (.t 4)), [], []⟩,
 ⟨(none, .idxS 17 3 (.t 15) (.t 16)), [], []⟩,
 ⟨(none, .loadN 18 3 (.t 17)), [], []⟩,
 ⟨(none, .call (some 19) F.spec_l2Near [(.t 13), (.t 18)]), [], [0]⟩,
 ⟨(none, .len 20 (.t 19)), [], []⟩,
 ⟨(none, .bin 21 .add (.t 12) (.t 20)), [], []⟩,
 ⟨(none, .mv 3 (.t 21)), [], []⟩]))
 (.ops [(none, .mv 10 (.t 4)),
 (none, .bin 11 .add (.t 10) (.c (.I 1))),
 (none, .mv 4 (.t 11))]))))))
 (.seq (.ops [(none, .mv 22 (.t 3)),
 (none, .bin 23 .quo (.t 22) (.c (.I 2))),
 (none, .mv 2 (.t 23))])
 (.ret))))⟩
def spec_TouchingFaces : AFn :=
 ⟨1, 9, [.tmp 2, .tmp 3],
 .seq (.ops [(none, .box 1 (.t 0)),
 (none, .mv 2 (.c (.I 0))),
 (none, .mv 3 (.c (.B false)))])
 (.seq (.seq (.ops [(none, .loadN 4 4 (.t 1)),
 (none, .call (some 5) F.spec_l2Heap [(.t 4)]),
 (none, .un 6 .not (.t 5))])
 (.cond (.t 6) (.seq (.ops [(none, .mv 2 (.c (.I 0))),
 (none, .mv 3 (.c (.B false)))])
 (.ret))
 (.skip)))
 (.seq (.ops [(none, .loadN 7 4 (.t 1)),
 (none, .call (some 8) F.spec_l6Pairs [(.t 7)]),
 (none, .mv 2 (.t 8)),
 (none, .mv 3 (.c (.B true)))])
 (.ret)))⟩
end Go.Ab.C

/- That the program has this code. -/
namespace Go.Ab.K
open Go Go.Ab
theorem spec_l6Bare : prepF Go.Proofs.Try.prog F.spec_l6Bare = some C.spec_l6Bare := by kernel_rfl
theorem spec_l6Sum : prepF Go.Proofs.Try.prog F.spec_l6Sum = some C.spec_l6Sum := by kernel_rfl
theorem spec_BareFaces : prepF Go.Proofs.Try.prog F.spec_BareFaces = some C.spec_BareFaces := by kernel_rfl
theorem spec_SurfaceOf : prepF Go.Proofs.Try.prog F.spec_SurfaceOf = some C.spec_SurfaceOf := by kernel_rfl
theorem spec_OutsideFaces : prepF Go.Proofs.Try.prog F.spec_OutsideFaces = some C.spec_OutsideFaces := by kernel_rfl
theorem spec_l6Pairs : prepF Go.Proofs.Try.prog F.spec_l6Pairs = some C.spec_l6Pairs := by kernel_rfl
theorem spec_TouchingFaces : prepF Go.Proofs.Try.prog F.spec_TouchingFaces = some C.spec_TouchingFaces := by kernel_rfl
end Go.Ab.K

/- Plain words: bare faces; they stay when a heap is turned. -/
namespace Go.Ab
open Go
set_option linter.unusedVariables false
set_option linter.unusedSimpArgs false
set_option maxRecDepth 20000

/-- The cell beyond a face. -/
def nbC (c : Cell) (f : Nat) : Cell := ⟨c.a + if f = 0 then -1 else if f = 1 then 1 else 0, c.b + if f = 2 then -1 else if f = 3 then 1 else 0, c.c + if f = 4 then -1 else if f = 5 then 1 else 0⟩
def bareN (S : List Cell) (c : Cell) : Nat := (List.range 6).countP fun f => decide (nbC c f ∉ S)
/-- The bare faces of one kind. -/
def faceN (cs : List Cell) (f : Nat) : Nat := cs.countP fun c => decide (nbC c f ∉ cs)
def surfN (cs : List Cell) : Nat := ((List.range 6).map (faceN cs)).sum
theorem surf_swap {S : List Cell} : ∀ (cs : List Cell), ((List.range 6).map fun f => cs.countP fun c => decide (nbC c f ∉ S)).sum = (cs.map (bareN S)).sum
  | [] => rfl
  | c :: cs => by
    have ih := surf_swap (S := S) cs
    rw [List.map_cons, List.sum_cons, ← ih]
    have e : ∀ f, (c :: cs).countP (fun c => decide (nbC c f ∉ S)) = (if decide (nbC c f ∉ S) = true then 1 else 0) + cs.countP fun c => decide (nbC c f ∉ S) := fun f => by
      rw [List.countP_cons]; omega
    simp only [e]
    have key : ∀ (l : List Nat) (g h : Nat → Nat), (l.map fun f => g f + h f).sum = (l.map g).sum + (l.map h).sum := fun l g h => by
      induction l with
      | nil => rfl
      | cons a l ih => simp only [List.map_cons, List.sum_cons, ih]; omega
    rw [key]
    congr 1
    unfold bareN
    have k2 : ∀ (l : List Nat) (p : Nat → Bool), (l.map fun f => if p f = true then 1 else 0).sum = l.countP p := fun l p => by
      induction l with
      | nil => rfl
      | cons a l ih => rw [List.map_cons, List.sum_cons, ih, List.countP_cons]; omega
    exact k2 _ _
/-- The face of a cell that a turn brings to a face. -/
def sigT (T : Turn) (f : Nat) : Nat := (T.fr.at (f / 2 : Nat)).toNat * 2 + (xorI ((f % 2 : Nat) : Int) (T.fl.at (f / 2 : Nat))).toNat
end Go.Ab

/- Plain: faces of heaps, of filled heaps, and shadows. -/
namespace Go.Ab
open Go
set_option linter.unusedSimpArgs false
set_option linter.unusedVariables false
set_option maxRecDepth 20000

def oppF (f : Nat) : Nat := if f % 2 = 0 then f + 1 else f - 1
theorem six {f : Nat} (hf : f < 6) : f = 0 ∨ f = 1 ∨ f = 2 ∨ f = 3 ∨ f = 4 ∨ f = 5 := by omega
theorem oppF_lt {f : Nat} (hf : f < 6) : oppF f < 6 := by
  unfold oppF
  split <;> omega
theorem nb_opp {c : Cell} {f : Nat} (hf : f < 6) : nbC (nbC c f) (oppF f) = c := by
  obtain ⟨a, b, e⟩ := c
  rcases six hf with rfl | rfl | rfl | rfl | rfl | rfl <;> simp [nbC, oppF] <;> omega
theorem opp_opp {f : Nat} (hf : f < 6) : oppF (oppF f) = f := by
  rcases six hf with rfl | rfl | rfl | rfl | rfl | rfl <;> rfl
theorem nb_apart {c : Cell} {f : Nat} (hf : f < 6) : apart c (nbC c f) = 1 := by
  obtain ⟨a, b, e⟩ := c
  rcases six hf with rfl | rfl | rfl | rfl | rfl | rfl <;> simp [nbC, apart] <;> omega
theorem nb_nbrs {c : Cell} {f : Nat} (hf : f < 6) : (nbrs c).getD f default = nbC c f := by
  rcases six hf with rfl | rfl | rfl | rfl | rfl | rfl <;> simp [nbC, nbrs]
theorem nb_inj {c d : Cell} {f : Nat} (hf : f < 6) (h : nbC c f = nbC d f) : c = d := by
  rw [← nb_opp (c := c) hf, h, nb_opp hf]
/-- As many cells of a list have their neighbour of one side in it as of the other. -/
theorem nb_count {cs : List Cell} (hn : cs.Nodup) {q : Cell → Bool} {f : Nat} (hf : f < 6) (hq : ∀ c, q (nbC c f) = q c) :
    cs.countP (fun c => q c && decide (nbC c f ∈ cs)) = cs.countP fun c => q c && decide (nbC c (oppF f) ∈ cs) := by
  rw [List.countP_eq_length_filter, List.countP_eq_length_filter, ← List.length_map (f := fun c => nbC c f)]
  refine List.Perm.length_eq ((List.perm_ext_iff_of_nodup ?_ (hn.filter _)).2 fun d => ?_)
  · unfold List.Nodup
    rw [List.pairwise_map]
    exact (hn.filter _).imp fun {a b} h e => h (nb_inj hf e)
  · simp only [List.mem_map, List.mem_filter, Bool.and_eq_true, decide_eq_true_eq]
    constructor
    · rintro ⟨c, ⟨h1, h2, h3⟩, rfl⟩
      exact ⟨h3, by rw [hq]; exact h2, by rw [nb_opp hf]; exact h1⟩
    · rintro ⟨h1, h2, h3⟩
      refine ⟨nbC d (oppF f), ⟨h3, ?_, ?_⟩, ?_⟩
      · rw [← hq, show nbC (nbC d (oppF f)) f = d from by have := nb_opp (c := d) (oppF_lt hf); rw [opp_opp hf] at this; exact this]; exact h2
      · rw [show nbC (nbC d (oppF f)) f = d from by have := nb_opp (c := d) (oppF_lt hf); rw [opp_opp hf] at this; exact this]; exact h1
      · have := nb_opp (c := d) (oppF_lt hf); rw [opp_opp hf] at this; exact this
theorem count_split {α : Type} {l : List α} {q p : α → Bool} : l.countP (fun c => q c && p c) + l.countP (fun c => q c && !p c) = l.countP q := by
  induction l with
  | nil => rfl
  | cons a l ih =>
    simp only [List.countP_cons]
    cases q a <;> cases p a <;> simp <;> omega
/-- Of a heap, as many faces are bare on one side of a direction as on the other; so on each line. -/
theorem face_line {cs : List Cell} (hn : cs.Nodup) {q : Cell → Bool} {f : Nat} (hf : f < 6) (hq : ∀ c, q (nbC c f) = q c) :
    cs.countP (fun c => q c && decide (nbC c f ∉ cs)) = cs.countP fun c => q c && decide (nbC c (oppF f) ∉ cs) := by
  have h1 := nb_count hn hf hq
  have h2 := count_split (l := cs) (q := q) (p := fun c => decide (nbC c f ∈ cs))
  have h3 := count_split (l := cs) (q := q) (p := fun c => decide (nbC c (oppF f) ∈ cs))
  simp only [← decide_not] at h2 h3
  omega
theorem face_same {cs : List Cell} (hn : cs.Nodup) {f : Nat} (hf : f < 6) : faceN cs f = faceN cs (oppF f) := by
  have := face_line hn (q := fun _ => true) hf fun _ => rfl
  simpa [faceN] using this
def nearN (cs : List Cell) (c : Cell) : Nat := (List.range 6).countP fun f => decide (nbC c f ∈ cs)
def nearSum (cs : List Cell) : Nat := (cs.map (nearN cs)).sum
theorem surf_near {S : List Cell} : ∀ cs : List Cell, (cs.map (bareN S)).sum + (cs.map (nearN S)).sum = 6 * cs.length
  | [] => rfl
  | c :: cs => by
    have ih := surf_near (S := S) cs
    have h := count_split (l := List.range 6) (q := fun _ => true) (p := fun f => decide (nbC c f ∈ S))
    have h6 : (List.range 6).countP (fun _ => true) = 6 := rfl
    simp only [Bool.true_and, ← decide_not] at h
    simp only [List.map_cons, List.sum_cons, List.length_cons]
    have e1 : bareN S c = (List.range 6).countP fun f => decide (¬ nbC c f ∈ S) := rfl
    have e2 : nearN S c = (List.range 6).countP fun f => decide (nbC c f ∈ S) := rfl
    omega
theorem surf_even {cs : List Cell} (hn : cs.Nodup) : surfN cs = 2 * (faceN cs 0 + faceN cs 2 + faceN cs 4) := by
  have h0 := face_same hn (f := 0) (by omega)
  have h1 := face_same hn (f := 2) (by omega)
  have h2 := face_same hn (f := 4) (by omega)
  have e : surfN cs = faceN cs 0 + (faceN cs 1 + (faceN cs 2 + (faceN cs 3 + (faceN cs 4 + (faceN cs 5 + 0))))) := rfl
  have o0 : oppF 0 = 1 := rfl
  have o1 : oppF 2 = 3 := rfl
  have o2 : oppF 4 = 5 := rfl
  rw [o0] at h0
  rw [o1] at h1
  rw [o2] at h2
  omega
/-- The surface is that of the cubes less the touching faces. -/
theorem surf_touch {cs : List Cell} (hn : cs.Nodup) : (surfN cs : Int) = 6 * cs.length - 2 * (nearSum cs / 2 : Nat) ∧ nearSum cs ≤ 6 * cs.length := by
  have h1 := surf_near (S := cs) cs
  have h2 := surf_even hn
  have h3 : surfN cs = (cs.map (bareN cs)).sum := surf_swap cs
  unfold nearSum
  omega
section
variable {x y z : Int} {cs : List Cell} (hH : HeapOK x y z cs)
/-- All cells of the heap or enclosed. -/
noncomputable def filL (x y z : Int) (cs : List Cell) : List Cell := pick x y z fun c => decide (c ∈ cs) || closed x y z (fun c => decide (c ∈ cs)) c
include hH
theorem mem_fil {c : Cell} : c ∈ filL x y z cs ↔ c ∈ cs ∨ (c.inBox x y z ∧ closed x y z (fun c => decide (c ∈ cs)) c = true) := by
  unfold filL
  rw [mem_pick hH.1, Bool.or_eq_true, decide_eq_true_iff]
  exact ⟨fun h => h.2.imp id fun h2 => ⟨h.1, h2⟩, fun h => h.elim (fun h => ⟨hH.mem h, .inl h⟩) fun h => ⟨h.1, .inr h.2⟩⟩
/-- All neighbours of what is enclosed are in the heap or enclosed. -/
theorem closed_near {c : Cell} (hc : c.inBox x y z) (h : closed x y z (fun c => decide (c ∈ cs)) c = true) {f : Nat} (hf : f < 6) : nbC c f ∈ filL x y z cs := by
  have hap := nb_apart (c := c) hf
  unfold closed at h
  simp only [Bool.and_eq_true, Bool.not_eq_true'] at h
  obtain ⟨h1, h2⟩ := h
  have hin : (nbC c f).inBox x y z := Classical.byContradiction fun ho => by
    have : outer x y z (fun c => decide (c ∈ cs)) c = true := by
      unfold outer
      rw [reach_iff]
      refine .base hc ?_
      rw [show (fun c => decide (c ∈ cs)) c = false from h1, (onRim_iff hc).2 ⟨_, hap, ho⟩]; rfl
    rw [this] at h2; exact Bool.noConfusion h2
  refine (mem_fil hH).2 (Classical.or_iff_not_imp_left.2 fun hno => ⟨hin, ?_⟩)
  unfold closed
  rw [show (fun c => decide (c ∈ cs)) (nbC c f) = false from decide_eq_false hno, Bool.not_false, Bool.true_and, Bool.not_eq_true']
  refine Bool.eq_false_iff.2 fun ho => ?_
  have : outer x y z (fun c => decide (c ∈ cs)) c = true := by
    unfold outer at ho ⊢
    rw [reach_iff] at ho ⊢
    exact .step ho (by rw [apart_comm]; exact hap) hc (by rw [show (fun c => decide (c ∈ cs)) c = false from h1]; rfl)
  rw [this] at h2; exact Bool.noConfusion h2
/-- The bare faces of the filled heap are those of the heap beyond which it is outside. -/
theorem face_fil {f : Nat} (hf : f < 6) : faceN (filL x y z cs) f = cs.countP fun c => decide (nbC c f ∉ filL x y z cs) := by
  unfold faceN
  rw [List.countP_eq_length_filter, List.countP_eq_length_filter]
  refine List.Perm.length_eq ((List.perm_ext_iff_of_nodup ((pick_ok hH.1 _).nodup.filter _) (hH.nodup.filter _)).2 fun d => ?_)
  simp only [List.mem_filter, decide_eq_true_eq]
  constructor
  · rintro ⟨h1, h2⟩
    rcases (mem_fil hH).1 h1 with h | h
    · exact ⟨h, h2⟩
    · exact (h2 (closed_near hH h.1 h.2 hf)).elim
  · rintro ⟨h1, h2⟩
    exact ⟨(mem_fil hH).2 (.inl h1), h2⟩
theorem out_le {f : Nat} : (cs.countP fun c => decide (nbC c f ∉ filL x y z cs)) ≤ faceN cs f := by
  unfold faceN
  refine List.countP_mono_left fun c hc h => ?_
  simp only [decide_eq_true_eq] at h ⊢
  exact fun h2 => h ((mem_fil hH).2 (.inl h2))
omit hH in
theorem line_nb {y z : Int} {c : Cell} {d : Nat} (hd : d < 3) : lineOf y z (nbC c (2 * d)) d = lineOf y z c d ∧ lineOf y z (nbC c (2 * d + 1)) d = lineOf y z c d := by
  rcases (show d = 0 ∨ d = 1 ∨ d = 2 by omega) with rfl | rfl | rfl <;> simp [nbC, lineOf]
/-- On each line of a cube there is a cube with a bare face beyond which it is outside. -/
theorem line_first {d : Nat} (hd : d < 3) : ∀ (n : Nat) (c : Cell), c ∈ filL x y z cs → (c.at d).toNat = n → ∃ e ∈ cs, lineOf y z e d = lineOf y z c d ∧ nbC e (2 * d) ∉ filL x y z cs
  | n, c, hc, hn => by
    have hcb : c.inBox x y z := ((mem_pick hH.1).1 hc).1
    by_cases hm : nbC c (2 * d) ∈ filL x y z cs
    · have hmb : (nbC c (2 * d)).inBox x y z := ((mem_pick hH.1).1 hm).1
      have hlt : ((nbC c (2 * d)).at d).toNat < n := by
        obtain ⟨⟨_, _⟩, ⟨_, _⟩, ⟨_, _⟩⟩ := hcb
        obtain ⟨⟨_, _⟩, ⟨_, _⟩, ⟨_, _⟩⟩ := hmb
        rcases (show d = 0 ∨ d = 1 ∨ d = 2 by omega) with rfl | rfl | rfl <;> simp [nbC, Cell.at] at * <;> omega
      obtain ⟨e, h1, h2, h3⟩ := line_first hd _ (nbC c (2 * d)) hm rfl
      exact ⟨e, h1, h2.trans (line_nb hd).1, h3⟩
    · rcases (mem_fil hH).1 hc with h | h
      · exact ⟨c, h, rfl, hm⟩
      · exact (hm (closed_near hH h.1 h.2 (by omega))).elim
theorem lit_out {d : Nat} (hd : d < 3) : litSum (shdOf x y z d cs) ≤ ((cs.countP fun c => decide (nbC c (2 * d) ∉ filL x y z cs) : Nat) : Int) := by
  have hF : HeapOK x y z (cs.filter fun c => decide (nbC c (2 * d) ∉ filL x y z cs)) := HeapOK.of hH.1 (hH.sorted.filter _) fun c hc => hH.mem ((List.mem_filter.1 hc).1)
  have h1 := lit_le hF hd
  rw [← List.countP_eq_length_filter] at h1
  refine Int.le_trans (Int.le_of_eq (congrArg litSum (int_ext (by rw [shdOf_len, shdOf_len]) fun j hj => ?_))) h1
  rw [shdOf_len] at hj
  rw [shd_get hj, shd_get hj]
  have key : 0 < cs.countP (onLine y z d j) ↔ 0 < (cs.filter fun c => decide (nbC c (2 * d) ∉ filL x y z cs)).countP (onLine y z d j) := by
    rw [List.countP_pos_iff, List.countP_pos_iff]
    constructor
    · rintro ⟨c, hc, hl⟩
      obtain ⟨e, h1, h2, h3⟩ := line_first hH hd _ c ((mem_fil hH).2 (.inl hc)) rfl
      refine ⟨e, List.mem_filter.2 ⟨h1, decide_eq_true h3⟩, ?_⟩
      unfold onLine at hl ⊢
      rw [h2]; exact hl
    · rintro ⟨c, hc, hl⟩
      exact ⟨c, (List.mem_filter.1 hc).1, hl⟩
  omega
/-- What the law says of outside faces. -/
theorem outside_law : surfN (filL x y z cs) = ((List.range 6).map fun f => cs.countP fun c => decide (nbC c f ∉ filL x y z cs)).sum ∧ surfN (filL x y z cs) ≤ surfN cs ∧
    2 * (litSum (shdOf x y z 2 cs) + litSum (shdOf x y z 1 cs) + litSum (shdOf x y z 0 cs)) ≤ (surfN (filL x y z cs) : Int) := by
  have hFn := (pick_ok hH.1 fun c => decide (c ∈ cs) || closed x y z (fun c => decide (c ∈ cs)) c).nodup
  have h2 : surfN (filL x y z cs) = 2 * (faceN (filL x y z cs) 0 + faceN (filL x y z cs) 2 + faceN (filL x y z cs) 4) := surf_even hFn
  have h3 := surf_even hH.nodup
  have f0 := face_fil hH (f := 0) (by omega)
  have f2 := face_fil hH (f := 2) (by omega)
  have f4 := face_fil hH (f := 4) (by omega)
  have l0 := lit_out hH (d := 0) (by omega)
  have l1 := lit_out hH (d := 1) (by omega)
  have l2 := lit_out hH (d := 2) (by omega)
  have k0 := out_le hH (f := 0)
  have k2 := out_le hH (f := 2)
  have k4 := out_le hH (f := 4)
  simp only [show 2 * 0 = 0 from rfl, show 2 * 1 = 2 from rfl, show 2 * 2 = 4 from rfl] at l0 l1 l2
  refine ⟨?_, by omega, by omega⟩
  unfold surfN
  congr 1
  refine List.map_congr_left fun f hf => ?_
  exact face_fil hH (List.mem_range.1 hf)
end
end Go.Ab

/- Contracts: the reference's bare and outside faces. -/
namespace Go.Ab
open Go
set_option linter.unusedSimpArgs false
set_option linter.unusedVariables false
set_option maxRecDepth 20000

/-- Counters of six kinds, behind some cells and some faces of the next one. -/
def cntQ (p : Cell → Nat → Bool) (cs : List Cell) (i d f : Nat) : Nat := (cs.take i).countP (fun c => p c f) + if f < d ∧ p (cs.getD i default) f = true then 1 else 0
def rowQ (p : Cell → Nat → Bool) (cs : List Cell) (i d : Nat) : List LV := (List.range 6).map fun (f : Nat) => LV.I ((cntQ p cs i d f : Nat) : Int)
section
variable {p : Cell → Nat → Bool} {cs : List Cell} {i d f : Nat}
theorem rowQ_len : (rowQ p cs i d).length = 6 := by simp [rowQ]
theorem rowQ_get (hf : f < 6) : (rowQ p cs i d)[f]? = some (.I ((cntQ p cs i d f : Nat) : Int)) := by simp [rowQ, hf]
theorem cntQ_le : cntQ p cs i d f ≤ cs.length + 1 := by
  unfold cntQ
  have h1 := List.countP_le_length (p := fun c => p c f) (l := cs.take i)
  have h3 := List.length_take_le' i cs
  split <;> omega
theorem rowQ_no (hb : p (cs.getD i default) d = false) : rowQ p cs i d = rowQ p cs i (d + 1) := by
  unfold rowQ
  refine List.map_congr_left fun f _ => congrArg (fun n : Nat => LV.I (n : Int)) ?_
  unfold cntQ
  refine congrArg _ ?_
  by_cases e : f = d
  · subst e
    rw [if_neg (by omega), if_neg (fun h => by rw [hb] at h; exact Bool.noConfusion h.2)]
  · by_cases h : p (cs.getD i default) f = true
    · by_cases hd : f < d
      · rw [if_pos ⟨hd, h⟩, if_pos ⟨by omega, h⟩]
      · rw [if_neg (fun k => hd k.1), if_neg (fun k => by omega)]
    · rw [if_neg (fun k => h k.2), if_neg (fun k => h k.2)]
theorem rowQ_yes (hd : d < 6) (hb : p (cs.getD i default) d = true) : (rowQ p cs i d).set d (.I (((cntQ p cs i d d : Nat) : Int) + 1)) = rowQ p cs i (d + 1) := by
  apply List.ext_getElem?
  intro f
  rw [List.getElem?_set, rowQ_len]
  by_cases e : d = f
  · subst e
    rw [if_pos rfl, if_pos hd, rowQ_get hd]
    congr 2
    unfold cntQ
    rw [if_neg (fun k => by omega), if_pos ⟨by omega, hb⟩]
    omega
  · rw [if_neg e]
    by_cases hf : f < 6
    · rw [rowQ_get hf, rowQ_get hf]
      refine congrArg (fun n : Nat => some (LV.I (n : Int))) ?_
      unfold cntQ
      refine congrArg _ ?_
      by_cases h : p (cs.getD i default) f = true
      · by_cases hd : f < d
        · rw [if_pos ⟨hd, h⟩, if_pos ⟨by omega, h⟩]
        · rw [if_neg (fun k => hd k.1), if_neg (fun k => by omega)]
      · rw [if_neg (fun k => h k.2), if_neg (fun k => h k.2)]
    · rw [List.getElem?_eq_none (by rw [rowQ_len]; omega), List.getElem?_eq_none (by rw [rowQ_len]; omega)]
theorem rowQ_next (hi : i < cs.length) : rowQ p cs i 6 = rowQ p cs (i + 1) 0 := by
  unfold rowQ
  refine List.map_congr_left fun f hf => ?_
  have hf := List.mem_range.1 hf
  refine congrArg (fun n : Nat => LV.I (n : Int)) ?_
  unfold cntQ
  rw [List.take_succ, List.getElem?_eq_getElem hi, Option.toList_some, List.countP_append, List.countP_singleton]
  have e : cs.getD i default = cs[i] := by simp [hi]
  rw [e, if_neg (show ¬ (f < 0 ∧ p (cs.getD (i + 1) default) f = true) from fun k => by omega)]
  by_cases h : p cs[i] f = true
  · rw [if_pos ⟨hf, h⟩, if_pos h]
  · rw [if_neg (fun k => h k.2), if_neg h]
theorem rowQ_end : rowQ p cs cs.length 0 = (List.range 6).map fun (f : Nat) => LV.I ((cs.countP (fun c => p c f) : Nat) : Int) := by
  unfold rowQ
  refine List.map_congr_left fun f _ => congrArg (fun n : Nat => LV.I (n : Int)) ?_
  unfold cntQ
  rw [List.take_length, if_neg (fun k => by omega)]; rfl
end
/-- A face beyond which there is neither a cube nor a hidden cell. -/
def bareP (cs es : List Cell) (c : Cell) (f : Nat) : Bool := decide (nbC c f ∉ cs) && decide (nbC c f ∉ es)
def bareC (cs es : List Cell) (f : Nat) : Nat := cs.countP fun c => bareP cs es c f
theorem bareC_le {cs es : List Cell} {f : Nat} : bareC cs es f ≤ cs.length := List.countP_le_length
theorem bareC_nil {cs : List Cell} {f : Nat} : bareC cs [] f = faceN cs f := by
  unfold bareC faceN bareP
  congr 1
  funext c
  simp
theorem bareC_fil {x y z : Int} {cs : List Cell} (hH : HeapOK x y z cs) {f : Nat} (hf : f < 6) : bareC cs (pick x y z (closed x y z fun c => decide (c ∈ cs))) f = faceN (filL x y z cs) f := by
  rw [face_fil hH hf]
  unfold bareC bareP
  refine List.countP_congr fun c hc => ?_
  rw [Bool.and_eq_true, decide_eq_true_iff, decide_eq_true_iff, decide_eq_true_iff, mem_fil hH, mem_pick hH.1]
  exact ⟨fun h k => k.elim h.1 h.2, fun h => ⟨fun k => h (.inl k), fun k => h (.inr k)⟩⟩
theorem h_l6Bare {x y z : Int} {t u o : Nat} {w : Bool} {cs es : List Cell} {M : Mem} (h : Live M t (.row (triL cs) w 3)) (hH : HeapOK x y z cs) (he : Tri M u o es) (hel : es.length ≤ 1000000000) :
    CallsTo PG F.spec_l6Bare [.agg [.I x, .I y, .I z, .ref t 0 cs.length], .ref u o es.length] M (.agg [.I (bareC cs es 0 : Nat), .I (bareC cs es 1 : Nat), .I (bareC cs es 2 : Nat), .I (bareC cs es 3 : Nat), .I (bareC cs es 4 : Nat), .I (bareC cs es 5 : Nat)]) M := by
  have hlen := hH.len
  have hS := hH.1
  obtain ⟨⟨_, _⟩, ⟨_, _⟩, ⟨_, _⟩⟩ := id hS
  have hul := he.lt
  refine calls_run K.spec_l6Bare rfl ?_
  simp (disch := omega) only [C.spec_l6Bare, splice, ↓SXd, SXu, slBounds, ↓sop, ↓aop, ↓reduceIte, LV.cells, AOp.dst, LV.I, LV.B, LV.U, LV.S, LV.nil, Nat.reduceEqDiff, Nat.reduceAdd, Nat.reduceMul, Nat.reduceSub, Nat.reduceLeDiff, Nat.reduceBEq, Nat.reduceDiv, Nat.reduceMod, Int.reduceToNat, Int.reduceLT, Int.reduceLE, Int.reduceAdd, Int.reduceSub, Int.reduceMul, Int.reduceEq, Int.reduceNeg, reduceCtorEq, resV, resAll, ARes.ev, LV.flat, ite_true, ite_false, exists_eq_left', exists_eq_left, keyOf, implies_true, fillC, capOf]
  refine callK_of (h_l6Steps) ?_
  simp (disch := omega) only [splice, ↓SXd, SXu, slBounds, ↓sop, ↓aop, ↓reduceIte, LV.cells, AOp.dst, LV.I, LV.B, LV.U, LV.S, LV.nil, Nat.reduceEqDiff, Nat.reduceAdd, Nat.reduceMul, Nat.reduceSub, Nat.reduceLeDiff, Nat.reduceBEq, Nat.reduceDiv, Nat.reduceMod, Int.reduceToNat, Int.reduceLT, Int.reduceLE, Int.reduceAdd, Int.reduceSub, Int.reduceMul, Int.reduceEq, Int.reduceNeg, reduceCtorEq, resV, resAll, ARes.ev, LV.flat, ite_true, ite_false, exists_eq_left', exists_eq_left, keyOf, implies_true, fillC, capOf]
  refine callK_of (h_l2Made (by simp; omega)) ?_
  simp (disch := omega) only [splice, ↓SXd, SXu, slBounds, ↓sop, ↓aop, ↓reduceIte, LV.cells, AOp.dst, LV.I, LV.B, LV.U, LV.S, LV.nil, Nat.reduceEqDiff, Nat.reduceAdd, Nat.reduceMul, Nat.reduceSub, Nat.reduceLeDiff, Nat.reduceBEq, Nat.reduceDiv, Nat.reduceMod, Int.reduceToNat, Int.reduceLT, Int.reduceLE, Int.reduceAdd, Int.reduceSub, Int.reduceMul, Int.reduceEq, Int.reduceNeg, reduceCtorEq, resV, resAll, ARes.ev, LV.flat, ite_true, ite_false, exists_eq_left', exists_eq_left, keyOf, implies_true, fillC, capOf]
  refine ev_loop (fun m fr M' => ∃ i : Nat, i + m = cs.length ∧ Pre M M' ∧ M.length + 5 ≤ M'.length ∧ Live M' M.length (.row [.I x, .I y, .I z, .ref t 0 cs.length] true 0) ∧ Live M' (M.length + 1) (.row [.I 0, .I 0, .I 0, .I 0, .I 0, .I 0] true 0) ∧ Live M' (M.length + 2) (.row (rowQ (bareP cs es) cs i 0) true 0) ∧ Live M' (M.length + 3) (.row (triL steps) true 0) ∧ Live M' (M.length + 4) (.row [.I x, .I y, .I z, .ref u o es.length] true 0) ∧
    fr 2 = .ptr M.length 0 ∧ fr 4 = .ptr (M.length + 1) 0 ∧ fr 5 = .ptr (M.length + 2) 0 ∧ fr 6 = .ptr (M.length + 3) 0 ∧ fr 7 = .ptr (M.length + 4) 0 ∧ fr 8 = .I i) cs.length
    ⟨0, by omega, Pre.app _ _, by simp, Live.new, Live.newj rfl, Live.newj rfl, Live.newj rfl, Live.newj rfl, rfl, rfl, rfl, rfl, rfl, rfl⟩ ?_
  rintro m fr M' ⟨i, hi, hpre, hM', b1, b2, b3, b4, b5, f2, f4, f5, f6, f7, f8⟩
  simp (disch := omega) only [f2, f4, f5, f6, f7, f8, b1.cell, ↓SXd, SXu, slBounds, ↓sop, ↓aop, ↓reduceIte, LV.cells, AOp.dst, LV.I, LV.B, LV.U, LV.S, LV.nil, Nat.reduceEqDiff, Nat.reduceAdd, Nat.reduceMul, Nat.reduceSub, Nat.reduceLeDiff, Nat.reduceBEq, Nat.reduceDiv, Nat.reduceMod, Int.reduceToNat, Int.reduceLT, Int.reduceLE, Int.reduceAdd, Int.reduceSub, Int.reduceMul, Int.reduceEq, Int.reduceNeg, reduceCtorEq, resV, resAll, ARes.ev, LV.flat, ite_true, ite_false, exists_eq_left', exists_eq_left, keyOf, implies_true, fillC, capOf]
  refine condC_dec (fun hlt => ?_) (fun hlt => ?_)
  · have hil : i < cs.length := by omega
    have hci := hH.mem (getD_mem' (d := default) hil)
    have hrn := rowQ_next (p := bareP cs es) hil
    have hno := fun d => rowQ_no (p := bareP cs es) (cs := cs) (i := i) (d := d)
    have hyes := fun d => rowQ_yes (p := bareP cs es) (cs := cs) (i := i) (d := d)
    generalize hc : cs.getD i default = c at hci hno hyes
    obtain ⟨⟨_, _⟩, ⟨_, _⟩, ⟨_, _⟩⟩ := id hci
    simp (disch := omega) only [f2, f4, f5, f6, f7, f8, ↓SXd, SXu, slBounds, ↓sop, ↓aop, ↓reduceIte, LV.cells, AOp.dst, LV.I, LV.B, LV.U, LV.S, LV.nil, Nat.reduceEqDiff, Nat.reduceAdd, Nat.reduceMul, Nat.reduceSub, Nat.reduceLeDiff, Nat.reduceBEq, Nat.reduceDiv, Nat.reduceMod, Int.reduceToNat, Int.reduceLT, Int.reduceLE, Int.reduceAdd, Int.reduceSub, Int.reduceMul, Int.reduceEq, Int.reduceNeg, reduceCtorEq, resV, resAll, ARes.ev, LV.flat, ite_true, ite_false, exists_eq_left', exists_eq_left, keyOf, implies_true, fillC, capOf]
    refine ev_loop (fun m2 fr N => ∃ d : Nat, d + m2 = 6 ∧ Pre M N ∧ M.length + 5 ≤ N.length ∧ Live N M.length (.row [.I x, .I y, .I z, .ref t 0 cs.length] true 0) ∧ Live N (M.length + 1) (.row [.I 0, .I 0, .I 0, .I 0, .I 0, .I 0] true 0) ∧ Live N (M.length + 2) (.row (rowQ (bareP cs es) cs i d) true 0) ∧ Live N (M.length + 3) (.row (triL steps) true 0) ∧ Live N (M.length + 4) (.row [.I x, .I y, .I z, .ref u o es.length] true 0) ∧
      fr 2 = .ptr M.length 0 ∧ fr 4 = .ptr (M.length + 1) 0 ∧ fr 5 = .ptr (M.length + 2) 0 ∧ fr 6 = .ptr (M.length + 3) 0 ∧ fr 7 = .ptr (M.length + 4) 0 ∧ fr 8 = .I i ∧ fr 9 = .I d) 6
      ⟨0, rfl, hpre, hM', b1, b2, b3, b4, b5, f2, f4, f5, f6, f7, f8, rfl⟩ ?_
    clear f2 f4 f5 f6 f7 f8 b1 b2 b3 b4 b5 hpre hM'
    rintro m2 fr N ⟨d, hd, hpre, hN, b1, b2, b3, b4, b5, f2, f4, f5, f6, f7, f8, f9⟩
    simp (disch := omega) only [f2, f4, f5, f6, f7, f8, f9, ↓SXd, SXu, slBounds, ↓sop, ↓aop, ↓reduceIte, LV.cells, AOp.dst, LV.I, LV.B, LV.U, LV.S, LV.nil, Nat.reduceEqDiff, Nat.reduceAdd, Nat.reduceMul, Nat.reduceSub, Nat.reduceLeDiff, Nat.reduceBEq, Nat.reduceDiv, Nat.reduceMod, Int.reduceToNat, Int.reduceLT, Int.reduceLE, Int.reduceAdd, Int.reduceSub, Int.reduceMul, Int.reduceEq, Int.reduceNeg, reduceCtorEq, resV, resAll, ARes.ev, LV.flat, ite_true, ite_false, exists_eq_left', exists_eq_left, keyOf, implies_true, fillC, capOf]
    refine condC_dec (fun hlt2 => ?_) (fun hlt2 => ?_)
    · have hd6 : d < 6 := by omega
      have hg := (h.pre hpre).tri0 hil
      rw [hc] at hg
      have hst := steps_nbrs (c := c) hd6
      rw [nb_nbrs hd6] at hst
      have hsl := steps_le hd6
      obtain ⟨⟨_, _⟩, ⟨_, _⟩, ⟨_, _⟩⟩ := id hsl
      simp (disch := omega) only [f2, f4, f5, f6, f7, f8, f9, b1.cell, hg, (b4.step hd6), Cell.row, List.getElem?_append_left, Nat.mul_one, Nat.zero_add, ↓SXd, SXu, slBounds, ↓sop, ↓aop, ↓reduceIte, LV.cells, AOp.dst, LV.I, LV.B, LV.U, LV.S, LV.nil, Nat.reduceEqDiff, Nat.reduceAdd, Nat.reduceMul, Nat.reduceSub, Nat.reduceLeDiff, Nat.reduceBEq, Nat.reduceDiv, Nat.reduceMod, Int.reduceToNat, Int.reduceLT, Int.reduceLE, Int.reduceAdd, Int.reduceSub, Int.reduceMul, Int.reduceEq, Int.reduceNeg, reduceCtorEq, resV, resAll, ARes.ev, LV.flat, ite_true, ite_false, exists_eq_left', exists_eq_left, keyOf, implies_true, fillC, capOf]
      refine callK_of (h_l6Beside ⟨⟨by omega, by omega⟩, ⟨by omega, by omega⟩, ⟨by omega, by omega⟩, ⟨by omega, by omega⟩, ⟨by omega, by omega⟩, ⟨by omega, by omega⟩⟩) ?_
      simp (disch := omega) only [f2, f4, f5, f6, f7, f8, f9, splice, ↓SXd, SXu, slBounds, ↓sop, ↓aop, ↓reduceIte, LV.cells, AOp.dst, LV.I, LV.B, LV.U, LV.S, LV.nil, Nat.reduceEqDiff, Nat.reduceAdd, Nat.reduceMul, Nat.reduceSub, Nat.reduceLeDiff, Nat.reduceBEq, Nat.reduceDiv, Nat.reduceMod, Int.reduceToNat, Int.reduceLT, Int.reduceLE, Int.reduceAdd, Int.reduceSub, Int.reduceMul, Int.reduceEq, Int.reduceNeg, reduceCtorEq, resV, resAll, ARes.ev, LV.flat, ite_true, ite_false, exists_eq_left', exists_eq_left, keyOf, implies_true, fillC, capOf]
      generalize c.a + (steps.getD d default).a = ea at hst ⊢
      generalize c.b + (steps.getD d default).b = eb at hst ⊢
      generalize c.c + (steps.getD d default).c = ec at hst ⊢
      have e0 : Live (N ++ [some (.row [.I ea, .I eb, .I ec] true 0)]) N.length (.row [.I ea, .I eb, .I ec] true 0) := Live.new
      have hpN : Pre N (N ++ [some (.row [.I ea, .I eb, .I ec] true 0)]) := Pre.app _ _
      generalize N ++ [some (.row [.I ea, .I eb, .I ec] true 0)] = N1 at e0 hpN ⊢
      have hNl := hpN.1
      have c1 := b1.pre hpN
      have c2 := b2.pre hpN
      have c3 := b3.pre hpN
      have c4 := b4.pre hpN
      have c5 := b5.pre hpN
      have hpre1 := hpre.trans hpN
      simp (disch := omega) only [f2, f4, f5, f6, f7, f8, f9, c1.cells, e0.cells, ↓SXd, SXu, slBounds, ↓sop, ↓aop, ↓reduceIte, LV.cells, AOp.dst, LV.I, LV.B, LV.U, LV.S, LV.nil, Nat.reduceEqDiff, Nat.reduceAdd, Nat.reduceMul, Nat.reduceSub, Nat.reduceLeDiff, Nat.reduceBEq, Nat.reduceDiv, Nat.reduceMod, Int.reduceToNat, Int.reduceLT, Int.reduceLE, Int.reduceAdd, Int.reduceSub, Int.reduceMul, Int.reduceEq, Int.reduceNeg, reduceCtorEq, resV, resAll, ARes.ev, LV.flat, ite_true, ite_false, exists_eq_left', exists_eq_left, keyOf, implies_true, fillC, capOf]
      refine callK_of (h_l2Has (h.pre hpre1).has (by omega)) ?_
      rw [← hst]
      have skip : bareP cs es c d = false → ∃ m', m' < m2 ∧ ∃ d' : Nat, d' + m' = 6 ∧ Pre M N1 ∧ M.length + 5 ≤ N1.length ∧ Live N1 M.length (.row [.I x, .I y, .I z, .ref t 0 cs.length] true 0) ∧ Live N1 (M.length + 1) (.row [.I 0, .I 0, .I 0, .I 0, .I 0, .I 0] true 0) ∧ Live N1 (M.length + 2) (.row (rowQ (bareP cs es) cs i d') true 0) ∧ Live N1 (M.length + 3) (.row (triL steps) true 0) ∧ Live N1 (M.length + 4) (.row [.I x, .I y, .I z, .ref u o es.length] true 0) ∧
          fr 2 = .ptr M.length 0 ∧ fr 4 = .ptr (M.length + 1) 0 ∧ fr 5 = .ptr (M.length + 2) 0 ∧ fr 6 = .ptr (M.length + 3) 0 ∧ fr 7 = .ptr (M.length + 4) 0 ∧ fr 8 = .I i ∧ LV.I ((d : Int) + 1) = .I d' := fun hb => by
        rw [hno d hb] at c3
        exact ⟨m2 - 1, by omega, d + 1, by omega, hpre1, by omega, c1, c2, c3, c4, c5, f2, f4, f5, f6, f7, f8, eqI (natI _)⟩
      by_cases j1 : nbC c d ∈ cs
      · rw [decide_eq_true j1]
        simp (disch := omega) only [f2, f4, f5, f6, f7, f8, f9, ↓SXd, SXu, slBounds, ↓sop, ↓aop, ↓reduceIte, LV.cells, AOp.dst, LV.I, LV.B, LV.U, LV.S, LV.nil, Nat.reduceEqDiff, Nat.reduceAdd, Nat.reduceMul, Nat.reduceSub, Nat.reduceLeDiff, Nat.reduceBEq, Nat.reduceDiv, Nat.reduceMod, Int.reduceToNat, Int.reduceLT, Int.reduceLE, Int.reduceAdd, Int.reduceSub, Int.reduceMul, Int.reduceEq, Int.reduceNeg, reduceCtorEq, resV, resAll, ARes.ev, LV.flat, ite_true, ite_false, exists_eq_left', exists_eq_left, keyOf, implies_true, fillC, capOf]
        exact skip (by unfold bareP; rw [decide_eq_false (show ¬ nbC c d ∉ cs from fun k => k j1)]; rfl)
      rw [decide_eq_false j1]
      simp (disch := omega) only [f2, f4, f5, f6, f7, f8, f9, c5.cells, e0.cells, ↓SXd, SXu, slBounds, ↓sop, ↓aop, ↓reduceIte, LV.cells, AOp.dst, LV.I, LV.B, LV.U, LV.S, LV.nil, Nat.reduceEqDiff, Nat.reduceAdd, Nat.reduceMul, Nat.reduceSub, Nat.reduceLeDiff, Nat.reduceBEq, Nat.reduceDiv, Nat.reduceMod, Int.reduceToNat, Int.reduceLT, Int.reduceLE, Int.reduceAdd, Int.reduceSub, Int.reduceMul, Int.reduceEq, Int.reduceNeg, reduceCtorEq, resV, resAll, ARes.ev, LV.flat, ite_true, ite_false, exists_eq_left', exists_eq_left, keyOf, implies_true, fillC, capOf]
      refine callK_of (h_l2Has (he.pre hpre1) hel) ?_
      rw [← hst]
      by_cases j2 : nbC c d ∈ es
      · rw [decide_eq_true j2]
        simp (disch := omega) only [f2, f4, f5, f6, f7, f8, f9, ↓SXd, SXu, slBounds, ↓sop, ↓aop, ↓reduceIte, LV.cells, AOp.dst, LV.I, LV.B, LV.U, LV.S, LV.nil, Nat.reduceEqDiff, Nat.reduceAdd, Nat.reduceMul, Nat.reduceSub, Nat.reduceLeDiff, Nat.reduceBEq, Nat.reduceDiv, Nat.reduceMod, Int.reduceToNat, Int.reduceLT, Int.reduceLE, Int.reduceAdd, Int.reduceSub, Int.reduceMul, Int.reduceEq, Int.reduceNeg, reduceCtorEq, resV, resAll, ARes.ev, LV.flat, ite_true, ite_false, exists_eq_left', exists_eq_left, keyOf, implies_true, fillC, capOf]
        exact skip (by unfold bareP; rw [decide_eq_false (show ¬ nbC c d ∉ es from fun k => k j2), Bool.and_false])
      rw [decide_eq_false j2]
      have hb : bareP cs es c d = true := by unfold bareP; rw [decide_eq_true j1, decide_eq_true j2]; rfl
      have e3 := c3.cell (o := d)
      rw [rowQ_get hd6] at e3
      have hle := cntQ_le (p := bareP cs es) (cs := cs) (i := i) (d := d) (f := d)
      simp (disch := omega) only [f2, f4, f5, f6, f7, f8, f9, e3, Nat.mul_one, Nat.zero_add, ↓SXd, SXu, slBounds, ↓sop, ↓aop, ↓reduceIte, LV.cells, AOp.dst, LV.I, LV.B, LV.U, LV.S, LV.nil, Nat.reduceEqDiff, Nat.reduceAdd, Nat.reduceMul, Nat.reduceSub, Nat.reduceLeDiff, Nat.reduceBEq, Nat.reduceDiv, Nat.reduceMod, Int.reduceToNat, Int.reduceLT, Int.reduceLE, Int.reduceAdd, Int.reduceSub, Int.reduceMul, Int.reduceEq, Int.reduceNeg, reduceCtorEq, resV, resAll, ARes.ev, LV.flat, ite_true, ite_false, exists_eq_left', exists_eq_left, keyOf, implies_true, fillC, capOf]
      refine memK_at c3 (show d < (rowQ (bareP cs es) cs i d).length by rw [rowQ_len]; exact hd6) fun N2 k1 k2 k3 => ?_
      rw [hyes d hd6 hb] at k2
      simp (disch := omega) only [f2, f4, f5, f6, f7, f8, f9, ↓SXd, SXu, slBounds, ↓sop, ↓aop, ↓reduceIte, LV.cells, AOp.dst, LV.I, LV.B, LV.U, LV.S, LV.nil, Nat.reduceEqDiff, Nat.reduceAdd, Nat.reduceMul, Nat.reduceSub, Nat.reduceLeDiff, Nat.reduceBEq, Nat.reduceDiv, Nat.reduceMod, Int.reduceToNat, Int.reduceLT, Int.reduceLE, Int.reduceAdd, Int.reduceSub, Int.reduceMul, Int.reduceEq, Int.reduceNeg, reduceCtorEq, resV, resAll, ARes.ev, LV.flat, ite_true, ite_false, exists_eq_left', exists_eq_left, keyOf, implies_true, fillC, capOf]
      exact ⟨m2 - 1, by omega, d + 1, by omega, pre_step hpre1 (by omega) (j := 0) k1 k3, by omega, live_step c1 (by omega) k3, live_step c2 (by omega) k3, k2, live_step c4 (by omega) k3, live_step c5 (by omega) k3, f2, f4, f5, f6, f7, f8, eqI (natI _)⟩
    · have hd6 : d = 6 := by omega
      subst hd6
      rw [hrn] at b3
      simp (disch := omega) only [f2, f4, f5, f6, f7, f8, f9, ↓SXd, SXu, slBounds, ↓sop, ↓aop, ↓reduceIte, LV.cells, AOp.dst, LV.I, LV.B, LV.U, LV.S, LV.nil, Nat.reduceEqDiff, Nat.reduceAdd, Nat.reduceMul, Nat.reduceSub, Nat.reduceLeDiff, Nat.reduceBEq, Nat.reduceDiv, Nat.reduceMod, Int.reduceToNat, Int.reduceLT, Int.reduceLE, Int.reduceAdd, Int.reduceSub, Int.reduceMul, Int.reduceEq, Int.reduceNeg, reduceCtorEq, resV, resAll, ARes.ev, LV.flat, ite_true, ite_false, exists_eq_left', exists_eq_left, keyOf, implies_true, fillC, capOf]
      exact ⟨m - 1, by omega, i + 1, by omega, hpre, by omega, b1, b2, b3, b4, b5, f2, f4, f5, f6, f7, eqI (natI _)⟩
  · have hil : i = cs.length := by omega
    subst hil
    rw [rowQ_end] at b3
    have b3' : Live M' (M.length + 2) (.row [.I (bareC cs es 0 : Nat), .I (bareC cs es 1 : Nat), .I (bareC cs es 2 : Nat), .I (bareC cs es 3 : Nat), .I (bareC cs es 4 : Nat), .I (bareC cs es 5 : Nat)] true 0) := b3
    simp (disch := omega) only [f2, f4, f5, f6, f7, f8, b3'.cells, ↓SXd, SXu, slBounds, ↓sop, ↓aop, ↓reduceIte, LV.cells, AOp.dst, LV.I, LV.B, LV.U, LV.S, LV.nil, Nat.reduceEqDiff, Nat.reduceAdd, Nat.reduceMul, Nat.reduceSub, Nat.reduceLeDiff, Nat.reduceBEq, Nat.reduceDiv, Nat.reduceMod, Int.reduceToNat, Int.reduceLT, Int.reduceLE, Int.reduceAdd, Int.reduceSub, Int.reduceMul, Int.reduceEq, Int.reduceNeg, reduceCtorEq, resV, resAll, ARes.ev, LV.flat, ite_true, ite_false, exists_eq_left', exists_eq_left, keyOf, implies_true, fillC, capOf]
    refine memK_box b2 (by simp) fun N1 k1 k2 k3 => ?_
    simp (disch := omega) only [f2, f4, f5, f6, f7, f8, k2.cells, ↓SXd, SXu, slBounds, ↓sop, ↓aop, ↓reduceIte, LV.cells, AOp.dst, LV.I, LV.B, LV.U, LV.S, LV.nil, Nat.reduceEqDiff, Nat.reduceAdd, Nat.reduceMul, Nat.reduceSub, Nat.reduceLeDiff, Nat.reduceBEq, Nat.reduceDiv, Nat.reduceMod, Int.reduceToNat, Int.reduceLT, Int.reduceLE, Int.reduceAdd, Int.reduceSub, Int.reduceMul, Int.reduceEq, Int.reduceNeg, reduceCtorEq, resV, resAll, ARes.ev, LV.flat, ite_true, ite_false, exists_eq_left', exists_eq_left, keyOf, implies_true, fillC, capOf]
    exact cmp_pre (pre_step hpre (by omega) (j := 0) k1 k3) rfl
theorem h_l6Sum {n0 n1 n2 n3 n4 n5 : Nat} {M : Mem} (l0 : n0 ≤ 100) (l1 : n1 ≤ 100) (l2 : n2 ≤ 100) (l3 : n3 ≤ 100) (l4 : n4 ≤ 100) (l5 : n5 ≤ 100) : CallsTo PG F.spec_l6Sum [.agg [.I n0, .I n1, .I n2, .I n3, .I n4, .I n5]] M (.I ((n0 + (n1 + (n2 + (n3 + (n4 + (n5 + 0))))) : Nat) : Int)) M := by
  refine calls_run K.spec_l6Sum rfl ?_
  simp (disch := omega) only [C.spec_l6Sum, ↓SXd, SXu, slBounds, ↓sop, ↓aop, ↓reduceIte, LV.cells, AOp.dst, LV.I, LV.B, LV.U, LV.S, LV.nil, Nat.reduceEqDiff, Nat.reduceAdd, Nat.reduceMul, Nat.reduceSub, Nat.reduceLeDiff, Nat.reduceBEq, Nat.reduceDiv, Nat.reduceMod, Int.reduceToNat, Int.reduceLT, Int.reduceLE, Int.reduceAdd, Int.reduceSub, Int.reduceMul, Int.reduceEq, Int.reduceNeg, reduceCtorEq, resV, resAll, ARes.ev, LV.flat, ite_true, ite_false, exists_eq_left', exists_eq_left, keyOf, implies_true, fillC, capOf]
  refine ev_loop (fun m fr M' => ∃ d : Nat, d + m = 6 ∧ M' = M ++ [some (.row [.I n0, .I n1, .I n2, .I n3, .I n4, .I n5] true 0)] ∧ fr 1 = .ptr M.length 0 ∧ fr 3 = .I ((([n0, n1, n2, n3, n4, n5].take d).sum : Nat) : Int) ∧ fr 4 = .I d) 6
    ⟨0, rfl, rfl, rfl, rfl, rfl⟩ ?_
  rintro m fr M' ⟨d, hd, rfl, f1, f3, f4⟩
  simp (disch := omega) only [f1, f3, f4, ↓SXd, SXu, slBounds, ↓sop, ↓aop, ↓reduceIte, LV.cells, AOp.dst, LV.I, LV.B, LV.U, LV.S, LV.nil, Nat.reduceEqDiff, Nat.reduceAdd, Nat.reduceMul, Nat.reduceSub, Nat.reduceLeDiff, Nat.reduceBEq, Nat.reduceDiv, Nat.reduceMod, Int.reduceToNat, Int.reduceLT, Int.reduceLE, Int.reduceAdd, Int.reduceSub, Int.reduceMul, Int.reduceEq, Int.reduceNeg, reduceCtorEq, resV, resAll, ARes.ev, LV.flat, ite_true, ite_false, exists_eq_left', exists_eq_left, keyOf, implies_true, fillC, capOf]
  refine condC_dec (fun hlt => ?_) (fun hlt => ?_)
  · have hd6 : d < 6 := by omega
    have b1 : Live (M ++ [some (.row [.I n0, .I n1, .I n2, .I n3, .I n4, .I n5] true 0)]) M.length (.row [.I n0, .I n1, .I n2, .I n3, .I n4, .I n5] true 0) := Live.new
    have e0 := b1.cell (o := d)
    rw [show [LV.I n0, .I n1, .I n2, .I n3, .I n4, .I n5][d]? = some (.I (([n0, n1, n2, n3, n4, n5].getD d 0 : Nat) : Int)) from by
      rcases (show d = 0 ∨ d = 1 ∨ d = 2 ∨ d = 3 ∨ d = 4 ∨ d = 5 by omega) with rfl | rfl | rfl | rfl | rfl | rfl <;> rfl] at e0
    have e1 : ([n0, n1, n2, n3, n4, n5].take (d + 1)).sum = ([n0, n1, n2, n3, n4, n5].take d).sum + [n0, n1, n2, n3, n4, n5].getD d 0 ∧ ([n0, n1, n2, n3, n4, n5].take (d + 1)).sum ≤ 1000 := by
      rcases (show d = 0 ∨ d = 1 ∨ d = 2 ∨ d = 3 ∨ d = 4 ∨ d = 5 by omega) with rfl | rfl | rfl | rfl | rfl | rfl <;> simp <;> omega
    generalize [n0, n1, n2, n3, n4, n5].getD d 0 = nd at e0 e1
    simp (disch := omega) only [f1, f3, f4, e0, Nat.mul_one, Nat.zero_add, ↓SXd, SXu, slBounds, ↓sop, ↓aop, ↓reduceIte, LV.cells, AOp.dst, LV.I, LV.B, LV.U, LV.S, LV.nil, Nat.reduceEqDiff, Nat.reduceAdd, Nat.reduceMul, Nat.reduceSub, Nat.reduceLeDiff, Nat.reduceBEq, Nat.reduceDiv, Nat.reduceMod, Int.reduceToNat, Int.reduceLT, Int.reduceLE, Int.reduceAdd, Int.reduceSub, Int.reduceMul, Int.reduceEq, Int.reduceNeg, reduceCtorEq, resV, resAll, ARes.ev, LV.flat, ite_true, ite_false, exists_eq_left', exists_eq_left, keyOf, implies_true, fillC, capOf]
    exact ⟨m - 1, by omega, d + 1, by omega, rfl, f1, eqI (by omega), eqI (natI _)⟩
  · have hd6 : d = 6 := by omega
    subst hd6
    simp (disch := omega) only [f1, f3, f4, ↓SXd, SXu, slBounds, ↓sop, ↓aop, ↓reduceIte, LV.cells, AOp.dst, LV.I, LV.B, LV.U, LV.S, LV.nil, Nat.reduceEqDiff, Nat.reduceAdd, Nat.reduceMul, Nat.reduceSub, Nat.reduceLeDiff, Nat.reduceBEq, Nat.reduceDiv, Nat.reduceMod, Int.reduceToNat, Int.reduceLT, Int.reduceLE, Int.reduceAdd, Int.reduceSub, Int.reduceMul, Int.reduceEq, Int.reduceNeg, reduceCtorEq, resV, resAll, ARes.ev, LV.flat, ite_true, ite_false, exists_eq_left', exists_eq_left, keyOf, implies_true, fillC, capOf]
    exact cmp_drop rfl
section
variable {x y z : Int} {t : Nat} {w : Bool} {cs : List Cell} {M : Mem} (h : Live M t (.row (triL cs) w 3)) (hn : cs.length ≤ 1000000000)
include h hn
def faceV (cs : List Cell) : List LV := [.I (faceN cs 0 : Nat), .I (faceN cs 1 : Nat), .I (faceN cs 2 : Nat), .I (faceN cs 3 : Nat), .I (faceN cs 4 : Nat), .I (faceN cs 5 : Nat)]
theorem h_sBareFaces : CallsTo PG F.spec_BareFaces [.agg [.I x, .I y, .I z, .ref t 0 cs.length]] M (.tup [.agg (if HeapOK x y z cs then [.I (faceN cs 0 : Nat), .I (faceN cs 1 : Nat), .I (faceN cs 2 : Nat), .I (faceN cs 3 : Nat), .I (faceN cs 4 : Nat), .I (faceN cs 5 : Nat)] else [.I 0, .I 0, .I 0, .I 0, .I 0, .I 0]), .B (decide (HeapOK x y z cs))]) M := by
  refine calls_run K.spec_BareFaces rfl ?_
  simp (disch := omega) only [C.spec_BareFaces, ↓SXd, SXu, slBounds, ↓sop, ↓aop, ↓reduceIte, LV.cells, AOp.dst, LV.I, LV.B, LV.U, LV.S, LV.nil, Nat.reduceEqDiff, Nat.reduceAdd, Nat.reduceMul, Nat.reduceSub, Nat.reduceLeDiff, Nat.reduceBEq, Nat.reduceDiv, Nat.reduceMod, Int.reduceToNat, Int.reduceLT, Int.reduceLE, Int.reduceAdd, Int.reduceSub, Int.reduceMul, Int.reduceEq, Int.reduceNeg, reduceCtorEq, resV, resAll, ARes.ev, LV.flat, ite_true, ite_false, exists_eq_left', exists_eq_left, keyOf, implies_true, fillC, capOf]
  refine callK_of (h_l2Heap (Has.app h.has) hn) ?_
  simp (disch := omega) only [↓SXd, SXu, slBounds, ↓sop, ↓aop, ↓reduceIte, LV.cells, AOp.dst, LV.I, LV.B, LV.U, LV.S, LV.nil, Nat.reduceEqDiff, Nat.reduceAdd, Nat.reduceMul, Nat.reduceSub, Nat.reduceLeDiff, Nat.reduceBEq, Nat.reduceDiv, Nat.reduceMod, Int.reduceToNat, Int.reduceLT, Int.reduceLE, Int.reduceAdd, Int.reduceSub, Int.reduceMul, Int.reduceEq, Int.reduceNeg, reduceCtorEq, resV, resAll, ARes.ev, LV.flat, ite_true, ite_false, exists_eq_left', exists_eq_left, keyOf, implies_true, fillC, capOf]
  by_cases hH : HeapOK x y z cs
  rotate_left
  · rw [if_neg hH]
    simp (disch := omega) only [hH, splice, ↓SXd, SXu, slBounds, ↓sop, ↓aop, ↓reduceIte, LV.cells, AOp.dst, LV.I, LV.B, LV.U, LV.S, LV.nil, Nat.reduceEqDiff, Nat.reduceAdd, Nat.reduceMul, Nat.reduceSub, Nat.reduceLeDiff, Nat.reduceBEq, Nat.reduceDiv, Nat.reduceMod, Int.reduceToNat, Int.reduceLT, Int.reduceLE, Int.reduceAdd, Int.reduceSub, Int.reduceMul, Int.reduceEq, Int.reduceNeg, reduceCtorEq, resV, resAll, ARes.ev, LV.flat, ite_true, ite_false, exists_eq_left', exists_eq_left, keyOf, implies_true, fillC, capOf]
    exact cmp_drop rfl
  rw [if_pos hH]
  have hnil : Tri (M ++ [some (.row [.I x, .I y, .I z, .ref t 0 cs.length] true 0), some (.row [.I 0, .I 0, .I 0, .I 0, .I 0, .I 0] true 0), some (.row [] true 3)]) (M.length + 2) 0 [] := (Live.newj (j := 2) rfl : Live _ _ (.row [] true 3)).has
  simp (disch := omega) only [hH, ↓SXd, SXu, slBounds, ↓sop, ↓aop, ↓reduceIte, LV.cells, AOp.dst, LV.I, LV.B, LV.U, LV.S, LV.nil, Nat.reduceEqDiff, Nat.reduceAdd, Nat.reduceMul, Nat.reduceSub, Nat.reduceLeDiff, Nat.reduceBEq, Nat.reduceDiv, Nat.reduceMod, Int.reduceToNat, Int.reduceLT, Int.reduceLE, Int.reduceAdd, Int.reduceSub, Int.reduceMul, Int.reduceEq, Int.reduceNeg, reduceCtorEq, resV, resAll, ARes.ev, LV.flat, ite_true, ite_false, exists_eq_left', exists_eq_left, keyOf, implies_true, fillC, capOf]
  have hb := h_l6Bare (es := []) (h.app (L := [some (.row [.I x, .I y, .I z, .ref t 0 cs.length] true 0), some (.row [.I 0, .I 0, .I 0, .I 0, .I 0, .I 0] true 0), some (.row [] true 3)])) hH hnil (by simp)
  simp only [bareC_nil] at hb
  refine callK_of (hb) ?_
  simp (disch := omega) only [splice, ↓SXd, SXu, slBounds, ↓sop, ↓aop, ↓reduceIte, LV.cells, AOp.dst, LV.I, LV.B, LV.U, LV.S, LV.nil, Nat.reduceEqDiff, Nat.reduceAdd, Nat.reduceMul, Nat.reduceSub, Nat.reduceLeDiff, Nat.reduceBEq, Nat.reduceDiv, Nat.reduceMod, Int.reduceToNat, Int.reduceLT, Int.reduceLE, Int.reduceAdd, Int.reduceSub, Int.reduceMul, Int.reduceEq, Int.reduceNeg, reduceCtorEq, resV, resAll, ARes.ev, LV.flat, ite_true, ite_false, exists_eq_left', exists_eq_left, keyOf, implies_true, fillC, capOf]
  exact cmp_drop rfl
theorem h_sSurfaceOf : CallsTo PG F.spec_SurfaceOf [.agg [.I x, .I y, .I z, .ref t 0 cs.length]] M (.tup [.I ((if HeapOK x y z cs then surfN cs else 0 : Nat) : Int), .B (decide (HeapOK x y z cs))]) M := by
  refine calls_run K.spec_SurfaceOf rfl ?_
  simp (disch := omega) only [C.spec_SurfaceOf, ↓SXd, SXu, slBounds, ↓sop, ↓aop, ↓reduceIte, LV.cells, AOp.dst, LV.I, LV.B, LV.U, LV.S, LV.nil, Nat.reduceEqDiff, Nat.reduceAdd, Nat.reduceMul, Nat.reduceSub, Nat.reduceLeDiff, Nat.reduceBEq, Nat.reduceDiv, Nat.reduceMod, Int.reduceToNat, Int.reduceLT, Int.reduceLE, Int.reduceAdd, Int.reduceSub, Int.reduceMul, Int.reduceEq, Int.reduceNeg, reduceCtorEq, resV, resAll, ARes.ev, LV.flat, ite_true, ite_false, exists_eq_left', exists_eq_left, keyOf, implies_true, fillC, capOf]
  refine callK_of (h_l2Heap (Has.app h.has) hn) ?_
  simp (disch := omega) only [↓SXd, SXu, slBounds, ↓sop, ↓aop, ↓reduceIte, LV.cells, AOp.dst, LV.I, LV.B, LV.U, LV.S, LV.nil, Nat.reduceEqDiff, Nat.reduceAdd, Nat.reduceMul, Nat.reduceSub, Nat.reduceLeDiff, Nat.reduceBEq, Nat.reduceDiv, Nat.reduceMod, Int.reduceToNat, Int.reduceLT, Int.reduceLE, Int.reduceAdd, Int.reduceSub, Int.reduceMul, Int.reduceEq, Int.reduceNeg, reduceCtorEq, resV, resAll, ARes.ev, LV.flat, ite_true, ite_false, exists_eq_left', exists_eq_left, keyOf, implies_true, fillC, capOf]
  by_cases hH : HeapOK x y z cs
  rotate_left
  · rw [if_neg hH]
    simp (disch := omega) only [hH, ↓SXd, SXu, slBounds, ↓sop, ↓aop, ↓reduceIte, LV.cells, AOp.dst, LV.I, LV.B, LV.U, LV.S, LV.nil, Nat.reduceEqDiff, Nat.reduceAdd, Nat.reduceMul, Nat.reduceSub, Nat.reduceLeDiff, Nat.reduceBEq, Nat.reduceDiv, Nat.reduceMod, Int.reduceToNat, Int.reduceLT, Int.reduceLE, Int.reduceAdd, Int.reduceSub, Int.reduceMul, Int.reduceEq, Int.reduceNeg, reduceCtorEq, resV, resAll, ARes.ev, LV.flat, ite_true, ite_false, exists_eq_left', exists_eq_left, keyOf, implies_true, fillC, capOf]
    exact cmp_drop rfl
  rw [if_pos hH]
  have hlen := hH.len
  have hnil : Tri (M ++ [some (.row [.I x, .I y, .I z, .ref t 0 cs.length] true 0), some (.row [] true 3)]) (M.length + 1) 0 [] := (Live.newj (j := 1) rfl : Live _ _ (.row [] true 3)).has
  have l : ∀ f, faceN cs f ≤ 100 := fun f => Nat.le_trans List.countP_le_length (by omega)
  simp (disch := omega) only [hH, ↓SXd, SXu, slBounds, ↓sop, ↓aop, ↓reduceIte, LV.cells, AOp.dst, LV.I, LV.B, LV.U, LV.S, LV.nil, Nat.reduceEqDiff, Nat.reduceAdd, Nat.reduceMul, Nat.reduceSub, Nat.reduceLeDiff, Nat.reduceBEq, Nat.reduceDiv, Nat.reduceMod, Int.reduceToNat, Int.reduceLT, Int.reduceLE, Int.reduceAdd, Int.reduceSub, Int.reduceMul, Int.reduceEq, Int.reduceNeg, reduceCtorEq, resV, resAll, ARes.ev, LV.flat, ite_true, ite_false, exists_eq_left', exists_eq_left, keyOf, implies_true, fillC, capOf]
  have hb := h_l6Bare (es := []) (h.app (L := [some (.row [.I x, .I y, .I z, .ref t 0 cs.length] true 0), some (.row [] true 3)])) hH hnil (by simp)
  simp only [bareC_nil] at hb
  refine callK_of (hb) ?_
  simp (disch := omega) only [↓SXd, SXu, slBounds, ↓sop, ↓aop, ↓reduceIte, LV.cells, AOp.dst, LV.I, LV.B, LV.U, LV.S, LV.nil, Nat.reduceEqDiff, Nat.reduceAdd, Nat.reduceMul, Nat.reduceSub, Nat.reduceLeDiff, Nat.reduceBEq, Nat.reduceDiv, Nat.reduceMod, Int.reduceToNat, Int.reduceLT, Int.reduceLE, Int.reduceAdd, Int.reduceSub, Int.reduceMul, Int.reduceEq, Int.reduceNeg, reduceCtorEq, resV, resAll, ARes.ev, LV.flat, ite_true, ite_false, exists_eq_left', exists_eq_left, keyOf, implies_true, fillC, capOf]
  refine callK_of (h_l6Sum (l 0) (l 1) (l 2) (l 3) (l 4) (l 5)) ?_
  simp (disch := omega) only [↓SXd, SXu, slBounds, ↓sop, ↓aop, ↓reduceIte, LV.cells, AOp.dst, LV.I, LV.B, LV.U, LV.S, LV.nil, Nat.reduceEqDiff, Nat.reduceAdd, Nat.reduceMul, Nat.reduceSub, Nat.reduceLeDiff, Nat.reduceBEq, Nat.reduceDiv, Nat.reduceMod, Int.reduceToNat, Int.reduceLT, Int.reduceLE, Int.reduceAdd, Int.reduceSub, Int.reduceMul, Int.reduceEq, Int.reduceNeg, reduceCtorEq, resV, resAll, ARes.ev, LV.flat, ite_true, ite_false, exists_eq_left', exists_eq_left, keyOf, implies_true, fillC, capOf]
  exact cmp_drop rfl
theorem h_sOutsideFaces : CallsTo PG F.spec_OutsideFaces [.agg [.I x, .I y, .I z, .ref t 0 cs.length]] M (.tup [.I ((if HeapOK x y z cs then surfN (filL x y z cs) else 0 : Nat) : Int), .B (decide (HeapOK x y z cs))]) M := by
  refine calls_run K.spec_OutsideFaces rfl ?_
  simp (disch := omega) only [C.spec_OutsideFaces, ↓SXd, SXu, slBounds, ↓sop, ↓aop, ↓reduceIte, LV.cells, AOp.dst, LV.I, LV.B, LV.U, LV.S, LV.nil, Nat.reduceEqDiff, Nat.reduceAdd, Nat.reduceMul, Nat.reduceSub, Nat.reduceLeDiff, Nat.reduceBEq, Nat.reduceDiv, Nat.reduceMod, Int.reduceToNat, Int.reduceLT, Int.reduceLE, Int.reduceAdd, Int.reduceSub, Int.reduceMul, Int.reduceEq, Int.reduceNeg, reduceCtorEq, resV, resAll, ARes.ev, LV.flat, ite_true, ite_false, exists_eq_left', exists_eq_left, keyOf, implies_true, fillC, capOf]
  refine callK_of (h_l2Heap (Has.app h.has) hn) ?_
  simp (disch := omega) only [↓SXd, SXu, slBounds, ↓sop, ↓aop, ↓reduceIte, LV.cells, AOp.dst, LV.I, LV.B, LV.U, LV.S, LV.nil, Nat.reduceEqDiff, Nat.reduceAdd, Nat.reduceMul, Nat.reduceSub, Nat.reduceLeDiff, Nat.reduceBEq, Nat.reduceDiv, Nat.reduceMod, Int.reduceToNat, Int.reduceLT, Int.reduceLE, Int.reduceAdd, Int.reduceSub, Int.reduceMul, Int.reduceEq, Int.reduceNeg, reduceCtorEq, resV, resAll, ARes.ev, LV.flat, ite_true, ite_false, exists_eq_left', exists_eq_left, keyOf, implies_true, fillC, capOf]
  by_cases hH : HeapOK x y z cs
  rotate_left
  · rw [if_neg hH]
    simp (disch := omega) only [hH, ↓SXd, SXu, slBounds, ↓sop, ↓aop, ↓reduceIte, LV.cells, AOp.dst, LV.I, LV.B, LV.U, LV.S, LV.nil, Nat.reduceEqDiff, Nat.reduceAdd, Nat.reduceMul, Nat.reduceSub, Nat.reduceLeDiff, Nat.reduceBEq, Nat.reduceDiv, Nat.reduceMod, Int.reduceToNat, Int.reduceLT, Int.reduceLE, Int.reduceAdd, Int.reduceSub, Int.reduceMul, Int.reduceEq, Int.reduceNeg, reduceCtorEq, resV, resAll, ARes.ev, LV.flat, ite_true, ite_false, exists_eq_left', exists_eq_left, keyOf, implies_true, fillC, capOf]
    exact cmp_drop rfl
  rw [if_pos hH]
  have hlen := hH.len
  have l : ∀ f, bareC cs (pick x y z (closed x y z fun c => decide (c ∈ cs))) f ≤ 100 := fun f => Nat.le_trans bareC_le (by omega)
  have hpl := pick_len hH.1 (closed x y z fun c => decide (c ∈ cs))
  have hsum : surfN (filL x y z cs) = bareC cs (pick x y z (closed x y z fun c => decide (c ∈ cs))) 0 + (bareC cs (pick x y z (closed x y z fun c => decide (c ∈ cs))) 1 + (bareC cs (pick x y z (closed x y z fun c => decide (c ∈ cs))) 2 + (bareC cs (pick x y z (closed x y z fun c => decide (c ∈ cs))) 3 + (bareC cs (pick x y z (closed x y z fun c => decide (c ∈ cs))) 4 + (bareC cs (pick x y z (closed x y z fun c => decide (c ∈ cs))) 5 + 0))))) := by
    rw [bareC_fil hH (by omega), bareC_fil hH (by omega), bareC_fil hH (by omega), bareC_fil hH (by omega), bareC_fil hH (by omega), bareC_fil hH (by omega)]; rfl
  rw [hsum]
  simp (disch := omega) only [hH, ↓SXd, SXu, slBounds, ↓sop, ↓aop, ↓reduceIte, LV.cells, AOp.dst, LV.I, LV.B, LV.U, LV.S, LV.nil, Nat.reduceEqDiff, Nat.reduceAdd, Nat.reduceMul, Nat.reduceSub, Nat.reduceLeDiff, Nat.reduceBEq, Nat.reduceDiv, Nat.reduceMod, Int.reduceToNat, Int.reduceLT, Int.reduceLE, Int.reduceAdd, Int.reduceSub, Int.reduceMul, Int.reduceEq, Int.reduceNeg, reduceCtorEq, resV, resAll, ARes.ev, LV.flat, ite_true, ite_false, exists_eq_left', exists_eq_left, keyOf, implies_true, fillC, capOf]
  refine callK_of (h_l6Enclosed (h.app (L := [some (.row [.I x, .I y, .I z, .ref t 0 cs.length] true 0)])) hH) ?_
  generalize pick x y z (closed x y z fun c => decide (c ∈ cs)) = es at l hpl ⊢
  simp (disch := omega) only [↓SXd, SXu, slBounds, ↓sop, ↓aop, ↓reduceIte, LV.cells, AOp.dst, LV.I, LV.B, LV.U, LV.S, LV.nil, Nat.reduceEqDiff, Nat.reduceAdd, Nat.reduceMul, Nat.reduceSub, Nat.reduceLeDiff, Nat.reduceBEq, Nat.reduceDiv, Nat.reduceMod, Int.reduceToNat, Int.reduceLT, Int.reduceLE, Int.reduceAdd, Int.reduceSub, Int.reduceMul, Int.reduceEq, Int.reduceNeg, reduceCtorEq, resV, resAll, ARes.ev, LV.flat, ite_true, ite_false, exists_eq_left', exists_eq_left, keyOf, implies_true, fillC, capOf]
  have he : Tri (M ++ [some (.row [.I x, .I y, .I z, .ref t 0 cs.length] true 0), some (.row (triL es) true 3)]) (M.length + 1) 0 es := (Live.newj (j := 1) rfl).has
  refine callK_of (h_l6Bare h.app hH he (by omega)) ?_
  simp (disch := omega) only [↓SXd, SXu, slBounds, ↓sop, ↓aop, ↓reduceIte, LV.cells, AOp.dst, LV.I, LV.B, LV.U, LV.S, LV.nil, Nat.reduceEqDiff, Nat.reduceAdd, Nat.reduceMul, Nat.reduceSub, Nat.reduceLeDiff, Nat.reduceBEq, Nat.reduceDiv, Nat.reduceMod, Int.reduceToNat, Int.reduceLT, Int.reduceLE, Int.reduceAdd, Int.reduceSub, Int.reduceMul, Int.reduceEq, Int.reduceNeg, reduceCtorEq, resV, resAll, ARes.ev, LV.flat, ite_true, ite_false, exists_eq_left', exists_eq_left, keyOf, implies_true, fillC, capOf]
  refine callK_of (h_l6Sum (l 0) (l 1) (l 2) (l 3) (l 4) (l 5)) ?_
  simp (disch := omega) only [↓SXd, SXu, slBounds, ↓sop, ↓aop, ↓reduceIte, LV.cells, AOp.dst, LV.I, LV.B, LV.U, LV.S, LV.nil, Nat.reduceEqDiff, Nat.reduceAdd, Nat.reduceMul, Nat.reduceSub, Nat.reduceLeDiff, Nat.reduceBEq, Nat.reduceDiv, Nat.reduceMod, Int.reduceToNat, Int.reduceLT, Int.reduceLE, Int.reduceAdd, Int.reduceSub, Int.reduceMul, Int.reduceEq, Int.reduceNeg, reduceCtorEq, resV, resAll, ARes.ev, LV.flat, ite_true, ite_false, exists_eq_left', exists_eq_left, keyOf, implies_true, fillC, capOf]
  exact cmp_drop rfl
end
end Go.Ab

/- The abstract code of some functions (written by a program of mine from the translation, by way of prepF). -/
namespace Go.Ab.C
open Go.Ab
def impl_beyond : AFn :=
 ⟨2, 16, [.cellN 4 3],
 .seq (.ops [(none, .box 2 (.t 0)),
 (none, .alloc 4 [(.I 0), (.I 0), (.I 0)])])
 (.seq (.ops [(none, .mv 5 (.t 1)),
 (none, .bin 6 .quo (.t 5) (.c (.I 2))),
 (none, .idxA 7 3 1 (.t 2) (.t 6)),
 (none, .load1 8 (.t 7)),
 (none, .mv 9 (.t 1)),
 (none, .bin 10 .rem (.t 9) (.c (.I 2))),
 (none, .bin 11 .mul (.c (.I 2)) (.t 10)),
 (none, .bin 12 .sub (.t 11) (.c (.I 1))),
 (none, .bin 13 .add (.t 8) (.t 12)),
 (none, .idxA 14 3 1 (.t 2) (.t 6)),
 (none, .store 1 (.t 14) (.t 13))])
 (.seq (.ops [(none, .loadN 15 3 (.t 2)),
 (none, .store 3 (.t 4) (.t 15))])
 (.ret)))⟩
def impl_Heap_isBare : AFn :=
 ⟨2, 16, [.tmp 4],
 .seq (.ops [(none, .box 2 (.t 0)),
 (none, .box 3 (.t 1)),
 (none, .mv 4 (.c (.B false)))])
 (.seq (.draw [⟨(none, .loadN 5 4 (.t 2)), [], []⟩,
 ⟨(none, .loadN 7 3 (.t 3)), [], []⟩,
 ⟨(none, .call (some 6) F.impl_Heap_box [(.t 5)]), [], [1]⟩,
 ⟨(none, .call (some 8) F.impl_box_has [(.t 6), (.t 7)]), [], []⟩,
 ⟨(none, .un 9 .not (.t 8)), [], []⟩,
 ⟨(none, .mv 10 (.t 9)), [], []⟩,
 ⟨(some (10, false), .loadN 11 4 (.t 2)), [], []⟩,
 ⟨(some (10, false), .loadN 12 3 (.t 3)), [], []⟩,
 ⟨(some (10, false), .call (some 13) F.impl_Heap_hasCube [(.t 11), (.t 12)]), [], []⟩,
 ⟨(some (10, false), .un 14 .not (.t 13)), [], []⟩,
 ⟨(none, .pick 15 (.t 10) (.c (.B true)) (.t 14)), [], []⟩,
 ⟨(none, .mv 4 (.t 15)), [], []⟩])
 (.ret))⟩
def impl_Heap_bareFaces : AFn :=
 ⟨1, 31, [.cellN 2 6],
 .seq (.ops [(none, .box 1 (.t 0)),
 (none, .alloc 2 [(.I 0), (.I 0), (.I 0), (.I 0), (.I 0), (.I 0)])])
 (.seq (.ops [(none, .build 7 [(.I 0), (.I 0), (.I 0), (.I 0), (.I 0), (.I 0)] []),
 (none, .alloc 3 [(.I 0), (.I 0), (.I 0), (.I 0), (.I 0), (.I 0)]),
 (none, .store 6 (.t 3) (.t 7))])
 (.seq (.seq (.ops [(none, .fieldAddr 8 (.t 1) 3),
 (none, .load1 9 (.t 8)),
 (none, .len 10 (.t 9)),
 (none, .mv 11 (.c (.I 0)))])
 (.block 0 (.loop (.seq (.ops [(none, .bin 12 .lss (.t 11) (.t 10))])
 (.seq (.cond (.t 12) (.skip)
 (.exit 0))
 (.seq (.block 1 (.seq (.ops [(none, .idxS 13 3 (.t 9) (.t 11)),
 (none, .loadN 14 3 (.t 13)),
 (none, .alloc 5 [(.I 0), (.I 0), (.I 0)]),
 (none, .store 3 (.t 5) (.t 14))])
 (.seq (.ops [(none, .mv 15 (.c (.I 0)))])
 (.block 2 (.loop (.seq (.ops [(none, .bin 16 .lss (.t 15) (.c (.I 6)))])
 (.seq (.cond (.t 16) (.skip)
 (.exit 2))
 (.seq (.block 3 (.seq (.ops [(none, .mv 17 (.t 15)),
 (none, .mv 6 (.t 17))])
 (.seq (.draw [⟨(none, .loadN 18 4 (.t 1)), [], []⟩,
 ⟨(none, .loadN 19 3 (.t 5)), [], []⟩,
 ⟨(none, .mv 20 (.t 6)), [], []⟩,
 ⟨(none, .call (some 21) F.impl_beyond [(.t 19), (.t 20)]), [], [0]⟩,
 ⟨(none, .call (some 22) F.impl_Heap_isBare [(.t 18), (.t 21)]), [], []⟩])
 (.cond (.t 22) (.ops [(none, .mv 23 (.t 6)),
 (none, .idxA 24 6 1 (.t 3) (.t 23)),
 (none, .load1 25 (.t 24)),
 (none, .bin 26 .add (.t 25) (.c (.I 1))),
 (none, .idxA 27 6 1 (.t 3) (.t 23)),
 (none, .store 1 (.t 27) (.t 26))])
 (.skip)))))
 (.ops [(none, .bin 28 .add (.t 15) (.c (.I 1))),
 (none, .mv 15 (.t 28))])))))))))
 (.ops [(none, .bin 29 .add (.t 11) (.c (.I 1))),
 (none, .mv 11 (.t 29))])))))))
 (.seq (.ops [(none, .loadN 30 6 (.t 3)),
 (none, .store 6 (.t 2) (.t 30))])
 (.ret))))⟩
def impl_SurfaceOf : AFn :=
 ⟨1, 20, [.tmp 2, .tmp 3],
 .seq (.ops [(none, .box 1 (.t 0)),
 (none, .mv 2 (.c (.I 0))),
 (none, .mv 3 (.c (.B false)))])
 (.seq (.seq (.ops [(none, .loadN 7 4 (.t 1)),
 (none, .call (some 8) F.impl_IsHeap [(.t 7)]),
 (none, .un 9 .not (.t 8))])
 (.cond (.t 9) (.seq (.ops [(none, .mv 2 (.c (.I 0))),
 (none, .mv 3 (.c (.B false)))])
 (.ret))
 (.skip)))
 (.seq (.ops [(none, .mv 4 (.c (.I 0)))])
 (.seq (.seq (.ops [(none, .loadN 10 4 (.t 1)),
 (none, .call (some 11) F.impl_Heap_bareFaces [(.t 10)]),
 (none, .mv 12 (.c (.I 0)))])
 (.block 0 (.loop (.seq (.ops [(none, .bin 13 .lss (.t 12) (.c (.I 6)))])
 (.seq (.cond (.t 13) (.skip)
 (.exit 0))
 (.seq (.block 1 (.seq (.ops [(none, .index 14 6 1 false (.t 11) (.t 12)),
 (none, .mv 6 (.t 14))])
 (.ops [(none, .mv 15 (.t 4)),
 (none, .mv 16 (.t 6)),
 (none, .bin 17 .add (.t 15) (.t 16)),
 (none, .mv 4 (.t 17))])))
 (.ops [(none, .bin 18 .add (.t 12) (.c (.I 1))),
 (none, .mv 12 (.t 18))])))))))
 (.seq (.ops [(none, .mv 19 (.t 4)),
 (none, .mv 2 (.t 19)),
 (none, .mv 3 (.c (.B true)))])
 (.ret)))))⟩
end Go.Ab.C

/- That the program has this code. -/
namespace Go.Ab.K
open Go Go.Ab
theorem impl_beyond : prepF Go.Proofs.Try.prog F.impl_beyond = some C.impl_beyond := by kernel_rfl
theorem impl_Heap_isBare : prepF Go.Proofs.Try.prog F.impl_Heap_isBare = some C.impl_Heap_isBare := by kernel_rfl
theorem impl_Heap_bareFaces : prepF Go.Proofs.Try.prog F.impl_Heap_bareFaces = some C.impl_Heap_bareFaces := by kernel_rfl
theorem impl_SurfaceOf : prepF Go.Proofs.Try.prog F.impl_SurfaceOf = some C.impl_SurfaceOf := by kernel_rfl
end Go.Ab.K
