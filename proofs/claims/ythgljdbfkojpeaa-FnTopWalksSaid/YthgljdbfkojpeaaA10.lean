/- Parts of the proof of FnTopWalksSaid: C_Hc K_Hc C_Ha K_Ha Ha C_Hb K_Hb Hb Hc Hd He. -/
import Derived.Test.YthgljdbfkojpeaaA3
import Derived.Test.YthgljdbfkojpeaaA4
import Derived.Test.YthgljdbfkojpeaaProg
import Derived.KernelRfl
import Derived.Test.YthgljdbfkojpeaaA7
import Derived.Test.YthgljdbfkojpeaaA8
import Derived.Test.YthgljdbfkojpeaaA9
import Derived.Test.YthgljdbfkojpeaaA6
set_option linter.all false
/- The abstract code of some functions (written by a program of mine from the translation, by way of prepF). -/
namespace Go.Ab.C
open Go.Ab
def spec_l1Cur_sides : AFn :=
  ⟨1, 37, [.tmp 2, .tmp 3, .tmp 4],
    .seq (.ops [(none, .mv 2 (.c (.I 0))),
       (none, .mv 3 (.c (.I 0))),
       (none, .mv 4 (.c (.I 0)))])
    (.seq (.ops [(none, .mv 8 (.t 0)),
        (none, .buildSl 9 5 1 [(.I 0), (.I 0), (.I 0), (.I 0), (.I 0)] [(0, 1, (.c (.I 2))), (1, 1, (.c (.I 3))), (2, 1, (.c (.I 3))), (3, 1, (.c (.I 1))), (4, 1, (.c (.I 4)))]),
        (none, .call (some 10) F.spec_l1Cur_among [(.t 8), (.t 9)]),
        (none, .mv 11 (.t 0)),
        (none, .buildSl 12 5 1 [(.I 0), (.I 0), (.I 0), (.I 0), (.I 0)] [(0, 1, (.c (.I 2))), (1, 1, (.c (.I 3))), (2, 1, (.c (.I 2))), (3, 1, (.c (.I 1))), (4, 1, (.c (.I 4)))]),
        (none, .call (some 13) F.spec_l1Cur_among [(.t 11), (.t 12)]),
        (none, .mv 14 (.t 0)),
        (none, .buildSl 15 5 1 [(.I 0), (.I 0), (.I 0), (.I 0), (.I 0)] [(0, 1, (.c (.I 2))), (1, 1, (.c (.I 3))), (2, 1, (.c (.I 3))), (3, 1, (.c (.I 1))), (4, 1, (.c (.I 4)))]),
        (none, .call (some 16) F.spec_l1Cur_among [(.t 14), (.t 15)]),
        (none, .mv 5 (.t 10)),
        (none, .mv 6 (.t 13)),
        (none, .mv 7 (.t 16))])
     (.seq (.seq (.ops [(none, .mv 17 (.t 0)),
          (none, .call (some 18) F.spec_l1Cur_pick [(.t 17), (.c (.I 60))])])
       (.block 0 (.seq (.ops [(none, .bin 20 .eql (.t 18) (.c (.I 0))),
            (none, .mv 19 (.t 20))])
         (.cond (.t 19) (.ops [(none, .mv 21 (.t 0)),
             (none, .buildSl 22 4 1 [(.I 0), (.I 0), (.I 0), (.I 0)] [(0, 1, (.c (.I 0))), (1, 1, (.c (.I 5))), (2, 1, (.c (.I (-1)))), (3, 1, (.c (.I 4611686018427387904)))]),
             (none, .call (some 23) F.spec_l1Cur_among [(.t 21), (.t 22)]),
             (none, .mv 5 (.t 23))])
          (.seq (.ops [(none, .bin 25 .eql (.t 18) (.c (.I 1))),
              (none, .mv 24 (.t 25))])
           (.cond (.t 24) (.ops [(none, .mv 26 (.t 0)),
               (none, .buildSl 27 3 1 [(.I 0), (.I 0), (.I 0)] [(0, 1, (.c (.I 0))), (1, 1, (.c (.I 5))), (2, 1, (.c (.I (-1))))]),
               (none, .call (some 28) F.spec_l1Cur_among [(.t 26), (.t 27)]),
               (none, .mv 6 (.t 28))])
            (.seq (.ops [(none, .bin 30 .eql (.t 18) (.c (.I 2))),
                (none, .mv 29 (.t 30))])
             (.cond (.t 29) (.ops [(none, .mv 31 (.t 0)),
                 (none, .buildSl 32 3 1 [(.I 0), (.I 0), (.I 0)] [(0, 1, (.c (.I 0))), (1, 1, (.c (.I 5))), (2, 1, (.c (.I (-1))))]),
                 (none, .call (some 33) F.spec_l1Cur_among [(.t 31), (.t 32)]),
                 (none, .mv 7 (.t 33))])
              (.skip)))))))))
      (.seq (.ops [(none, .mv 34 (.t 5)),
          (none, .mv 35 (.t 6)),
          (none, .mv 36 (.t 7)),
          (none, .mv 2 (.t 34)),
          (none, .mv 3 (.t 35)),
          (none, .mv 4 (.t 36))])
       (.ret))))⟩
def spec_l1Cur_someHeap : AFn :=
  ⟨4, 64, [.cellN 8 4],
    .seq (.ops [(none, .alloc 8 [(.I 0), (.I 0), (.I 0), .nil])])
    (.seq (.ops [(none, .mv 13 (.t 1)),
        (none, .mv 14 (.t 2)),
        (none, .mv 15 (.t 3)),
        (none, .call (some 16) F.spec_l2Empty [(.t 13), (.t 14), (.t 15)]),
        (none, .mv 17 (.t 0)),
        (none, .buildSl 18 4 1 [(.I 0), (.I 0), (.I 0), (.I 0)] [(0, 1, (.c (.I 2))), (1, 1, (.c (.I 3))), (2, 1, (.c (.I 2))), (3, 1, (.c (.I 4)))]),
        (none, .call (some 19) F.spec_l1Cur_among [(.t 17), (.t 18)]),
        (none, .alloc 9 [(.I 0), (.I 0), (.I 0), .nil]),
        (none, .store 4 (.t 9) (.t 16)),
        (none, .mv 10 (.t 19))])
     (.seq (.seq (.ops [(none, .mv 20 (.t 1)),
          (none, .mv 21 (.t 2)),
          (none, .mv 22 (.t 3)),
          (none, .call (some 23) F.spec_l2Sides [(.t 20), (.t 21), (.t 22)]),
          (none, .un 24 .not (.t 23))])
       (.cond (.t 24) (.seq (.ops [(none, .loadN 25 4 (.t 9)),
            (none, .store 4 (.t 8) (.t 25))])
         (.ret))
        (.skip)))
      (.seq (.ops [(none, .loadN 26 4 (.t 9)),
          (none, .call (some 27) F.spec_l2All [(.t 26)]),
          (none, .mv 11 (.t 27))])
       (.seq (.seq (.ops [(none, .mv 12 (.c (.I 0)))])
         (.block 0 (.loop (.seq (.seq (.ops [(none, .mv 28 (.t 12)),
                (none, .mv 29 (.t 11)),
                (none, .len 30 (.t 29)),
                (none, .bin 31 .lss (.t 28) (.t 30))])
             (.cond (.t 31) (.skip)
              (.exit 0)))
            (.seq (.block 1 (.seq (.ops [(none, .mv 34 (.t 0)),
                  (none, .mv 35 (.t 10)),
                  (none, .call (some 36) F.spec_l1Cur_one [(.t 34), (.t 35)])])
               (.cond (.t 36) (.draw [⟨(none, .fieldAddr 37 (.t 9) 3), [], []⟩,
                   ⟨(none, .load1 38 (.t 37)), [], []⟩,
                   ⟨(none, .mv 39 (.t 11)), [], []⟩,
                   ⟨(none, .mv 40 (.t 12)), [], []⟩,
                   ⟨(none, .idxS 41 3 (.t 39) (.t 40)), [], []⟩,
                   ⟨(none, .loadN 42 3 (.t 41)), [], []⟩,
                   ⟨(none, .buildSl 43 1 3 [(.I 0), (.I 0), (.I 0)] [(0, 3, (.t 42))]), [], []⟩,
                   ⟨(none, .append 44 3 24 (.t 38) (.t 43)), [], []⟩,
                   ⟨(none, .fieldAddr 45 (.t 9) 3), [], []⟩,
                   ⟨(none, .store 1 (.t 45) (.t 44)), [], []⟩])
                (.skip))))
             (.ops [(none, .mv 32 (.t 12)),
                (none, .bin 33 .add (.t 32) (.c (.I 1))),
                (none, .mv 12 (.t 33))]))))))
        (.seq (.seq (.ops [(none, .mv 46 (.t 0)),
             (none, .call (some 47) F.spec_l1Cur_pick [(.t 46), (.c (.I 12))])])
          (.block 2 (.seq (.ops [(none, .bin 49 .eql (.t 47) (.c (.I 0))),
               (none, .mv 48 (.t 49))])
            (.cond (.t 48) (.ops [(none, .loadN 51 4 (.t 9)),
                (none, .call (some 52) F.spec_OtherCells [(.t 51)]),
                (none, .mv 50 (.t 52)),
                (none, .extract 53 (.t 50) 0),
                (none, .extract 54 (.t 50) 1),
                (none, .store 4 (.t 9) (.t 53))])
             (.seq (.ops [(none, .bin 56 .eql (.t 47) (.c (.I 1))),
                 (none, .mv 55 (.t 56))])
              (.cond (.t 55) (.ops [(none, .mv 57 (.t 1)),
                  (none, .mv 58 (.t 2)),
                  (none, .mv 59 (.t 3)),
                  (none, .loadN 60 4 (.t 9)),
                  (none, .call (some 61) F.spec_l2Heights [(.t 60)]),
                  (none, .call (some 62) F.spec_l2Stack [(.t 57), (.t 58), (.t 59), (.t 61)]),
                  (none, .store 4 (.t 9) (.t 62))])
               (.skip)))))))
         (.seq (.ops [(none, .loadN 63 4 (.t 9)),
             (none, .store 4 (.t 8) (.t 63))])
          (.ret)))))))⟩
def spec_l2Heights : AFn :=
  ⟨1, 5, [.tmp 2],
    .seq (.ops [(none, .box 1 (.t 0)),
       (none, .mv 2 (.c .nil))])
    (.seq (.ops [(none, .loadN 3 4 (.t 1)),
        (none, .call (some 4) F.spec_l2View [(.t 3), (.c (.I 2))]),
        (none, .mv 2 (.t 4))])
     (.ret))⟩
end Go.Ab.C

/- That the program has this code. -/
namespace Go.Ab.K
open Go Go.Ab
theorem spec_l1Cur_sides : prepF Go.Proofs.Try.prog F.spec_l1Cur_sides = some C.spec_l1Cur_sides := by kernel_rfl
theorem spec_l1Cur_someHeap : prepF Go.Proofs.Try.prog F.spec_l1Cur_someHeap = some C.spec_l1Cur_someHeap := by kernel_rfl
theorem spec_l2Heights : prepF Go.Proofs.Try.prog F.spec_l2Heights = some C.spec_l2Heights := by kernel_rfl
end Go.Ab.K

/- The abstract code of some functions (written by a program of mine from the translation, by way of prepF). -/
namespace Go.Ab.C
open Go.Ab
def spec_l1Cur_next : AFn :=
  ⟨1, 62, [.tmp 2],
    .seq (.ops [(none, .mv 2 (.c (.I 0)))])
    (.seq (.ops [(none, .mv 3 (.c (.I 0)))])
     (.seq (.seq (.draw [⟨(none, .mv 4 (.t 0)), [], []⟩,
          ⟨(none, .nilck 5 (.t 4)), [], []⟩,
          ⟨(none, .fieldAddr 6 (.t 5) 1), [], []⟩,
          ⟨(none, .load1 7 (.t 6)), [], []⟩,
          ⟨(none, .mv 8 (.t 0)), [], []⟩,
          ⟨(none, .nilck 9 (.t 8)), [], []⟩,
          ⟨(none, .fieldAddr 10 (.t 9) 0), [], []⟩,
          ⟨(none, .load1 11 (.t 10)), [], []⟩,
          ⟨(none, .len 12 (.t 11)), [], []⟩,
          ⟨(none, .bin 13 .lss (.t 7) (.t 12)), [], []⟩])
       (.cond (.t 13) (.draw [⟨(none, .mv 14 (.t 0)), [], []⟩,
           ⟨(none, .nilck 15 (.t 14)), [], []⟩,
           ⟨(none, .fieldAddr 16 (.t 15) 0), [], []⟩,
           ⟨(none, .load1 17 (.t 16)), [], []⟩,
           ⟨(none, .mv 18 (.t 0)), [], []⟩,
           ⟨(none, .nilck 19 (.t 18)), [], []⟩,
           ⟨(none, .fieldAddr 20 (.t 19) 1), [], []⟩,
           ⟨(none, .load1 21 (.t 20)), [], []⟩,
           ⟨(none, .idxS 22 1 (.t 17) (.t 21)), [], []⟩,
           ⟨(none, .load1 23 (.t 22)), [], []⟩,
           ⟨(none, .conv 24 .i64 (.t 23)), [], []⟩,
           ⟨(none, .mv 3 (.t 24)), [], []⟩])
        (.skip)))
      (.seq (.ops [(none, .mv 25 (.t 0)),
          (none, .nilck 26 (.t 25)),
          (none, .fieldAddr 27 (.t 26) 1),
          (none, .load1 28 (.t 27)),
          (none, .bin 29 .add (.t 28) (.c (.I 1))),
          (none, .nilck 30 (.t 25)),
          (none, .fieldAddr 31 (.t 30) 1),
          (none, .store 1 (.t 31) (.t 29))])
       (.seq (.ops [(none, .mv 32 (.t 0)),
           (none, .mv 33 (.t 0)),
           (none, .nilck 34 (.t 33)),
           (none, .fieldAddr 35 (.t 34) 2),
           (none, .load1 36 (.t 35)),
           (none, .bin 37 .mul (.t 36) (.c (.U 6364136223846793005))),
           (none, .mv 38 (.t 3)),
           (none, .conv 39 .u64 (.t 38)),
           (none, .bin 40 .add (.t 37) (.t 39)),
           (none, .bin 41 .add (.t 40) (.c (.U 462197))),
           (none, .nilck 42 (.t 32)),
           (none, .fieldAddr 43 (.t 42) 2),
           (none, .store 1 (.t 43) (.t 41))])
        (.seq (.seq (.draw [⟨(none, .mv 44 (.t 0)), [], []⟩,
             ⟨(none, .nilck 45 (.t 44)), [], []⟩,
             ⟨(none, .fieldAddr 46 (.t 45) 1), [], []⟩,
             ⟨(none, .load1 47 (.t 46)), [], []⟩,
             ⟨(none, .mv 48 (.t 0)), [], []⟩,
             ⟨(none, .nilck 49 (.t 48)), [], []⟩,
             ⟨(none, .fieldAddr 50 (.t 49) 0), [], []⟩,
             ⟨(none, .load1 51 (.t 50)), [], []⟩,
             ⟨(none, .len 52 (.t 51)), [], []⟩,
             ⟨(none, .bin 53 .leq (.t 47) (.t 52)), [], []⟩])
          (.cond (.t 53) (.seq (.ops [(none, .mv 54 (.t 3)),
               (none, .mv 2 (.t 54))])
            (.ret))
           (.skip)))
         (.seq (.ops [(none, .mv 55 (.t 0)),
             (none, .nilck 56 (.t 55)),
             (none, .fieldAddr 57 (.t 56) 2),
             (none, .load1 58 (.t 57)),
             (none, .bin 59 .shr (.t 58) (.c (.U 40))),
             (none, .bin 60 .and (.t 59) (.c (.U 255))),
             (none, .conv 61 .i64 (.t 60)),
             (none, .mv 2 (.t 61))])
          (.ret)))))))⟩
def spec_l1Cur_pick : AFn :=
  ⟨2, 20, [.tmp 4],
    .seq (.ops [(none, .mv 4 (.c (.I 0)))])
    (.seq (.seq (.ops [(none, .mv 6 (.t 1)),
         (none, .bin 7 .leq (.t 6) (.c (.I 1)))])
      (.cond (.t 7) (.seq (.ops [(none, .mv 4 (.c (.I 0)))])
        (.ret))
       (.skip)))
     (.seq (.ops [(none, .mv 8 (.t 0)),
         (none, .call (some 9) F.spec_l1Cur_next [(.t 8)]),
         (none, .mv 5 (.t 9))])
      (.seq (.seq (.ops [(none, .mv 10 (.t 1)),
           (none, .bin 11 .gtr (.t 10) (.c (.I 200)))])
        (.cond (.t 11) (.ops [(none, .mv 12 (.t 5)),
            (none, .bin 13 .mul (.t 12) (.c (.I 256))),
            (none, .mv 14 (.t 0)),
            (none, .call (some 15) F.spec_l1Cur_next [(.t 14)]),
            (none, .bin 16 .add (.t 13) (.t 15)),
            (none, .mv 5 (.t 16))])
         (.skip)))
       (.seq (.ops [(none, .mv 17 (.t 5)),
           (none, .mv 18 (.t 1)),
           (none, .bin 19 .rem (.t 17) (.t 18)),
           (none, .mv 4 (.t 19))])
        (.ret)))))⟩
def spec_l1Cur_one : AFn :=
  ⟨2, 9, [.tmp 4],
    .seq (.ops [(none, .mv 4 (.c (.B false)))])
    (.seq (.ops [(none, .mv 5 (.t 0)),
        (none, .mv 6 (.t 1)),
        (none, .call (some 7) F.spec_l1Cur_pick [(.t 5), (.t 6)]),
        (none, .bin 8 .eql (.t 7) (.c (.I 0))),
        (none, .mv 4 (.t 8))])
     (.ret))⟩
def spec_l1Cur_among : AFn :=
  ⟨2, 12, [.tmp 4],
    .seq (.ops [(none, .mv 4 (.c (.I 0)))])
    (.seq (.ops [(none, .mv 5 (.t 1)),
        (none, .mv 6 (.t 0)),
        (none, .mv 7 (.t 1)),
        (none, .len 8 (.t 7)),
        (none, .call (some 9) F.spec_l1Cur_pick [(.t 6), (.t 8)]),
        (none, .idxS 10 1 (.t 5) (.t 9)),
        (none, .load1 11 (.t 10)),
        (none, .mv 4 (.t 11))])
     (.ret))⟩
end Go.Ab.C

/- That the program has this code. -/
namespace Go.Ab.K
open Go Go.Ab
theorem spec_l1Cur_next : prepF Go.Proofs.Try.prog F.spec_l1Cur_next = some C.spec_l1Cur_next := by kernel_rfl
theorem spec_l1Cur_pick : prepF Go.Proofs.Try.prog F.spec_l1Cur_pick = some C.spec_l1Cur_pick := by kernel_rfl
theorem spec_l1Cur_one : prepF Go.Proofs.Try.prog F.spec_l1Cur_one = some C.spec_l1Cur_one := by kernel_rfl
theorem spec_l1Cur_among : prepF Go.Proofs.Try.prog F.spec_l1Cur_among = some C.spec_l1Cur_among := by kernel_rfl
end Go.Ab.K

/- Contracts: what the laws draw from their bytes: numbers (only that there is one, and in which bounds). -/
namespace Go.Ab
open Go
set_option linter.unusedSimpArgs false
set_option linter.unusedVariables false
set_option maxRecDepth 20000

/-- Bytes in memory. -/
def byL (bs : List Nat) : List LV := bs.map fun (b : Nat) => LV.val (.int .u8 (b : Int))
theorem byL_len (bs : List Nat) : (byL bs).length = bs.length := by simp [byL]
def Bytes (M : Mem) (t o : Nat) (bs : List Nat) : Prop := Has M t o (byL bs)
theorem Bytes.get {M : Mem} {t o k : Nat} {bs : List Nat} (h : Bytes M t o bs) (hk : k < bs.length) : getCell M t (o + k) = some (.val (.int .u8 ((bs.getD k 0 : Nat) : Int))) := by
  rw [Has.get h (by rw [byL_len]; exact hk)]
  simp [byL, hk]
/-- The reader of the bytes, in block p; it has read at most a times. -/
def CurAt (M : Mem) (p t o : Nat) (bs : List Nat) (a : Nat) : Prop := (∃ (i : Nat) (s : Int), i ≤ a ∧ Live M p (.row [.ref t o bs.length, .I i, .val (.int .u64 s)] true 0)) ∧ Bytes M t o bs ∧ t ≠ p ∧ (∀ b ∈ bs, b ≤ 255) ∧ bs.length ≤ 1000000000
/-- What a draw leaves: all but the reader is as before. -/
def DrawN (M : Mem) (p t o : Nat) (bs : List Nat) (a : Nat) (N : Mem) : Prop := CurAt N p t o bs a ∧ M.length ≤ N.length ∧ ∀ q, q < M.length → q ≠ p → N[q]? = M[q]?
theorem Has.at' {M N : Mem} {t o : Nat} {vs : List LV} (h : Has M t o vs) (hk : N[t]? = M[t]?) : Has N t o vs := by
  obtain ⟨row, h1, h2⟩ := h
  refine ⟨row, ?_, h2⟩
  unfold getRow at *
  rw [hk]; exact h1
theorem CurAt.keep {M N : Mem} {p t o : Nat} {bs : List Nat} {a b : Nat} (h : CurAt M p t o bs a) (hk : ∀ q, q < M.length → N[q]? = M[q]?) (hab : a ≤ b) : CurAt N p t o bs b := by
  obtain ⟨⟨i, s, h1, h2⟩, h3, h4⟩ := h
  exact ⟨⟨i, s, by omega, Live.at h2 (hk _ h2.lt)⟩, Has.at' h3 (hk _ h3.lt), h4⟩
theorem DrawN.trans {M N N' : Mem} {p t o : Nat} {bs : List Nat} {a b : Nat} (h : DrawN M p t o bs a N) (k : DrawN N p t o bs b N') : DrawN M p t o bs b N' :=
  ⟨k.1, Nat.le_trans h.2.1 k.2.1, fun q h1 h2 => by rw [k.2.2 q (Nat.lt_of_lt_of_le h1 h.2.1) h2]; exact h.2.2 q h1 h2⟩
theorem DrawN.of_pre {M N N' : Mem} {p t o : Nat} {bs : List Nat} {a : Nat} (h : Pre M N) (k : DrawN N p t o bs a N') : DrawN M p t o bs a N' :=
  ⟨k.1, Nat.le_trans h.1 k.2.1, fun q h1 h2 => by rw [k.2.2 q (Nat.lt_of_lt_of_le h1 h.1) h2]; exact h.2 q h1⟩
theorem CurAt.pre {M N : Mem} {p t o : Nat} {bs : List Nat} {a : Nat} (h : CurAt M p t o bs a) (hp : Pre M N) : CurAt N p t o bs a := h.keep hp.2 (Nat.le_refl _)
theorem byte_and {a : BitVec 64} : (a &&& 255#64).toNat ≤ 255 := by
  rw [BitVec.toNat_and]
  exact Nat.and_le_right
theorem u64_small {n : Nat} (h : n ≤ 255) : IntKind.i64.wrap (IntKind.u64.wrap (n : Int)) = (n : Int) := by
  have : IntKind.u64.wrap (n : Int) = (n : Int) := by
    rw [IntKind.wrap_u64]; omega
  rw [this, wrap_id (by omega)]
theorem u64_key (a : BitVec 64) : LV.val (.int .i64 (IntKind.i64.wrap (IntKind.u64.wrap (((a &&& BitVec.ofInt 64 255).toNat : Nat) : Int)))) = LV.I (((a &&& 255#64).toNat : Nat) : Int) := by
  rw [show BitVec.ofInt 64 255 = 255#64 from rfl, u64_small byte_and]
section
variable {p t o a : Nat} {bs : List Nat} {M : Mem}
theorem d_next (h : CurAt M p t o bs a) (ha : a ≤ 1000000) : CallsR PG F.spec_l1Cur_next [.ptr p 0] M fun v N => (∃ b : Nat, v = .I b ∧ b ≤ 255) ∧ DrawN M p t o bs (a + 1) N := by
  obtain ⟨⟨i, s, hi, hp⟩, hB, htp, h255, hbl⟩ := id h
  have hpl := hp.lt
  refine callsR_run K.spec_l1Cur_next rfl ?_
  have fin : ∀ {N : Mem} {s' : Int}, N.length = M.length → Live N p (.row [.ref t o bs.length, .I (i + 1 : Nat), .val (.int .u64 s')] true 0) → (∀ q, q ≠ p → q < M.length → N[q]? = M[q]?) → DrawN M p t o bs (a + 1) N := fun {N s'} h1 h2 h3 =>
    ⟨⟨⟨i + 1, s', by omega, h2⟩, Has.at' hB (h3 t htp hB.lt), htp, h255, hbl⟩, by omega, fun q q1 q2 => h3 q q2 q1⟩
  by_cases hlt : i < bs.length
  · have hg := hB.get hlt
    have hb := h255 _ (getD_mem' (d := 0) hlt)
    generalize bs.getD i 0 = b at hg hb
    have hle : (i : Int) + 1 ≤ bs.length := by omega
    simp (disch := omega) only [C.spec_l1Cur_next, hp.cell, hlt, hg, Nat.mul_one, ↓SXd, SXu, slBounds, ↓sop, ↓aop, ↓reduceIte, LV.cells, AOp.dst, LV.I, LV.B, LV.U, LV.S, LV.nil, Nat.reduceEqDiff, Nat.reduceAdd, Nat.reduceMul, Nat.reduceSub, Nat.reduceLeDiff, Nat.reduceBEq, Nat.reduceDiv, Nat.reduceMod, Int.reduceToNat, Int.reduceLT, Int.reduceLE, Int.reduceAdd, Int.reduceSub, Int.reduceMul, Int.reduceEq, Int.reduceNeg, reduceCtorEq, resV, resAll, ARes.ev, LV.flat, ite_true, ite_false, exists_eq_left', exists_eq_left, keyOf, implies_true, fillC, capOf]
    refine memK_one hp (by simp) fun N1 j1 j2 j3 => ?_
    simp (disch := omega) only [j2.cell, bv_mul, bv_add, ↓SXd, SXu, slBounds, ↓sop, ↓aop, ↓reduceIte, LV.cells, AOp.dst, LV.I, LV.B, LV.U, LV.S, LV.nil, Nat.reduceEqDiff, Nat.reduceAdd, Nat.reduceMul, Nat.reduceSub, Nat.reduceLeDiff, Nat.reduceBEq, Nat.reduceDiv, Nat.reduceMod, Int.reduceToNat, Int.reduceLT, Int.reduceLE, Int.reduceAdd, Int.reduceSub, Int.reduceMul, Int.reduceEq, Int.reduceNeg, reduceCtorEq, resV, resAll, ARes.ev, LV.flat, ite_true, ite_false, exists_eq_left', exists_eq_left, keyOf, implies_true, fillC, capOf]
    refine memK_one j2 (by simp) fun N2 k1 k2 k3 => ?_
    simp (disch := omega) only [k2.cell, hle, ↓SXd, SXu, slBounds, ↓sop, ↓aop, ↓reduceIte, LV.cells, AOp.dst, LV.I, LV.B, LV.U, LV.S, LV.nil, Nat.reduceEqDiff, Nat.reduceAdd, Nat.reduceMul, Nat.reduceSub, Nat.reduceLeDiff, Nat.reduceBEq, Nat.reduceDiv, Nat.reduceMod, Int.reduceToNat, Int.reduceLT, Int.reduceLE, Int.reduceAdd, Int.reduceSub, Int.reduceMul, Int.reduceEq, Int.reduceNeg, reduceCtorEq, resV, resAll, ARes.ev, LV.flat, ite_true, ite_false, exists_eq_left', exists_eq_left, keyOf, implies_true, fillC, capOf]
    exact ⟨⟨b, rfl, hb⟩, fin (by omega) k2 fun q q1 q2 => by rw [k3 q q1 (by omega)]; exact j3 q q1 q2⟩
  · have hle : ¬ ((i : Int) + 1 ≤ bs.length) := by omega
    simp (disch := omega) only [C.spec_l1Cur_next, hp.cell, hlt, ↓SXd, SXu, slBounds, ↓sop, ↓aop, ↓reduceIte, LV.cells, AOp.dst, LV.I, LV.B, LV.U, LV.S, LV.nil, Nat.reduceEqDiff, Nat.reduceAdd, Nat.reduceMul, Nat.reduceSub, Nat.reduceLeDiff, Nat.reduceBEq, Nat.reduceDiv, Nat.reduceMod, Int.reduceToNat, Int.reduceLT, Int.reduceLE, Int.reduceAdd, Int.reduceSub, Int.reduceMul, Int.reduceEq, Int.reduceNeg, reduceCtorEq, resV, resAll, ARes.ev, LV.flat, ite_true, ite_false, exists_eq_left', exists_eq_left, keyOf, implies_true, fillC, capOf]
    refine memK_one hp (by simp) fun N1 j1 j2 j3 => ?_
    simp (disch := omega) only [j2.cell, bv_mul, bv_add, ↓SXd, SXu, slBounds, ↓sop, ↓aop, ↓reduceIte, LV.cells, AOp.dst, LV.I, LV.B, LV.U, LV.S, LV.nil, Nat.reduceEqDiff, Nat.reduceAdd, Nat.reduceMul, Nat.reduceSub, Nat.reduceLeDiff, Nat.reduceBEq, Nat.reduceDiv, Nat.reduceMod, Int.reduceToNat, Int.reduceLT, Int.reduceLE, Int.reduceAdd, Int.reduceSub, Int.reduceMul, Int.reduceEq, Int.reduceNeg, reduceCtorEq, resV, resAll, ARes.ev, LV.flat, ite_true, ite_false, exists_eq_left', exists_eq_left, keyOf, implies_true, fillC, capOf]
    refine memK_one j2 (by simp) fun N2 k1 k2 k3 => ?_
    simp (disch := omega) only [k2.cell, hle, bv_shr, bv_and, ↓SXd, SXu, slBounds, ↓sop, ↓aop, ↓reduceIte, LV.cells, AOp.dst, LV.I, LV.B, LV.U, LV.S, LV.nil, Nat.reduceEqDiff, Nat.reduceAdd, Nat.reduceMul, Nat.reduceSub, Nat.reduceLeDiff, Nat.reduceBEq, Nat.reduceDiv, Nat.reduceMod, Int.reduceToNat, Int.reduceLT, Int.reduceLE, Int.reduceAdd, Int.reduceSub, Int.reduceMul, Int.reduceEq, Int.reduceNeg, reduceCtorEq, resV, resAll, ARes.ev, LV.flat, ite_true, ite_false, exists_eq_left', exists_eq_left, keyOf, implies_true, fillC, capOf]
    refine ⟨⟨_, u64_key _, byte_and⟩, fin (by omega) k2 fun q q1 q2 => by rw [k3 q q1 (by omega)]; exact j3 q q1 q2⟩
theorem d_pick {n : Int} (h : CurAt M p t o bs a) (ha : a ≤ 999990) : CallsR PG F.spec_l1Cur_pick [.ptr p 0, .I n] M fun v N => (∃ b : Nat, v = .I b ∧ ((b : Int) < n ∨ b = 0)) ∧ DrawN M p t o bs (a + 2) N := by
  refine callsR_run K.spec_l1Cur_pick rfl ?_
  by_cases h1 : n ≤ 1
  · simp (disch := omega) only [C.spec_l1Cur_pick, h1, ↓SXd, SXu, slBounds, ↓sop, ↓aop, ↓reduceIte, LV.cells, AOp.dst, LV.I, LV.B, LV.U, LV.S, LV.nil, Nat.reduceEqDiff, Nat.reduceAdd, Nat.reduceMul, Nat.reduceSub, Nat.reduceLeDiff, Nat.reduceBEq, Nat.reduceDiv, Nat.reduceMod, Int.reduceToNat, Int.reduceLT, Int.reduceLE, Int.reduceAdd, Int.reduceSub, Int.reduceMul, Int.reduceEq, Int.reduceNeg, reduceCtorEq, resV, resAll, ARes.ev, LV.flat, ite_true, ite_false, exists_eq_left', exists_eq_left, keyOf, implies_true, fillC, capOf]
    exact ⟨⟨0, rfl, .inr rfl⟩, h.keep (fun _ _ => rfl) (by omega), Nat.le_refl _, fun _ _ _ => rfl⟩
  · have hn0 : ¬ (n = 0) := by omega
    simp (disch := omega) only [C.spec_l1Cur_pick, h1, ↓SXd, SXu, slBounds, ↓sop, ↓aop, ↓reduceIte, LV.cells, AOp.dst, LV.I, LV.B, LV.U, LV.S, LV.nil, Nat.reduceEqDiff, Nat.reduceAdd, Nat.reduceMul, Nat.reduceSub, Nat.reduceLeDiff, Nat.reduceBEq, Nat.reduceDiv, Nat.reduceMod, Int.reduceToNat, Int.reduceLT, Int.reduceLE, Int.reduceAdd, Int.reduceSub, Int.reduceMul, Int.reduceEq, Int.reduceNeg, reduceCtorEq, resV, resAll, ARes.ev, LV.flat, ite_true, ite_false, exists_eq_left', exists_eq_left, keyOf, implies_true, fillC, capOf]
    refine callR_of (d_next h (by omega)) ?_
    rintro _ N ⟨⟨b, rfl, hb⟩, hd⟩
    have hm := fun (m : Nat) => Int.tmod_eq_emod_of_nonneg (a := (m : Int)) (b := n) (by omega)
    have hm2 := fun (m : Nat) => Int.emod_nonneg (m : Int) (b := n) (by omega)
    have hm3 := fun (m : Nat) => Int.emod_lt_of_pos (m : Int) (b := n) (by omega)
    by_cases h2 : n > 200
    · simp (disch := omega) only [h2, ↓SXd, SXu, slBounds, ↓sop, ↓aop, ↓reduceIte, LV.cells, AOp.dst, LV.I, LV.B, LV.U, LV.S, LV.nil, Nat.reduceEqDiff, Nat.reduceAdd, Nat.reduceMul, Nat.reduceSub, Nat.reduceLeDiff, Nat.reduceBEq, Nat.reduceDiv, Nat.reduceMod, Int.reduceToNat, Int.reduceLT, Int.reduceLE, Int.reduceAdd, Int.reduceSub, Int.reduceMul, Int.reduceEq, Int.reduceNeg, reduceCtorEq, resV, resAll, ARes.ev, LV.flat, ite_true, ite_false, exists_eq_left', exists_eq_left, keyOf, implies_true, fillC, capOf]
      refine callR_of (d_next hd.1 (by omega)) ?_
      rintro _ N2 ⟨⟨b2, rfl, hb2⟩, hd2⟩
      simp (disch := omega) only [ne_eq, hn0, not_false_eq_true, ↓SXd, SXu, slBounds, ↓sop, ↓aop, ↓reduceIte, LV.cells, AOp.dst, LV.I, LV.B, LV.U, LV.S, LV.nil, Nat.reduceEqDiff, Nat.reduceAdd, Nat.reduceMul, Nat.reduceSub, Nat.reduceLeDiff, Nat.reduceBEq, Nat.reduceDiv, Nat.reduceMod, Int.reduceToNat, Int.reduceLT, Int.reduceLE, Int.reduceAdd, Int.reduceSub, Int.reduceMul, Int.reduceEq, Int.reduceNeg, reduceCtorEq, resV, resAll, ARes.ev, LV.flat, ite_true, ite_false, exists_eq_left', exists_eq_left, keyOf, implies_true, fillC, capOf]
      have e := hm (b * 256 + b2)
      have e2 := hm2 (b * 256 + b2)
      have e3 := hm3 (b * 256 + b2)
      refine ⟨⟨(((b * 256 + b2 : Nat) : Int) % n).toNat, ?_, .inl (by omega)⟩, hd.trans hd2⟩
      rw [Int.toNat_of_nonneg e2, ← e]
      rw [Int.natCast_add, Int.natCast_mul]; rfl
    · simp (disch := omega) only [h2, ne_eq, hn0, not_false_eq_true, ↓SXd, SXu, slBounds, ↓sop, ↓aop, ↓reduceIte, LV.cells, AOp.dst, LV.I, LV.B, LV.U, LV.S, LV.nil, Nat.reduceEqDiff, Nat.reduceAdd, Nat.reduceMul, Nat.reduceSub, Nat.reduceLeDiff, Nat.reduceBEq, Nat.reduceDiv, Nat.reduceMod, Int.reduceToNat, Int.reduceLT, Int.reduceLE, Int.reduceAdd, Int.reduceSub, Int.reduceMul, Int.reduceEq, Int.reduceNeg, reduceCtorEq, resV, resAll, ARes.ev, LV.flat, ite_true, ite_false, exists_eq_left', exists_eq_left, keyOf, implies_true, fillC, capOf]
      have e := hm b
      have e2 := hm2 b
      have e3 := hm3 b
      refine ⟨⟨((b : Int) % n).toNat, by rw [Int.toNat_of_nonneg e2, ← e], .inl (by omega)⟩, ?_⟩
      exact ⟨hd.1.keep (fun _ _ => rfl) (by omega), hd.2⟩
theorem d_one {n : Int} (h : CurAt M p t o bs a) (ha : a ≤ 999990) : CallsR PG F.spec_l1Cur_one [.ptr p 0, .I n] M fun v N => (∃ b : Bool, v = .B b) ∧ DrawN M p t o bs (a + 2) N := by
  refine callsR_run K.spec_l1Cur_one rfl ?_
  simp (disch := omega) only [C.spec_l1Cur_one, ↓SXd, SXu, slBounds, ↓sop, ↓aop, ↓reduceIte, LV.cells, AOp.dst, LV.I, LV.B, LV.U, LV.S, LV.nil, Nat.reduceEqDiff, Nat.reduceAdd, Nat.reduceMul, Nat.reduceSub, Nat.reduceLeDiff, Nat.reduceBEq, Nat.reduceDiv, Nat.reduceMod, Int.reduceToNat, Int.reduceLT, Int.reduceLE, Int.reduceAdd, Int.reduceSub, Int.reduceMul, Int.reduceEq, Int.reduceNeg, reduceCtorEq, resV, resAll, ARes.ev, LV.flat, ite_true, ite_false, exists_eq_left', exists_eq_left, keyOf, implies_true, fillC, capOf]
  refine callR_of (d_pick h ha) ?_
  rintro _ N ⟨⟨b, rfl, _⟩, hd⟩
  simp (disch := omega) only [↓SXd, SXu, slBounds, ↓sop, ↓aop, ↓reduceIte, LV.cells, AOp.dst, LV.I, LV.B, LV.U, LV.S, LV.nil, Nat.reduceEqDiff, Nat.reduceAdd, Nat.reduceMul, Nat.reduceSub, Nat.reduceLeDiff, Nat.reduceBEq, Nat.reduceDiv, Nat.reduceMod, Int.reduceToNat, Int.reduceLT, Int.reduceLE, Int.reduceAdd, Int.reduceSub, Int.reduceMul, Int.reduceEq, Int.reduceNeg, reduceCtorEq, resV, resAll, ARes.ev, LV.flat, ite_true, ite_false, exists_eq_left', exists_eq_left, keyOf, implies_true, fillC, capOf]
  exact ⟨⟨_, rfl⟩, hd⟩
theorem d_among {u q : Nat} {xs : List Int} (h : CurAt M p t o bs a) (ha : a ≤ 999990) (hx : Ints M u q xs) (hu : u ≠ p) (h0 : 0 < xs.length) (hxl : xs.length ≤ 1000) : CallsR PG F.spec_l1Cur_among [.ptr p 0, .ref u q xs.length] M fun v N => (∃ b : Int, v = .I b ∧ b ∈ xs) ∧ DrawN M p t o bs (a + 2) N := by
  refine callsR_run K.spec_l1Cur_among rfl ?_
  simp (disch := omega) only [C.spec_l1Cur_among, ↓SXd, SXu, slBounds, ↓sop, ↓aop, ↓reduceIte, LV.cells, AOp.dst, LV.I, LV.B, LV.U, LV.S, LV.nil, Nat.reduceEqDiff, Nat.reduceAdd, Nat.reduceMul, Nat.reduceSub, Nat.reduceLeDiff, Nat.reduceBEq, Nat.reduceDiv, Nat.reduceMod, Int.reduceToNat, Int.reduceLT, Int.reduceLE, Int.reduceAdd, Int.reduceSub, Int.reduceMul, Int.reduceEq, Int.reduceNeg, reduceCtorEq, resV, resAll, ARes.ev, LV.flat, ite_true, ite_false, exists_eq_left', exists_eq_left, keyOf, implies_true, fillC, capOf]
  refine callR_of (d_pick h ha) ?_
  rintro _ N ⟨⟨b, rfl, hb⟩, hd⟩
  have hbl : b < xs.length := by omega
  have hg := Ints.get (Has.at' hx (hd.2.2 u hx.lt hu)) hbl
  simp (disch := omega) only [hg, Nat.mul_one, ↓SXd, SXu, slBounds, ↓sop, ↓aop, ↓reduceIte, LV.cells, AOp.dst, LV.I, LV.B, LV.U, LV.S, LV.nil, Nat.reduceEqDiff, Nat.reduceAdd, Nat.reduceMul, Nat.reduceSub, Nat.reduceLeDiff, Nat.reduceBEq, Nat.reduceDiv, Nat.reduceMod, Int.reduceToNat, Int.reduceLT, Int.reduceLE, Int.reduceAdd, Int.reduceSub, Int.reduceMul, Int.reduceEq, Int.reduceNeg, reduceCtorEq, resV, resAll, ARes.ev, LV.flat, ite_true, ite_false, exists_eq_left', exists_eq_left, keyOf, implies_true, fillC, capOf]
  exact ⟨⟨_, rfl, getD_mem' hbl⟩, hd⟩
end
end Go.Ab

/- The abstract code of some functions (written by a program of mine from the translation, by way of prepF). -/
namespace Go.Ab.C
open Go.Ab
def spec_OtherCells : AFn :=
  ⟨1, 43, [.cellN 2 4, .tmp 3],
    .seq (.ops [(none, .box 1 (.t 0)),
       (none, .alloc 2 [(.I 0), (.I 0), (.I 0), .nil]),
       (none, .mv 3 (.c (.B false)))])
    (.seq (.seq (.ops [(none, .loadN 7 4 (.t 1)),
         (none, .call (some 8) F.spec_l2Heap [(.t 7)]),
         (none, .un 9 .not (.t 8))])
      (.cond (.t 9) (.seq (.ops [(none, .build 10 [(.I 0), (.I 0), (.I 0), .nil] []),
           (none, .store 4 (.t 2) (.t 10)),
           (none, .mv 3 (.c (.B false)))])
        (.ret))
       (.skip)))
     (.seq (.draw [⟨(none, .fieldAddr 11 (.t 1) 0), [], []⟩,
         ⟨(none, .load1 12 (.t 11)), [], []⟩,
         ⟨(none, .fieldAddr 13 (.t 1) 1), [], []⟩,
         ⟨(none, .load1 14 (.t 13)), [], []⟩,
         ⟨(none, .fieldAddr 15 (.t 1) 2), [], []⟩,
         ⟨(none, .load1 16 (.t 15)), [], []⟩,
         ⟨(none, .loadN 18 4 (.t 1)), [], []⟩,
         ⟨(none, .alloc 4 [(.I 0), (.I 0), (.I 0), .nil]), [], []⟩,
         ⟨(none, .call (some 17) F.spec_l2Empty [(.t 12), (.t 14), (.t 16)]), [7], [6]⟩,
         ⟨(none, .call (some 19) F.spec_l2All [(.t 18)]), [7], []⟩,
         ⟨(none, .store 4 (.t 4) (.t 17)), [], []⟩,
         ⟨(none, .mv 5 (.t 19)), [], []⟩])
      (.seq (.seq (.ops [(none, .mv 6 (.c (.I 0)))])
        (.block 0 (.loop (.seq (.seq (.ops [(none, .mv 20 (.t 6)),
               (none, .mv 21 (.t 5)),
               (none, .len 22 (.t 21)),
               (none, .bin 23 .lss (.t 20) (.t 22))])
            (.cond (.t 23) (.skip)
             (.exit 0)))
           (.seq (.block 1 (.seq (.draw [⟨(none, .loadN 26 4 (.t 1)), [], []⟩,
                 ⟨(none, .mv 27 (.t 5)), [], []⟩,
                 ⟨(none, .mv 28 (.t 6)), [], []⟩,
                 ⟨(none, .idxS 29 3 (.t 27) (.t 28)), [], []⟩,
                 ⟨(none, .loadN 30 3 (.t 29)), [], []⟩,
                 ⟨(none, .call (some 31) F.spec_l2Has [(.t 26), (.t 30)]), [], []⟩,
                 ⟨(none, .un 32 .not (.t 31)), [], []⟩])
              (.cond (.t 32) (.draw [⟨(none, .fieldAddr 33 (.t 4) 3), [], []⟩,
                  ⟨(none, .load1 34 (.t 33)), [], []⟩,
                  ⟨(none, .mv 35 (.t 5)), [], []⟩,
                  ⟨(none, .mv 36 (.t 6)), [], []⟩,
                  ⟨(none, .idxS 37 3 (.t 35) (.t 36)), [], []⟩,
                  ⟨(none, .loadN 38 3 (.t 37)), [], []⟩,
                  ⟨(none, .buildSl 39 1 3 [(.I 0), (.I 0), (.I 0)] [(0, 3, (.t 38))]), [], []⟩,
                  ⟨(none, .append 40 3 24 (.t 34) (.t 39)), [], []⟩,
                  ⟨(none, .fieldAddr 41 (.t 4) 3), [], []⟩,
                  ⟨(none, .store 1 (.t 41) (.t 40)), [], []⟩])
               (.skip))))
            (.ops [(none, .mv 24 (.t 6)),
               (none, .bin 25 .add (.t 24) (.c (.I 1))),
               (none, .mv 6 (.t 25))]))))))
       (.seq (.ops [(none, .loadN 42 4 (.t 4)),
           (none, .store 4 (.t 2) (.t 42)),
           (none, .mv 3 (.c (.B true)))])
        (.ret)))))⟩
def spec_l2Stack : AFn :=
  ⟨4, 56, [.cellN 8 4],
    .seq (.ops [(none, .alloc 8 [(.I 0), (.I 0), (.I 0), .nil])])
    (.seq (.ops [(none, .mv 12 (.t 0)),
        (none, .mv 13 (.t 1)),
        (none, .mv 14 (.t 2)),
        (none, .call (some 15) F.spec_l2Empty [(.t 12), (.t 13), (.t 14)]),
        (none, .alloc 9 [(.I 0), (.I 0), (.I 0), .nil]),
        (none, .store 4 (.t 9) (.t 15))])
     (.seq (.ops [(none, .loadN 16 4 (.t 9)),
         (none, .call (some 17) F.spec_l2All [(.t 16)]),
         (none, .mv 10 (.t 17))])
      (.seq (.seq (.ops [(none, .mv 11 (.c (.I 0)))])
        (.block 0 (.loop (.seq (.seq (.ops [(none, .mv 18 (.t 11)),
               (none, .mv 19 (.t 10)),
               (none, .len 20 (.t 19)),
               (none, .bin 21 .lss (.t 18) (.t 20))])
            (.cond (.t 21) (.skip)
             (.exit 0)))
           (.seq (.block 1 (.seq (.draw [⟨(none, .mv 24 (.t 10)), [], []⟩,
                 ⟨(none, .mv 25 (.t 11)), [], []⟩,
                 ⟨(none, .idxS 26 3 (.t 24) (.t 25)), [], []⟩,
                 ⟨(none, .idxA 27 3 1 (.t 26) (.c (.I 2))), [], []⟩,
                 ⟨(none, .load1 28 (.t 27)), [], []⟩,
                 ⟨(none, .mv 29 (.t 3)), [], []⟩,
                 ⟨(none, .mv 30 (.t 10)), [], []⟩,
                 ⟨(none, .mv 31 (.t 11)), [], []⟩,
                 ⟨(none, .idxS 32 3 (.t 30) (.t 31)), [], []⟩,
                 ⟨(none, .idxA 33 3 1 (.t 32) (.c (.I 0))), [], []⟩,
                 ⟨(none, .load1 34 (.t 33)), [], []⟩,
                 ⟨(none, .mv 35 (.t 1)), [], []⟩,
                 ⟨(none, .bin 36 .mul (.t 34) (.t 35)), [], []⟩,
                 ⟨(none, .mv 37 (.t 10)), [], []⟩,
                 ⟨(none, .mv 38 (.t 11)), [], []⟩,
                 ⟨(none, .idxS 39 3 (.t 37) (.t 38)), [], []⟩,
                 ⟨(none, .idxA 40 3 1 (.t 39) (.c (.I 1))), [], []⟩,
                 ⟨(none, .load1 41 (.t 40)), [], []⟩,
                 ⟨(none, .bin 42 .add (.t 36) (.t 41)), [], []⟩,
                 ⟨(none, .idxS 43 1 (.t 29) (.t 42)), [], []⟩,
                 ⟨(none, .load1 44 (.t 43)), [], []⟩,
                 ⟨(none, .bin 45 .lss (.t 28) (.t 44)), [], []⟩])
              (.cond (.t 45) (.draw [⟨(none, .fieldAddr 46 (.t 9) 3), [], []⟩,
                  ⟨(none, .load1 47 (.t 46)), [], []⟩,
                  ⟨(none, .mv 48 (.t 10)), [], []⟩,
                  ⟨(none, .mv 49 (.t 11)), [], []⟩,
                  ⟨(none, .idxS 50 3 (.t 48) (.t 49)), [], []⟩,
                  ⟨(none, .loadN 51 3 (.t 50)), [], []⟩,
                  ⟨(none, .buildSl 52 1 3 [(.I 0), (.I 0), (.I 0)] [(0, 3, (.t 51))]), [], []⟩,
                  ⟨(none, .append 53 3 24 (.t 47) (.t 52)), [], []⟩,
                  ⟨(none, .fieldAddr 54 (.t 9) 3), [], []⟩,
                  ⟨(none, .store 1 (.t 54) (.t 53)), [], []⟩])
               (.skip))))
            (.ops [(none, .mv 22 (.t 11)),
               (none, .bin 23 .add (.t 22) (.c (.I 1))),
               (none, .mv 11 (.t 23))]))))))
       (.seq (.ops [(none, .loadN 55 4 (.t 9)),
           (none, .store 4 (.t 8) (.t 55))])
        (.ret)))))⟩
end Go.Ab.C

/- That the program has this code. -/
namespace Go.Ab.K
open Go Go.Ab
theorem spec_OtherCells : prepF Go.Proofs.Try.prog F.spec_OtherCells = some C.spec_OtherCells := by kernel_rfl
theorem spec_l2Stack : prepF Go.Proofs.Try.prog F.spec_l2Stack = some C.spec_l2Stack := by kernel_rfl
end Go.Ab.K

/- Contracts: the cells without cubes, as a heap, and stacks; the reference's side. -/
namespace Go.Ab
open Go
set_option linter.unusedSimpArgs false
set_option linter.unusedVariables false
set_option maxRecDepth 20000

theorem take_snoc' {α : Type} {l : List α} {i : Nat} {d : α} (h : i < l.length) : l.take (i + 1) = l.take i ++ [l.getD i d] := by
  rw [List.take_succ, List.getElem?_eq_getElem h]; simp [h]
section
variable {x y z : Int} {t o : Nat} {cs : List Cell} {M : Mem} (h : Tri M t o cs) (hn : cs.length ≤ 1000000000)
include h hn
theorem h_OtherCells : CallsR PG F.spec_OtherCells [.agg [.I x, .I y, .I z, .ref t o cs.length]] M fun v N => (HeapOK x y z cs → ∃ u, v = .tup [.agg [.I x, .I y, .I z, .ref u 0 (pick x y z (freeP cs)).length], .B true] ∧ Live N u (.row (triL (pick x y z (freeP cs))) true 3) ∧ M.length ≤ u) ∧ (¬ HeapOK x y z cs → v = .tup [.agg [.I 0, .I 0, .I 0, .nil], .B false]) ∧ Pre M N := by
  refine callsR_run K.spec_OtherCells rfl ?_
  simp (disch := omega) only [C.spec_OtherCells, ↓SXd, SXu, slBounds, ↓sop, ↓aop, ↓reduceIte, LV.cells, AOp.dst, LV.I, LV.B, LV.U, LV.S, LV.nil, Nat.reduceEqDiff, Nat.reduceAdd, Nat.reduceMul, Nat.reduceSub, Nat.reduceLeDiff, Nat.reduceBEq, Nat.reduceDiv, Nat.reduceMod, Int.reduceToNat, Int.reduceLT, Int.reduceLE, Int.reduceAdd, Int.reduceSub, Int.reduceMul, Int.reduceEq, Int.reduceNeg, reduceCtorEq, resV, resAll, ARes.ev, LV.flat, ite_true, ite_false, exists_eq_left', exists_eq_left, keyOf, implies_true, fillC, capOf]
  refine callK_of (h_l2Heap h.app hn) ?_
  simp (disch := omega) only [↓SXd, SXu, slBounds, ↓sop, ↓aop, ↓reduceIte, LV.cells, AOp.dst, LV.I, LV.B, LV.U, LV.S, LV.nil, Nat.reduceEqDiff, Nat.reduceAdd, Nat.reduceMul, Nat.reduceSub, Nat.reduceLeDiff, Nat.reduceBEq, Nat.reduceDiv, Nat.reduceMod, Int.reduceToNat, Int.reduceLT, Int.reduceLE, Int.reduceAdd, Int.reduceSub, Int.reduceMul, Int.reduceEq, Int.reduceNeg, reduceCtorEq, resV, resAll, ARes.ev, LV.flat, ite_true, ite_false, exists_eq_left', exists_eq_left, keyOf, implies_true, fillC, capOf]
  by_cases hH : HeapOK x y z cs
  · rw [decide_eq_true hH]
    have hS := hH.1
    have hv := vol_cast hS
    have ht := h.lt
    have hcl : (cellsOf x y z).length = vol x y z := by simp [cellsOf]
    simp (disch := omega) only [↓SXd, SXu, slBounds, ↓sop, ↓aop, ↓reduceIte, LV.cells, AOp.dst, LV.I, LV.B, LV.U, LV.S, LV.nil, Nat.reduceEqDiff, Nat.reduceAdd, Nat.reduceMul, Nat.reduceSub, Nat.reduceLeDiff, Nat.reduceBEq, Nat.reduceDiv, Nat.reduceMod, Int.reduceToNat, Int.reduceLT, Int.reduceLE, Int.reduceAdd, Int.reduceSub, Int.reduceMul, Int.reduceEq, Int.reduceNeg, reduceCtorEq, resV, resAll, ARes.ev, LV.flat, ite_true, ite_false, exists_eq_left', exists_eq_left, keyOf, implies_true, fillC, capOf]
    refine callK_of (h_l2Empty) ?_
    simp (disch := omega) only [splice, ↓SXd, SXu, slBounds, ↓sop, ↓aop, ↓reduceIte, LV.cells, AOp.dst, LV.I, LV.B, LV.U, LV.S, LV.nil, Nat.reduceEqDiff, Nat.reduceAdd, Nat.reduceMul, Nat.reduceSub, Nat.reduceLeDiff, Nat.reduceBEq, Nat.reduceDiv, Nat.reduceMod, Int.reduceToNat, Int.reduceLT, Int.reduceLE, Int.reduceAdd, Int.reduceSub, Int.reduceMul, Int.reduceEq, Int.reduceNeg, reduceCtorEq, resV, resAll, ARes.ev, LV.flat, ite_true, ite_false, exists_eq_left', exists_eq_left, keyOf, implies_true, fillC, capOf]
    refine callK_of (h_l2All hS) ?_
    simp (disch := omega) only [splice, ↓SXd, SXu, slBounds, ↓sop, ↓aop, ↓reduceIte, LV.cells, AOp.dst, LV.I, LV.B, LV.U, LV.S, LV.nil, Nat.reduceEqDiff, Nat.reduceAdd, Nat.reduceMul, Nat.reduceSub, Nat.reduceLeDiff, Nat.reduceBEq, Nat.reduceDiv, Nat.reduceMod, Int.reduceToNat, Int.reduceLT, Int.reduceLE, Int.reduceAdd, Int.reduceSub, Int.reduceMul, Int.reduceEq, Int.reduceNeg, reduceCtorEq, resV, resAll, ARes.ev, LV.flat, ite_true, ite_false, exists_eq_left', exists_eq_left, keyOf, implies_true, fillC, capOf]
    refine ev_loop (fun m fr1 M' => ∃ i u : Nat, i + m = (cellsOf x y z).length ∧ Pre M M' ∧ Live M' M.length (.row [.I x, .I y, .I z, .ref t o cs.length] true 0) ∧ Live M' (M.length + 1) (.row [.I 0, .I 0, .I 0, .nil] true 0) ∧
      Live M' (M.length + 2) (.row [.I x, .I y, .I z, .ref u 0 (((cellsOf x y z).take i).filter (freeP cs)).length] true 0) ∧ Live M' (M.length + 4) (.row (triL (cellsOf x y z)) true 3) ∧ Live M' u (.row (triL (((cellsOf x y z).take i).filter (freeP cs))) true 3) ∧ (u = M.length + 3 ∨ M.length + 4 < u) ∧
      fr1 1 = .ptr M.length 0 ∧ fr1 2 = .ptr (M.length + 1) 0 ∧ fr1 4 = .ptr (M.length + 2) 0 ∧ fr1 5 = .ref (M.length + 4) 0 (cellsOf x y z).length ∧ fr1 6 = .I i) (cellsOf x y z).length
      ⟨0, M.length + 3, by omega, Pre.app _ _, Live.new, Live.newj rfl, Live.newj rfl, Live.newj rfl, Live.newj rfl, .inl rfl, rfl, rfl, rfl, rfl, rfl⟩ ?_
    rintro m fr1 M' ⟨i, u, hi, hpre, b1, b2, b3, b4, bu, hu, f1, f2, f4, f5, f6⟩
    simp (disch := omega) only [f1, f2, f4, f5, f6, ↓SXd, SXu, slBounds, ↓sop, ↓aop, ↓reduceIte, LV.cells, AOp.dst, LV.I, LV.B, LV.U, LV.S, LV.nil, Nat.reduceEqDiff, Nat.reduceAdd, Nat.reduceMul, Nat.reduceSub, Nat.reduceLeDiff, Nat.reduceBEq, Nat.reduceDiv, Nat.reduceMod, Int.reduceToNat, Int.reduceLT, Int.reduceLE, Int.reduceAdd, Int.reduceSub, Int.reduceMul, Int.reduceEq, Int.reduceNeg, reduceCtorEq, resV, resAll, ARes.ev, LV.flat, ite_true, ite_false, exists_eq_left', exists_eq_left, keyOf, implies_true, fillC, capOf]
    refine condC_dec (fun hlt => ?_) (fun hlt => ?_)
    · have hil : i < (cellsOf x y z).length := by omega
      have hci := b4.tri0 hil
      have hts := take_snoc' (d := default) hil
      have hal : (((cellsOf x y z).take i).filter (freeP cs)).length ≤ 64 := by
        have q1 := List.length_filter_le (freeP cs) ((cellsOf x y z).take i)
        have q2 := List.length_take_le i (cellsOf x y z)
        omega
      generalize (cellsOf x y z).getD i default = c at hci hts
      have hstep : ((cellsOf x y z).take (i + 1)).filter (freeP cs) = ((cellsOf x y z).take i).filter (freeP cs) ++ (if freeP cs c then [c] else []) := by
        rw [hts, List.filter_append, List.filter_cons, List.filter_nil]
      simp (disch := omega) only [f1, f2, f4, f5, f6, b1.cells, hci, Cell.row, ↓SXd, SXu, slBounds, ↓sop, ↓aop, ↓reduceIte, LV.cells, AOp.dst, LV.I, LV.B, LV.U, LV.S, LV.nil, Nat.reduceEqDiff, Nat.reduceAdd, Nat.reduceMul, Nat.reduceSub, Nat.reduceLeDiff, Nat.reduceBEq, Nat.reduceDiv, Nat.reduceMod, Int.reduceToNat, Int.reduceLT, Int.reduceLE, Int.reduceAdd, Int.reduceSub, Int.reduceMul, Int.reduceEq, Int.reduceNeg, reduceCtorEq, resV, resAll, ARes.ev, LV.flat, ite_true, ite_false, exists_eq_left', exists_eq_left, keyOf, implies_true, fillC, capOf]
      refine callK_of (h_l2Has (h.pre hpre) (by omega)) ?_
      simp (disch := omega) only [f1, f2, f4, f5, f6, ↓SXd, SXu, slBounds, ↓sop, ↓aop, ↓reduceIte, LV.cells, AOp.dst, LV.I, LV.B, LV.U, LV.S, LV.nil, Nat.reduceEqDiff, Nat.reduceAdd, Nat.reduceMul, Nat.reduceSub, Nat.reduceLeDiff, Nat.reduceBEq, Nat.reduceDiv, Nat.reduceMod, Int.reduceToNat, Int.reduceLT, Int.reduceLE, Int.reduceAdd, Int.reduceSub, Int.reduceMul, Int.reduceEq, Int.reduceNeg, reduceCtorEq, resV, resAll, ARes.ev, LV.flat, ite_true, ite_false, exists_eq_left', exists_eq_left, keyOf, implies_true, fillC, capOf]
      rw [cell_eta]
      have hfp : freeP cs c = !decide (c ∈ cs) := rfl
      by_cases hm : c ∈ cs
      · rw [decide_eq_true hm] at hfp ⊢
        simp (disch := omega) only [f1, f2, f4, f5, f6, ↓SXd, SXu, slBounds, ↓sop, ↓aop, ↓reduceIte, LV.cells, AOp.dst, LV.I, LV.B, LV.U, LV.S, LV.nil, Nat.reduceEqDiff, Nat.reduceAdd, Nat.reduceMul, Nat.reduceSub, Nat.reduceLeDiff, Nat.reduceBEq, Nat.reduceDiv, Nat.reduceMod, Int.reduceToNat, Int.reduceLT, Int.reduceLE, Int.reduceAdd, Int.reduceSub, Int.reduceMul, Int.reduceEq, Int.reduceNeg, reduceCtorEq, resV, resAll, ARes.ev, LV.flat, ite_true, ite_false, exists_eq_left', exists_eq_left, keyOf, implies_true, fillC, capOf]
        rw [hfp, if_neg (by simp), List.append_nil] at hstep
        rw [← hstep] at b3 bu
        exact ⟨m - 1, by omega, i + 1, u, by omega, hpre, b1, b2, b3, b4, bu, hu, f1, f2, f4, f5, eqI (natI _)⟩
      · rw [decide_eq_false hm] at hfp ⊢
        simp (disch := omega) only [f1, f2, f4, f5, f6, b3.cell, hci, Cell.row, splice, ↓SXd, SXu, slBounds, ↓sop, ↓aop, ↓reduceIte, LV.cells, AOp.dst, LV.I, LV.B, LV.U, LV.S, LV.nil, Nat.reduceEqDiff, Nat.reduceAdd, Nat.reduceMul, Nat.reduceSub, Nat.reduceLeDiff, Nat.reduceBEq, Nat.reduceDiv, Nat.reduceMod, Int.reduceToNat, Int.reduceLT, Int.reduceLE, Int.reduceAdd, Int.reduceSub, Int.reduceMul, Int.reduceEq, Int.reduceNeg, reduceCtorEq, resV, resAll, ARes.ev, LV.flat, ite_true, ite_false, exists_eq_left', exists_eq_left, keyOf, implies_true, fillC, capOf]
        rw [hfp, if_pos (by rfl)] at hstep
        refine appendK_cell bu (by omega) fun N' l1 l2 l3 => ?_
        have hl4 := b4.lt
        have d3 := live_step b3 (by omega) l3
        simp (disch := omega) only [f1, f2, f4, f5, f6, ↓SXd, SXu, slBounds, ↓sop, ↓aop, ↓reduceIte, LV.cells, AOp.dst, LV.I, LV.B, LV.U, LV.S, LV.nil, Nat.reduceEqDiff, Nat.reduceAdd, Nat.reduceMul, Nat.reduceSub, Nat.reduceLeDiff, Nat.reduceBEq, Nat.reduceDiv, Nat.reduceMod, Int.reduceToNat, Int.reduceLT, Int.reduceLE, Int.reduceAdd, Int.reduceSub, Int.reduceMul, Int.reduceEq, Int.reduceNeg, reduceCtorEq, resV, resAll, ARes.ev, LV.flat, ite_true, ite_false, exists_eq_left', exists_eq_left, keyOf, implies_true, fillC, capOf]
        refine memK_one d3 (by simp) fun N3 j1 j2 j3 => ?_
        simp (disch := omega) only [f1, f2, f4, f5, f6, ↓SXd, SXu, slBounds, ↓sop, ↓aop, ↓reduceIte, LV.cells, AOp.dst, LV.I, LV.B, LV.U, LV.S, LV.nil, Nat.reduceEqDiff, Nat.reduceAdd, Nat.reduceMul, Nat.reduceSub, Nat.reduceLeDiff, Nat.reduceBEq, Nat.reduceDiv, Nat.reduceMod, Int.reduceToNat, Int.reduceLT, Int.reduceLE, Int.reduceAdd, Int.reduceSub, Int.reduceMul, Int.reduceEq, Int.reduceNeg, reduceCtorEq, resV, resAll, ARes.ev, LV.flat, ite_true, ite_false, exists_eq_left', exists_eq_left, keyOf, implies_true, fillC, capOf]
        rw [cell_eta, ← hstep] at l2 j2
        exact ⟨m - 1, by omega, i + 1, M'.length + 1, by omega, pre_step (pre_step hpre (by omega) l1 l3) (by omega) (j := 0) j1 j3, live_step (live_step b1 (by omega) l3) (by omega) j3, live_step (live_step b2 (by omega) l3) (by omega) j3, j2, live_step (live_step b4 (by omega) l3) (by omega) j3, live_step l2 (by omega) j3, by omega, f1, f2, f4, f5, eqI (natI _)⟩
    · simp (disch := omega) only [f1, f2, f4, f5, f6, b3.cells, ↓SXd, SXu, slBounds, ↓sop, ↓aop, ↓reduceIte, LV.cells, AOp.dst, LV.I, LV.B, LV.U, LV.S, LV.nil, Nat.reduceEqDiff, Nat.reduceAdd, Nat.reduceMul, Nat.reduceSub, Nat.reduceLeDiff, Nat.reduceBEq, Nat.reduceDiv, Nat.reduceMod, Int.reduceToNat, Int.reduceLT, Int.reduceLE, Int.reduceAdd, Int.reduceSub, Int.reduceMul, Int.reduceEq, Int.reduceNeg, reduceCtorEq, resV, resAll, ARes.ev, LV.flat, ite_true, ite_false, exists_eq_left', exists_eq_left, keyOf, implies_true, fillC, capOf]
      have : i = (cellsOf x y z).length := by omega
      subst this
      rw [List.take_length] at b3 bu
      change Live M' u (.row (triL (pick x y z (freeP cs))) true 3) at bu
      refine memK_box b2 (by simp) fun N3 k1 k2 k3 => ?_
      simp (disch := omega) only [f1, f2, f4, f5, f6, k2.cells, ↓SXd, SXu, slBounds, ↓sop, ↓aop, ↓reduceIte, LV.cells, AOp.dst, LV.I, LV.B, LV.U, LV.S, LV.nil, Nat.reduceEqDiff, Nat.reduceAdd, Nat.reduceMul, Nat.reduceSub, Nat.reduceLeDiff, Nat.reduceBEq, Nat.reduceDiv, Nat.reduceMod, Int.reduceToNat, Int.reduceLT, Int.reduceLE, Int.reduceAdd, Int.reduceSub, Int.reduceMul, Int.reduceEq, Int.reduceNeg, reduceCtorEq, resV, resAll, ARes.ev, LV.flat, ite_true, ite_false, exists_eq_left', exists_eq_left, keyOf, implies_true, fillC, capOf]
      exact ⟨fun _ => ⟨u, by rw [List.take_length]; rfl, live_step bu (by omega) k3, by omega⟩, fun hno => absurd hH hno, pre_step hpre (by omega) (j := 0) k1 k3⟩
  · rw [decide_eq_false hH]
    simp (disch := omega) only [splice, ↓SXd, SXu, slBounds, ↓sop, ↓aop, ↓reduceIte, LV.cells, AOp.dst, LV.I, LV.B, LV.U, LV.S, LV.nil, Nat.reduceEqDiff, Nat.reduceAdd, Nat.reduceMul, Nat.reduceSub, Nat.reduceLeDiff, Nat.reduceBEq, Nat.reduceDiv, Nat.reduceMod, Int.reduceToNat, Int.reduceLT, Int.reduceLE, Int.reduceAdd, Int.reduceSub, Int.reduceMul, Int.reduceEq, Int.reduceNeg, reduceCtorEq, resV, resAll, ARes.ev, LV.flat, ite_true, ite_false, exists_eq_left', exists_eq_left, keyOf, implies_true, fillC, capOf]
    exact ⟨fun hh => absurd hh hH, fun _ => rfl, Pre.app _ _⟩
end
def stackP (y : Int) (hs : List Int) (c : Cell) : Bool := decide (c.c < hs.getD (c.a * y + c.b).toNat 0)
theorem h_l2Stack {x y z : Int} {u q : Nat} {hs : List Int} {M : Mem} (hS : Sides x y z) (hX : Ints M u q hs) (hl : (hs.length : Int) = x * y) : CallsR PG F.spec_l2Stack [.I x, .I y, .I z, .ref u q hs.length] M fun v N => ∃ w, v = .agg [.I x, .I y, .I z, .ref w 0 (pick x y z (stackP y hs)).length] ∧ Live N w (.row (triL (pick x y z (stackP y hs))) true 3) ∧ M.length ≤ w ∧ Pre M N := by
  have hv := vol_cast hS
  have hul := hX.lt
  have hcl : (cellsOf x y z).length = vol x y z := by simp [cellsOf]
  obtain ⟨⟨_, _⟩, ⟨_, _⟩, ⟨_, _⟩⟩ := id hS
  refine callsR_run K.spec_l2Stack rfl ?_
  simp (disch := omega) only [C.spec_l2Stack, ↓SXd, SXu, slBounds, ↓sop, ↓aop, ↓reduceIte, LV.cells, AOp.dst, LV.I, LV.B, LV.U, LV.S, LV.nil, Nat.reduceEqDiff, Nat.reduceAdd, Nat.reduceMul, Nat.reduceSub, Nat.reduceLeDiff, Nat.reduceBEq, Nat.reduceDiv, Nat.reduceMod, Int.reduceToNat, Int.reduceLT, Int.reduceLE, Int.reduceAdd, Int.reduceSub, Int.reduceMul, Int.reduceEq, Int.reduceNeg, reduceCtorEq, resV, resAll, ARes.ev, LV.flat, ite_true, ite_false, exists_eq_left', exists_eq_left, keyOf, implies_true, fillC, capOf]
  refine callK_of (h_l2Empty) ?_
  simp (disch := omega) only [splice, ↓SXd, SXu, slBounds, ↓sop, ↓aop, ↓reduceIte, LV.cells, AOp.dst, LV.I, LV.B, LV.U, LV.S, LV.nil, Nat.reduceEqDiff, Nat.reduceAdd, Nat.reduceMul, Nat.reduceSub, Nat.reduceLeDiff, Nat.reduceBEq, Nat.reduceDiv, Nat.reduceMod, Int.reduceToNat, Int.reduceLT, Int.reduceLE, Int.reduceAdd, Int.reduceSub, Int.reduceMul, Int.reduceEq, Int.reduceNeg, reduceCtorEq, resV, resAll, ARes.ev, LV.flat, ite_true, ite_false, exists_eq_left', exists_eq_left, keyOf, implies_true, fillC, capOf]
  refine callK_of (h_l2All hS) ?_
  simp (disch := omega) only [splice, ↓SXd, SXu, slBounds, ↓sop, ↓aop, ↓reduceIte, LV.cells, AOp.dst, LV.I, LV.B, LV.U, LV.S, LV.nil, Nat.reduceEqDiff, Nat.reduceAdd, Nat.reduceMul, Nat.reduceSub, Nat.reduceLeDiff, Nat.reduceBEq, Nat.reduceDiv, Nat.reduceMod, Int.reduceToNat, Int.reduceLT, Int.reduceLE, Int.reduceAdd, Int.reduceSub, Int.reduceMul, Int.reduceEq, Int.reduceNeg, reduceCtorEq, resV, resAll, ARes.ev, LV.flat, ite_true, ite_false, exists_eq_left', exists_eq_left, keyOf, implies_true, fillC, capOf]
  refine ev_loop (fun m fr1 M' => ∃ i u' : Nat, i + m = (cellsOf x y z).length ∧ Pre M M' ∧ Live M' M.length (.row [.I 0, .I 0, .I 0, .nil] true 0) ∧
    Live M' (M.length + 2) (.row [.I x, .I y, .I z, .ref u' 0 (((cellsOf x y z).take i).filter (stackP y hs)).length] true 0) ∧ Live M' (M.length + 3) (.row (triL (cellsOf x y z)) true 3) ∧ Live M' u' (.row (triL (((cellsOf x y z).take i).filter (stackP y hs))) true 3) ∧ (u' = M.length + 1 ∨ M.length + 3 < u') ∧
    fr1 1 = .I y ∧ fr1 3 = .ref u q hs.length ∧ fr1 8 = .ptr M.length 0 ∧ fr1 9 = .ptr (M.length + 2) 0 ∧ fr1 10 = .ref (M.length + 3) 0 (cellsOf x y z).length ∧ fr1 11 = .I i) (cellsOf x y z).length
    ⟨0, M.length + 1, by omega, Pre.app _ _, Live.new, Live.newj rfl, Live.newj rfl, Live.newj rfl, .inl rfl, rfl, rfl, rfl, rfl, rfl, rfl⟩ ?_
  rintro m fr1 M' ⟨i, u', hi, hpre, b2, b3, b4, bu, hu, f1, f3, f8, f9, f10, f11⟩
  simp (disch := omega) only [f1, f3, f8, f9, f10, f11, ↓SXd, SXu, slBounds, ↓sop, ↓aop, ↓reduceIte, LV.cells, AOp.dst, LV.I, LV.B, LV.U, LV.S, LV.nil, Nat.reduceEqDiff, Nat.reduceAdd, Nat.reduceMul, Nat.reduceSub, Nat.reduceLeDiff, Nat.reduceBEq, Nat.reduceDiv, Nat.reduceMod, Int.reduceToNat, Int.reduceLT, Int.reduceLE, Int.reduceAdd, Int.reduceSub, Int.reduceMul, Int.reduceEq, Int.reduceNeg, reduceCtorEq, resV, resAll, ARes.ev, LV.flat, ite_true, ite_false, exists_eq_left', exists_eq_left, keyOf, implies_true, fillC, capOf]
  refine condC_dec (fun hlt => ?_) (fun hlt => ?_)
  · have hil : i < (cellsOf x y z).length := by omega
    have hci := b4.tri0 hil
    have ga := Tri.get_a b4.has hil
    have gb := Tri.get_b b4.has hil
    have gc := Tri.get_c b4.has hil
    have hcin := (mem_cellsOf hS).1 (getD_mem' (d := default) hil)
    have hts := take_snoc' (d := default) hil
    have hal : (((cellsOf x y z).take i).filter (stackP y hs)).length ≤ 64 := by
      have q1 := List.length_filter_le (stackP y hs) ((cellsOf x y z).take i)
      have q2 := List.length_take_le i (cellsOf x y z)
      omega
    generalize (cellsOf x y z).getD i default = c at hci hts ga gb gc hcin
    have hstep : ((cellsOf x y z).take (i + 1)).filter (stackP y hs) = ((cellsOf x y z).take i).filter (stackP y hs) ++ (if stackP y hs c then [c] else []) := by
      rw [hts, List.filter_append, List.filter_cons, List.filter_nil]
    rw [Nat.zero_add] at ga gb gc
    obtain ⟨⟨_, _⟩, ⟨_, _⟩, ⟨_, _⟩⟩ := id hcin
    have hpk : 0 ≤ c.a * y + c.b ∧ c.a * y + c.b < x * y ∧ 0 ≤ c.a * y ∧ c.a * y ≤ 12 := by
      rcases (show y = 1 ∨ y = 2 ∨ y = 3 ∨ y = 4 by omega) with rfl | rfl | rfl | rfl <;> omega
    obtain ⟨_, _, _, _⟩ := hpk
    have hkl : (c.a * y + c.b).toNat < hs.length := by omega
    have hx := Ints.get (hX.pre hpre) hkl
    have hidx : ((c.a * y + c.b).toNat : Int) = c.a * y + c.b := by omega
    have hfp : stackP y hs c = decide (c.c < hs.getD (c.a * y + c.b).toNat 0) := rfl
    generalize hs.getD (c.a * y + c.b).toNat 0 = hh at hx hfp
    by_cases hm : c.c < hh
    · rw [decide_eq_true hm] at hfp
      simp (disch := omega) only [f1, f3, f8, f9, f10, f11, ga, gb, gc, Nat.add_zero, Nat.mul_one, hx, hm, b3.cell, hci, Cell.row, splice, ↓SXd, SXu, slBounds, ↓sop, ↓aop, ↓reduceIte, LV.cells, AOp.dst, LV.I, LV.B, LV.U, LV.S, LV.nil, Nat.reduceEqDiff, Nat.reduceAdd, Nat.reduceMul, Nat.reduceSub, Nat.reduceLeDiff, Nat.reduceBEq, Nat.reduceDiv, Nat.reduceMod, Int.reduceToNat, Int.reduceLT, Int.reduceLE, Int.reduceAdd, Int.reduceSub, Int.reduceMul, Int.reduceEq, Int.reduceNeg, reduceCtorEq, resV, resAll, ARes.ev, LV.flat, ite_true, ite_false, exists_eq_left', exists_eq_left, keyOf, implies_true, fillC, capOf]
      rw [hfp, if_pos (by rfl)] at hstep
      refine appendK_cell bu (by omega) fun N' l1 l2 l3 => ?_
      have hl4 := b4.lt
      have d3 := live_step b3 (by omega) l3
      simp (disch := omega) only [f1, f3, f8, f9, f10, f11, ↓SXd, SXu, slBounds, ↓sop, ↓aop, ↓reduceIte, LV.cells, AOp.dst, LV.I, LV.B, LV.U, LV.S, LV.nil, Nat.reduceEqDiff, Nat.reduceAdd, Nat.reduceMul, Nat.reduceSub, Nat.reduceLeDiff, Nat.reduceBEq, Nat.reduceDiv, Nat.reduceMod, Int.reduceToNat, Int.reduceLT, Int.reduceLE, Int.reduceAdd, Int.reduceSub, Int.reduceMul, Int.reduceEq, Int.reduceNeg, reduceCtorEq, resV, resAll, ARes.ev, LV.flat, ite_true, ite_false, exists_eq_left', exists_eq_left, keyOf, implies_true, fillC, capOf]
      refine memK_one d3 (by simp) fun N3 j1 j2 j3 => ?_
      simp (disch := omega) only [f1, f3, f8, f9, f10, f11, ↓SXd, SXu, slBounds, ↓sop, ↓aop, ↓reduceIte, LV.cells, AOp.dst, LV.I, LV.B, LV.U, LV.S, LV.nil, Nat.reduceEqDiff, Nat.reduceAdd, Nat.reduceMul, Nat.reduceSub, Nat.reduceLeDiff, Nat.reduceBEq, Nat.reduceDiv, Nat.reduceMod, Int.reduceToNat, Int.reduceLT, Int.reduceLE, Int.reduceAdd, Int.reduceSub, Int.reduceMul, Int.reduceEq, Int.reduceNeg, reduceCtorEq, resV, resAll, ARes.ev, LV.flat, ite_true, ite_false, exists_eq_left', exists_eq_left, keyOf, implies_true, fillC, capOf]
      rw [cell_eta, ← hstep] at l2 j2
      exact ⟨m - 1, by omega, i + 1, M'.length + 1, by omega, pre_step (pre_step hpre (by omega) l1 l3) (by omega) (j := 0) j1 j3, live_step (live_step b2 (by omega) l3) (by omega) j3, j2, live_step (live_step b4 (by omega) l3) (by omega) j3, live_step l2 (by omega) j3, by omega, f1, f3, f8, f9, f10, eqI (natI _)⟩
    · rw [decide_eq_false hm] at hfp
      simp (disch := omega) only [f1, f3, f8, f9, f10, f11, ga, gb, gc, Nat.add_zero, Nat.mul_one, hx, hm, ↓SXd, SXu, slBounds, ↓sop, ↓aop, ↓reduceIte, LV.cells, AOp.dst, LV.I, LV.B, LV.U, LV.S, LV.nil, Nat.reduceEqDiff, Nat.reduceAdd, Nat.reduceMul, Nat.reduceSub, Nat.reduceLeDiff, Nat.reduceBEq, Nat.reduceDiv, Nat.reduceMod, Int.reduceToNat, Int.reduceLT, Int.reduceLE, Int.reduceAdd, Int.reduceSub, Int.reduceMul, Int.reduceEq, Int.reduceNeg, reduceCtorEq, resV, resAll, ARes.ev, LV.flat, ite_true, ite_false, exists_eq_left', exists_eq_left, keyOf, implies_true, fillC, capOf]
      rw [hfp, if_neg (by simp), List.append_nil] at hstep
      rw [← hstep] at b3 bu
      exact ⟨m - 1, by omega, i + 1, u', by omega, hpre, b2, b3, b4, bu, hu, f1, f3, f8, f9, f10, eqI (natI _)⟩
  · simp (disch := omega) only [f1, f3, f8, f9, f10, f11, b3.cells, ↓SXd, SXu, slBounds, ↓sop, ↓aop, ↓reduceIte, LV.cells, AOp.dst, LV.I, LV.B, LV.U, LV.S, LV.nil, Nat.reduceEqDiff, Nat.reduceAdd, Nat.reduceMul, Nat.reduceSub, Nat.reduceLeDiff, Nat.reduceBEq, Nat.reduceDiv, Nat.reduceMod, Int.reduceToNat, Int.reduceLT, Int.reduceLE, Int.reduceAdd, Int.reduceSub, Int.reduceMul, Int.reduceEq, Int.reduceNeg, reduceCtorEq, resV, resAll, ARes.ev, LV.flat, ite_true, ite_false, exists_eq_left', exists_eq_left, keyOf, implies_true, fillC, capOf]
    have : i = (cellsOf x y z).length := by omega
    subst this
    rw [List.take_length] at b3 bu
    change Live M' u' (.row (triL (pick x y z (stackP y hs))) true 3) at bu
    refine memK_box b2 (by simp) fun N3 k1 k2 k3 => ?_
    simp (disch := omega) only [f1, f3, f8, f9, f10, f11, k2.cells, ↓SXd, SXu, slBounds, ↓sop, ↓aop, ↓reduceIte, LV.cells, AOp.dst, LV.I, LV.B, LV.U, LV.S, LV.nil, Nat.reduceEqDiff, Nat.reduceAdd, Nat.reduceMul, Nat.reduceSub, Nat.reduceLeDiff, Nat.reduceBEq, Nat.reduceDiv, Nat.reduceMod, Int.reduceToNat, Int.reduceLT, Int.reduceLE, Int.reduceAdd, Int.reduceSub, Int.reduceMul, Int.reduceEq, Int.reduceNeg, reduceCtorEq, resV, resAll, ARes.ev, LV.flat, ite_true, ite_false, exists_eq_left', exists_eq_left, keyOf, implies_true, fillC, capOf]
    exact ⟨u', by rw [List.take_length]; rfl, live_step bu (by omega) k3, by omega, pre_step hpre (by omega) (j := 0) k1 k3⟩
end Go.Ab

/- Contracts: the heaps that the laws draw. -/
namespace Go.Ab
open Go
set_option linter.unusedSimpArgs false
set_option linter.unusedVariables false
set_option maxRecDepth 20000

section
variable {p t o a : Nat} {bs : List Nat} {M : Mem}
theorem d_amongNew {xs : List Int} (h : CurAt M p t o bs a) (ha : a ≤ 999990) (h0 : 0 < xs.length) (hxl : xs.length ≤ 1000) : CallsR PG F.spec_l1Cur_among [.ptr p 0, .ref M.length 0 xs.length] (M ++ [some (.row (intL xs) true 1)]) fun v N => (∃ b : Int, v = .I b ∧ b ∈ xs) ∧ DrawN M p t o bs (a + 2) N :=
  (d_among (h.pre (Pre.app _ _)) ha (Live.new (b := .row (intL xs) true 1)).has (by obtain ⟨⟨_, _, _, hp⟩, _⟩ := h; have := hp.lt; omega) h0 hxl).mono fun v N hv => ⟨hv.1, DrawN.of_pre (Pre.app _ _) hv.2⟩
theorem DrawN.up {M N : Mem} {p t o : Nat} {bs : List Nat} {a b : Nat} (h : DrawN M p t o bs a N) (hab : a ≤ b) : DrawN M p t o bs b N := ⟨h.1.keep (fun _ _ => rfl) hab, h.2⟩
theorem d_sides (h : CurAt M p t o bs a) (ha : a ≤ 999900) : CallsR PG F.spec_l1Cur_sides [.ptr p 0] M fun v N => (∃ x y z : Int, v = .tup [.I x, .I y, .I z]) ∧ DrawN M p t o bs (a + 10) N := by
  refine callsR_run K.spec_l1Cur_sides rfl ?_
  simp (disch := omega) only [C.spec_l1Cur_sides, ↓SXd, SXu, slBounds, ↓sop, ↓aop, ↓reduceIte, LV.cells, AOp.dst, LV.I, LV.B, LV.U, LV.S, LV.nil, Nat.reduceEqDiff, Nat.reduceAdd, Nat.reduceMul, Nat.reduceSub, Nat.reduceLeDiff, Nat.reduceBEq, Nat.reduceDiv, Nat.reduceMod, Int.reduceToNat, Int.reduceLT, Int.reduceLE, Int.reduceAdd, Int.reduceSub, Int.reduceMul, Int.reduceEq, Int.reduceNeg, reduceCtorEq, resV, resAll, ARes.ev, LV.flat, ite_true, ite_false, exists_eq_left', exists_eq_left, keyOf, implies_true, fillC, capOf]
  refine callR_of (d_amongNew (xs := [2, 3, 3, 1, 4]) h (by omega) (by simp) (by simp)) ?_
  rintro _ N1 ⟨⟨x, rfl, _⟩, hd1⟩
  simp (disch := omega) only [↓SXd, SXu, slBounds, ↓sop, ↓aop, ↓reduceIte, LV.cells, AOp.dst, LV.I, LV.B, LV.U, LV.S, LV.nil, Nat.reduceEqDiff, Nat.reduceAdd, Nat.reduceMul, Nat.reduceSub, Nat.reduceLeDiff, Nat.reduceBEq, Nat.reduceDiv, Nat.reduceMod, Int.reduceToNat, Int.reduceLT, Int.reduceLE, Int.reduceAdd, Int.reduceSub, Int.reduceMul, Int.reduceEq, Int.reduceNeg, reduceCtorEq, resV, resAll, ARes.ev, LV.flat, ite_true, ite_false, exists_eq_left', exists_eq_left, keyOf, implies_true, fillC, capOf]
  refine callR_of (d_amongNew (xs := [2, 3, 2, 1, 4]) hd1.1 (by omega) (by simp) (by simp)) ?_
  rintro _ N2 ⟨⟨y, rfl, _⟩, hd2⟩
  simp (disch := omega) only [↓SXd, SXu, slBounds, ↓sop, ↓aop, ↓reduceIte, LV.cells, AOp.dst, LV.I, LV.B, LV.U, LV.S, LV.nil, Nat.reduceEqDiff, Nat.reduceAdd, Nat.reduceMul, Nat.reduceSub, Nat.reduceLeDiff, Nat.reduceBEq, Nat.reduceDiv, Nat.reduceMod, Int.reduceToNat, Int.reduceLT, Int.reduceLE, Int.reduceAdd, Int.reduceSub, Int.reduceMul, Int.reduceEq, Int.reduceNeg, reduceCtorEq, resV, resAll, ARes.ev, LV.flat, ite_true, ite_false, exists_eq_left', exists_eq_left, keyOf, implies_true, fillC, capOf]
  refine callR_of (d_amongNew (xs := [2, 3, 3, 1, 4]) hd2.1 (by omega) (by simp) (by simp)) ?_
  rintro _ N3 ⟨⟨z, rfl, _⟩, hd3⟩
  simp (disch := omega) only [↓SXd, SXu, slBounds, ↓sop, ↓aop, ↓reduceIte, LV.cells, AOp.dst, LV.I, LV.B, LV.U, LV.S, LV.nil, Nat.reduceEqDiff, Nat.reduceAdd, Nat.reduceMul, Nat.reduceSub, Nat.reduceLeDiff, Nat.reduceBEq, Nat.reduceDiv, Nat.reduceMod, Int.reduceToNat, Int.reduceLT, Int.reduceLE, Int.reduceAdd, Int.reduceSub, Int.reduceMul, Int.reduceEq, Int.reduceNeg, reduceCtorEq, resV, resAll, ARes.ev, LV.flat, ite_true, ite_false, exists_eq_left', exists_eq_left, keyOf, implies_true, fillC, capOf]
  refine callR_of (d_pick hd3.1 (by omega)) ?_
  rintro _ N4 ⟨⟨b, rfl, _⟩, hd4⟩
  have hD := ((hd1.trans hd2).trans hd3).trans hd4
  by_cases b0 : (b : Int) = 0
  · simp (disch := omega) only [b0, ↓SXd, SXu, slBounds, ↓sop, ↓aop, ↓reduceIte, LV.cells, AOp.dst, LV.I, LV.B, LV.U, LV.S, LV.nil, Nat.reduceEqDiff, Nat.reduceAdd, Nat.reduceMul, Nat.reduceSub, Nat.reduceLeDiff, Nat.reduceBEq, Nat.reduceDiv, Nat.reduceMod, Int.reduceToNat, Int.reduceLT, Int.reduceLE, Int.reduceAdd, Int.reduceSub, Int.reduceMul, Int.reduceEq, Int.reduceNeg, reduceCtorEq, resV, resAll, ARes.ev, LV.flat, ite_true, ite_false, exists_eq_left', exists_eq_left, keyOf, implies_true, fillC, capOf]
    refine callR_of (d_amongNew (xs := [0, 5, -1, 4611686018427387904]) hd4.1 (by omega) (by simp) (by simp)) ?_
    rintro _ N5 ⟨⟨x', rfl, _⟩, hd5⟩
    simp (disch := omega) only [↓SXd, SXu, slBounds, ↓sop, ↓aop, ↓reduceIte, LV.cells, AOp.dst, LV.I, LV.B, LV.U, LV.S, LV.nil, Nat.reduceEqDiff, Nat.reduceAdd, Nat.reduceMul, Nat.reduceSub, Nat.reduceLeDiff, Nat.reduceBEq, Nat.reduceDiv, Nat.reduceMod, Int.reduceToNat, Int.reduceLT, Int.reduceLE, Int.reduceAdd, Int.reduceSub, Int.reduceMul, Int.reduceEq, Int.reduceNeg, reduceCtorEq, resV, resAll, ARes.ev, LV.flat, ite_true, ite_false, exists_eq_left', exists_eq_left, keyOf, implies_true, fillC, capOf]
    exact ⟨⟨_, _, _, rfl⟩, hD.trans hd5⟩
  by_cases b1 : (b : Int) = 1
  · simp (disch := omega) only [b1, ↓SXd, SXu, slBounds, ↓sop, ↓aop, ↓reduceIte, LV.cells, AOp.dst, LV.I, LV.B, LV.U, LV.S, LV.nil, Nat.reduceEqDiff, Nat.reduceAdd, Nat.reduceMul, Nat.reduceSub, Nat.reduceLeDiff, Nat.reduceBEq, Nat.reduceDiv, Nat.reduceMod, Int.reduceToNat, Int.reduceLT, Int.reduceLE, Int.reduceAdd, Int.reduceSub, Int.reduceMul, Int.reduceEq, Int.reduceNeg, reduceCtorEq, resV, resAll, ARes.ev, LV.flat, ite_true, ite_false, exists_eq_left', exists_eq_left, keyOf, implies_true, fillC, capOf]
    refine callR_of (d_amongNew (xs := [0, 5, -1]) hd4.1 (by omega) (by simp) (by simp)) ?_
    rintro _ N5 ⟨⟨x', rfl, _⟩, hd5⟩
    simp (disch := omega) only [↓SXd, SXu, slBounds, ↓sop, ↓aop, ↓reduceIte, LV.cells, AOp.dst, LV.I, LV.B, LV.U, LV.S, LV.nil, Nat.reduceEqDiff, Nat.reduceAdd, Nat.reduceMul, Nat.reduceSub, Nat.reduceLeDiff, Nat.reduceBEq, Nat.reduceDiv, Nat.reduceMod, Int.reduceToNat, Int.reduceLT, Int.reduceLE, Int.reduceAdd, Int.reduceSub, Int.reduceMul, Int.reduceEq, Int.reduceNeg, reduceCtorEq, resV, resAll, ARes.ev, LV.flat, ite_true, ite_false, exists_eq_left', exists_eq_left, keyOf, implies_true, fillC, capOf]
    exact ⟨⟨_, _, _, rfl⟩, hD.trans hd5⟩
  by_cases b2 : (b : Int) = 2
  · simp (disch := omega) only [b2, ↓SXd, SXu, slBounds, ↓sop, ↓aop, ↓reduceIte, LV.cells, AOp.dst, LV.I, LV.B, LV.U, LV.S, LV.nil, Nat.reduceEqDiff, Nat.reduceAdd, Nat.reduceMul, Nat.reduceSub, Nat.reduceLeDiff, Nat.reduceBEq, Nat.reduceDiv, Nat.reduceMod, Int.reduceToNat, Int.reduceLT, Int.reduceLE, Int.reduceAdd, Int.reduceSub, Int.reduceMul, Int.reduceEq, Int.reduceNeg, reduceCtorEq, resV, resAll, ARes.ev, LV.flat, ite_true, ite_false, exists_eq_left', exists_eq_left, keyOf, implies_true, fillC, capOf]
    refine callR_of (d_amongNew (xs := [0, 5, -1]) hd4.1 (by omega) (by simp) (by simp)) ?_
    rintro _ N5 ⟨⟨x', rfl, _⟩, hd5⟩
    simp (disch := omega) only [↓SXd, SXu, slBounds, ↓sop, ↓aop, ↓reduceIte, LV.cells, AOp.dst, LV.I, LV.B, LV.U, LV.S, LV.nil, Nat.reduceEqDiff, Nat.reduceAdd, Nat.reduceMul, Nat.reduceSub, Nat.reduceLeDiff, Nat.reduceBEq, Nat.reduceDiv, Nat.reduceMod, Int.reduceToNat, Int.reduceLT, Int.reduceLE, Int.reduceAdd, Int.reduceSub, Int.reduceMul, Int.reduceEq, Int.reduceNeg, reduceCtorEq, resV, resAll, ARes.ev, LV.flat, ite_true, ite_false, exists_eq_left', exists_eq_left, keyOf, implies_true, fillC, capOf]
    exact ⟨⟨_, _, _, rfl⟩, hD.trans hd5⟩
  · simp (disch := omega) only [b0, b1, b2, ↓SXd, SXu, slBounds, ↓sop, ↓aop, ↓reduceIte, LV.cells, AOp.dst, LV.I, LV.B, LV.U, LV.S, LV.nil, Nat.reduceEqDiff, Nat.reduceAdd, Nat.reduceMul, Nat.reduceSub, Nat.reduceLeDiff, Nat.reduceBEq, Nat.reduceDiv, Nat.reduceMod, Int.reduceToNat, Int.reduceLT, Int.reduceLE, Int.reduceAdd, Int.reduceSub, Int.reduceMul, Int.reduceEq, Int.reduceNeg, reduceCtorEq, resV, resAll, ARes.ev, LV.flat, ite_true, ite_false, exists_eq_left', exists_eq_left, keyOf, implies_true, fillC, capOf]
    exact ⟨⟨_, _, _, rfl⟩, hD.up (by omega)⟩
end
theorem DrawN.keep {M N N' : Mem} {p t o : Nat} {bs : List Nat} {a b : Nat} (h : DrawN M p t o bs a N) (hp : p < M.length) (ht : t < M.length) (hab : a ≤ b) (hl : N.length ≤ N'.length) (hk : ∀ q, q < M.length → N'[q]? = N[q]?) : DrawN M p t o bs b N' := by
  obtain ⟨⟨⟨i, s, h1, h2⟩, h3, h4⟩, h5, h6⟩ := h
  exact ⟨⟨⟨i, s, by omega, Live.at h2 (hk _ hp)⟩, Has.at' h3 (hk _ ht), h4⟩, by omega, fun q q1 q2 => by rw [hk q q1]; exact h6 q q1 q2⟩
theorem sub_heap {x y z : Int} (hS : Sides x y z) {cs : List Cell} (h : cs.Sublist (cellsOf x y z)) : HeapOK x y z cs :=
  HeapOK.of hS ((cellsOf_sorted hS).sublist h) fun c hc => (mem_cellsOf hS).1 (h.mem hc)
section
variable {p t o a : Nat} {bs : List Nat} {M : Mem}
theorem h_l2Heights {x y z : Int} {t o : Nat} {cs : List Cell} {M : Mem} (h : Tri M t o cs) (hH : HeapOK x y z cs) : CallsTo PG F.spec_l2Heights [.agg [.I x, .I y, .I z, .ref t o cs.length]] M (.ref M.length 0 (viewL x y z 2 cs).length) (M ++ [some (.row (intL (viewL x y z 2 cs)) true 1)]) := by
  have hv := h_l2View (d := 2) (M := M ++ [some (.row [.I x, .I y, .I z, .ref t o cs.length] true 0)]) h.app hH (by omega)
  rw [show ((2 : Nat) : Int) = 2 from rfl] at hv
  refine calls_run K.spec_l2Heights rfl ?_
  simp (disch := omega) only [C.spec_l2Heights, ↓SXd, SXu, slBounds, ↓sop, ↓aop, ↓reduceIte, LV.cells, AOp.dst, LV.I, LV.B, LV.U, LV.S, LV.nil, Nat.reduceEqDiff, Nat.reduceAdd, Nat.reduceMul, Nat.reduceSub, Nat.reduceLeDiff, Nat.reduceBEq, Nat.reduceDiv, Nat.reduceMod, Int.reduceToNat, Int.reduceLT, Int.reduceLE, Int.reduceAdd, Int.reduceSub, Int.reduceMul, Int.reduceEq, Int.reduceNeg, reduceCtorEq, resV, resAll, ARes.ev, LV.flat, ite_true, ite_false, exists_eq_left', exists_eq_left, keyOf, implies_true, fillC, capOf]
  refine callK_of hv ?_
  simp (disch := omega) only [↓SXd, SXu, slBounds, ↓sop, ↓aop, ↓reduceIte, LV.cells, AOp.dst, LV.I, LV.B, LV.U, LV.S, LV.nil, Nat.reduceEqDiff, Nat.reduceAdd, Nat.reduceMul, Nat.reduceSub, Nat.reduceLeDiff, Nat.reduceBEq, Nat.reduceDiv, Nat.reduceMod, Int.reduceToNat, Int.reduceLT, Int.reduceLE, Int.reduceAdd, Int.reduceSub, Int.reduceMul, Int.reduceEq, Int.reduceNeg, reduceCtorEq, resV, resAll, ARes.ev, LV.flat, ite_true, ite_false, exists_eq_left', exists_eq_left, keyOf, implies_true, fillC, capOf]
  exact cmp_keepL (Pre.app _ _) (t := M.length + 1) (by omega) (Live.newj rfl) (intL_lo _) (by simp [rn, rn0, rn1])
/-- A heap that was drawn. -/
def HeapN (M : Mem) (x y z : Int) (v : LV) (N : Mem) : Prop := ∃ (cs : List Cell) (u : Nat), v = .agg [.I x, .I y, .I z, .ref u 0 cs.length] ∧ Live N u (.row (triL cs) true 3) ∧ M.length ≤ u ∧ cs.length ≤ 64
theorem d_someHeap {x y z : Int} (h : CurAt M p t o bs a) (ha : a ≤ 999000) : CallsR PG F.spec_l1Cur_someHeap [.ptr p 0, .I x, .I y, .I z] M fun v N => HeapN M x y z v N ∧ DrawN M p t o bs (a + 140) N := by
  obtain ⟨⟨_, _, _, hpl'⟩, hB, _⟩ := id h
  have hpl := hpl'.lt
  refine callsR_run K.spec_l1Cur_someHeap rfl ?_
  simp (disch := omega) only [C.spec_l1Cur_someHeap, ↓SXd, SXu, slBounds, ↓sop, ↓aop, ↓reduceIte, LV.cells, AOp.dst, LV.I, LV.B, LV.U, LV.S, LV.nil, Nat.reduceEqDiff, Nat.reduceAdd, Nat.reduceMul, Nat.reduceSub, Nat.reduceLeDiff, Nat.reduceBEq, Nat.reduceDiv, Nat.reduceMod, Int.reduceToNat, Int.reduceLT, Int.reduceLE, Int.reduceAdd, Int.reduceSub, Int.reduceMul, Int.reduceEq, Int.reduceNeg, reduceCtorEq, resV, resAll, ARes.ev, LV.flat, ite_true, ite_false, exists_eq_left', exists_eq_left, keyOf, implies_true, fillC, capOf]
  refine callK_of (h_l2Empty) ?_
  simp (disch := omega) only [↓SXd, SXu, slBounds, ↓sop, ↓aop, ↓reduceIte, LV.cells, AOp.dst, LV.I, LV.B, LV.U, LV.S, LV.nil, Nat.reduceEqDiff, Nat.reduceAdd, Nat.reduceMul, Nat.reduceSub, Nat.reduceLeDiff, Nat.reduceBEq, Nat.reduceDiv, Nat.reduceMod, Int.reduceToNat, Int.reduceLT, Int.reduceLE, Int.reduceAdd, Int.reduceSub, Int.reduceMul, Int.reduceEq, Int.reduceNeg, reduceCtorEq, resV, resAll, ARes.ev, LV.flat, ite_true, ite_false, exists_eq_left', exists_eq_left, keyOf, implies_true, fillC, capOf]
  have h1 : CurAt (M ++ [some (.row [.I 0, .I 0, .I 0, .nil] true 0), some (.row [] true 3)]) p t o bs a := h.pre (Pre.app _ _)
  have hL1 : Live (M ++ [some (.row [.I 0, .I 0, .I 0, .nil] true 0), some (.row [] true 3)]) (M.length + 1) (.row (triL []) true 3) := Live.newj rfl
  have hL0 : Live (M ++ [some (.row [.I 0, .I 0, .I 0, .nil] true 0), some (.row [] true 3)]) M.length (.row [.I 0, .I 0, .I 0, .nil] true 0) := Live.new
  have hpM : Pre M (M ++ [some (.row [.I 0, .I 0, .I 0, .nil] true 0), some (.row [] true 3)]) := Pre.app _ _
  have ham := d_amongNew (xs := [2, 3, 2, 4]) h1 (by omega) (by simp) (by simp)
  rw [List.append_assoc, List.length_append] at ham
  refine callR_of ham ?_
  rintro _ N1 ⟨⟨odds, rfl, _⟩, hd1⟩
  have htM := hB.lt
  have hN1 := hd1.2.1
  simp only [List.length_append, List.length_cons, List.length_nil] at hN1
  have b8 : Live N1 M.length (.row [.I 0, .I 0, .I 0, .nil] true 0) := Live.at hL0 (hd1.2.2 _ (by simp) (by omega))
  have bc : Live N1 (M.length + 1) (.row (triL []) true 3) := Live.at hL1 (hd1.2.2 _ (by simp) (by omega))
  have hD1 : DrawN M p t o bs (a + 2) N1 := DrawN.of_pre hpM hd1
  simp (disch := omega) only [splice, ↓SXd, SXu, slBounds, ↓sop, ↓aop, ↓reduceIte, LV.cells, AOp.dst, LV.I, LV.B, LV.U, LV.S, LV.nil, Nat.reduceEqDiff, Nat.reduceAdd, Nat.reduceMul, Nat.reduceSub, Nat.reduceLeDiff, Nat.reduceBEq, Nat.reduceDiv, Nat.reduceMod, Int.reduceToNat, Int.reduceLT, Int.reduceLE, Int.reduceAdd, Int.reduceSub, Int.reduceMul, Int.reduceEq, Int.reduceNeg, reduceCtorEq, resV, resAll, ARes.ev, LV.flat, ite_true, ite_false, exists_eq_left', exists_eq_left, keyOf, implies_true, fillC, capOf]
  refine callK_of (h_l2Sides) ?_
  simp (disch := omega) only [↓SXd, SXu, slBounds, ↓sop, ↓aop, ↓reduceIte, LV.cells, AOp.dst, LV.I, LV.B, LV.U, LV.S, LV.nil, Nat.reduceEqDiff, Nat.reduceAdd, Nat.reduceMul, Nat.reduceSub, Nat.reduceLeDiff, Nat.reduceBEq, Nat.reduceDiv, Nat.reduceMod, Int.reduceToNat, Int.reduceLT, Int.reduceLE, Int.reduceAdd, Int.reduceSub, Int.reduceMul, Int.reduceEq, Int.reduceNeg, reduceCtorEq, resV, resAll, ARes.ev, LV.flat, ite_true, ite_false, exists_eq_left', exists_eq_left, keyOf, implies_true, fillC, capOf]
  by_cases hS : Sides x y z
  · rw [decide_eq_true hS]
    have hcl : (cellsOf x y z).length = vol x y z := by simp [cellsOf]
    have hv := vol_cast hS
    simp (disch := omega) only [splice, ↓SXd, SXu, slBounds, ↓sop, ↓aop, ↓reduceIte, LV.cells, AOp.dst, LV.I, LV.B, LV.U, LV.S, LV.nil, Nat.reduceEqDiff, Nat.reduceAdd, Nat.reduceMul, Nat.reduceSub, Nat.reduceLeDiff, Nat.reduceBEq, Nat.reduceDiv, Nat.reduceMod, Int.reduceToNat, Int.reduceLT, Int.reduceLE, Int.reduceAdd, Int.reduceSub, Int.reduceMul, Int.reduceEq, Int.reduceNeg, reduceCtorEq, resV, resAll, ARes.ev, LV.flat, ite_true, ite_false, exists_eq_left', exists_eq_left, keyOf, implies_true, fillC, capOf]
    refine callK_of (h_l2All hS) ?_
    simp (disch := omega) only [↓SXd, SXu, slBounds, ↓sop, ↓aop, ↓reduceIte, LV.cells, AOp.dst, LV.I, LV.B, LV.U, LV.S, LV.nil, Nat.reduceEqDiff, Nat.reduceAdd, Nat.reduceMul, Nat.reduceSub, Nat.reduceLeDiff, Nat.reduceBEq, Nat.reduceDiv, Nat.reduceMod, Int.reduceToNat, Int.reduceLT, Int.reduceLE, Int.reduceAdd, Int.reduceSub, Int.reduceMul, Int.reduceEq, Int.reduceNeg, reduceCtorEq, resV, resAll, ARes.ev, LV.flat, ite_true, ite_false, exists_eq_left', exists_eq_left, keyOf, implies_true, fillC, capOf]
    refine ev_loop (fun m fr M' => ∃ (i u : Nat) (cs : List Cell), i + m = (cellsOf x y z).length ∧ DrawN M p t o bs (a + 2 + 2 * i) M' ∧ N1.length + 2 ≤ M'.length ∧ Live M' M.length (.row [.I 0, .I 0, .I 0, .nil] true 0) ∧ Live M' N1.length (.row [.I x, .I y, .I z, .ref u 0 cs.length] true 0) ∧ Live M' (N1.length + 1) (.row (triL (cellsOf x y z)) true 3) ∧ Live M' u (.row (triL cs) true 3) ∧
      (u = M.length + 1 ∨ N1.length + 2 ≤ u) ∧ cs.Sublist ((cellsOf x y z).take i) ∧
      fr 0 = .ptr p 0 ∧ fr 1 = .I x ∧ fr 2 = .I y ∧ fr 3 = .I z ∧ fr 8 = .ptr M.length 0 ∧ fr 9 = .ptr N1.length 0 ∧ fr 10 = .I odds ∧ fr 11 = .ref (N1.length + 1) 0 (cellsOf x y z).length ∧ fr 12 = .I i) (cellsOf x y z).length
      ⟨0, M.length + 1, [], by omega, hD1.keep hpl htM (by omega) (by simp) fun q q1 => List.getElem?_append_left (by omega), by simp, b8.app, Live.new, Live.newj rfl, bc.app, .inl rfl, by simp, rfl, rfl, rfl, rfl, rfl, rfl, rfl, rfl, rfl⟩ ?_
    rintro m fr M' ⟨i, u, cs, hi, hd, hMl, c8, c9, ca, cu, hu, hsub, f0, f1, f2, f3, f8, f9, f10, f11, f12⟩
    have hsl := hsub.length_le
    have htl := List.length_take_le i (cellsOf x y z)
    simp (disch := omega) only [f0, f1, f2, f3, f8, f9, f10, f11, f12, ↓SXd, SXu, slBounds, ↓sop, ↓aop, ↓reduceIte, LV.cells, AOp.dst, LV.I, LV.B, LV.U, LV.S, LV.nil, Nat.reduceEqDiff, Nat.reduceAdd, Nat.reduceMul, Nat.reduceSub, Nat.reduceLeDiff, Nat.reduceBEq, Nat.reduceDiv, Nat.reduceMod, Int.reduceToNat, Int.reduceLT, Int.reduceLE, Int.reduceAdd, Int.reduceSub, Int.reduceMul, Int.reduceEq, Int.reduceNeg, reduceCtorEq, resV, resAll, ARes.ev, LV.flat, ite_true, ite_false, exists_eq_left', exists_eq_left, keyOf, implies_true, fillC, capOf]
    refine condC_dec (fun hlt => ?_) (fun hlt => ?_)
    · have hil : i < (cellsOf x y z).length := by omega
      have hts := take_snoc' (d := default) hil
      simp (disch := omega) only [f0, f1, f2, f3, f8, f9, f10, f11, f12, ↓SXd, SXu, slBounds, ↓sop, ↓aop, ↓reduceIte, LV.cells, AOp.dst, LV.I, LV.B, LV.U, LV.S, LV.nil, Nat.reduceEqDiff, Nat.reduceAdd, Nat.reduceMul, Nat.reduceSub, Nat.reduceLeDiff, Nat.reduceBEq, Nat.reduceDiv, Nat.reduceMod, Int.reduceToNat, Int.reduceLT, Int.reduceLE, Int.reduceAdd, Int.reduceSub, Int.reduceMul, Int.reduceEq, Int.reduceNeg, reduceCtorEq, resV, resAll, ARes.ev, LV.flat, ite_true, ite_false, exists_eq_left', exists_eq_left, keyOf, implies_true, fillC, capOf]
      refine callR_of (d_one hd.1 (by omega)) ?_
      rintro _ N2 ⟨⟨b, rfl⟩, hd2⟩
      have k2 : ∀ q, M.length ≤ q → q < M'.length → N2[q]? = M'[q]? := fun q q1 q2 => hd2.2.2 q q2 (by omega)
      have hN2 := hd2.2.1
      have e8 := Live.at c8 (k2 _ (by omega) c8.lt)
      have e9 := Live.at c9 (k2 _ (by omega) c9.lt)
      have ea := Live.at ca (k2 _ (by omega) ca.lt)
      have eu := Live.at cu (k2 _ (by omega) cu.lt)
      have hDD := hd.trans hd2
      have hg2 := ea.tri0 hil
      generalize (cellsOf x y z).getD i default = c at hts hg2
      have e8l := e8.lt
      have e9l := e9.lt
      have eal := ea.lt
      cases b with
      | true =>
        simp (disch := omega) only [f0, f1, f2, f3, f8, f9, f10, f11, f12, e9.cell, hg2, Cell.row, Nat.zero_add, ↓SXd, SXu, slBounds, ↓sop, ↓aop, ↓reduceIte, LV.cells, AOp.dst, LV.I, LV.B, LV.U, LV.S, LV.nil, Nat.reduceEqDiff, Nat.reduceAdd, Nat.reduceMul, Nat.reduceSub, Nat.reduceLeDiff, Nat.reduceBEq, Nat.reduceDiv, Nat.reduceMod, Int.reduceToNat, Int.reduceLT, Int.reduceLE, Int.reduceAdd, Int.reduceSub, Int.reduceMul, Int.reduceEq, Int.reduceNeg, reduceCtorEq, resV, resAll, ARes.ev, LV.flat, ite_true, ite_false, exists_eq_left', exists_eq_left, keyOf, implies_true, fillC, capOf]
        refine appendK_cell eu (by omega) fun N' l1 l2 l3 => ?_
        have d9 := live_step e9 (by omega) l3
        simp (disch := omega) only [f0, f1, f2, f3, f8, f9, f10, f11, f12, ↓SXd, SXu, slBounds, ↓sop, ↓aop, ↓reduceIte, LV.cells, AOp.dst, LV.I, LV.B, LV.U, LV.S, LV.nil, Nat.reduceEqDiff, Nat.reduceAdd, Nat.reduceMul, Nat.reduceSub, Nat.reduceLeDiff, Nat.reduceBEq, Nat.reduceDiv, Nat.reduceMod, Int.reduceToNat, Int.reduceLT, Int.reduceLE, Int.reduceAdd, Int.reduceSub, Int.reduceMul, Int.reduceEq, Int.reduceNeg, reduceCtorEq, resV, resAll, ARes.ev, LV.flat, ite_true, ite_false, exists_eq_left', exists_eq_left, keyOf, implies_true, fillC, capOf]
        refine memK_one d9 (by simp) fun N3 j1 j2 j3 => ?_
        simp (disch := omega) only [f0, f1, f2, f3, f8, f9, f10, f11, f12, ↓SXd, SXu, slBounds, ↓sop, ↓aop, ↓reduceIte, LV.cells, AOp.dst, LV.I, LV.B, LV.U, LV.S, LV.nil, Nat.reduceEqDiff, Nat.reduceAdd, Nat.reduceMul, Nat.reduceSub, Nat.reduceLeDiff, Nat.reduceBEq, Nat.reduceDiv, Nat.reduceMod, Int.reduceToNat, Int.reduceLT, Int.reduceLE, Int.reduceAdd, Int.reduceSub, Int.reduceMul, Int.reduceEq, Int.reduceNeg, reduceCtorEq, resV, resAll, ARes.ev, LV.flat, ite_true, ite_false, exists_eq_left', exists_eq_left, keyOf, implies_true, fillC, capOf]
        rw [cell_eta] at l2 j2
        exact ⟨m - 1, by omega, i + 1, N2.length + 1, cs ++ [c], by omega, hDD.keep hpl htM (by omega) (by omega) fun q q1 => by rw [j3 q (by omega) (by omega), l3 q (by omega) (by omega)], by omega, live_step (live_step e8 (by omega) l3) (by omega) j3, j2, live_step (live_step ea (by omega) l3) (by omega) j3, live_step l2 (by omega) j3, by omega, by rw [hts]; exact hsub.append (List.Sublist.refl _), f0, f1, f2, f3, f8, f9, f10, f11, eqI (natI _)⟩
      | false =>
        simp (disch := omega) only [f0, f1, f2, f3, f8, f9, f10, f11, f12, ↓SXd, SXu, slBounds, ↓sop, ↓aop, ↓reduceIte, LV.cells, AOp.dst, LV.I, LV.B, LV.U, LV.S, LV.nil, Nat.reduceEqDiff, Nat.reduceAdd, Nat.reduceMul, Nat.reduceSub, Nat.reduceLeDiff, Nat.reduceBEq, Nat.reduceDiv, Nat.reduceMod, Int.reduceToNat, Int.reduceLT, Int.reduceLE, Int.reduceAdd, Int.reduceSub, Int.reduceMul, Int.reduceEq, Int.reduceNeg, reduceCtorEq, resV, resAll, ARes.ev, LV.flat, ite_true, ite_false, exists_eq_left', exists_eq_left, keyOf, implies_true, fillC, capOf]
        exact ⟨m - 1, by omega, i + 1, u, cs, by omega, hDD.up (by omega), by omega, e8, e9, ea, eu, hu, by rw [hts]; exact hsub.trans (List.sublist_append_left _ _), f0, f1, f2, f3, f8, f9, f10, f11, eqI (natI _)⟩
    · have hil : i = (cellsOf x y z).length := by omega
      subst hil
      rw [List.take_length] at hsub
      have hH := sub_heap hS hsub
      simp (disch := omega) only [f0, f1, f2, f3, f8, f9, f10, f11, f12, ↓SXd, SXu, slBounds, ↓sop, ↓aop, ↓reduceIte, LV.cells, AOp.dst, LV.I, LV.B, LV.U, LV.S, LV.nil, Nat.reduceEqDiff, Nat.reduceAdd, Nat.reduceMul, Nat.reduceSub, Nat.reduceLeDiff, Nat.reduceBEq, Nat.reduceDiv, Nat.reduceMod, Int.reduceToNat, Int.reduceLT, Int.reduceLE, Int.reduceAdd, Int.reduceSub, Int.reduceMul, Int.reduceEq, Int.reduceNeg, reduceCtorEq, resV, resAll, ARes.ev, LV.flat, ite_true, ite_false, exists_eq_left', exists_eq_left, keyOf, implies_true, fillC, capOf]
      refine callR_of (d_pick hd.1 (by omega)) ?_
      rintro _ N2 ⟨⟨b, rfl, _⟩, hd2⟩
      have k2 : ∀ q, M.length ≤ q → q < M'.length → N2[q]? = M'[q]? := fun q q1 q2 => hd2.2.2 q q2 (by omega)
      have hN2 := hd2.2.1
      have e8 := Live.at c8 (k2 _ (by omega) c8.lt)
      have e9 := Live.at c9 (k2 _ (by omega) c9.lt)
      have eu := Live.at cu (k2 _ (by omega) cu.lt)
      have hDD := hd.trans hd2
      have hfin : ∀ {N3 : Mem} {u3 : Nat} {cs3 : List Cell}, Pre N2 N3 → Live N3 u3 (.row (triL cs3) true 3) → cs3.length ≤ 64 → M.length ≤ u3 → u3 ≠ M.length → u3 ≠ N1.length → ∀ {N4 N5 : Mem}, N4.length = N3.length → (∀ q, q ≠ N1.length → q < N3.length → N4[q]? = N3[q]?) → N5.length = N4.length → (∀ q, q ≠ M.length → q < N4.length → N5[q]? = N4[q]?) → HeapN M x y z (.agg [.I x, .I y, .I z, .ref u3 0 cs3.length]) N5 ∧ DrawN M p t o bs (a + 140) N5 := fun {N3 u3 cs3} hp3 hl3 hc3 h1 h2 h3 {N4 N5} a1 a2 a3 a4 => by
        have hl := hp3.1
        have hul := hl3.lt
        exact ⟨⟨cs3, u3, rfl, live_step (live_step hl3 h3 a2) h2 a4, h1, hc3⟩, hDD.keep hpl htM (by omega) (by omega) fun q q1 => by rw [a4 q (by omega) (by omega), a2 q (by omega) (by omega)]; exact hp3.2 q (by omega)⟩
      by_cases b0 : (b : Int) = 0
      · simp (disch := omega) only [b0, f0, f1, f2, f3, f8, f9, f10, f11, f12, e9.cells, ↓SXd, SXu, slBounds, ↓sop, ↓aop, ↓reduceIte, LV.cells, AOp.dst, LV.I, LV.B, LV.U, LV.S, LV.nil, Nat.reduceEqDiff, Nat.reduceAdd, Nat.reduceMul, Nat.reduceSub, Nat.reduceLeDiff, Nat.reduceBEq, Nat.reduceDiv, Nat.reduceMod, Int.reduceToNat, Int.reduceLT, Int.reduceLE, Int.reduceAdd, Int.reduceSub, Int.reduceMul, Int.reduceEq, Int.reduceNeg, reduceCtorEq, resV, resAll, ARes.ev, LV.flat, ite_true, ite_false, exists_eq_left', exists_eq_left, keyOf, implies_true, fillC, capOf]
        refine callR_of (h_OtherCells eu.has (by omega)) ?_
        rintro _ N3 ⟨h1, _, hp3⟩
        obtain ⟨u3, rfl, hl3, hu3⟩ := h1 hH
        have hl := hp3.1
        simp (disch := omega) only [f0, f1, f2, f3, f8, f9, f10, f11, f12, ↓SXd, SXu, slBounds, ↓sop, ↓aop, ↓reduceIte, LV.cells, AOp.dst, LV.I, LV.B, LV.U, LV.S, LV.nil, Nat.reduceEqDiff, Nat.reduceAdd, Nat.reduceMul, Nat.reduceSub, Nat.reduceLeDiff, Nat.reduceBEq, Nat.reduceDiv, Nat.reduceMod, Int.reduceToNat, Int.reduceLT, Int.reduceLE, Int.reduceAdd, Int.reduceSub, Int.reduceMul, Int.reduceEq, Int.reduceNeg, reduceCtorEq, resV, resAll, ARes.ev, LV.flat, ite_true, ite_false, exists_eq_left', exists_eq_left, keyOf, implies_true, fillC, capOf]
        refine memK_box (e9.pre hp3) (by simp) fun N4 j1 j2 j3 => ?_
        simp (disch := omega) only [f0, f1, f2, f3, f8, f9, f10, f11, f12, j2.cells, ↓SXd, SXu, slBounds, ↓sop, ↓aop, ↓reduceIte, LV.cells, AOp.dst, LV.I, LV.B, LV.U, LV.S, LV.nil, Nat.reduceEqDiff, Nat.reduceAdd, Nat.reduceMul, Nat.reduceSub, Nat.reduceLeDiff, Nat.reduceBEq, Nat.reduceDiv, Nat.reduceMod, Int.reduceToNat, Int.reduceLT, Int.reduceLE, Int.reduceAdd, Int.reduceSub, Int.reduceMul, Int.reduceEq, Int.reduceNeg, reduceCtorEq, resV, resAll, ARes.ev, LV.flat, ite_true, ite_false, exists_eq_left', exists_eq_left, keyOf, implies_true, fillC, capOf]
        refine memK_box (live_step (e8.pre hp3) (by omega) j3) (by simp) fun N5 i1 i2 i3 => ?_
        simp (disch := omega) only [f0, f1, f2, f3, f8, f9, f10, f11, f12, i2.cells, ↓SXd, SXu, slBounds, ↓sop, ↓aop, ↓reduceIte, LV.cells, AOp.dst, LV.I, LV.B, LV.U, LV.S, LV.nil, Nat.reduceEqDiff, Nat.reduceAdd, Nat.reduceMul, Nat.reduceSub, Nat.reduceLeDiff, Nat.reduceBEq, Nat.reduceDiv, Nat.reduceMod, Int.reduceToNat, Int.reduceLT, Int.reduceLE, Int.reduceAdd, Int.reduceSub, Int.reduceMul, Int.reduceEq, Int.reduceNeg, reduceCtorEq, resV, resAll, ARes.ev, LV.flat, ite_true, ite_false, exists_eq_left', exists_eq_left, keyOf, implies_true, fillC, capOf]
        exact hfin hp3 hl3 (pick_len hS _) (by omega) (by omega) (by omega) j1 j3 i1 i3
      by_cases b1 : (b : Int) = 1
      · simp (disch := omega) only [b1, f0, f1, f2, f3, f8, f9, f10, f11, f12, e9.cells, ↓SXd, SXu, slBounds, ↓sop, ↓aop, ↓reduceIte, LV.cells, AOp.dst, LV.I, LV.B, LV.U, LV.S, LV.nil, Nat.reduceEqDiff, Nat.reduceAdd, Nat.reduceMul, Nat.reduceSub, Nat.reduceLeDiff, Nat.reduceBEq, Nat.reduceDiv, Nat.reduceMod, Int.reduceToNat, Int.reduceLT, Int.reduceLE, Int.reduceAdd, Int.reduceSub, Int.reduceMul, Int.reduceEq, Int.reduceNeg, reduceCtorEq, resV, resAll, ARes.ev, LV.flat, ite_true, ite_false, exists_eq_left', exists_eq_left, keyOf, implies_true, fillC, capOf]
        refine callN_of (h_l2Heights eu.has hH) ?_
        intro w N3 hw hp3 hl3
        have hl := hp3.1
        simp (disch := omega) only [f0, f1, f2, f3, f8, f9, f10, f11, f12, ↓SXd, SXu, slBounds, ↓sop, ↓aop, ↓reduceIte, LV.cells, AOp.dst, LV.I, LV.B, LV.U, LV.S, LV.nil, Nat.reduceEqDiff, Nat.reduceAdd, Nat.reduceMul, Nat.reduceSub, Nat.reduceLeDiff, Nat.reduceBEq, Nat.reduceDiv, Nat.reduceMod, Int.reduceToNat, Int.reduceLT, Int.reduceLE, Int.reduceAdd, Int.reduceSub, Int.reduceMul, Int.reduceEq, Int.reduceNeg, reduceCtorEq, resV, resAll, ARes.ev, LV.flat, ite_true, ite_false, exists_eq_left', exists_eq_left, keyOf, implies_true, fillC, capOf]
        refine callR_of (h_l2Stack hS hl3.has (by
          rw [viewL_len]
          have := prod_le hS
          have e : linesOf x y z 2 = x * y := rfl
          omega)) ?_
        rintro _ N4 ⟨u4, rfl, hl4, hu4, hp4⟩
        have hp34 := hp3.trans hp4
        have hll := hp4.1
        simp (disch := omega) only [f0, f1, f2, f3, f8, f9, f10, f11, f12, ↓SXd, SXu, slBounds, ↓sop, ↓aop, ↓reduceIte, LV.cells, AOp.dst, LV.I, LV.B, LV.U, LV.S, LV.nil, Nat.reduceEqDiff, Nat.reduceAdd, Nat.reduceMul, Nat.reduceSub, Nat.reduceLeDiff, Nat.reduceBEq, Nat.reduceDiv, Nat.reduceMod, Int.reduceToNat, Int.reduceLT, Int.reduceLE, Int.reduceAdd, Int.reduceSub, Int.reduceMul, Int.reduceEq, Int.reduceNeg, reduceCtorEq, resV, resAll, ARes.ev, LV.flat, ite_true, ite_false, exists_eq_left', exists_eq_left, keyOf, implies_true, fillC, capOf]
        refine memK_box (e9.pre hp34) (by simp) fun N5 j1 j2 j3 => ?_
        simp (disch := omega) only [f0, f1, f2, f3, f8, f9, f10, f11, f12, j2.cells, ↓SXd, SXu, slBounds, ↓sop, ↓aop, ↓reduceIte, LV.cells, AOp.dst, LV.I, LV.B, LV.U, LV.S, LV.nil, Nat.reduceEqDiff, Nat.reduceAdd, Nat.reduceMul, Nat.reduceSub, Nat.reduceLeDiff, Nat.reduceBEq, Nat.reduceDiv, Nat.reduceMod, Int.reduceToNat, Int.reduceLT, Int.reduceLE, Int.reduceAdd, Int.reduceSub, Int.reduceMul, Int.reduceEq, Int.reduceNeg, reduceCtorEq, resV, resAll, ARes.ev, LV.flat, ite_true, ite_false, exists_eq_left', exists_eq_left, keyOf, implies_true, fillC, capOf]
        refine memK_box (live_step (e8.pre hp34) (by omega) j3) (by simp) fun N6 i1 i2 i3 => ?_
        simp (disch := omega) only [f0, f1, f2, f3, f8, f9, f10, f11, f12, i2.cells, ↓SXd, SXu, slBounds, ↓sop, ↓aop, ↓reduceIte, LV.cells, AOp.dst, LV.I, LV.B, LV.U, LV.S, LV.nil, Nat.reduceEqDiff, Nat.reduceAdd, Nat.reduceMul, Nat.reduceSub, Nat.reduceLeDiff, Nat.reduceBEq, Nat.reduceDiv, Nat.reduceMod, Int.reduceToNat, Int.reduceLT, Int.reduceLE, Int.reduceAdd, Int.reduceSub, Int.reduceMul, Int.reduceEq, Int.reduceNeg, reduceCtorEq, resV, resAll, ARes.ev, LV.flat, ite_true, ite_false, exists_eq_left', exists_eq_left, keyOf, implies_true, fillC, capOf]
        exact hfin hp34 hl4 (pick_len hS _) (by omega) (by omega) (by omega) j1 j3 i1 i3
      · simp (disch := omega) only [b0, b1, f0, f1, f2, f3, f8, f9, f10, f11, f12, e9.cells, ↓SXd, SXu, slBounds, ↓sop, ↓aop, ↓reduceIte, LV.cells, AOp.dst, LV.I, LV.B, LV.U, LV.S, LV.nil, Nat.reduceEqDiff, Nat.reduceAdd, Nat.reduceMul, Nat.reduceSub, Nat.reduceLeDiff, Nat.reduceBEq, Nat.reduceDiv, Nat.reduceMod, Int.reduceToNat, Int.reduceLT, Int.reduceLE, Int.reduceAdd, Int.reduceSub, Int.reduceMul, Int.reduceEq, Int.reduceNeg, reduceCtorEq, resV, resAll, ARes.ev, LV.flat, ite_true, ite_false, exists_eq_left', exists_eq_left, keyOf, implies_true, fillC, capOf]
        refine memK_box e8 (by simp) fun N5 i1 i2 i3 => ?_
        simp (disch := omega) only [f0, f1, f2, f3, f8, f9, f10, f11, f12, i2.cells, ↓SXd, SXu, slBounds, ↓sop, ↓aop, ↓reduceIte, LV.cells, AOp.dst, LV.I, LV.B, LV.U, LV.S, LV.nil, Nat.reduceEqDiff, Nat.reduceAdd, Nat.reduceMul, Nat.reduceSub, Nat.reduceLeDiff, Nat.reduceBEq, Nat.reduceDiv, Nat.reduceMod, Int.reduceToNat, Int.reduceLT, Int.reduceLE, Int.reduceAdd, Int.reduceSub, Int.reduceMul, Int.reduceEq, Int.reduceNeg, reduceCtorEq, resV, resAll, ARes.ev, LV.flat, ite_true, ite_false, exists_eq_left', exists_eq_left, keyOf, implies_true, fillC, capOf]
        exact hfin (Pre.refl _) eu (by omega) (by omega) (by omega) (by omega) rfl (fun _ _ _ => rfl) i1 i3
  · rw [decide_eq_false hS]
    simp (disch := omega) only [splice, ↓SXd, SXu, slBounds, ↓sop, ↓aop, ↓reduceIte, LV.cells, AOp.dst, LV.I, LV.B, LV.U, LV.S, LV.nil, Nat.reduceEqDiff, Nat.reduceAdd, Nat.reduceMul, Nat.reduceSub, Nat.reduceLeDiff, Nat.reduceBEq, Nat.reduceDiv, Nat.reduceMod, Int.reduceToNat, Int.reduceLT, Int.reduceLE, Int.reduceAdd, Int.reduceSub, Int.reduceMul, Int.reduceEq, Int.reduceNeg, reduceCtorEq, resV, resAll, ARes.ev, LV.flat, ite_true, ite_false, exists_eq_left', exists_eq_left, keyOf, implies_true, fillC, capOf]
    refine memK_box b8.app (by simp) fun N3 j1 j2 j3 => ?_
    simp (disch := omega) only [j2.cells, ↓SXd, SXu, slBounds, ↓sop, ↓aop, ↓reduceIte, LV.cells, AOp.dst, LV.I, LV.B, LV.U, LV.S, LV.nil, Nat.reduceEqDiff, Nat.reduceAdd, Nat.reduceMul, Nat.reduceSub, Nat.reduceLeDiff, Nat.reduceBEq, Nat.reduceDiv, Nat.reduceMod, Int.reduceToNat, Int.reduceLT, Int.reduceLE, Int.reduceAdd, Int.reduceSub, Int.reduceMul, Int.reduceEq, Int.reduceNeg, reduceCtorEq, resV, resAll, ARes.ev, LV.flat, ite_true, ite_false, exists_eq_left', exists_eq_left, keyOf, implies_true, fillC, capOf]
    refine ⟨⟨[], M.length + 1, rfl, live_step bc.app (by omega) j3, by omega, by simp⟩, hD1.keep hpl htM (by omega) (by rw [j1]; simp) fun q q1 => by rw [j3 q (by omega) (by simp; omega), List.getElem?_append_left (by omega)]⟩
end
end Go.Ab

/- Contracts: the heap that a law draws from its bytes. -/
namespace Go.Ab
open Go
set_option linter.unusedSimpArgs false
set_option linter.unusedVariables false
set_option maxRecDepth 20000

/-- A new reader. -/
theorem CurAt.new {t o : Nat} {bs : List Nat} {M : Mem} (hB : Bytes M t o bs) (h255 : ∀ b ∈ bs, b ≤ 255) (hl : bs.length ≤ 1000000000) : CurAt (M ++ [some (.row [.ref t o bs.length, .I 0, .val (.int .u64 0)] true 0)]) M.length t o bs 0 := by
  have ht := hB.lt
  exact ⟨⟨0, 0, Nat.le_refl _, Live.new⟩, Has.app hB, by omega, h255, hl⟩
/-- A heap, valid or not, all of whose cells are new. -/
def HeapD (M : Mem) (v : LV) (N : Mem) : Prop := ∃ (x y z : Int) (w : LV) (cs : List Cell), v = .agg [.I x, .I y, .I z, w] ∧ ((w = .nil ∧ cs = []) ∨ ∃ u, w = .ref u 0 cs.length ∧ Live N u (.row (triL cs) true 3)) ∧ Newer M w ∧ cs.length ≤ 65
theorem d_heap {p t o a : Nat} {bs : List Nat} {M : Mem} (h : CurAt M p t o bs a) (ha : a ≤ 990000) : CallsR PG F.spec_l1Cur_heap [.ptr p 0] M fun v N => HeapD M v N ∧ DrawN M p t o bs (a + 160) N := by
  obtain ⟨⟨_, _, _, hpl'⟩, hB, _⟩ := id h
  have hpl := hpl'.lt
  have htM := hB.lt
  refine callsR_run K.spec_l1Cur_heap rfl ?_
  simp (disch := omega) only [C.spec_l1Cur_heap, ↓SXd, SXu, slBounds, ↓sop, ↓aop, ↓reduceIte, LV.cells, AOp.dst, LV.I, LV.B, LV.U, LV.S, LV.nil, Nat.reduceEqDiff, Nat.reduceAdd, Nat.reduceMul, Nat.reduceSub, Nat.reduceLeDiff, Nat.reduceBEq, Nat.reduceDiv, Nat.reduceMod, Int.reduceToNat, Int.reduceLT, Int.reduceLE, Int.reduceAdd, Int.reduceSub, Int.reduceMul, Int.reduceEq, Int.reduceNeg, reduceCtorEq, resV, resAll, ARes.ev, LV.flat, ite_true, ite_false, exists_eq_left', exists_eq_left, keyOf, implies_true, fillC, capOf]
  have h0 : CurAt (M ++ [some (.row [.I 0, .I 0, .I 0, .val (.slice none 0 0)] true 0)]) p t o bs a := h.pre (Pre.app _ _)
  refine callR_of (d_sides h0 (by omega)) ?_
  rintro _ N1 ⟨⟨x, y, z, rfl⟩, hd1⟩
  have hN1 := hd1.2.1
  rw [List.length_append, List.length_singleton] at hN1
  have b2 : Live N1 M.length (.row [.I 0, .I 0, .I 0, .val (.slice none 0 0)] true 0) := Live.at Live.new (hd1.2.2 _ (by simp) (by omega))
  have hD1 := DrawN.of_pre (Pre.app _ _) hd1
  simp (disch := omega) only [↓SXd, SXu, slBounds, ↓sop, ↓aop, ↓reduceIte, LV.cells, AOp.dst, LV.I, LV.B, LV.U, LV.S, LV.nil, Nat.reduceEqDiff, Nat.reduceAdd, Nat.reduceMul, Nat.reduceSub, Nat.reduceLeDiff, Nat.reduceBEq, Nat.reduceDiv, Nat.reduceMod, Int.reduceToNat, Int.reduceLT, Int.reduceLE, Int.reduceAdd, Int.reduceSub, Int.reduceMul, Int.reduceEq, Int.reduceNeg, reduceCtorEq, resV, resAll, ARes.ev, LV.flat, ite_true, ite_false, exists_eq_left', exists_eq_left, keyOf, implies_true, fillC, capOf]
  refine callR_of (d_someHeap hd1.1 (by omega)) ?_
  rintro _ N2 ⟨⟨cs, u, rfl, hu, hul, hcl⟩, hd2⟩
  have hN2 := hd2.2.1
  have c2 := Live.at b2 (hd2.2.2 _ b2.lt (by omega))
  have hD2 := hD1.trans hd2
  have hull := hu.lt
  simp (disch := omega) only [splice, ↓SXd, SXu, slBounds, ↓sop, ↓aop, ↓reduceIte, LV.cells, AOp.dst, LV.I, LV.B, LV.U, LV.S, LV.nil, Nat.reduceEqDiff, Nat.reduceAdd, Nat.reduceMul, Nat.reduceSub, Nat.reduceLeDiff, Nat.reduceBEq, Nat.reduceDiv, Nat.reduceMod, Int.reduceToNat, Int.reduceLT, Int.reduceLE, Int.reduceAdd, Int.reduceSub, Int.reduceMul, Int.reduceEq, Int.reduceNeg, reduceCtorEq, resV, resAll, ARes.ev, LV.flat, ite_true, ite_false, exists_eq_left', exists_eq_left, keyOf, implies_true, fillC, capOf]
  have hu3 : Live (N2 ++ [some (.row [.I x, .I y, .I z, .ref u 0 cs.length] true 0)]) u (.row (triL cs) true 3) := hu.app
  have c3 : Live (N2 ++ [some (.row [.I x, .I y, .I z, .ref u 0 cs.length] true 0)]) M.length (.row [.I 0, .I 0, .I 0, .val (.slice none 0 0)] true 0) := c2.app
  have c6 : Live (N2 ++ [some (.row [.I x, .I y, .I z, .ref u 0 cs.length] true 0)]) N2.length (.row [.I x, .I y, .I z, .ref u 0 cs.length] true 0) := Live.new
  have hD3 : DrawN M p t o bs (a + 150) (N2 ++ [some (.row [.I x, .I y, .I z, .ref u 0 cs.length] true 0)]) := hD2.keep hpl htM (by omega) (by simp) fun q q1 => List.getElem?_append_left (by omega)
  have hl3 : (N2 ++ [some (Blk.row [.I x, .I y, .I z, .ref u 0 cs.length] true 0)]).length = N2.length + 1 := by simp
  generalize N2 ++ [some (Blk.row [.I x, .I y, .I z, .ref u 0 cs.length] true 0)] = N3 at hu3 c3 c6 hD3 hl3 ⊢
  refine callR_of (d_pick hD3.1 (by omega)) ?_
  rintro _ N4 ⟨⟨b, rfl, _⟩, hd4⟩
  have hN4 := hd4.2.1
  have k4 : ∀ q, M.length ≤ q → q < N3.length → N4[q]? = N3[q]? := fun q q1 q2 => hd4.2.2 q q2 (by omega)
  have u4 := Live.at hu3 (k4 _ (by omega) hu3.lt)
  have e2 := Live.at c3 (k4 _ (by omega) c3.lt)
  have e6 := Live.at c6 (k4 _ (by omega) c6.lt)
  have e2l := e2.lt
  have e6l := e6.lt
  have u4l := u4.lt
  have hD4 := hD3.trans hd4
  have hfin : ∀ {cs5 : List Cell} {u5 : Nat} {N5 N6 : Mem}, Live N5 u5 (.row (triL cs5) true 3) → cs5.length ≤ 65 → N1.length ≤ u5 → DrawN M p t o bs (a + 160) N5 → N6.length = N5.length → (∀ q, q ≠ M.length → q < N5.length → N6[q]? = N5[q]?) → HeapD M (.agg [.I x, .I y, .I z, .ref u5 0 cs5.length]) N6 ∧ DrawN M p t o bs (a + 160) N6 := fun {cs5 u5 N5 N6} h1 h2 h3 h4 a1 a2 =>
    ⟨⟨x, y, z, _, cs5, rfl, .inr ⟨u5, rfl, live_step h1 (by omega) a2⟩, Newer.of (by omega), h2⟩, h4.keep hpl htM (Nat.le_refl _) (by omega) fun q q1 => a2 q (by omega) (by have := h4.2.1; omega)⟩
  have happ : ∀ {c : Cell} {N5 N6 : Mem}, N5.length = N4.length + 2 → Live N5 (N4.length + 1) (.row (triL (cs ++ [c])) true 3) → (∀ q, q ≠ u → q < N4.length → N5[q]? = N4[q]?) → N6.length = N5.length → (∀ q, q ≠ N2.length → q < N5.length → N6[q]? = N5[q]?) → Live N6 (N4.length + 1) (.row (triL (cs ++ [c])) true 3) ∧ Live N6 M.length (.row [.I 0, .I 0, .I 0, .val (.slice none 0 0)] true 0) ∧ DrawN M p t o bs (a + 160) N6 := fun {c N5 N6} a1 a2 a3 a4 a5 =>
    ⟨live_step a2 (by omega) a5, live_step (live_step e2 (by omega) a3) (by omega) a5, hD4.keep hpl htM (by omega) (by omega) fun q q1 => by rw [a5 q (by omega) (by omega), a3 q (by omega) (by omega)]⟩
  by_cases b0 : (b : Int) = 0
  · simp (disch := omega) only [b0, e6.cell, splice, ↓SXd, SXu, slBounds, ↓sop, ↓aop, ↓reduceIte, LV.cells, AOp.dst, LV.I, LV.B, LV.U, LV.S, LV.nil, Nat.reduceEqDiff, Nat.reduceAdd, Nat.reduceMul, Nat.reduceSub, Nat.reduceLeDiff, Nat.reduceBEq, Nat.reduceDiv, Nat.reduceMod, Int.reduceToNat, Int.reduceLT, Int.reduceLE, Int.reduceAdd, Int.reduceSub, Int.reduceMul, Int.reduceEq, Int.reduceNeg, reduceCtorEq, resV, resAll, ARes.ev, LV.flat, ite_true, ite_false, exists_eq_left', exists_eq_left, keyOf, implies_true, fillC, capOf]
    refine appendK_cell u4 (by omega) fun N5 l1 l2 l3 => ?_
    simp (disch := omega) only [↓SXd, SXu, slBounds, ↓sop, ↓aop, ↓reduceIte, LV.cells, AOp.dst, LV.I, LV.B, LV.U, LV.S, LV.nil, Nat.reduceEqDiff, Nat.reduceAdd, Nat.reduceMul, Nat.reduceSub, Nat.reduceLeDiff, Nat.reduceBEq, Nat.reduceDiv, Nat.reduceMod, Int.reduceToNat, Int.reduceLT, Int.reduceLE, Int.reduceAdd, Int.reduceSub, Int.reduceMul, Int.reduceEq, Int.reduceNeg, reduceCtorEq, resV, resAll, ARes.ev, LV.flat, ite_true, ite_false, exists_eq_left', exists_eq_left, keyOf, implies_true, fillC, capOf]
    refine memK_one (live_step e6 (by omega) l3) (by simp) fun N6 j1 j2 j3 => ?_
    obtain ⟨g1, g2, g3⟩ := happ l1 l2 l3 j1 j3
    simp (disch := omega) only [j2.cells, ↓SXd, SXu, slBounds, ↓sop, ↓aop, ↓reduceIte, LV.cells, AOp.dst, LV.I, LV.B, LV.U, LV.S, LV.nil, Nat.reduceEqDiff, Nat.reduceAdd, Nat.reduceMul, Nat.reduceSub, Nat.reduceLeDiff, Nat.reduceBEq, Nat.reduceDiv, Nat.reduceMod, Int.reduceToNat, Int.reduceLT, Int.reduceLE, Int.reduceAdd, Int.reduceSub, Int.reduceMul, Int.reduceEq, Int.reduceNeg, reduceCtorEq, resV, resAll, ARes.ev, LV.flat, ite_true, ite_false, exists_eq_left', exists_eq_left, keyOf, implies_true, fillC, capOf]
    refine memK_box g2 (by simp) fun N7 i1 i2 i3 => ?_
    simp (disch := omega) only [i2.cells, ↓SXd, SXu, slBounds, ↓sop, ↓aop, ↓reduceIte, LV.cells, AOp.dst, LV.I, LV.B, LV.U, LV.S, LV.nil, Nat.reduceEqDiff, Nat.reduceAdd, Nat.reduceMul, Nat.reduceSub, Nat.reduceLeDiff, Nat.reduceBEq, Nat.reduceDiv, Nat.reduceMod, Int.reduceToNat, Int.reduceLT, Int.reduceLE, Int.reduceAdd, Int.reduceSub, Int.reduceMul, Int.reduceEq, Int.reduceNeg, reduceCtorEq, resV, resAll, ARes.ev, LV.flat, ite_true, ite_false, exists_eq_left', exists_eq_left, keyOf, implies_true, fillC, capOf]
    exact hfin g1 (by simp; omega) (by omega) g3 i1 i3
  by_cases b1 : (b : Int) = 1
  · simp (disch := omega) only [b1, e6.cell, splice, ↓SXd, SXu, slBounds, ↓sop, ↓aop, ↓reduceIte, LV.cells, AOp.dst, LV.I, LV.B, LV.U, LV.S, LV.nil, Nat.reduceEqDiff, Nat.reduceAdd, Nat.reduceMul, Nat.reduceSub, Nat.reduceLeDiff, Nat.reduceBEq, Nat.reduceDiv, Nat.reduceMod, Int.reduceToNat, Int.reduceLT, Int.reduceLE, Int.reduceAdd, Int.reduceSub, Int.reduceMul, Int.reduceEq, Int.reduceNeg, reduceCtorEq, resV, resAll, ARes.ev, LV.flat, ite_true, ite_false, exists_eq_left', exists_eq_left, keyOf, implies_true, fillC, capOf]
    refine appendK_cell u4 (by omega) fun N5 l1 l2 l3 => ?_
    simp (disch := omega) only [↓SXd, SXu, slBounds, ↓sop, ↓aop, ↓reduceIte, LV.cells, AOp.dst, LV.I, LV.B, LV.U, LV.S, LV.nil, Nat.reduceEqDiff, Nat.reduceAdd, Nat.reduceMul, Nat.reduceSub, Nat.reduceLeDiff, Nat.reduceBEq, Nat.reduceDiv, Nat.reduceMod, Int.reduceToNat, Int.reduceLT, Int.reduceLE, Int.reduceAdd, Int.reduceSub, Int.reduceMul, Int.reduceEq, Int.reduceNeg, reduceCtorEq, resV, resAll, ARes.ev, LV.flat, ite_true, ite_false, exists_eq_left', exists_eq_left, keyOf, implies_true, fillC, capOf]
    refine memK_one (live_step e6 (by omega) l3) (by simp) fun N6 j1 j2 j3 => ?_
    obtain ⟨g1, g2, g3⟩ := happ l1 l2 l3 j1 j3
    simp (disch := omega) only [j2.cells, ↓SXd, SXu, slBounds, ↓sop, ↓aop, ↓reduceIte, LV.cells, AOp.dst, LV.I, LV.B, LV.U, LV.S, LV.nil, Nat.reduceEqDiff, Nat.reduceAdd, Nat.reduceMul, Nat.reduceSub, Nat.reduceLeDiff, Nat.reduceBEq, Nat.reduceDiv, Nat.reduceMod, Int.reduceToNat, Int.reduceLT, Int.reduceLE, Int.reduceAdd, Int.reduceSub, Int.reduceMul, Int.reduceEq, Int.reduceNeg, reduceCtorEq, resV, resAll, ARes.ev, LV.flat, ite_true, ite_false, exists_eq_left', exists_eq_left, keyOf, implies_true, fillC, capOf]
    refine memK_box g2 (by simp) fun N7 i1 i2 i3 => ?_
    simp (disch := omega) only [i2.cells, ↓SXd, SXu, slBounds, ↓sop, ↓aop, ↓reduceIte, LV.cells, AOp.dst, LV.I, LV.B, LV.U, LV.S, LV.nil, Nat.reduceEqDiff, Nat.reduceAdd, Nat.reduceMul, Nat.reduceSub, Nat.reduceLeDiff, Nat.reduceBEq, Nat.reduceDiv, Nat.reduceMod, Int.reduceToNat, Int.reduceLT, Int.reduceLE, Int.reduceAdd, Int.reduceSub, Int.reduceMul, Int.reduceEq, Int.reduceNeg, reduceCtorEq, resV, resAll, ARes.ev, LV.flat, ite_true, ite_false, exists_eq_left', exists_eq_left, keyOf, implies_true, fillC, capOf]
    exact hfin g1 (by simp; omega) (by omega) g3 i1 i3
  by_cases b2 : (b : Int) = 2
  · by_cases hc0 : (cs.length : Int) > 0
    · have hg := u4.tri0 (k := 0) (by omega)
      rw [Nat.zero_mul] at hg
      simp (disch := omega) only [b2, e6.cell, hc0, hg, Cell.row, splice, ↓SXd, SXu, slBounds, ↓sop, ↓aop, ↓reduceIte, LV.cells, AOp.dst, LV.I, LV.B, LV.U, LV.S, LV.nil, Nat.reduceEqDiff, Nat.reduceAdd, Nat.reduceMul, Nat.reduceSub, Nat.reduceLeDiff, Nat.reduceBEq, Nat.reduceDiv, Nat.reduceMod, Int.reduceToNat, Int.reduceLT, Int.reduceLE, Int.reduceAdd, Int.reduceSub, Int.reduceMul, Int.reduceEq, Int.reduceNeg, reduceCtorEq, resV, resAll, ARes.ev, LV.flat, ite_true, ite_false, exists_eq_left', exists_eq_left, keyOf, implies_true, fillC, capOf]
      refine appendK_cell u4 (by omega) fun N5 l1 l2 l3 => ?_
      simp (disch := omega) only [↓SXd, SXu, slBounds, ↓sop, ↓aop, ↓reduceIte, LV.cells, AOp.dst, LV.I, LV.B, LV.U, LV.S, LV.nil, Nat.reduceEqDiff, Nat.reduceAdd, Nat.reduceMul, Nat.reduceSub, Nat.reduceLeDiff, Nat.reduceBEq, Nat.reduceDiv, Nat.reduceMod, Int.reduceToNat, Int.reduceLT, Int.reduceLE, Int.reduceAdd, Int.reduceSub, Int.reduceMul, Int.reduceEq, Int.reduceNeg, reduceCtorEq, resV, resAll, ARes.ev, LV.flat, ite_true, ite_false, exists_eq_left', exists_eq_left, keyOf, implies_true, fillC, capOf]
      refine memK_one (live_step e6 (by omega) l3) (by simp) fun N6 j1 j2 j3 => ?_
      obtain ⟨g1, g2, g3⟩ := happ l1 l2 l3 j1 j3
      simp (disch := omega) only [j2.cells, ↓SXd, SXu, slBounds, ↓sop, ↓aop, ↓reduceIte, LV.cells, AOp.dst, LV.I, LV.B, LV.U, LV.S, LV.nil, Nat.reduceEqDiff, Nat.reduceAdd, Nat.reduceMul, Nat.reduceSub, Nat.reduceLeDiff, Nat.reduceBEq, Nat.reduceDiv, Nat.reduceMod, Int.reduceToNat, Int.reduceLT, Int.reduceLE, Int.reduceAdd, Int.reduceSub, Int.reduceMul, Int.reduceEq, Int.reduceNeg, reduceCtorEq, resV, resAll, ARes.ev, LV.flat, ite_true, ite_false, exists_eq_left', exists_eq_left, keyOf, implies_true, fillC, capOf]
      refine memK_box g2 (by simp) fun N7 i1 i2 i3 => ?_
      simp (disch := omega) only [i2.cells, ↓SXd, SXu, slBounds, ↓sop, ↓aop, ↓reduceIte, LV.cells, AOp.dst, LV.I, LV.B, LV.U, LV.S, LV.nil, Nat.reduceEqDiff, Nat.reduceAdd, Nat.reduceMul, Nat.reduceSub, Nat.reduceLeDiff, Nat.reduceBEq, Nat.reduceDiv, Nat.reduceMod, Int.reduceToNat, Int.reduceLT, Int.reduceLE, Int.reduceAdd, Int.reduceSub, Int.reduceMul, Int.reduceEq, Int.reduceNeg, reduceCtorEq, resV, resAll, ARes.ev, LV.flat, ite_true, ite_false, exists_eq_left', exists_eq_left, keyOf, implies_true, fillC, capOf]
      exact hfin g1 (by simp; omega) (by omega) g3 i1 i3
    · simp (disch := omega) only [b2, e6.cell, hc0, e6.cells, ↓SXd, SXu, slBounds, ↓sop, ↓aop, ↓reduceIte, LV.cells, AOp.dst, LV.I, LV.B, LV.U, LV.S, LV.nil, Nat.reduceEqDiff, Nat.reduceAdd, Nat.reduceMul, Nat.reduceSub, Nat.reduceLeDiff, Nat.reduceBEq, Nat.reduceDiv, Nat.reduceMod, Int.reduceToNat, Int.reduceLT, Int.reduceLE, Int.reduceAdd, Int.reduceSub, Int.reduceMul, Int.reduceEq, Int.reduceNeg, reduceCtorEq, resV, resAll, ARes.ev, LV.flat, ite_true, ite_false, exists_eq_left', exists_eq_left, keyOf, implies_true, fillC, capOf]
      refine memK_box e2 (by simp) fun N7 i1 i2 i3 => ?_
      simp (disch := omega) only [i2.cells, ↓SXd, SXu, slBounds, ↓sop, ↓aop, ↓reduceIte, LV.cells, AOp.dst, LV.I, LV.B, LV.U, LV.S, LV.nil, Nat.reduceEqDiff, Nat.reduceAdd, Nat.reduceMul, Nat.reduceSub, Nat.reduceLeDiff, Nat.reduceBEq, Nat.reduceDiv, Nat.reduceMod, Int.reduceToNat, Int.reduceLT, Int.reduceLE, Int.reduceAdd, Int.reduceSub, Int.reduceMul, Int.reduceEq, Int.reduceNeg, reduceCtorEq, resV, resAll, ARes.ev, LV.flat, ite_true, ite_false, exists_eq_left', exists_eq_left, keyOf, implies_true, fillC, capOf]
      exact hfin u4 (by omega) (by omega) (hD4.up (by omega)) i1 i3
  by_cases b3 : (b : Int) = 3
  · simp (disch := omega) only [b3, ↓SXd, SXu, slBounds, ↓sop, ↓aop, ↓reduceIte, LV.cells, AOp.dst, LV.I, LV.B, LV.U, LV.S, LV.nil, Nat.reduceEqDiff, Nat.reduceAdd, Nat.reduceMul, Nat.reduceSub, Nat.reduceLeDiff, Nat.reduceBEq, Nat.reduceDiv, Nat.reduceMod, Int.reduceToNat, Int.reduceLT, Int.reduceLE, Int.reduceAdd, Int.reduceSub, Int.reduceMul, Int.reduceEq, Int.reduceNeg, reduceCtorEq, resV, resAll, ARes.ev, LV.flat, ite_true, ite_false, exists_eq_left', exists_eq_left, keyOf, implies_true, fillC, capOf]
    refine memK_box e2 (by simp) fun N7 i1 i2 i3 => ?_
    simp (disch := omega) only [i2.cells, ↓SXd, SXu, slBounds, ↓sop, ↓aop, ↓reduceIte, LV.cells, AOp.dst, LV.I, LV.B, LV.U, LV.S, LV.nil, Nat.reduceEqDiff, Nat.reduceAdd, Nat.reduceMul, Nat.reduceSub, Nat.reduceLeDiff, Nat.reduceBEq, Nat.reduceDiv, Nat.reduceMod, Int.reduceToNat, Int.reduceLT, Int.reduceLE, Int.reduceAdd, Int.reduceSub, Int.reduceMul, Int.reduceEq, Int.reduceNeg, reduceCtorEq, resV, resAll, ARes.ev, LV.flat, ite_true, ite_false, exists_eq_left', exists_eq_left, keyOf, implies_true, fillC, capOf]
    exact ⟨⟨0, 0, 0, .nil, [], rfl, .inl ⟨rfl, rfl⟩, Newer.nil, by simp⟩, (hD4.up (by omega)).keep hpl htM (Nat.le_refl _) (by omega) fun q q1 => i3 q (by omega) (by omega)⟩
  · simp (disch := omega) only [b0, b1, b2, b3, e6.cells, ↓SXd, SXu, slBounds, ↓sop, ↓aop, ↓reduceIte, LV.cells, AOp.dst, LV.I, LV.B, LV.U, LV.S, LV.nil, Nat.reduceEqDiff, Nat.reduceAdd, Nat.reduceMul, Nat.reduceSub, Nat.reduceLeDiff, Nat.reduceBEq, Nat.reduceDiv, Nat.reduceMod, Int.reduceToNat, Int.reduceLT, Int.reduceLE, Int.reduceAdd, Int.reduceSub, Int.reduceMul, Int.reduceEq, Int.reduceNeg, reduceCtorEq, resV, resAll, ARes.ev, LV.flat, ite_true, ite_false, exists_eq_left', exists_eq_left, keyOf, implies_true, fillC, capOf]
    refine memK_box e2 (by simp) fun N7 i1 i2 i3 => ?_
    simp (disch := omega) only [i2.cells, ↓SXd, SXu, slBounds, ↓sop, ↓aop, ↓reduceIte, LV.cells, AOp.dst, LV.I, LV.B, LV.U, LV.S, LV.nil, Nat.reduceEqDiff, Nat.reduceAdd, Nat.reduceMul, Nat.reduceSub, Nat.reduceLeDiff, Nat.reduceBEq, Nat.reduceDiv, Nat.reduceMod, Int.reduceToNat, Int.reduceLT, Int.reduceLE, Int.reduceAdd, Int.reduceSub, Int.reduceMul, Int.reduceEq, Int.reduceNeg, reduceCtorEq, resV, resAll, ARes.ev, LV.flat, ite_true, ite_false, exists_eq_left', exists_eq_left, keyOf, implies_true, fillC, capOf]
    exact hfin u4 (by omega) (by omega) (hD4.up (by omega)) i1 i3
end Go.Ab

/- Contracts: what the laws of the walks draw. -/
namespace Go.Ab
open Go
set_option linter.unusedSimpArgs false
set_option linter.unusedVariables false
set_option maxRecDepth 20000

/-- A heap, valid or not, all of whose cells are new. -/
def HeapR (M : Mem) (v : LV) (N : Mem) : Prop := ∃ (x y z : Int) (cs : List Cell) (u : Nat) (ex : List Cell), v = .agg [.I x, .I y, .I z, .ref u 0 cs.length] ∧ Live N u (.row (triL (cs ++ ex)) true 3) ∧ M.length ≤ u ∧ cs.length ≤ 65
theorem d_heapR {p t o a : Nat} {bs : List Nat} {M : Mem} (h : CurAt M p t o bs a) (ha : a ≤ 990000) : CallsR PG F.spec_l1Cur_heap [.ptr p 0] M fun v N => HeapR M v N ∧ DrawN M p t o bs (a + 160) N := by
  obtain ⟨⟨_, _, _, hpl'⟩, hB, _⟩ := id h
  have hpl := hpl'.lt
  have htM := hB.lt
  refine (d_heap h ha).den (e := 3) ?_
  rintro v N ⟨⟨x, y, z, w, cs, rfl, hs, hnw, hl⟩, hd⟩
  rcases hs with ⟨rfl, rfl⟩ | ⟨u, rfl, hu⟩
  · exact .inr ⟨.agg [.I x, .I y, .I z, .ref N.length 0 0], .inl (.inr ⟨_, _, rfl, rfl, .rfl, .rfl, .rfl, .nil, trivial⟩), ⟨x, y, z, [], N.length, [], rfl, Live.new, hd.2.1, by simp⟩, hd.keep hpl htM (Nat.le_refl _) (by simp) fun q q1 => List.getElem?_append_left (by have := hd.2.1; omega)⟩
  · refine .inl ⟨⟨x, y, z, cs, u, [], rfl, by rw [List.append_nil]; exact hu, ?_, hl⟩, hd⟩
    rcases Nat.lt_or_ge u M.length with h1 | h1
    · exact absurd rfl (hnw u h1)
    · exact h1
/-- The same, with nothing behind its cells. -/
def HeapE (M : Mem) (v : LV) (N : Mem) : Prop := ∃ (x y z : Int) (cs : List Cell) (u : Nat), v = .agg [.I x, .I y, .I z, .ref u 0 cs.length] ∧ Live N u (.row (triL cs) true 3) ∧ M.length ≤ u ∧ cs.length ≤ 65
theorem DrawN.live {M N : Mem} {p t o a u : Nat} {bs : List Nat} {b : Blk} (hd : DrawN M p t o bs a N) (h : Live M u b) (hne : u ≠ p) : Live N u b := Live.at h (hd.2.2 u h.lt hne)
theorem DrawN.stay {M N : Mem} {p t o a q : Nat} {bs : List Nat} (hd : DrawN M p t o bs a N) (h : q < M.length) (hne : q ≠ p) : ∀ b : Blk, M[q]? = some (some b) → N[q]? = some (some b) := fun b hb => by rw [hd.2.2 q h hne]; exact hb
theorem CurAt.stepped {M N : Mem} {p t o a u : Nat} {bs : List Nat} (h : CurAt M p t o bs a) (hp : p ≠ u) (ht : t ≠ u) (l3 : ∀ q, q ≠ u → q < M.length → N[q]? = M[q]?) : CurAt N p t o bs a := by
  obtain ⟨⟨i, s, h1, h2⟩, h3, h4⟩ := h
  exact ⟨⟨i, s, h1, Live.at h2 (l3 _ hp h2.lt)⟩, Has.at' h3 (l3 _ ht h3.lt), h4⟩
/-- Behind a draw of a reader that is new. -/
theorem DrawN.pre {M M0 N : Mem} {p t o a : Nat} {bs : List Nat} (hd : DrawN M p t o bs a N) (h : Pre M0 M) (hp : M0.length ≤ p) : Pre M0 N :=
  ⟨Nat.le_trans h.1 hd.2.1, fun q hq => by rw [hd.2.2 q (Nat.lt_of_lt_of_le hq h.1) (by omega)]; exact h.2 q hq⟩
theorem CurAt.new2 {t o : Nat} {bs : List Nat} {M : Mem} {b : Option Blk} (hB : Bytes M t o bs) (h255 : ∀ b ∈ bs, b ≤ 255) (hl : bs.length ≤ 1000000000) : CurAt (M ++ [b, some (.row [.ref t o bs.length, .I 0, .val (.int .u64 0)] true 0)]) (M.length + 1) t o bs 0 := by
  have := CurAt.new (M := M ++ [b]) (t := t) (o := o) (bs := bs) (Has.app hB) h255 hl
  rw [List.append_assoc, List.length_append] at this
  exact this
theorem h_l2Fit {n : Int} {M : Mem} : CallsTo PG F.spec_l2Fit [.I n] M (.I (max 1 (min n 4))) M := by
  refine calls_run K.spec_l2Fit rfl ?_
  simp (disch := omega) only [C.spec_l2Fit, ↓SXd, SXu, slBounds, ↓sop, ↓aop, ↓reduceIte, LV.cells, AOp.dst, LV.I, LV.B, LV.U, LV.S, LV.nil, Nat.reduceEqDiff, Nat.reduceAdd, Nat.reduceMul, Nat.reduceSub, Nat.reduceLeDiff, Nat.reduceBEq, Nat.reduceDiv, Nat.reduceMod, Int.reduceToNat, Int.reduceLT, Int.reduceLE, Int.reduceAdd, Int.reduceSub, Int.reduceMul, Int.reduceEq, Int.reduceNeg, reduceCtorEq, resV, resAll, ARes.ev, LV.flat, ite_true, ite_false, exists_eq_left', exists_eq_left, keyOf, implies_true, fillC, capOf]
  refine callK_of (h_l1Least) ?_
  simp (disch := omega) only [↓SXd, SXu, slBounds, ↓sop, ↓aop, ↓reduceIte, LV.cells, AOp.dst, LV.I, LV.B, LV.U, LV.S, LV.nil, Nat.reduceEqDiff, Nat.reduceAdd, Nat.reduceMul, Nat.reduceSub, Nat.reduceLeDiff, Nat.reduceBEq, Nat.reduceDiv, Nat.reduceMod, Int.reduceToNat, Int.reduceLT, Int.reduceLE, Int.reduceAdd, Int.reduceSub, Int.reduceMul, Int.reduceEq, Int.reduceNeg, reduceCtorEq, resV, resAll, ARes.ev, LV.flat, ite_true, ite_false, exists_eq_left', exists_eq_left, keyOf, implies_true, fillC, capOf]
  refine callK_of (h_l1Most) ?_
  simp (disch := omega) only [↓SXd, SXu, slBounds, ↓sop, ↓aop, ↓reduceIte, LV.cells, AOp.dst, LV.I, LV.B, LV.U, LV.S, LV.nil, Nat.reduceEqDiff, Nat.reduceAdd, Nat.reduceMul, Nat.reduceSub, Nat.reduceLeDiff, Nat.reduceBEq, Nat.reduceDiv, Nat.reduceMod, Int.reduceToNat, Int.reduceLT, Int.reduceLE, Int.reduceAdd, Int.reduceSub, Int.reduceMul, Int.reduceEq, Int.reduceNeg, reduceCtorEq, resV, resAll, ARes.ev, LV.flat, ite_true, ite_false, exists_eq_left', exists_eq_left, keyOf, implies_true, fillC, capOf]
  exact cmp_drop0 rfl
section
variable {p t o a : Nat} {bs : List Nat} {M : Mem}
theorem d_columnOf {x y z : Int} {w : LV} (h : CurAt M p t o bs a) (ha : a ≤ 999900) : CallsR PG F.spec_l1Cur_columnOf [.ptr p 0, .agg [.I x, .I y, .I z, w]] M fun v N => (∃ b : Int, v = .I b) ∧ DrawN M p t o bs (a + 4) N := by
  obtain ⟨⟨_, _, _, hpl'⟩, hB, _⟩ := id h
  have hpl := hpl'.lt
  have htM := hB.lt
  refine callsR_run K.spec_l1Cur_columnOf rfl ?_
  simp (disch := omega) only [C.spec_l1Cur_columnOf, ↓SXd, SXu, slBounds, ↓sop, ↓aop, ↓reduceIte, LV.cells, AOp.dst, LV.I, LV.B, LV.U, LV.S, LV.nil, Nat.reduceEqDiff, Nat.reduceAdd, Nat.reduceMul, Nat.reduceSub, Nat.reduceLeDiff, Nat.reduceBEq, Nat.reduceDiv, Nat.reduceMod, Int.reduceToNat, Int.reduceLT, Int.reduceLE, Int.reduceAdd, Int.reduceSub, Int.reduceMul, Int.reduceEq, Int.reduceNeg, reduceCtorEq, resV, resAll, ARes.ev, LV.flat, ite_true, ite_false, exists_eq_left', exists_eq_left, keyOf, implies_true, fillC, capOf]
  refine callR_of (d_one (h.pre (Pre.app _ _)) (by omega)) ?_
  rintro _ N1 ⟨⟨b, rfl⟩, hd1⟩
  have b3 : Live N1 M.length (.row [.I x, .I y, .I z, w] true 0) := hd1.live Live.new (by omega)
  cases b
  · simp (disch := omega) only [b3.cell, ↓SXd, SXu, slBounds, ↓sop, ↓aop, ↓reduceIte, LV.cells, AOp.dst, LV.I, LV.B, LV.U, LV.S, LV.nil, Nat.reduceEqDiff, Nat.reduceAdd, Nat.reduceMul, Nat.reduceSub, Nat.reduceLeDiff, Nat.reduceBEq, Nat.reduceDiv, Nat.reduceMod, Int.reduceToNat, Int.reduceLT, Int.reduceLE, Int.reduceAdd, Int.reduceSub, Int.reduceMul, Int.reduceEq, Int.reduceNeg, reduceCtorEq, resV, resAll, ARes.ev, LV.flat, ite_true, ite_false, exists_eq_left', exists_eq_left, keyOf, implies_true, fillC, capOf]
    refine callK_of (h_l2Fit) ?_
    simp (disch := omega) only [↓SXd, SXu, slBounds, ↓sop, ↓aop, ↓reduceIte, LV.cells, AOp.dst, LV.I, LV.B, LV.U, LV.S, LV.nil, Nat.reduceEqDiff, Nat.reduceAdd, Nat.reduceMul, Nat.reduceSub, Nat.reduceLeDiff, Nat.reduceBEq, Nat.reduceDiv, Nat.reduceMod, Int.reduceToNat, Int.reduceLT, Int.reduceLE, Int.reduceAdd, Int.reduceSub, Int.reduceMul, Int.reduceEq, Int.reduceNeg, reduceCtorEq, resV, resAll, ARes.ev, LV.flat, ite_true, ite_false, exists_eq_left', exists_eq_left, keyOf, implies_true, fillC, capOf]
    refine callK_of (h_l2Fit) ?_
    simp (disch := omega) only [↓SXd, SXu, slBounds, ↓sop, ↓aop, ↓reduceIte, LV.cells, AOp.dst, LV.I, LV.B, LV.U, LV.S, LV.nil, Nat.reduceEqDiff, Nat.reduceAdd, Nat.reduceMul, Nat.reduceSub, Nat.reduceLeDiff, Nat.reduceBEq, Nat.reduceDiv, Nat.reduceMod, Int.reduceToNat, Int.reduceLT, Int.reduceLE, Int.reduceAdd, Int.reduceSub, Int.reduceMul, Int.reduceEq, Int.reduceNeg, reduceCtorEq, resV, resAll, ARes.ev, LV.flat, ite_true, ite_false, exists_eq_left', exists_eq_left, keyOf, implies_true, fillC, capOf]
    refine callR_of (d_pick hd1.1 (by omega)) ?_
    rintro _ N2 ⟨⟨b, rfl, _⟩, hd2⟩
    simp (disch := omega) only [↓SXd, SXu, slBounds, ↓sop, ↓aop, ↓reduceIte, LV.cells, AOp.dst, LV.I, LV.B, LV.U, LV.S, LV.nil, Nat.reduceEqDiff, Nat.reduceAdd, Nat.reduceMul, Nat.reduceSub, Nat.reduceLeDiff, Nat.reduceBEq, Nat.reduceDiv, Nat.reduceMod, Int.reduceToNat, Int.reduceLT, Int.reduceLE, Int.reduceAdd, Int.reduceSub, Int.reduceMul, Int.reduceEq, Int.reduceNeg, reduceCtorEq, resV, resAll, ARes.ev, LV.flat, ite_true, ite_false, exists_eq_left', exists_eq_left, keyOf, implies_true, fillC, capOf]
    exact ⟨⟨_, rfl⟩, DrawN.of_pre (Pre.app _ _) (hd1.trans hd2)⟩
  · simp (disch := omega) only [b3.cell, splice, ↓SXd, SXu, slBounds, ↓sop, ↓aop, ↓reduceIte, LV.cells, AOp.dst, LV.I, LV.B, LV.U, LV.S, LV.nil, Nat.reduceEqDiff, Nat.reduceAdd, Nat.reduceMul, Nat.reduceSub, Nat.reduceLeDiff, Nat.reduceBEq, Nat.reduceDiv, Nat.reduceMod, Int.reduceToNat, Int.reduceLT, Int.reduceLE, Int.reduceAdd, Int.reduceSub, Int.reduceMul, Int.reduceEq, Int.reduceNeg, reduceCtorEq, resV, resAll, ARes.ev, LV.flat, ite_true, ite_false, exists_eq_left', exists_eq_left, keyOf, implies_true, fillC, capOf]
    refine callR_of (d_amongNew (xs := [-1, IntKind.i64.wrap (x * y), 16, 4611686018427387904]) hd1.1 (by omega) (by simp) (by simp)) ?_
    rintro _ N2 ⟨⟨b, rfl, _⟩, hd2⟩
    simp (disch := omega) only [↓SXd, SXu, slBounds, ↓sop, ↓aop, ↓reduceIte, LV.cells, AOp.dst, LV.I, LV.B, LV.U, LV.S, LV.nil, Nat.reduceEqDiff, Nat.reduceAdd, Nat.reduceMul, Nat.reduceSub, Nat.reduceLeDiff, Nat.reduceBEq, Nat.reduceDiv, Nat.reduceMod, Int.reduceToNat, Int.reduceLT, Int.reduceLE, Int.reduceAdd, Int.reduceSub, Int.reduceMul, Int.reduceEq, Int.reduceNeg, reduceCtorEq, resV, resAll, ARes.ev, LV.flat, ite_true, ite_false, exists_eq_left', exists_eq_left, keyOf, implies_true, fillC, capOf]
    exact ⟨⟨_, rfl⟩, DrawN.of_pre (Pre.app _ _) (hd1.trans hd2)⟩
theorem d_reach (h : CurAt M p t o bs a) (ha : a ≤ 999900) : CallsR PG F.spec_l1Cur_reach [.ptr p 0] M fun v N => (∃ b : Int, v = .I b) ∧ DrawN M p t o bs (a + 2) N := by
  refine callsR_run K.spec_l1Cur_reach rfl ?_
  simp (disch := omega) only [C.spec_l1Cur_reach, splice, ↓SXd, SXu, slBounds, ↓sop, ↓aop, ↓reduceIte, LV.cells, AOp.dst, LV.I, LV.B, LV.U, LV.S, LV.nil, Nat.reduceEqDiff, Nat.reduceAdd, Nat.reduceMul, Nat.reduceSub, Nat.reduceLeDiff, Nat.reduceBEq, Nat.reduceDiv, Nat.reduceMod, Int.reduceToNat, Int.reduceLT, Int.reduceLE, Int.reduceAdd, Int.reduceSub, Int.reduceMul, Int.reduceEq, Int.reduceNeg, reduceCtorEq, resV, resAll, ARes.ev, LV.flat, ite_true, ite_false, exists_eq_left', exists_eq_left, keyOf, implies_true, fillC, capOf]
  refine callR_of (d_amongNew (xs := [1, 0, 2, 1, 3, 4, 4611686018427387904, -1]) h (by omega) (by simp) (by simp)) ?_
  rintro _ N2 ⟨⟨b, rfl, _⟩, hd2⟩
  simp (disch := omega) only [↓SXd, SXu, slBounds, ↓sop, ↓aop, ↓reduceIte, LV.cells, AOp.dst, LV.I, LV.B, LV.U, LV.S, LV.nil, Nat.reduceEqDiff, Nat.reduceAdd, Nat.reduceMul, Nat.reduceSub, Nat.reduceLeDiff, Nat.reduceBEq, Nat.reduceDiv, Nat.reduceMod, Int.reduceToNat, Int.reduceLT, Int.reduceLE, Int.reduceAdd, Int.reduceSub, Int.reduceMul, Int.reduceEq, Int.reduceNeg, reduceCtorEq, resV, resAll, ARes.ev, LV.flat, ite_true, ite_false, exists_eq_left', exists_eq_left, keyOf, implies_true, fillC, capOf]
  exact ⟨⟨_, rfl⟩, hd2⟩
end
section
variable {t o : Nat} {bs : List Nat} {M : Mem} (hB : Bytes M t o bs) (h255 : ∀ b ∈ bs, b ≤ 255) (hl : bs.length ≤ 1000000000)
include hB h255 hl
theorem d_DrawTopDistance : CallsR PG F.spec_DrawTopDistance [.ref t o bs.length] M fun v N => (∃ (hv : LV) (p q s : Int), v = .tup [hv, .I p, .I q, .I s] ∧ HeapR M hv N) ∧ Pre M N := by
  have htM := hB.lt
  refine callsR_run K.spec_DrawTopDistance rfl ?_
  simp (disch := omega) only [C.spec_DrawTopDistance, splice, ↓SXd, SXu, slBounds, ↓sop, ↓aop, ↓reduceIte, LV.cells, AOp.dst, LV.I, LV.B, LV.U, LV.S, LV.nil, Nat.reduceEqDiff, Nat.reduceAdd, Nat.reduceMul, Nat.reduceSub, Nat.reduceLeDiff, Nat.reduceBEq, Nat.reduceDiv, Nat.reduceMod, Int.reduceToNat, Int.reduceLT, Int.reduceLE, Int.reduceAdd, Int.reduceSub, Int.reduceMul, Int.reduceEq, Int.reduceNeg, reduceCtorEq, resV, resAll, ARes.ev, LV.flat, ite_true, ite_false, exists_eq_left', exists_eq_left, keyOf, implies_true, fillC, capOf]
  have hc := CurAt.new2 (b := some (.row [.I 0, .I 0, .I 0, .nil] true 0)) hB h255 hl
  refine callR_of (d_heapR hc (by omega)) ?_
  rintro _ N1 ⟨⟨x, y, z, cs, u, ex, rfl, hu, hul, hcl⟩, hd1⟩
  rw [List.length_append] at hul
  simp only [List.length_cons, List.length_nil] at hul
  have b2 : Live N1 M.length (.row [.I 0, .I 0, .I 0, .nil] true 0) := hd1.live Live.new (by omega)
  have hP1 : Pre M N1 := hd1.pre (Pre.app _ _) (by omega)
  have hN1 := hP1.1
  have hull := hu.lt
  simp (disch := omega) only [splice, ↓SXd, SXu, slBounds, ↓sop, ↓aop, ↓reduceIte, LV.cells, AOp.dst, LV.I, LV.B, LV.U, LV.S, LV.nil, Nat.reduceEqDiff, Nat.reduceAdd, Nat.reduceMul, Nat.reduceSub, Nat.reduceLeDiff, Nat.reduceBEq, Nat.reduceDiv, Nat.reduceMod, Int.reduceToNat, Int.reduceLT, Int.reduceLE, Int.reduceAdd, Int.reduceSub, Int.reduceMul, Int.reduceEq, Int.reduceNeg, reduceCtorEq, resV, resAll, ARes.ev, LV.flat, ite_true, ite_false, exists_eq_left', exists_eq_left, keyOf, implies_true, fillC, capOf]
  have hd1' : CurAt (N1 ++ [some (.row [.I x, .I y, .I z, .ref u 0 cs.length] true 0)]) (M.length + 1) t o bs 160 := hd1.1.pre (Pre.app _ _)
  refine callR_of (d_columnOf hd1' (by omega)) ?_
  rintro _ N2 ⟨⟨p, rfl⟩, hd2⟩
  have b3 : Live N2 N1.length (.row [.I x, .I y, .I z, .ref u 0 cs.length] true 0) := hd2.live Live.new (by omega)
  simp (disch := omega) only [↓SXd, SXu, slBounds, ↓sop, ↓aop, ↓reduceIte, LV.cells, AOp.dst, LV.I, LV.B, LV.U, LV.S, LV.nil, Nat.reduceEqDiff, Nat.reduceAdd, Nat.reduceMul, Nat.reduceSub, Nat.reduceLeDiff, Nat.reduceBEq, Nat.reduceDiv, Nat.reduceMod, Int.reduceToNat, Int.reduceLT, Int.reduceLE, Int.reduceAdd, Int.reduceSub, Int.reduceMul, Int.reduceEq, Int.reduceNeg, reduceCtorEq, resV, resAll, ARes.ev, LV.flat, ite_true, ite_false, exists_eq_left', exists_eq_left, keyOf, implies_true, fillC, capOf]
  refine ⟨fun b hb => by subst hb; exact b3, ?_⟩
  refine callR_of (d_columnOf hd2.1 (by omega)) ?_
  rintro _ N3 ⟨⟨q, rfl⟩, hd3⟩
  have c3 := hd3.live b3 (by omega)
  simp (disch := omega) only [↓SXd, SXu, slBounds, ↓sop, ↓aop, ↓reduceIte, LV.cells, AOp.dst, LV.I, LV.B, LV.U, LV.S, LV.nil, Nat.reduceEqDiff, Nat.reduceAdd, Nat.reduceMul, Nat.reduceSub, Nat.reduceLeDiff, Nat.reduceBEq, Nat.reduceDiv, Nat.reduceMod, Int.reduceToNat, Int.reduceLT, Int.reduceLE, Int.reduceAdd, Int.reduceSub, Int.reduceMul, Int.reduceEq, Int.reduceNeg, reduceCtorEq, resV, resAll, ARes.ev, LV.flat, ite_true, ite_false, exists_eq_left', exists_eq_left, keyOf, implies_true, fillC, capOf]
  refine ⟨hd3.stay b3.lt (by omega), ?_⟩
  refine callR_of (d_reach hd3.1 (by omega)) ?_
  rintro _ N4 ⟨⟨s, rfl⟩, hd4⟩
  have hD := (hd2.trans hd3).trans hd4
  have e2 : Live N4 M.length (.row [.I 0, .I 0, .I 0, .nil] true 0) := hD.live b2.app (by omega)
  have eu : Live N4 u (.row (triL (cs ++ ex)) true 3) := hD.live hu.app (by omega)
  have hP4 : Pre M N4 := hD.pre (hP1.trans (Pre.app _ _)) (by omega)
  have e2l := e2.lt
  simp (disch := omega) only [↓SXd, SXu, slBounds, ↓sop, ↓aop, ↓reduceIte, LV.cells, AOp.dst, LV.I, LV.B, LV.U, LV.S, LV.nil, Nat.reduceEqDiff, Nat.reduceAdd, Nat.reduceMul, Nat.reduceSub, Nat.reduceLeDiff, Nat.reduceBEq, Nat.reduceDiv, Nat.reduceMod, Int.reduceToNat, Int.reduceLT, Int.reduceLE, Int.reduceAdd, Int.reduceSub, Int.reduceMul, Int.reduceEq, Int.reduceNeg, reduceCtorEq, resV, resAll, ARes.ev, LV.flat, ite_true, ite_false, exists_eq_left', exists_eq_left, keyOf, implies_true, fillC, capOf]
  refine ⟨hd4.stay c3.lt (by omega), ?_⟩
  refine memK_box e2 (by simp) fun N5 i1 i2 i3 => ?_
  simp (disch := omega) only [i2.cells, ↓SXd, SXu, slBounds, ↓sop, ↓aop, ↓reduceIte, LV.cells, AOp.dst, LV.I, LV.B, LV.U, LV.S, LV.nil, Nat.reduceEqDiff, Nat.reduceAdd, Nat.reduceMul, Nat.reduceSub, Nat.reduceLeDiff, Nat.reduceBEq, Nat.reduceDiv, Nat.reduceMod, Int.reduceToNat, Int.reduceLT, Int.reduceLE, Int.reduceAdd, Int.reduceSub, Int.reduceMul, Int.reduceEq, Int.reduceNeg, reduceCtorEq, resV, resAll, ARes.ev, LV.flat, ite_true, ite_false, exists_eq_left', exists_eq_left, keyOf, implies_true, fillC, capOf]
  exact ⟨⟨_, p, q, s, rfl, x, y, z, cs, u, ex, rfl, live_step eu (by omega) i3, by omega, hcl⟩, pre_step hP4 (by omega) (j := 0) i1 i3⟩
theorem d_DrawFirstTopWalk : CallsR PG F.spec_DrawFirstTopWalk [.ref t o bs.length] M fun v N => (∃ (hv : LV) (p q s : Int), v = .tup [hv, .I p, .I q, .I s] ∧ HeapR M hv N) ∧ Pre M N := by
  have htM := hB.lt
  refine callsR_run K.spec_DrawFirstTopWalk rfl ?_
  simp (disch := omega) only [C.spec_DrawFirstTopWalk, splice, ↓SXd, SXu, slBounds, ↓sop, ↓aop, ↓reduceIte, LV.cells, AOp.dst, LV.I, LV.B, LV.U, LV.S, LV.nil, Nat.reduceEqDiff, Nat.reduceAdd, Nat.reduceMul, Nat.reduceSub, Nat.reduceLeDiff, Nat.reduceBEq, Nat.reduceDiv, Nat.reduceMod, Int.reduceToNat, Int.reduceLT, Int.reduceLE, Int.reduceAdd, Int.reduceSub, Int.reduceMul, Int.reduceEq, Int.reduceNeg, reduceCtorEq, resV, resAll, ARes.ev, LV.flat, ite_true, ite_false, exists_eq_left', exists_eq_left, keyOf, implies_true, fillC, capOf]
  refine callR_of (d_DrawTopDistance (M := M ++ [some (.row [.I 0, .I 0, .I 0, .nil] true 0)]) (Has.app hB) h255 hl) ?_
  rintro _ N1 ⟨⟨_, p, q, s, rfl, x, y, z, cs, u, ex, rfl, hu, hul, hcl⟩, hp1⟩
  rw [List.length_append] at hul
  simp only [List.length_cons, List.length_nil] at hul
  have b2 : Live N1 M.length (.row [.I 0, .I 0, .I 0, .nil] true 0) := Live.new.pre hp1
  have hP1 : Pre M N1 := (Pre.app _ _).trans hp1
  have b2l := b2.lt
  simp (disch := omega) only [↓SXd, SXu, slBounds, ↓sop, ↓aop, ↓reduceIte, LV.cells, AOp.dst, LV.I, LV.B, LV.U, LV.S, LV.nil, Nat.reduceEqDiff, Nat.reduceAdd, Nat.reduceMul, Nat.reduceSub, Nat.reduceLeDiff, Nat.reduceBEq, Nat.reduceDiv, Nat.reduceMod, Int.reduceToNat, Int.reduceLT, Int.reduceLE, Int.reduceAdd, Int.reduceSub, Int.reduceMul, Int.reduceEq, Int.reduceNeg, reduceCtorEq, resV, resAll, ARes.ev, LV.flat, ite_true, ite_false, exists_eq_left', exists_eq_left, keyOf, implies_true, fillC, capOf]
  refine memK_box b2 (by simp) fun N5 i1 i2 i3 => ?_
  simp (disch := omega) only [i2.cells, ↓SXd, SXu, slBounds, ↓sop, ↓aop, ↓reduceIte, LV.cells, AOp.dst, LV.I, LV.B, LV.U, LV.S, LV.nil, Nat.reduceEqDiff, Nat.reduceAdd, Nat.reduceMul, Nat.reduceSub, Nat.reduceLeDiff, Nat.reduceBEq, Nat.reduceDiv, Nat.reduceMod, Int.reduceToNat, Int.reduceLT, Int.reduceLE, Int.reduceAdd, Int.reduceSub, Int.reduceMul, Int.reduceEq, Int.reduceNeg, reduceCtorEq, resV, resAll, ARes.ev, LV.flat, ite_true, ite_false, exists_eq_left', exists_eq_left, keyOf, implies_true, fillC, capOf]
  exact ⟨⟨_, p, q, s, rfl, x, y, z, cs, u, ex, rfl, live_step hu (by omega) i3, by omega, hcl⟩, pre_step hP1 (by omega) (j := 0) i1 i3⟩
theorem d_DrawStepColumns : CallsR PG F.spec_DrawStepColumns [.ref t o bs.length] M fun v N => (∃ (hv : LV) (p s : Int), v = .tup [hv, .I p, .I s] ∧ HeapR M hv N) ∧ Pre M N := by
  have htM := hB.lt
  refine callsR_run K.spec_DrawStepColumns rfl ?_
  simp (disch := omega) only [C.spec_DrawStepColumns, splice, ↓SXd, SXu, slBounds, ↓sop, ↓aop, ↓reduceIte, LV.cells, AOp.dst, LV.I, LV.B, LV.U, LV.S, LV.nil, Nat.reduceEqDiff, Nat.reduceAdd, Nat.reduceMul, Nat.reduceSub, Nat.reduceLeDiff, Nat.reduceBEq, Nat.reduceDiv, Nat.reduceMod, Int.reduceToNat, Int.reduceLT, Int.reduceLE, Int.reduceAdd, Int.reduceSub, Int.reduceMul, Int.reduceEq, Int.reduceNeg, reduceCtorEq, resV, resAll, ARes.ev, LV.flat, ite_true, ite_false, exists_eq_left', exists_eq_left, keyOf, implies_true, fillC, capOf]
  have hc := CurAt.new2 (b := some (.row [.I 0, .I 0, .I 0, .nil] true 0)) hB h255 hl
  refine callR_of (d_heapR hc (by omega)) ?_
  rintro _ N1 ⟨⟨x, y, z, cs, u, ex, rfl, hu, hul, hcl⟩, hd1⟩
  rw [List.length_append] at hul
  simp only [List.length_cons, List.length_nil] at hul
  have b2 : Live N1 M.length (.row [.I 0, .I 0, .I 0, .nil] true 0) := hd1.live Live.new (by omega)
  have hP1 : Pre M N1 := hd1.pre (Pre.app _ _) (by omega)
  have hN1 := hP1.1
  have hull := hu.lt
  simp (disch := omega) only [splice, ↓SXd, SXu, slBounds, ↓sop, ↓aop, ↓reduceIte, LV.cells, AOp.dst, LV.I, LV.B, LV.U, LV.S, LV.nil, Nat.reduceEqDiff, Nat.reduceAdd, Nat.reduceMul, Nat.reduceSub, Nat.reduceLeDiff, Nat.reduceBEq, Nat.reduceDiv, Nat.reduceMod, Int.reduceToNat, Int.reduceLT, Int.reduceLE, Int.reduceAdd, Int.reduceSub, Int.reduceMul, Int.reduceEq, Int.reduceNeg, reduceCtorEq, resV, resAll, ARes.ev, LV.flat, ite_true, ite_false, exists_eq_left', exists_eq_left, keyOf, implies_true, fillC, capOf]
  have hd1' : CurAt (N1 ++ [some (.row [.I x, .I y, .I z, .ref u 0 cs.length] true 0)]) (M.length + 1) t o bs 160 := hd1.1.pre (Pre.app _ _)
  refine callR_of (d_columnOf hd1' (by omega)) ?_
  rintro _ N2 ⟨⟨p, rfl⟩, hd2⟩
  have b3 : Live N2 N1.length (.row [.I x, .I y, .I z, .ref u 0 cs.length] true 0) := hd2.live Live.new (by omega)
  simp (disch := omega) only [↓SXd, SXu, slBounds, ↓sop, ↓aop, ↓reduceIte, LV.cells, AOp.dst, LV.I, LV.B, LV.U, LV.S, LV.nil, Nat.reduceEqDiff, Nat.reduceAdd, Nat.reduceMul, Nat.reduceSub, Nat.reduceLeDiff, Nat.reduceBEq, Nat.reduceDiv, Nat.reduceMod, Int.reduceToNat, Int.reduceLT, Int.reduceLE, Int.reduceAdd, Int.reduceSub, Int.reduceMul, Int.reduceEq, Int.reduceNeg, reduceCtorEq, resV, resAll, ARes.ev, LV.flat, ite_true, ite_false, exists_eq_left', exists_eq_left, keyOf, implies_true, fillC, capOf]
  refine ⟨fun b hb => by subst hb; exact b3, ?_⟩
  refine callR_of (d_reach hd2.1 (by omega)) ?_
  rintro _ N4 ⟨⟨s, rfl⟩, hd4⟩
  have hD := hd2.trans hd4
  have e2 : Live N4 M.length (.row [.I 0, .I 0, .I 0, .nil] true 0) := hD.live b2.app (by omega)
  have eu : Live N4 u (.row (triL (cs ++ ex)) true 3) := hD.live hu.app (by omega)
  have hP4 : Pre M N4 := hD.pre (hP1.trans (Pre.app _ _)) (by omega)
  have e2l := e2.lt
  simp (disch := omega) only [↓SXd, SXu, slBounds, ↓sop, ↓aop, ↓reduceIte, LV.cells, AOp.dst, LV.I, LV.B, LV.U, LV.S, LV.nil, Nat.reduceEqDiff, Nat.reduceAdd, Nat.reduceMul, Nat.reduceSub, Nat.reduceLeDiff, Nat.reduceBEq, Nat.reduceDiv, Nat.reduceMod, Int.reduceToNat, Int.reduceLT, Int.reduceLE, Int.reduceAdd, Int.reduceSub, Int.reduceMul, Int.reduceEq, Int.reduceNeg, reduceCtorEq, resV, resAll, ARes.ev, LV.flat, ite_true, ite_false, exists_eq_left', exists_eq_left, keyOf, implies_true, fillC, capOf]
  refine ⟨hd4.stay b3.lt (by omega), ?_⟩
  refine memK_box e2 (by simp) fun N5 i1 i2 i3 => ?_
  simp (disch := omega) only [i2.cells, ↓SXd, SXu, slBounds, ↓sop, ↓aop, ↓reduceIte, LV.cells, AOp.dst, LV.I, LV.B, LV.U, LV.S, LV.nil, Nat.reduceEqDiff, Nat.reduceAdd, Nat.reduceMul, Nat.reduceSub, Nat.reduceLeDiff, Nat.reduceBEq, Nat.reduceDiv, Nat.reduceMod, Int.reduceToNat, Int.reduceLT, Int.reduceLE, Int.reduceAdd, Int.reduceSub, Int.reduceMul, Int.reduceEq, Int.reduceNeg, reduceCtorEq, resV, resAll, ARes.ev, LV.flat, ite_true, ite_false, exists_eq_left', exists_eq_left, keyOf, implies_true, fillC, capOf]
  exact ⟨⟨_, p, s, rfl, x, y, z, cs, u, ex, rfl, live_step eu (by omega) i3, by omega, hcl⟩, pre_step hP4 (by omega) (j := 0) i1 i3⟩
theorem d_DrawTopRegion : CallsR PG F.spec_DrawTopRegion [.ref t o bs.length] M fun v N => (∃ (hv : LV) (p s : Int), v = .tup [hv, .I p, .I s] ∧ HeapR M hv N) ∧ Pre M N := by
  have htM := hB.lt
  refine callsR_run K.spec_DrawTopRegion rfl ?_
  simp (disch := omega) only [C.spec_DrawTopRegion, splice, ↓SXd, SXu, slBounds, ↓sop, ↓aop, ↓reduceIte, LV.cells, AOp.dst, LV.I, LV.B, LV.U, LV.S, LV.nil, Nat.reduceEqDiff, Nat.reduceAdd, Nat.reduceMul, Nat.reduceSub, Nat.reduceLeDiff, Nat.reduceBEq, Nat.reduceDiv, Nat.reduceMod, Int.reduceToNat, Int.reduceLT, Int.reduceLE, Int.reduceAdd, Int.reduceSub, Int.reduceMul, Int.reduceEq, Int.reduceNeg, reduceCtorEq, resV, resAll, ARes.ev, LV.flat, ite_true, ite_false, exists_eq_left', exists_eq_left, keyOf, implies_true, fillC, capOf]
  refine callR_of (d_DrawStepColumns (M := M ++ [some (.row [.I 0, .I 0, .I 0, .nil] true 0)]) (Has.app hB) h255 hl) ?_
  rintro _ N1 ⟨⟨_, p, s, rfl, x, y, z, cs, u, ex, rfl, hu, hul, hcl⟩, hp1⟩
  rw [List.length_append] at hul
  simp only [List.length_cons, List.length_nil] at hul
  have b2 : Live N1 M.length (.row [.I 0, .I 0, .I 0, .nil] true 0) := Live.new.pre hp1
  have hP1 : Pre M N1 := (Pre.app _ _).trans hp1
  have b2l := b2.lt
  simp (disch := omega) only [↓SXd, SXu, slBounds, ↓sop, ↓aop, ↓reduceIte, LV.cells, AOp.dst, LV.I, LV.B, LV.U, LV.S, LV.nil, Nat.reduceEqDiff, Nat.reduceAdd, Nat.reduceMul, Nat.reduceSub, Nat.reduceLeDiff, Nat.reduceBEq, Nat.reduceDiv, Nat.reduceMod, Int.reduceToNat, Int.reduceLT, Int.reduceLE, Int.reduceAdd, Int.reduceSub, Int.reduceMul, Int.reduceEq, Int.reduceNeg, reduceCtorEq, resV, resAll, ARes.ev, LV.flat, ite_true, ite_false, exists_eq_left', exists_eq_left, keyOf, implies_true, fillC, capOf]
  refine memK_box b2 (by simp) fun N5 i1 i2 i3 => ?_
  simp (disch := omega) only [i2.cells, ↓SXd, SXu, slBounds, ↓sop, ↓aop, ↓reduceIte, LV.cells, AOp.dst, LV.I, LV.B, LV.U, LV.S, LV.nil, Nat.reduceEqDiff, Nat.reduceAdd, Nat.reduceMul, Nat.reduceSub, Nat.reduceLeDiff, Nat.reduceBEq, Nat.reduceDiv, Nat.reduceMod, Int.reduceToNat, Int.reduceLT, Int.reduceLE, Int.reduceAdd, Int.reduceSub, Int.reduceMul, Int.reduceEq, Int.reduceNeg, reduceCtorEq, resV, resAll, ARes.ev, LV.flat, ite_true, ite_false, exists_eq_left', exists_eq_left, keyOf, implies_true, fillC, capOf]
  exact ⟨⟨_, p, s, rfl, x, y, z, cs, u, ex, rfl, live_step hu (by omega) i3, by omega, hcl⟩, pre_step hP1 (by omega) (j := 0) i1 i3⟩
theorem d_DrawCountRegions : CallsR PG F.spec_DrawCountRegions [.ref t o bs.length] M fun v N => (∃ (hv : LV) (s : Int), v = .tup [hv, .I s] ∧ HeapR M hv N) ∧ Pre M N := by
  have htM := hB.lt
  refine callsR_run K.spec_DrawCountRegions rfl ?_
  simp (disch := omega) only [C.spec_DrawCountRegions, splice, ↓SXd, SXu, slBounds, ↓sop, ↓aop, ↓reduceIte, LV.cells, AOp.dst, LV.I, LV.B, LV.U, LV.S, LV.nil, Nat.reduceEqDiff, Nat.reduceAdd, Nat.reduceMul, Nat.reduceSub, Nat.reduceLeDiff, Nat.reduceBEq, Nat.reduceDiv, Nat.reduceMod, Int.reduceToNat, Int.reduceLT, Int.reduceLE, Int.reduceAdd, Int.reduceSub, Int.reduceMul, Int.reduceEq, Int.reduceNeg, reduceCtorEq, resV, resAll, ARes.ev, LV.flat, ite_true, ite_false, exists_eq_left', exists_eq_left, keyOf, implies_true, fillC, capOf]
  have hc := CurAt.new2 (b := some (.row [.I 0, .I 0, .I 0, .nil] true 0)) hB h255 hl
  refine callR_of (d_heapR hc (by omega)) ?_
  rintro _ N1 ⟨⟨x, y, z, cs, u, ex, rfl, hu, hul, hcl⟩, hd1⟩
  rw [List.length_append] at hul
  simp only [List.length_cons, List.length_nil] at hul
  have b2 : Live N1 M.length (.row [.I 0, .I 0, .I 0, .nil] true 0) := hd1.live Live.new (by omega)
  have hP1 : Pre M N1 := hd1.pre (Pre.app _ _) (by omega)
  have hN1 := hP1.1
  have hull := hu.lt
  simp (disch := omega) only [splice, ↓SXd, SXu, slBounds, ↓sop, ↓aop, ↓reduceIte, LV.cells, AOp.dst, LV.I, LV.B, LV.U, LV.S, LV.nil, Nat.reduceEqDiff, Nat.reduceAdd, Nat.reduceMul, Nat.reduceSub, Nat.reduceLeDiff, Nat.reduceBEq, Nat.reduceDiv, Nat.reduceMod, Int.reduceToNat, Int.reduceLT, Int.reduceLE, Int.reduceAdd, Int.reduceSub, Int.reduceMul, Int.reduceEq, Int.reduceNeg, reduceCtorEq, resV, resAll, ARes.ev, LV.flat, ite_true, ite_false, exists_eq_left', exists_eq_left, keyOf, implies_true, fillC, capOf]
  refine callR_of (d_reach hd1.1 (by omega)) ?_
  rintro _ N4 ⟨⟨s, rfl⟩, hD⟩
  have e2 : Live N4 M.length (.row [.I 0, .I 0, .I 0, .nil] true 0) := hD.live b2 (by omega)
  have eu : Live N4 u (.row (triL (cs ++ ex)) true 3) := hD.live hu (by omega)
  have hP4 : Pre M N4 := hD.pre hP1 (by omega)
  have e2l := e2.lt
  simp (disch := omega) only [↓SXd, SXu, slBounds, ↓sop, ↓aop, ↓reduceIte, LV.cells, AOp.dst, LV.I, LV.B, LV.U, LV.S, LV.nil, Nat.reduceEqDiff, Nat.reduceAdd, Nat.reduceMul, Nat.reduceSub, Nat.reduceLeDiff, Nat.reduceBEq, Nat.reduceDiv, Nat.reduceMod, Int.reduceToNat, Int.reduceLT, Int.reduceLE, Int.reduceAdd, Int.reduceSub, Int.reduceMul, Int.reduceEq, Int.reduceNeg, reduceCtorEq, resV, resAll, ARes.ev, LV.flat, ite_true, ite_false, exists_eq_left', exists_eq_left, keyOf, implies_true, fillC, capOf]
  refine memK_box e2 (by simp) fun N5 i1 i2 i3 => ?_
  simp (disch := omega) only [i2.cells, ↓SXd, SXu, slBounds, ↓sop, ↓aop, ↓reduceIte, LV.cells, AOp.dst, LV.I, LV.B, LV.U, LV.S, LV.nil, Nat.reduceEqDiff, Nat.reduceAdd, Nat.reduceMul, Nat.reduceSub, Nat.reduceLeDiff, Nat.reduceBEq, Nat.reduceDiv, Nat.reduceMod, Int.reduceToNat, Int.reduceLT, Int.reduceLE, Int.reduceAdd, Int.reduceSub, Int.reduceMul, Int.reduceEq, Int.reduceNeg, reduceCtorEq, resV, resAll, ARes.ev, LV.flat, ite_true, ite_false, exists_eq_left', exists_eq_left, keyOf, implies_true, fillC, capOf]
  exact ⟨⟨_, s, rfl, x, y, z, cs, u, ex, rfl, live_step eu (by omega) i3, by omega, hcl⟩, pre_step hP4 (by omega) (j := 0) i1 i3⟩
end
end Go.Ab
