/- Parts of the proof of FnExactParseHeapCardSaid: F C_LParseHeap K_LParseHeap Sa Sb Sc Sd Se Sw Sx C_Gc K_Gc C_Gb K_Gb C_Ga K_Ga Sf Pg Ga C_Da K_Da Da Gb Gd. -/
import Derived.Test.YtggnfklcgopflaaDoorA3
import Derived.Test.YtggnfklcgopflaaDoorProg
import Derived.KernelRfl
import Derived.IntWalk
import Derived.Laws.Bits64
set_option linter.all false
namespace Go.Ab.F
abbrev main_main : Nat := 0
abbrev gosem_cut : Nat := 1
abbrev gosem_cut_init : Nat := 2
abbrev laws_FnExactHeapText : Nat := 3
abbrev laws_FnExactParseHeap : Nat := 4
abbrev laws_szHeap : Nat := 5
abbrev spec_HeapText : Nat := 6
abbrev laws_toHeap : Nat := 7
abbrev impl_HeapText : Nat := 8
abbrev laws_eqHeap : Nat := 9
abbrev spec_ParseHeap : Nat := 10
abbrev impl_ParseHeap : Nat := 11
abbrev laws_markHeap : Nat := 12
abbrev laws_heldHeap : Nat := 13
abbrev laws_szIntA3S : Nat := 14
abbrev spec_l2Heap : Nat := 15
abbrev spec_l2Text : Nat := 16
abbrev laws_toIntA3S : Nat := 17
abbrev impl_IsHeap : Nat := 18
abbrev impl_heapText : Nat := 19
abbrev laws_eqIntA3S : Nat := 20
abbrev spec_l1Split : Nat := 21
abbrev spec_l1Read : Nat := 22
abbrev spec_l2Empty : Nat := 23
abbrev strings_Split : Nat := 24
abbrev impl_ParseHeap_1 : Nat := 25
abbrev laws_markIntA3S : Nat := 26
abbrev laws_heldIntA3S : Nat := 27
abbrev spec_l2Sides : Nat := 28
abbrev spec_l2In : Nat := 29
abbrev spec_l2Before : Nat := 30
abbrev spec_l1Num : Nat := 31
abbrev laws_toIntA3 : Nat := 32
abbrev impl_Heap_box : Nat := 33
abbrev impl_box_valid : Nat := 34
abbrev impl_box_has : Nat := 35
abbrev impl_compareCells : Nat := 36
abbrev strconv_Itoa : Nat := 37
abbrev impl_digits : Nat := 38
abbrev laws_eqIntA3 : Nat := 39
abbrev spec_l1In : Nat := 40
abbrev strings_genSplit : Nat := 41
abbrev impl_within : Nat := 42
abbrev slices_Compare_Sint_int : Nat := 43
abbrev internal_strconv_Itoa : Nat := 44
abbrev strings_explode : Nat := 45
abbrev strings_Count : Nat := 46
abbrev strings_Index : Nat := 47
abbrev cmp_Compare_int : Nat := 48
abbrev internal_strconv_FormatInt : Nat := 49
abbrev unicode_utf8_RuneCountInString : Nat := 50
abbrev unicode_utf8_DecodeRuneInString : Nat := 51
abbrev internal_bytealg_CountString : Nat := 52
abbrev internal_stringslite_Index : Nat := 53
abbrev cmp_isNaN_int : Nat := 54
abbrev internal_strconv_small : Nat := 55
abbrev internal_strconv_numDigits : Nat := 56
abbrev internal_strconv_formatBase10 : Nat := 57
abbrev internal_strconv_formatBits : Nat := 58
abbrev unicode_utf8_decodeRuneInStringSlow : Nat := 59
abbrev internal_stringslite_IndexByte : Nat := 60
abbrev internal_bytealg_IndexString : Nat := 61
abbrev internal_bytealg_Cutover : Nat := 62
abbrev internal_bytealg_IndexRabinKarp_string : Nat := 63
abbrev internal_strconv_log10Pow2 : Nat := 64
abbrev math_bits_Len64 : Nat := 65
abbrev internal_strconv_bool2_int : Nat := 66
abbrev internal_strconv_isPowerOfTwo : Nat := 67
abbrev math_bits_TrailingZeros : Nat := 68
abbrev internal_bytealg_IndexByteString : Nat := 69
abbrev internal_bytealg_hashStr_string : Nat := 70
abbrev math_bits_TrailingZeros32 : Nat := 71
abbrev math_bits_TrailingZeros64 : Nat := 72
abbrev runtime_boundsError_Error : Nat := 73
abbrev runtime_boundsError_RuntimeError : Nat := 74
abbrev runtime_errorString_Error : Nat := 75
abbrev runtime_errorString_RuntimeError : Nat := 76
abbrev runtime_plainError_Error : Nat := 77
abbrev runtime_plainError_RuntimeError : Nat := 78
abbrev runtime_errorAddressString_Error : Nat := 79
abbrev runtime_errorAddressString_RuntimeError : Nat := 80
abbrev runtime_TypeAssertionError_Error : Nat := 81
abbrev runtime_TypeAssertionError_RuntimeError : Nat := 82
abbrev runtime_PanicNilError_Error : Nat := 83
abbrev runtime_PanicNilError_RuntimeError : Nat := 84
abbrev internal_abi_Type_Align : Nat := 85
abbrev internal_runtime_maps_unhashableTypeError_Error : Nat := 86
abbrev internal_runtime_maps_unhashableTypeError_RuntimeError : Nat := 87
abbrev impl_Heap_euler : Nat := 88
abbrev impl_box_countStairs : Nat := 89
abbrev internal_abi_Kind_String : Nat := 90
abbrev var_s_door_gosem_cut_vars_holds_initialisers_alone_see_the_manifest_s_row_cutvarsword_look_11_test_files_too : Nat := 91
abbrev var_s_door_internal_strconv_uint64pow10_is_laid_by_its_own_initialiser_plain_data_look_11 : Nat := 92
abbrev var_s_door_math_bits_deBruijn32tab_is_laid_by_its_own_initialiser_plain_data_look_11 : Nat := 93
abbrev var_s_door_math_bits_deBruijn64tab_is_laid_by_its_own_initialiser_plain_data_look_11 : Nat := 94
abbrev var_s_door_the_look_of_gosem_cut_vars_went_over_the_folder_that_the_caller_named_as_the_repository_s_root_look_11 : Nat := 95
abbrev var_s_door_unicode_utf8_acceptRanges_is_laid_by_its_own_initialiser_plain_data_look_11 : Nat := 96
abbrev var_s_door_unicode_utf8_first_is_laid_by_its_text_alone_pinned_1 : Nat := 97
abbrev gosem_cut_vars : Nat := 98
end Go.Ab.F

namespace Go.Ab.C
open Go.Ab
def laws_FnExactParseHeap : AFn :=
 ⟨1, 66, [.tmp 2],
 .seq (.ops [(none, .mv 2 (.c (.B false)))])
 (.seq (.seq (.ops [(none, .mv 11 (.t 0)),
 (none, .lenT 12 (.t 11)),
 (none, .bin 13 .gtr (.t 12) (.c (.I 1048576)))])
 (.cond (.t 13) (.seq (.ops [(none, .mv 2 (.c (.B true)))])
 (.ret))
 (.skip)))
 (.seq (.ops [(none, .mv 15 (.t 0)),
 (none, .call (some 16) F.spec_ParseHeap [(.t 15)]),
 (none, .mv 14 (.t 16)),
 (none, .extract 17 (.t 14) 0),
 (none, .extract 18 (.t 14) 1),
 (none, .alloc 3 [(.I 0), (.I 0), (.I 0), .nil]),
 (none, .store 4 (.t 3) (.t 17)),
 (none, .mv 4 (.t 18))])
 (.seq (.ops [(none, .mv 20 (.t 0)),
 (none, .call (some 21) F.impl_ParseHeap [(.t 20)]),
 (none, .mv 19 (.t 21)),
 (none, .extract 22 (.t 19) 0),
 (none, .extract 23 (.t 19) 1),
 (none, .alloc 5 [(.I 0), (.I 0), (.I 0), .nil]),
 (none, .store 4 (.t 5) (.t 22)),
 (none, .mv 6 (.t 23))])
 (.seq (.seq (.ops [(none, .loadN 24 4 (.t 5)),
 (none, .loadN 25 4 (.t 3)),
 (none, .call (some 26) F.laws_eqHeap [(.t 24), (.t 25)]),
 (none, .un 27 .not (.t 26)),
 (none, .mv 28 (.t 27)),
 (some (28, false), .mv 29 (.t 6)),
 (some (28, false), .mv 30 (.t 4)),
 (some (28, false), .eqb 31 true (.t 29) (.t 30)),
 (none, .pick 32 (.t 28) (.c (.B true)) (.t 31))])
 (.cond (.t 32) (.seq (.ops [(none, .mv 2 (.c (.B false)))])
 (.ret))
 (.skip)))
 (.seq (.ops [(none, .mv 7 (.c (.I 1)))])
 (.seq (.ops [(none, .loadN 33 4 (.t 5)),
 (none, .mv 34 (.t 7)),
 (none, .call (some 35) F.laws_markHeap [(.t 33), (.t 34)]),
 (none, .mv 7 (.t 35))])
 (.seq (.ops [(none, .mv 8 (.c (.I 1)))])
 (.seq (.ops [(none, .loadN 36 4 (.t 5)),
 (none, .mv 37 (.t 8)),
 (none, .call (some 38) F.laws_heldHeap [(.t 36), (.t 37)]),
 (none, .mv 8 (.t 38))])
 (.seq (.seq (.ops [(none, .mv 39 (.t 8)),
 (none, .bin 40 .lss (.t 39) (.c (.I 0)))])
 (.cond (.t 40) (.seq (.ops [(none, .mv 2 (.c (.B false)))])
 (.ret))
 (.skip)))
 (.seq (.seq (.ops [(none, .mv 41 (.t 8)),
 (none, .mv 42 (.t 7)),
 (none, .bin 43 .neq (.t 41) (.t 42))])
 (.cond (.t 43) (.seq (.ops [(none, .mv 2 (.c (.B false)))])
 (.ret))
 (.skip)))
 (.seq (.ops [(none, .mv 45 (.t 0)),
 (none, .call (some 46) F.impl_ParseHeap [(.t 45)]),
 (none, .mv 44 (.t 46)),
 (none, .extract 47 (.t 44) 0),
 (none, .extract 48 (.t 44) 1),
 (none, .alloc 9 [(.I 0), (.I 0), (.I 0), .nil]),
 (none, .store 4 (.t 9) (.t 47)),
 (none, .mv 10 (.t 48))])
 (.seq (.seq (.ops [(none, .loadN 49 4 (.t 9)),
 (none, .loadN 50 4 (.t 3)),
 (none, .call (some 51) F.laws_eqHeap [(.t 49), (.t 50)]),
 (none, .un 52 .not (.t 51)),
 (none, .mv 53 (.t 52)),
 (some (53, false), .mv 54 (.t 10)),
 (some (53, false), .mv 55 (.t 4)),
 (some (53, false), .eqb 56 true (.t 54) (.t 55)),
 (none, .pick 57 (.t 53) (.c (.B true)) (.t 56))])
 (.cond (.t 57) (.seq (.ops [(none, .mv 2 (.c (.B false)))])
 (.ret))
 (.skip)))
 (.seq (.ops [(none, .mv 8 (.c (.I 1)))])
 (.seq (.ops [(none, .loadN 58 4 (.t 5)),
 (none, .mv 59 (.t 8)),
 (none, .call (some 60) F.laws_heldHeap [(.t 58), (.t 59)]),
 (none, .mv 8 (.t 60))])
 (.seq (.seq (.ops [(none, .mv 61 (.t 8)),
 (none, .bin 62 .lss (.t 61) (.c (.I 0)))])
 (.cond (.t 62) (.seq (.ops [(none, .mv 2 (.c (.B false)))])
 (.ret))
 (.skip)))
 (.seq (.seq (.ops [(none, .mv 63 (.t 8)),
 (none, .mv 64 (.t 7)),
 (none, .bin 65 .neq (.t 63) (.t 64))])
 (.cond (.t 65) (.seq (.ops [(none, .mv 2 (.c (.B false)))])
 (.ret))
 (.skip)))
 (.seq (.ops [(none, .mv 2 (.c (.B true)))])
 (.ret))))))))))))))))))⟩
end Go.Ab.C

namespace Go.Ab.K
open Go Go.Ab
theorem laws_FnExactParseHeap : prepF Go.Proofs.Tryd.prog F.laws_FnExactParseHeap = some C.laws_FnExactParseHeap := by kernel_rfl
end Go.Ab.K

namespace Go.Ab
open Go

/-! ### What a step leaves -/
def condB (t : Bool) (A B : Prop) : Prop := (t = true → A) ∧ (t = false → B)
def condV (v : LV) (A B : Prop) : Prop := match v with | .val (.bool t) => condB t A B | _ => False
def guardV (v : LV) (want : Bool) (A B : Prop) : Prop := match v with
  | .val (.bool b) => condB (b == want) A B
  | .tup [] => B
  | _ => False
def andK (c : Prop) (A : Prop) : Prop := c ∧ A
def sopK (r : Option (Nat × LV × Prop)) (fr : Fr) (M : Mem) (K : Fr → Mem → Prop) : Prop := match r with
  | some (d, v, c) => andK c (K (upd fr d v) M)
  | none => False
def aopK (r : Option (Nat × (Nat → LV) × Blk × Prop)) (fr : Fr) (M : Mem) (K : Fr → Mem → Prop) : Prop := match r with
  | some (d, v, blk, c) => andK c (K (upd fr d (v M.length)) (M ++ [some blk]))
  | none => False
def memK (r : Option Mem) (A : Mem → Prop) : Prop := match r with
  | some M => A M
  | none => False
def appK (r : Option (LV × Mem)) (A : LV → Mem → Prop) : Prop := match r with
  | some (v, M) => A v M
  | none => False
def callK (P : Program) (f : FuncId) (args : List LV) (M : Mem) (A : LV → Mem → Prop) : Prop := CallsR P f args M A
def storeK (n : Nat) (a x : LV) (M : Mem) (A : Mem → Prop) : Prop := match a, x.cells with
  | .ptr t off, some cs => andK (cs.length = n) (memK (setCells M t off cs) A)
  | _, _ => False
def appendK (esz bytes : Nat) (s x : LV) (M : Mem) (A : LV → Mem → Prop) : Prop := match lenS s, lenS x, winC M esz x with
  | some m, some n, some new => andK ((m + n) * bytes ≤ 140737488355328 ∧ m + n ≤ 9223372036854775807) (appK (appV M esz s n new) A ∨ appS M esz s n new A)
  | _, _, _ => False
def copyK (esz : Nat) (s x : LV) (M : Mem) (A : Nat → Mem → Prop) : Prop := match s, lenS x, winC M esz x with
  | .ref t off m, some n, some new => memK (setCells M t off (new.take (min n m * esz))) (A (min n m))
  | _, _, _ => False
def clearK (e : Nat) (z : List LV) (x : LV) (M : Mem) (A : Mem → Prop) : Prop := match x with
  | .ref t off m => andK (z.length = e) (memK (setCells M t off (List.replicate m z).flatten) A)
  | _ => False
def callVK (P : Program) (x : LV) (args : List LV) (M : Mem) (A : LV → Mem → Prop) : Prop := match x with
  | .clo f caps => callK P f (args ++ caps.map fun p => .ptr p.1 p.2) M A
  | _ => False

def opsK (P : Program) (r : List GOp) (K : Fr → Mem → Prop) : Fr → Mem → Prop := fun fr M => EvOps P r fr M K
def putK (K : Fr → Mem → Prop) (fr : Fr) (d : Option Nat) : LV → Mem → Prop := fun v N => K (putO fr d v) N
def cntK (K : Fr → Mem → Prop) (fr : Fr) (d : Nat) : Nat → Mem → Prop := fun n N => K (upd fr d (.I (n : Int))) N
def seqK (P : Program) (b : ACode) (Q : AExit → Fr → Mem → Prop) : AExit → Fr → Mem → Prop := thenK (fun fr M => EvC P b fr M Q) Q
def evdK (P : Program) (r : List DOp) (lg : List (Option Nat)) (K : Fr → Mem → Prop) : Fr → Mem → Prop := fun fr M => EvD P r fr M lg K
def evd1K (P : Program) (r : List DOp) (lg : List (Option Nat)) (n : Nat) (K : Fr → Mem → Prop) : Fr → Mem → Prop := fun fr M => EvD P r fr M (lg ++ [if M.length = n then none else some n]) K
def evd2K (P : Program) (r : List DOp) (lg : List (Option Nat)) (M : Mem) (ks us : List Nat) (K : Fr → Mem → Prop) : Fr → Mem → Prop := fun fr N => andK (KeepL us M (unmask M ks N)) (EvD P r fr (unmask M ks N) (lg ++ [none]) K)
def endQ (res : List ARes) (M N : Mem) (v : LV) : AExit → Fr → Mem → Prop := fun e fr Me => (e = .normal ∨ e = .ret) ∧ ∃ ve, resV fr Me res = some ve ∧ Cmp M Me ve N v
def endR (res : List ARes) (Post : LV → Mem → Prop) : AExit → Fr → Mem → Prop := fun e fr Me => (e = .normal ∨ e = .ret) ∧ ∃ ve, resV fr Me res = some ve ∧ Post ve Me
def postK (Post : LV → Mem → Prop) (v : LV) (M : Mem) : Prop := Post v M
def rndK (m : Nat) (I : Nat → Fr → Mem → Prop) : Fr → Mem → Prop := fun fr' M' => ∃ m', m' < m ∧ I m' fr' M'

def condC (v : LV) (P : Program) (a b : ACode) (fr : Fr) (M : Mem) (Q : AExit → Fr → Mem → Prop) : Prop := condV v (EvC P a fr M Q) (EvC P b fr M Q)
def guardO (v : LV) (w : Bool) (P : Program) (o : AOp) (fr : Fr) (M : Mem) (K : Fr → Mem → Prop) : Prop := guardV v w (EvOp P o fr M K) (K (putO fr o.dst undefL) M)

@[congr] theorem condB_congr {t t' : Bool} {A B : Prop} (h : t = t') : condB t A B = condB t' A B := by rw [h]
@[congr] theorem andK_congr {c c' : Prop} {A : Prop} (h : c = c') : andK c A = andK c' A := by rw [h]
@[congr] theorem sopK_congr {r r' : Option (Nat × LV × Prop)} {fr : Fr} {M : Mem} {K : Fr → Mem → Prop} (h : r = r') : sopK r fr M K = sopK r' fr M K := by rw [h]
@[congr] theorem aopK_congr {r r' : Option (Nat × (Nat → LV) × Blk × Prop)} {fr : Fr} {M : Mem} {K : Fr → Mem → Prop} (h : r = r') : aopK r fr M K = aopK r' fr M K := by rw [h]
@[congr] theorem memK_congr {r r' : Option Mem} {A : Mem → Prop} (h : r = r') : memK r A = memK r' A := by rw [h]
@[congr] theorem appK_congr {r r' : Option (LV × Mem)} {A : LV → Mem → Prop} (h : r = r') : appK r A = appK r' A := by rw [h]
@[congr] theorem postK_congr {Post : LV → Mem → Prop} {v v' : LV} {M M' : Mem} (h : v = v') (h' : M = M') : postK Post v M = postK Post v' M' := by rw [h, h']
@[congr] theorem callK_congr {P : Program} {f : FuncId} {args args' : List LV} {M M' : Mem} {A : LV → Mem → Prop} (h : args = args') (h' : M = M') : callK P f args M A = callK P f args' M' A := by rw [h, h']
@[congr] theorem storeK_congr {n : Nat} {a a' x x' : LV} {M M' : Mem} {A : Mem → Prop} (h : a = a') (h' : x = x') (h'' : M = M') : storeK n a x M A = storeK n a' x' M' A := by rw [h, h', h'']
@[congr] theorem appendK_congr {esz b : Nat} {s s' x x' : LV} {M M' : Mem} {A : LV → Mem → Prop} (h : s = s') (h' : x = x') (h'' : M = M') : appendK esz b s x M A = appendK esz b s' x' M' A := by rw [h, h', h'']
@[congr] theorem copyK_congr {esz : Nat} {s s' x x' : LV} {M M' : Mem} {A : Nat → Mem → Prop} (h : s = s') (h' : x = x') (h'' : M = M') : copyK esz s x M A = copyK esz s' x' M' A := by rw [h, h', h'']
@[congr] theorem clearK_congr {e : Nat} {z : List LV} {x x' : LV} {M M' : Mem} {A : Mem → Prop} (h : x = x') (h' : M = M') : clearK e z x M A = clearK e z x' M' A := by rw [h, h']
@[congr] theorem callVK_congr {P : Program} {x x' : LV} {args args' : List LV} {M M' : Mem} {A : LV → Mem → Prop} (h : x = x') (h' : args = args') (h'' : M = M') : callVK P x args M A = callVK P x' args' M' A := by rw [h, h', h'']
@[congr] theorem EvC_congr {P : Program} {a : ACode} {fr : Fr} {M M' : Mem} {Q : AExit → Fr → Mem → Prop} (h : M = M') : EvC P a fr M Q = EvC P a fr M' Q := by rw [h]

section
variable {P : Program} {fr : Fr} {M : Mem} {K : Fr → Mem → Prop} {Q : AExit → Fr → Mem → Prop} {A B : Prop}

theorem condB_t : condB true A B = A := by simp [condB]
theorem condB_f : condB false A B = B := by simp [condB]
section
variable {a b : ACode} {o : AOp} {t : Bool} {p : Prop}
theorem condC_t : condC (.val (.bool true)) P a b fr M Q = EvC P a fr M Q := condB_t
theorem condC_f : condC (.val (.bool false)) P a b fr M Q = EvC P b fr M Q := condB_f
theorem condC_not : condC (.val (.bool (!t))) P a b fr M Q = condC (.val (.bool t)) P b a fr M Q := by cases t <;> simp only [Bool.not_true, Bool.not_false, condC_t, condC_f]
theorem condC_dec [Decidable p] (h1 : p → EvC P a fr M Q) (h2 : ¬ p → EvC P b fr M Q) : condC (.val (.bool (decide p))) P a b fr M Q := by
  by_cases h : p
  · rw [decide_eq_true h, condC_t]; exact h1 h
  · rw [decide_eq_false h, condC_f]; exact h2 h
theorem condC_dt [Decidable p] (h : p) : condC (.val (.bool (decide p))) P a b fr M Q = EvC P a fr M Q := by rw [decide_eq_true h, condC_t]
theorem condC_df [Decidable p] (h : ¬ p) : condC (.val (.bool (decide p))) P a b fr M Q = EvC P b fr M Q := by rw [decide_eq_false h, condC_f]
theorem guardO_tt : guardO (.val (.bool true)) true P o fr M K = EvOp P o fr M K := condB_t
theorem guardO_ff : guardO (.val (.bool false)) false P o fr M K = EvOp P o fr M K := condB_t
theorem guardO_tf : guardO (.val (.bool true)) false P o fr M K = K (putO fr o.dst undefL) M := condB_f
theorem guardO_ft : guardO (.val (.bool false)) true P o fr M K = K (putO fr o.dst undefL) M := condB_f
theorem guardO_not {w : Bool} : guardO (.val (.bool (!t))) w P o fr M K = guardO (.val (.bool t)) (!w) P o fr M K := by cases t <;> cases w <;> rfl
theorem guardO_u {w : Bool} : guardO (.tup []) w P o fr M K = K (putO fr o.dst undefL) M := (rfl)
theorem guardO_ud {w : Bool} : guardO undefL w P o fr M K = K (putO fr o.dst undefL) M := (rfl)
theorem guardO_dtt [Decidable p] (h : p) : guardO (.val (.bool (decide p))) true P o fr M K = EvOp P o fr M K := by rw [decide_eq_true h, guardO_tt]
theorem guardO_dtf [Decidable p] (h : p) : guardO (.val (.bool (decide p))) false P o fr M K = K (putO fr o.dst undefL) M := by rw [decide_eq_true h, guardO_tf]
theorem guardO_dft [Decidable p] (h : ¬ p) : guardO (.val (.bool (decide p))) true P o fr M K = K (putO fr o.dst undefL) M := by rw [decide_eq_false h, guardO_ft]
theorem guardO_dff [Decidable p] (h : ¬ p) : guardO (.val (.bool (decide p))) false P o fr M K = EvOp P o fr M K := by rw [decide_eq_false h, guardO_ff]
end
theorem andK_d {c A : Prop} (h : c) : andK c A = A := by simp [andK, h]
theorem andK_t : andK True A = A := by simp [andK]
theorem sopK_s {d : Nat} {v : LV} {c : Prop} : sopK (some (d, v, c)) fr M K = andK c (K (upd fr d v) M) := (rfl)
theorem aopK_s {d : Nat} {v : Nat → LV} {blk : Blk} {c : Prop} : aopK (some (d, v, blk, c)) fr M K = andK c (K (upd fr d (v M.length)) (M ++ [some blk])) := (rfl)
theorem memK_s {A : Mem → Prop} : memK (some M) A = A M := (rfl)
theorem appK_s {A : LV → Mem → Prop} {v : LV} : appK (some (v, M)) A = A v M := (rfl)
theorem storeK_v {n t off : Nat} {v : Value} {A : Mem → Prop} : storeK n (.ptr t off) (.val v) M A = andK (1 = n) (memK (setCells M t off [.val v]) A) := (rfl)
theorem storeK_r {n t off a b c : Nat} {A : Mem → Prop} : storeK n (.ptr t off) (.ref a b c) M A = andK (1 = n) (memK (setCells M t off [.ref a b c]) A) := (rfl)
theorem storeK_p {n t off a b : Nat} {A : Mem → Prop} : storeK n (.ptr t off) (.ptr a b) M A = andK (1 = n) (memK (setCells M t off [.ptr a b]) A) := (rfl)
theorem storeK_m {n t off a : Nat} {A : Mem → Prop} : storeK n (.ptr t off) (.mp a) M A = andK (1 = n) (memK (setCells M t off [.mp a]) A) := (rfl)
theorem storeK_f {n t off : Nat} {f : FuncId} {c : List (Nat × Nat)} {A : Mem → Prop} : storeK n (.ptr t off) (.clo f c) M A = andK (1 = n) (memK (setCells M t off [.clo f c]) A) := (rfl)
theorem storeK_a {n t off : Nat} {cs : List LV} {A : Mem → Prop} : storeK n (.ptr t off) (.agg cs) M A = andK (cs.length = n) (memK (setCells M t off cs) A) := (rfl)

/-! ### Operations -/
theorem ev_sop {o : AOp} (h : o.kind = 0) : EvOp P o fr M K = sopK (sop o fr M) fr M K := by
  have hn := kind0_aop (fr := fr) (M := M) h
  have hs : o.special = false := kind_ne2 (by rw [h]; decide)
  apply propext
  rw [evop_plain hs, hn]
  cases hh : sop o fr M with
  | none => simp [sopK]
  | some r => obtain ⟨d, v, c⟩ := r; simp [sopK, andK]
theorem ev_aop {o : AOp} (h : o.kind = 1) : EvOp P o fr M K = aopK (aop o fr M) fr M K := by
  have hn := kind1_sop (fr := fr) (M := M) h
  have hs : o.special = false := kind_ne2 (by rw [h]; decide)
  apply propext
  rw [evop_plain hs, hn]
  cases hh : aop o fr M with
  | none => simp [aopK]
  | some r => obtain ⟨d, v, b, c⟩ := r; simp [aopK, andK]
theorem ev_store {n : Nat} {a x : Opd} : EvOp P (.store n a x) fr M K = storeK n (a.ev fr) (x.ev fr) M (K fr) := by
  simp only [EvOp, storeK, andK, memK]
  rfl
theorem ev_append {d e b : Nat} {s x : Opd} : EvOp P (.append d e b s x) fr M K = appendK e b (s.ev fr) (x.ev fr) M (putK K fr (some d)) := by
  simp only [EvOp, appendK, andK, appK, and_assoc, putK, putO]
  rfl
theorem ev_copy {d e : Nat} {s x : Opd} : EvOp P (.copy d e s x) fr M K = copyK e (s.ev fr) (x.ev fr) M (cntK K fr d) := by
  simp only [EvOp, copyK, memK, cntK]
  rfl
theorem ev_clear {d : Option Nat} {e : Nat} {z : List LV} {x : Opd} : EvOp P (.clear d e z x) fr M K = clearK e z (x.ev fr) M (putK K fr d undefL) := by
  simp only [EvOp, clearK, andK, memK, putK]
  rfl
theorem clearK_r {e t off m : Nat} {z : List LV} {A : Mem → Prop} : clearK e z (.ref t off m) M A = andK (z.length = e) (memK (setCells M t off (List.replicate m z).flatten) A) := (rfl)
theorem ev_call {d : Option Nat} {f : FuncId} {args : List Opd} : EvOp P (.call d f args) fr M K = callK P f (args.map (·.ev fr)) M (putK K fr d) := (rfl)
theorem ev_callV {d : Option Nat} {x : Opd} {args : List Opd} : EvOp P (.callV d x args) fr M K = callVK P (x.ev fr) (args.map (·.ev fr)) M (putK K fr d) := by
  simp only [EvOp, callVK, callK, putK]
  rfl
theorem callVK_c {f : FuncId} {caps : List (Nat × Nat)} {args : List LV} {A : LV → Mem → Prop} : callVK P (.clo f caps) args M A = callK P f (args ++ caps.map fun p => .ptr p.1 p.2) M A := (rfl)
theorem evg_n {o : AOp} : EvG P (none, o) fr M K = EvOp P o fr M K := (rfl)
theorem evg_s {s : Nat} {w : Bool} {o : AOp} : EvG P (some (s, w), o) fr M K = guardO (fr s) w P o fr M K := by
  simp only [EvG, guardO, guardV, condB]
  cases hs : fr s with
  | val v => cases v <;> simp
  | tup vs => cases vs <;> rfl
  | _ => rfl
theorem evops_n : EvOps P [] fr M K = K fr M := (rfl)
theorem evops_c {g : GOp} {r : List GOp} : EvOps P (g :: r) fr M K = EvG P g fr M (opsK P r K) := (rfl)
theorem opsK_r {r : List GOp} : opsK P r K fr M = EvOps P r fr M K := (rfl)
theorem putK_r {d : Option Nat} {v : LV} : putK K fr d v M = K (putO fr d v) M := (rfl)
theorem cntK_r {d n : Nat} : cntK K fr d n M = K (upd fr d (.I (n : Int))) M := (rfl)
theorem putO_s {d : Nat} {v : LV} : putO fr (some d) v = upd fr d v := (rfl)
theorem putO_n {v : LV} : putO fr none v = fr := (rfl)
theorem upd_at {d i : Nat} {v : LV} : upd fr d v i = if i = d then v else fr i := (rfl)
theorem ev_t {i : Nat} : (Opd.t i).ev fr = fr i := (rfl)
theorem ev_c {v : LV} : (Opd.c v).ev fr = v := (rfl)

/-! ### Code -/
theorem evc_skip : EvC P .skip fr M Q = Q .normal fr M := (rfl)
theorem evc_ops {l : List GOp} : EvC P (.ops l) fr M Q = EvOps P l fr M (Q .normal) := (rfl)
theorem evc_draw {l : List DOp} : EvC P (.draw l) fr M Q = EvD P l fr M [] (Q .normal) := (rfl)
theorem evc_seq {a b : ACode} : EvC P (.seq a b) fr M Q = EvC P a fr M (seqK P b Q) := (rfl)
theorem seqK_n {b : ACode} : seqK P b Q .normal fr M = EvC P b fr M Q := (rfl)
theorem seqK_e {b : ACode} {i : Nat} : seqK P b Q (.exit i) fr M = Q (.exit i) fr M := (rfl)
theorem seqK_r {b : ACode} : seqK P b Q .ret fr M = Q .ret fr M := (rfl)
theorem evc_cond {c : Opd} {a b : ACode} : EvC P (.cond c a b) fr M Q = condC (c.ev fr) P a b fr M Q := by
  simp only [EvC, condC, condV, condB]
  rfl
theorem evc_block {id : Nat} {a : ACode} : EvC P (.block id a) fr M Q = EvC P a fr M (blockK id Q) := (rfl)
theorem evc_exit {id : Nat} : EvC P (.exit id) fr M Q = Q (.exit id) fr M := (rfl)
theorem evc_ret : EvC P .ret fr M Q = Q .ret fr M := (rfl)
theorem thenK_n : thenK K Q .normal fr M = K fr M := (rfl)
theorem thenK_e {i : Nat} : thenK K Q (.exit i) fr M = Q (.exit i) fr M := (rfl)
theorem thenK_r : thenK K Q .ret fr M = Q .ret fr M := (rfl)
theorem endQ_r {res : List ARes} {N0 N : Mem} {v : LV} : endQ res N0 N v .ret fr M = ∃ ve, resV fr M res = some ve ∧ Cmp N0 M ve N v := by simp [endQ]
theorem endQ_n {res : List ARes} {N0 N : Mem} {v : LV} : endQ res N0 N v .normal fr M = ∃ ve, resV fr M res = some ve ∧ Cmp N0 M ve N v := by simp [endQ]
theorem endR_r {res : List ARes} {Post : LV → Mem → Prop} : endR res Post .ret fr M = ∃ ve, resV fr M res = some ve ∧ postK Post ve M := by simp [endR, postK]
theorem endR_n {res : List ARes} {Post : LV → Mem → Prop} : endR res Post .normal fr M = ∃ ve, resV fr M res = some ve ∧ postK Post ve M := by simp [endR, postK]
theorem blockK_n {id : Nat} : blockK id Q .normal fr M = Q .normal fr M := (rfl)
theorem blockK_e {id i : Nat} : blockK id Q (.exit i) fr M = if i = id then Q .normal fr M else Q (.exit i) fr M := (rfl)
theorem blockK_r {id : Nat} : blockK id Q .ret fr M = Q .ret fr M := (rfl)

theorem ev_loop {a : ACode} (I : Nat → Fr → Mem → Prop) (m : Nat) (h0 : I m fr M) (h : ∀ m fr M, I m fr M → EvC P a fr M (thenK (rndK m I) Q)) : EvC P (.loop a) fr M Q := ⟨I, m, h0, h⟩

theorem calls_run {f : FuncId} {fn : AFn} {args : List LV} {N : Mem} {v : LV} (hp : prepF P f = some fn) (hl : args.length = fn.np) (h : EvC P fn.body (fun i => args.getD i undefL) M (endQ fn.res M N v)) : CallsTo P f args M v N :=
  calls_of_ev hp ⟨hl, h⟩

theorem callsR_run {f : FuncId} {fn : AFn} {args : List LV} {Post : LV → Mem → Prop} (hp : prepF P f = some fn) (hl : args.length = fn.np) (h : EvC P fn.body (fun i => args.getD i undefL) M (endR fn.res Post)) : CallsR P f args M Post :=
  callsR_of_ev hp ⟨hl, h⟩

/-! ### Regions that draw -/
theorem evd_n {lg : List (Option Nat)} : EvD P [] fr M lg K = K fr M := (rfl)
theorem evd_0 {g : GOp} {msk unl : List Nat} {r : List DOp} {lg : List (Option Nat)} (h : g.2.kind = 0) :
    EvD P (⟨g, msk, unl⟩ :: r) fr M lg K = EvG P g fr M (evdK P r (lg ++ [keyOf g.2 fr]) K) := by
  simp only [EvD, h, if_true]; rfl
theorem evd_1 {g : GOp} {msk unl : List Nat} {r : List DOp} {lg : List (Option Nat)} (h : g.2.kind = 1) :
    EvD P (⟨g, msk, unl⟩ :: r) fr M lg K = EvG P g fr M (evd1K P r lg M.length K) := by
  simp only [EvD, h, if_true, if_neg (show ¬ (1 : Nat) = 0 by omega)]; rfl
theorem evd_2 {g : GOp} {msk unl : List Nat} {r : List DOp} {lg : List (Option Nat)} (h : g.2.kind = 2) :
    EvD P (⟨g, msk, unl⟩ :: r) fr M lg K = EvG P g fr (maskM (selL msk lg) M) (evd2K P r lg M (selL msk lg) (selL unl lg) K) := by
  simp only [EvD, h, if_neg (show ¬ (2 : Nat) = 1 by omega), if_neg (show ¬ (2 : Nat) = 0 by omega)]; rfl
theorem evdK_r {r : List DOp} {lg : List (Option Nat)} : evdK P r lg K fr M = EvD P r fr M lg K := (rfl)
theorem evd1K_r {r : List DOp} {lg : List (Option Nat)} {n : Nat} : evd1K P r lg n K fr M = EvD P r fr M (lg ++ [if M.length = n then none else some n]) K := (rfl)
theorem evd2K_r {r : List DOp} {lg : List (Option Nat)} {N : Mem} {ks us : List Nat} : evd2K P r lg M ks us K fr N = andK (KeepL us M (unmask M ks N)) (EvD P r fr (unmask M ks N) (lg ++ [none]) K) := (rfl)

theorem ifo_pos {α : Type} {c : Prop} [Decidable c] {a : Option α} (h : c) : (if c then a else none) = a := if_pos h
theorem selL_n {lg : List (Option Nat)} : selL [] lg = [] := (rfl)
theorem selL_c {p : Nat} {ps : List Nat} {lg : List (Option Nat)} : selL (p :: ps) lg = (match (lg[p]?).join with | some k => k :: selL ps lg | none => selL ps lg) := by
  unfold selL
  rw [List.filterMap_cons]
  cases (lg[p]?).join <;> rfl
theorem unmask_c {k : Nat} {ks : List Nat} {N : Mem} : unmask M (k :: ks) N = unmask M ks (match M[k]? with | some (some b) => N.set k (some b) | _ => N) := (rfl)
theorem keepL_c {k : Nat} {ks : List Nat} {N : Mem} : KeepL (k :: ks) M N = ((∀ b, M[k]? = some (some b) → N[k]? = some (some b)) ∧ KeepL ks M N) := by
  simp [KeepL]
theorem keep1_refl {o : Option (Option Blk)} : (∀ b, o = some (some b) → o = some (some b)) = True := by simp
theorem join_ss {α : Type} {x : Option α} : (some x).join = x := (rfl)
theorem add1_ne {n : Nat} : (n + 1 = n) = False := by simp
theorem maskM_n : maskM [] M = M := (rfl)
theorem maskM_c {k : Nat} {ks : List Nat} : maskM (k :: ks) M = maskM ks (M.set k none) := (rfl)
theorem unmask_n {N : Mem} : unmask M [] N = N := (rfl)
theorem keepL_n {N : Mem} : KeepL [] M N = True := by simp [KeepL]
theorem keepL_refl {ks : List Nat} : KeepL ks M M = True := by simp [KeepL]
theorem keepL_app {ks : List Nat} {L : Mem} : KeepL ks M (M ++ L) = True := by
  simp only [KeepL, eq_iff_iff, iff_true]
  intro k _ b h
  have : k < M.length := Live.lt h
  rw [List.getElem?_append_left this]; exact h

/-! ### Memory -/
theorem wrap_id {x : Int} (h : -9223372036854775808 ≤ x ∧ x ≤ 9223372036854775807) : IntKind.i64.wrap x = x := IntWalk.i64_in x h
def getRowL (L : Mem) (t : Nat) : Option (List LV) := getRow L t
def getEszL (L : Mem) (t : Nat) : Option Nat := getEsz L t
def getCellL (L : Mem) (t o : Nat) : Option LV := getCell L t o
def getCellsL (L : Mem) (t o n : Nat) : Option (List LV) := getCells L t o n
def setCellsL (L : Mem) (t o : Nat) (vs : List LV) : Option Mem := setCells L t o vs
theorem getRow_app {L : Mem} {t : Nat} (h : t < M.length) : getRow (M ++ L) t = getRow M t := by unfold getRow; rw [List.getElem?_append_left h]
theorem getCells_app {L : Mem} {t o n : Nat} (h : t < M.length) : getCells (M ++ L) t o n = getCells M t o n := by unfold getCells; rw [getRow_app h]
theorem at_0 {L : Mem} : (M ++ L)[M.length]? = L[0]? := by rw [List.getElem?_append_right (Nat.le_refl _), Nat.sub_self]
theorem at_j {L : Mem} {j : Nat} : (M ++ L)[M.length + j]? = L[j]? := by rw [List.getElem?_append_right (Nat.le_add_right _ _), Nat.add_sub_cancel_left]
theorem set_0 {L : Mem} {x : Option Blk} : (M ++ L).set M.length x = M ++ L.set 0 x := by simp
theorem set_j {L : Mem} {j : Nat} {x : Option Blk} : (M ++ L).set (M.length + j) x = M ++ L.set j x := by simp
theorem len_app {L : Mem} : (M ++ L).length = M.length + L.length := by simp
theorem row_0 {L : Mem} : getRow (M ++ L) M.length = getRowL L 0 := by unfold getRowL getRow; rw [at_0]
theorem row_j {L : Mem} {j : Nat} : getRow (M ++ L) (M.length + j) = getRowL L j := by unfold getRowL getRow; rw [at_j]
theorem esz_0 {L : Mem} : getEsz (M ++ L) M.length = getEszL L 0 := by unfold getEszL getEsz; rw [at_0]
theorem esz_j {L : Mem} {j : Nat} : getEsz (M ++ L) (M.length + j) = getEszL L j := by unfold getEszL getEsz; rw [at_j]
theorem cell_0 {L : Mem} {o : Nat} : getCell (M ++ L) M.length o = getCellL L 0 o := by unfold getCellL getCell; rw [row_0]; rfl
theorem cell_j {L : Mem} {j o : Nat} : getCell (M ++ L) (M.length + j) o = getCellL L j o := by unfold getCellL getCell; rw [row_j]; rfl
theorem cells_0 {L : Mem} {o n : Nat} : getCells (M ++ L) M.length o n = getCellsL L 0 o n := by unfold getCellsL getCells; rw [row_0]; rfl
theorem cells_j {L : Mem} {j o n : Nat} : getCells (M ++ L) (M.length + j) o n = getCellsL L j o n := by unfold getCellsL getCells; rw [row_j]; rfl
theorem setC_0 {L : Mem} {o : Nat} {vs : List LV} : setCells (M ++ L) M.length o vs = (setCellsL L 0 o vs).map (M ++ ·) := by
  unfold setCellsL setCells; rw [at_0]
  split
  · split
    · simp only [Option.map_some, set_0]
    · rfl
  · rfl
theorem setC_j {L : Mem} {j o : Nat} {vs : List LV} : setCells (M ++ L) (M.length + j) o vs = (setCellsL L j o vs).map (M ++ ·) := by
  unfold setCellsL setCells; rw [at_j]
  split
  · split
    · simp only [Option.map_some, set_j]
    · rfl
  · rfl
theorem rowL_z {cs : List LV} {w : Bool} {e : Nat} {L : Mem} : getRowL (some (.row cs w e) :: L) 0 = some cs := (rfl)
theorem rowL_s {x : Option Blk} {L : Mem} {j : Nat} : getRowL (x :: L) (j + 1) = getRowL L j := (rfl)
theorem eszL_z {cs : List LV} {w : Bool} {e : Nat} {L : Mem} : getEszL (some (.row cs w e) :: L) 0 = some e := (rfl)
theorem eszL_s {x : Option Blk} {L : Mem} {j : Nat} : getEszL (x :: L) (j + 1) = getEszL L j := (rfl)
theorem cellL_z {cs : List LV} {w : Bool} {e o : Nat} {L : Mem} : getCellL (some (.row cs w e) :: L) 0 o = cs[o]? := (rfl)
theorem cellL_s {x : Option Blk} {L : Mem} {j o : Nat} : getCellL (x :: L) (j + 1) o = getCellL L j o := (rfl)
theorem cellsL_z {cs : List LV} {w : Bool} {e o n : Nat} {L : Mem} : getCellsL (some (.row cs w e) :: L) 0 o n = if o + n ≤ cs.length then some ((cs.drop o).take n) else none := (rfl)
theorem cellsL_s {x : Option Blk} {L : Mem} {j o n : Nat} : getCellsL (x :: L) (j + 1) o n = getCellsL L j o n := (rfl)
theorem setL_z {cs vs : List LV} {e o : Nat} {L : Mem} : setCellsL (some (.row cs true e) :: L) 0 o vs = if o + vs.length ≤ cs.length then some (some (.row (splice cs o vs) true e) :: L) else none := (rfl)
theorem setL_s {x : Option Blk} {L : Mem} {j o : Nat} {vs : List LV} : setCellsL (x :: L) (j + 1) o vs = (setCellsL L j o vs).map (x :: ·) := by
  unfold setCellsL setCells
  simp only [List.getElem?_cons_succ, List.set_cons_succ]
  cases hL : L[j]? with
  | none => rfl
  | some o' => cases o' with
    | none => rfl
    | some b => cases b with
      | map => rfl
      | row cs w e => cases w with
        | false => rfl
        | true => simp only; split <;> rfl
theorem spl_10 {a x : LV} : splice [a] 0 [x] = [x] := (rfl)
theorem spl_20 {a b x : LV} : splice [a, b] 0 [x] = [x, b] := (rfl)
theorem spl_21 {a b x : LV} : splice [a, b] 1 [x] = [a, x] := (rfl)
theorem spl_30 {a b c x : LV} : splice [a, b, c] 0 [x] = [x, b, c] := (rfl)
theorem spl_31 {a b c x : LV} : splice [a, b, c] 1 [x] = [a, x, c] := (rfl)
theorem spl_32 {a b c x : LV} : splice [a, b, c] 2 [x] = [a, b, x] := (rfl)
theorem spl_40 {a b c d x : LV} : splice [a, b, c, d] 0 [x] = [x, b, c, d] := (rfl)
theorem spl_41 {a b c d x : LV} : splice [a, b, c, d] 1 [x] = [a, x, c, d] := (rfl)
theorem spl_42 {a b c d x : LV} : splice [a, b, c, d] 2 [x] = [a, b, x, d] := (rfl)
theorem spl_43 {a b c d x : LV} : splice [a, b, c, d] 3 [x] = [a, b, c, x] := (rfl)
theorem spl_3r {a b c x y z : LV} : splice [a, b, c] 0 [x, y, z] = [x, y, z] := (rfl)
theorem spl_4r {a b c d x y z u : LV} : splice [a, b, c, d] 0 [x, y, z, u] = [x, y, z, u] := (rfl)
theorem spl_2r {a b x y : LV} : splice [a, b] 0 [x, y] = [x, y] := (rfl)
theorem spl_5r {a0 a1 a2 a3 a4 x0 x1 x2 x3 x4 : LV} : splice [a0, a1, a2, a3, a4] 0 [x0, x1, x2, x3, x4] = [x0, x1, x2, x3, x4] := (rfl)
theorem spl_50 {a0 a1 a2 a3 a4 x : LV} : splice [a0, a1, a2, a3, a4] 0 [x] = [x, a1, a2, a3, a4] := (rfl)
theorem spl_51 {a0 a1 a2 a3 a4 x : LV} : splice [a0, a1, a2, a3, a4] 1 [x] = [a0, x, a2, a3, a4] := (rfl)
theorem spl_52 {a0 a1 a2 a3 a4 x : LV} : splice [a0, a1, a2, a3, a4] 2 [x] = [a0, a1, x, a3, a4] := (rfl)
theorem spl_53 {a0 a1 a2 a3 a4 x : LV} : splice [a0, a1, a2, a3, a4] 3 [x] = [a0, a1, a2, x, a4] := (rfl)
theorem spl_54 {a0 a1 a2 a3 a4 x : LV} : splice [a0, a1, a2, a3, a4] 4 [x] = [a0, a1, a2, a3, x] := (rfl)
theorem spl_6r {a0 a1 a2 a3 a4 a5 x0 x1 x2 x3 x4 x5 : LV} : splice [a0, a1, a2, a3, a4, a5] 0 [x0, x1, x2, x3, x4, x5] = [x0, x1, x2, x3, x4, x5] := (rfl)
theorem spl_60 {a0 a1 a2 a3 a4 a5 x : LV} : splice [a0, a1, a2, a3, a4, a5] 0 [x] = [x, a1, a2, a3, a4, a5] := (rfl)
theorem spl_61 {a0 a1 a2 a3 a4 a5 x : LV} : splice [a0, a1, a2, a3, a4, a5] 1 [x] = [a0, x, a2, a3, a4, a5] := (rfl)
theorem spl_62 {a0 a1 a2 a3 a4 a5 x : LV} : splice [a0, a1, a2, a3, a4, a5] 2 [x] = [a0, a1, x, a3, a4, a5] := (rfl)
theorem spl_63 {a0 a1 a2 a3 a4 a5 x : LV} : splice [a0, a1, a2, a3, a4, a5] 3 [x] = [a0, a1, a2, x, a4, a5] := (rfl)
theorem spl_64 {a0 a1 a2 a3 a4 a5 x : LV} : splice [a0, a1, a2, a3, a4, a5] 4 [x] = [a0, a1, a2, a3, x, a5] := (rfl)
theorem spl_65 {a0 a1 a2 a3 a4 a5 x : LV} : splice [a0, a1, a2, a3, a4, a5] 5 [x] = [a0, a1, a2, a3, a4, x] := (rfl)
theorem spl_7r {a0 a1 a2 a3 a4 a5 a6 x0 x1 x2 x3 x4 x5 x6 : LV} : splice [a0, a1, a2, a3, a4, a5, a6] 0 [x0, x1, x2, x3, x4, x5, x6] = [x0, x1, x2, x3, x4, x5, x6] := (rfl)
theorem spl_70 {a0 a1 a2 a3 a4 a5 a6 x : LV} : splice [a0, a1, a2, a3, a4, a5, a6] 0 [x] = [x, a1, a2, a3, a4, a5, a6] := (rfl)
theorem spl_71 {a0 a1 a2 a3 a4 a5 a6 x : LV} : splice [a0, a1, a2, a3, a4, a5, a6] 1 [x] = [a0, x, a2, a3, a4, a5, a6] := (rfl)
theorem spl_72 {a0 a1 a2 a3 a4 a5 a6 x : LV} : splice [a0, a1, a2, a3, a4, a5, a6] 2 [x] = [a0, a1, x, a3, a4, a5, a6] := (rfl)
theorem spl_73 {a0 a1 a2 a3 a4 a5 a6 x : LV} : splice [a0, a1, a2, a3, a4, a5, a6] 3 [x] = [a0, a1, a2, x, a4, a5, a6] := (rfl)
theorem spl_74 {a0 a1 a2 a3 a4 a5 a6 x : LV} : splice [a0, a1, a2, a3, a4, a5, a6] 4 [x] = [a0, a1, a2, a3, x, a5, a6] := (rfl)
theorem spl_75 {a0 a1 a2 a3 a4 a5 a6 x : LV} : splice [a0, a1, a2, a3, a4, a5, a6] 5 [x] = [a0, a1, a2, a3, a4, x, a6] := (rfl)
theorem spl_76 {a0 a1 a2 a3 a4 a5 a6 x : LV} : splice [a0, a1, a2, a3, a4, a5, a6] 6 [x] = [a0, a1, a2, a3, a4, a5, x] := (rfl)
theorem spl_8r {a0 a1 a2 a3 a4 a5 a6 a7 x0 x1 x2 x3 x4 x5 x6 x7 : LV} : splice [a0, a1, a2, a3, a4, a5, a6, a7] 0 [x0, x1, x2, x3, x4, x5, x6, x7] = [x0, x1, x2, x3, x4, x5, x6, x7] := (rfl)
theorem spl_80 {a0 a1 a2 a3 a4 a5 a6 a7 x : LV} : splice [a0, a1, a2, a3, a4, a5, a6, a7] 0 [x] = [x, a1, a2, a3, a4, a5, a6, a7] := (rfl)
theorem spl_81 {a0 a1 a2 a3 a4 a5 a6 a7 x : LV} : splice [a0, a1, a2, a3, a4, a5, a6, a7] 1 [x] = [a0, x, a2, a3, a4, a5, a6, a7] := (rfl)
theorem spl_82 {a0 a1 a2 a3 a4 a5 a6 a7 x : LV} : splice [a0, a1, a2, a3, a4, a5, a6, a7] 2 [x] = [a0, a1, x, a3, a4, a5, a6, a7] := (rfl)
theorem spl_83 {a0 a1 a2 a3 a4 a5 a6 a7 x : LV} : splice [a0, a1, a2, a3, a4, a5, a6, a7] 3 [x] = [a0, a1, a2, x, a4, a5, a6, a7] := (rfl)
theorem spl_84 {a0 a1 a2 a3 a4 a5 a6 a7 x : LV} : splice [a0, a1, a2, a3, a4, a5, a6, a7] 4 [x] = [a0, a1, a2, a3, x, a5, a6, a7] := (rfl)
theorem spl_85 {a0 a1 a2 a3 a4 a5 a6 a7 x : LV} : splice [a0, a1, a2, a3, a4, a5, a6, a7] 5 [x] = [a0, a1, a2, a3, a4, x, a6, a7] := (rfl)
theorem spl_86 {a0 a1 a2 a3 a4 a5 a6 a7 x : LV} : splice [a0, a1, a2, a3, a4, a5, a6, a7] 6 [x] = [a0, a1, a2, a3, a4, a5, x, a7] := (rfl)
theorem spl_87 {a0 a1 a2 a3 a4 a5 a6 a7 x : LV} : splice [a0, a1, a2, a3, a4, a5, a6, a7] 7 [x] = [a0, a1, a2, a3, a4, a5, a6, x] := (rfl)
theorem splice_1 {cs : List LV} {o : Nat} {v : LV} (h : o < cs.length) : splice cs o [v] = cs.set o v := by
  unfold splice
  rw [List.set_eq_take_append_cons_drop, if_pos h]; simp
end
end Go.Ab

namespace Go.Ab
open Go
section
variable {P : Program} {fr : Fr} {M : Mem} {K : Fr → Mem → Prop}
theorem ev_mv (d : Nat) (x : Opd) : EvOp P (.mv d x) fr M K = sopK (some (d, x.ev fr, True)) fr M K := ev_sop rfl
theorem ev_pick (d : Nat) (c a b : Opd) : EvOp P (.pick d c a b) fr M K = sopK (match c.ev fr with | .val (.bool t) => some (d, (if t then a.ev fr else b.ev fr), True) | _ => none) fr M K := ev_sop rfl
theorem ev_bin (d : Nat) (op : BinOp) (x y : Opd) : EvOp P (.bin d op x y) fr M K = sopK ((binV op (x.ev fr) (y.ev fr)).map fun (v, c) => (d, v, c)) fr M K := ev_sop rfl
theorem ev_eqs (d : Nat) (ng : Bool) (n : Nat) (x y : Opd) : EvOp P (.eqs d ng n x y) fr M K = sopK ((eqV ng n (x.ev fr) (y.ev fr)).map fun v => (d, v, True)) fr M K := ev_sop rfl
theorem ev_eqb (d : Nat) (ng : Bool) (x y : Opd) : EvOp P (.eqb d ng x y) fr M K = sopK ((eqoV ng x y fr).map fun v => (d, v, True)) fr M K := ev_sop rfl
theorem ev_un (d : Nat) (op : UnOp) (x : Opd) : EvOp P (.un d op x) fr M K = sopK ((unV op (x.ev fr)).map fun v => (d, v, True)) fr M K := ev_sop rfl
theorem ev_conv (d : Nat) (k : IntKind) (x : Opd) : EvOp P (.conv d k x) fr M K = sopK (match x.ev fr with | .val (.int _ n) => some (d, .val (.int k (k.wrap n)), True) | _ => none) fr M K := ev_sop rfl
theorem ev_build (d : Nat) (z : List LV) (ps : List (Nat × Nat × Opd)) : EvOp P (.build d z ps) fr M K = sopK ((fillC z (ps.map fun (o, n, x) => (o, n, x.ev fr))).map fun cs => (d, .agg cs, True)) fr M K := ev_sop rfl
theorem ev_load1 (d : Nat) (x : Opd) : EvOp P (.load1 d x) fr M K = sopK (match x.ev fr with | .ptr t off => (getCell M t off).map fun v => (d, v, True) | _ => none) fr M K := ev_sop rfl
theorem ev_loadN (d n : Nat) (x : Opd) : EvOp P (.loadN d n x) fr M K = sopK (match x.ev fr with | .ptr t off => (getCells M t off n).map fun cs => (d, .agg cs, True) | _ => none) fr M K := ev_sop rfl
theorem ev_nilck (d : Nat) (x : Opd) : EvOp P (.nilck d x) fr M K = sopK (match x.ev fr with | .ptr t off => some (d, .ptr t off, True) | _ => none) fr M K := ev_sop rfl
theorem ev_mkf (d : Nat) (f : FuncId) (cs : List Opd) : EvOp P (.mkf d f cs) fr M K = sopK ((capOf cs fr).map fun cs => (d, .clo f cs, True)) fr M K := ev_sop rfl
theorem ev_slS (d e : Nat) (x : Opd) (lo hi : Option Opd) : EvOp P (.slS d e x lo hi) fr M K = sopK (sop (.slS d e x lo hi) fr M) fr M K := ev_sop rfl
theorem ev_slA (d n e : Nat) (x : Opd) (lo hi : Option Opd) : EvOp P (.slA d n e x lo hi) fr M K = sopK (sop (.slA d n e x lo hi) fr M) fr M K := ev_sop rfl
theorem ev_slT (d : Nat) (x : Opd) (lo hi : Option Opd) : EvOp P (.slT d x lo hi) fr M K = sopK (sop (.slT d x lo hi) fr M) fr M K := ev_sop rfl
theorem ev_fieldAddr (d : Nat) (x : Opd) (o : Nat) : EvOp P (.fieldAddr d x o) fr M K = sopK (match x.ev fr with | .ptr t o2 => some (d, .ptr t (o2 + o), True) | _ => none) fr M K := ev_sop rfl
theorem ev_field (d : Nat) (x : Opd) (o : Nat) (n : Option Nat) : EvOp P (.field d x o n) fr M K = sopK (match x.ev fr with
    | .agg cs => match n with
      | none => (cs[o]?).map fun v => (d, v, True)
      | some n => if o + n ≤ cs.length then some (d, .agg ((cs.drop o).take n), True) else none
    | _ => none) fr M K := ev_sop rfl
theorem ev_idxS (d e : Nat) (x i : Opd) : EvOp P (.idxS d e x i) fr M K = sopK (match x.ev fr, intV (i.ev fr) with
    | .ref t off n, some i => some (d, .ptr t (off + i.toNat * e), 0 ≤ i ∧ i < n)
    | _, _ => none) fr M K := ev_sop rfl
theorem ev_idxA (d n e : Nat) (x i : Opd) : EvOp P (.idxA d n e x i) fr M K = sopK (match x.ev fr, intV (i.ev fr) with
    | .ptr t off, some i => some (d, .ptr t (off + i.toNat * e), 0 ≤ i ∧ i < n)
    | _, _ => none) fr M K := ev_sop rfl
theorem ev_index (d n e : Nat) (ag : Bool) (x i : Opd) : EvOp P (.index d n e ag x i) fr M K = sopK (match x.ev fr, intV (i.ev fr) with
    | .agg cs, some i => if ag then some (d, .agg ((cs.drop (i.toNat * e)).take e), 0 ≤ i ∧ i < n ∧ i.toNat * e + e ≤ cs.length)
      else match cs[i.toNat * e]? with
        | some v => some (d, v, 0 ≤ i ∧ i < n)
        | none => none
    | _, _ => none) fr M K := ev_sop rfl
theorem ev_idxT (d : Nat) (x i : Opd) : EvOp P (.idxT d x i) fr M K = sopK (match x.ev fr, intV (i.ev fr) with
    | .val (.string s), some i => some (d, .val (.int .u8 ((s.data.toList.getD i.toNat 0).toNat : Int)), 0 ≤ i ∧ i < s.size)
    | _, _ => none) fr M K := ev_sop rfl
theorem ev_lookup (d n : Nat) (m k : Opd) (z : Value) (ok : Bool) : EvOp P (.lookup d n m k z ok) fr M K = sopK ((lookM n (m.ev fr) (k.ev fr) M).map fun r => (d, (if ok then .tup [r.getD (.val z), .B r.isSome] else r.getD (.val z)), True)) fr M K := ev_sop rfl
theorem ev_mupd (n : Nat) (m k v : Opd) : EvOp P (.mupd n m k v) fr M K = memK (putM n (m.ev fr) (k.ev fr) (v.ev fr) M) (K fr) := by
  simp only [EvOp]; unfold memK; rfl
theorem ev_extract (d : Nat) (x : Opd) (i : Nat) : EvOp P (.extract d x i) fr M K = sopK (match x.ev fr with | .tup vs => (vs[i]?).map fun v => (d, v, True) | _ => none) fr M K := ev_sop rfl
theorem ev_len (d : Nat) (x : Opd) : EvOp P (.len d x) fr M K = sopK ((lenV (x.ev fr)).map fun n => (d, .I n, True)) fr M K := ev_sop rfl
theorem ev_lenT (d : Nat) (x : Opd) : EvOp P (.lenT d x) fr M K = sopK ((lenTV (x.ev fr)).map fun n => (d, .I n, True)) fr M K := ev_sop rfl
theorem ev_mm (d : Nat) (mx : Bool) (xs : List Opd) : EvOp P (.mm d mx xs) fr M K = sopK ((maxV mx (xs.map (·.ev fr))).map fun v => (d, v, True)) fr M K := ev_sop rfl
theorem ev_any (d : Nat) : EvOp P (.any d) fr M K = sopK (some (d, .junk, True)) fr M K := ev_sop rfl
theorem ev_box (d : Nat) (x : Opd) : EvOp P (.box d x) fr M K = aopK ((x.ev fr).cells.map fun cs => (d, (.ptr · 0), .row cs true 0, True)) fr M K := ev_aop rfl
theorem ev_alloc (d : Nat) (z : List LV) : EvOp P (.alloc d z) fr M K = aopK (some (d, (.ptr · 0), .row z true 0, True)) fr M K := ev_aop rfl
theorem ev_buildSl (d n e : Nat) (z : List LV) (ps : List (Nat × Nat × Opd)) : EvOp P (.buildSl d n e z ps) fr M K = aopK ((fillC z (ps.map fun (o, n, x) => (o, n, x.ev fr))).map fun cs => (d, (.ref · 0 n), .row cs true e, True)) fr M K := ev_aop rfl
theorem ev_mksl (d e b : Nat) (z : List LV) (l c : Opd) : EvOp P (.mksl d e b z l c) fr M K = aopK (match intV (l.ev fr), intV (c.ev fr) with
    | some l, some c => some (d, (.ref · 0 l.toNat), .row (List.replicate l.toNat z).flatten true e, 0 ≤ l ∧ c = l ∧ (b : Int) * l ≤ 281474976710656 ∧ l ≤ 9223372036854775807)
    | _, _ => none) fr M K := ev_aop rfl
theorem ev_mkmap (d : Nat) : EvOp P (.mkmap d) fr M K = aopK (some (d, .mp, .map [], True)) fr M K := ev_aop rfl
theorem ev_sl0 (d e : Nat) (x : Opd) : EvOp P (.sl0 d e x) fr M K = aopK (match x.ev fr with
    | .ref _ _ _ | .val (.slice none 0 0) => some (d, (.ref · 0 0), .row [] true e, True)
    | _ => none) fr M K := ev_aop rfl
theorem evd_mv (d : Nat) (x : Opd) {gd : Option (Nat × Bool)} {msk unl : List Nat} {r : List DOp} {lg : List (Option Nat)} : EvD P (⟨(gd, .mv d x), msk, unl⟩ :: r) fr M lg K = EvG P (gd, .mv d x) fr M (evdK P r (lg ++ [none]) K) := evd_0 rfl
theorem evd_pick (d : Nat) (c a b : Opd) {gd : Option (Nat × Bool)} {msk unl : List Nat} {r : List DOp} {lg : List (Option Nat)} : EvD P (⟨(gd, .pick d c a b), msk, unl⟩ :: r) fr M lg K = EvG P (gd, .pick d c a b) fr M (evdK P r (lg ++ [none]) K) := evd_0 rfl
theorem evd_bin (d : Nat) (op : BinOp) (x y : Opd) {gd : Option (Nat × Bool)} {msk unl : List Nat} {r : List DOp} {lg : List (Option Nat)} : EvD P (⟨(gd, .bin d op x y), msk, unl⟩ :: r) fr M lg K = EvG P (gd, .bin d op x y) fr M (evdK P r (lg ++ [none]) K) := evd_0 rfl
theorem evd_eqs (d : Nat) (ng : Bool) (n : Nat) (x y : Opd) {gd : Option (Nat × Bool)} {msk unl : List Nat} {r : List DOp} {lg : List (Option Nat)} : EvD P (⟨(gd, .eqs d ng n x y), msk, unl⟩ :: r) fr M lg K = EvG P (gd, .eqs d ng n x y) fr M (evdK P r (lg ++ [none]) K) := evd_0 rfl
theorem evd_eqb (d : Nat) (ng : Bool) (x y : Opd) {gd : Option (Nat × Bool)} {msk unl : List Nat} {r : List DOp} {lg : List (Option Nat)} : EvD P (⟨(gd, .eqb d ng x y), msk, unl⟩ :: r) fr M lg K = EvG P (gd, .eqb d ng x y) fr M (evdK P r (lg ++ [none]) K) := evd_0 rfl
theorem evd_un (d : Nat) (op : UnOp) (x : Opd) {gd : Option (Nat × Bool)} {msk unl : List Nat} {r : List DOp} {lg : List (Option Nat)} : EvD P (⟨(gd, .un d op x), msk, unl⟩ :: r) fr M lg K = EvG P (gd, .un d op x) fr M (evdK P r (lg ++ [none]) K) := evd_0 rfl
theorem evd_conv (d : Nat) (k : IntKind) (x : Opd) {gd : Option (Nat × Bool)} {msk unl : List Nat} {r : List DOp} {lg : List (Option Nat)} : EvD P (⟨(gd, .conv d k x), msk, unl⟩ :: r) fr M lg K = EvG P (gd, .conv d k x) fr M (evdK P r (lg ++ [none]) K) := evd_0 rfl
theorem evd_build (d : Nat) (z : List LV) (ps : List (Nat × Nat × Opd)) {gd : Option (Nat × Bool)} {msk unl : List Nat} {r : List DOp} {lg : List (Option Nat)} : EvD P (⟨(gd, .build d z ps), msk, unl⟩ :: r) fr M lg K = EvG P (gd, .build d z ps) fr M (evdK P r (lg ++ [none]) K) := evd_0 rfl
theorem evd_load1 (d : Nat) (x : Opd) {gd : Option (Nat × Bool)} {msk unl : List Nat} {r : List DOp} {lg : List (Option Nat)} : EvD P (⟨(gd, .load1 d x), msk, unl⟩ :: r) fr M lg K = EvG P (gd, .load1 d x) fr M (evdK P r (lg ++ [keyOf (.load1 d x) fr]) K) := evd_0 rfl
theorem evd_loadN (d n : Nat) (x : Opd) {gd : Option (Nat × Bool)} {msk unl : List Nat} {r : List DOp} {lg : List (Option Nat)} : EvD P (⟨(gd, .loadN d n x), msk, unl⟩ :: r) fr M lg K = EvG P (gd, .loadN d n x) fr M (evdK P r (lg ++ [keyOf (.loadN d n x) fr]) K) := evd_0 rfl
theorem evd_nilck (d : Nat) (x : Opd) {gd : Option (Nat × Bool)} {msk unl : List Nat} {r : List DOp} {lg : List (Option Nat)} : EvD P (⟨(gd, .nilck d x), msk, unl⟩ :: r) fr M lg K = EvG P (gd, .nilck d x) fr M (evdK P r (lg ++ [none]) K) := evd_0 rfl
theorem evd_mkf (d : Nat) (f : FuncId) (cs : List Opd) {gd : Option (Nat × Bool)} {msk unl : List Nat} {r : List DOp} {lg : List (Option Nat)} : EvD P (⟨(gd, .mkf d f cs), msk, unl⟩ :: r) fr M lg K = EvG P (gd, .mkf d f cs) fr M (evdK P r (lg ++ [none]) K) := evd_0 rfl
theorem evd_slS (d e : Nat) (x : Opd) (lo hi : Option Opd) {gd : Option (Nat × Bool)} {msk unl : List Nat} {r : List DOp} {lg : List (Option Nat)} : EvD P (⟨(gd, .slS d e x lo hi), msk, unl⟩ :: r) fr M lg K = EvG P (gd, .slS d e x lo hi) fr M (evdK P r (lg ++ [keyOf (.slS d e x lo hi) fr]) K) := evd_0 rfl
theorem evd_slA (d n e : Nat) (x : Opd) (lo hi : Option Opd) {gd : Option (Nat × Bool)} {msk unl : List Nat} {r : List DOp} {lg : List (Option Nat)} : EvD P (⟨(gd, .slA d n e x lo hi), msk, unl⟩ :: r) fr M lg K = EvG P (gd, .slA d n e x lo hi) fr M (evdK P r (lg ++ [keyOf (.slA d n e x lo hi) fr]) K) := evd_0 rfl
theorem evd_slT (d : Nat) (x : Opd) (lo hi : Option Opd) {gd : Option (Nat × Bool)} {msk unl : List Nat} {r : List DOp} {lg : List (Option Nat)} : EvD P (⟨(gd, .slT d x lo hi), msk, unl⟩ :: r) fr M lg K = EvG P (gd, .slT d x lo hi) fr M (evdK P r (lg ++ [none]) K) := evd_0 rfl
theorem evd_fieldAddr (d : Nat) (x : Opd) (o : Nat) {gd : Option (Nat × Bool)} {msk unl : List Nat} {r : List DOp} {lg : List (Option Nat)} : EvD P (⟨(gd, .fieldAddr d x o), msk, unl⟩ :: r) fr M lg K = EvG P (gd, .fieldAddr d x o) fr M (evdK P r (lg ++ [none]) K) := evd_0 rfl
theorem evd_field (d : Nat) (x : Opd) (o : Nat) (n : Option Nat) {gd : Option (Nat × Bool)} {msk unl : List Nat} {r : List DOp} {lg : List (Option Nat)} : EvD P (⟨(gd, .field d x o n), msk, unl⟩ :: r) fr M lg K = EvG P (gd, .field d x o n) fr M (evdK P r (lg ++ [none]) K) := evd_0 rfl
theorem evd_idxS (d e : Nat) (x i : Opd) {gd : Option (Nat × Bool)} {msk unl : List Nat} {r : List DOp} {lg : List (Option Nat)} : EvD P (⟨(gd, .idxS d e x i), msk, unl⟩ :: r) fr M lg K = EvG P (gd, .idxS d e x i) fr M (evdK P r (lg ++ [none]) K) := evd_0 rfl
theorem evd_idxA (d n e : Nat) (x i : Opd) {gd : Option (Nat × Bool)} {msk unl : List Nat} {r : List DOp} {lg : List (Option Nat)} : EvD P (⟨(gd, .idxA d n e x i), msk, unl⟩ :: r) fr M lg K = EvG P (gd, .idxA d n e x i) fr M (evdK P r (lg ++ [none]) K) := evd_0 rfl
theorem evd_index (d n e : Nat) (ag : Bool) (x i : Opd) {gd : Option (Nat × Bool)} {msk unl : List Nat} {r : List DOp} {lg : List (Option Nat)} : EvD P (⟨(gd, .index d n e ag x i), msk, unl⟩ :: r) fr M lg K = EvG P (gd, .index d n e ag x i) fr M (evdK P r (lg ++ [none]) K) := evd_0 rfl
theorem evd_idxT (d : Nat) (x i : Opd) {gd : Option (Nat × Bool)} {msk unl : List Nat} {r : List DOp} {lg : List (Option Nat)} : EvD P (⟨(gd, .idxT d x i), msk, unl⟩ :: r) fr M lg K = EvG P (gd, .idxT d x i) fr M (evdK P r (lg ++ [none]) K) := evd_0 rfl
theorem evd_lookup (d n : Nat) (m k : Opd) (z : Value) (ok : Bool) {gd : Option (Nat × Bool)} {msk unl : List Nat} {r : List DOp} {lg : List (Option Nat)} : EvD P (⟨(gd, .lookup d n m k z ok), msk, unl⟩ :: r) fr M lg K = EvG P (gd, .lookup d n m k z ok) fr M (evdK P r (lg ++ [keyOf (.lookup d n m k z ok) fr]) K) := evd_0 rfl
theorem evd_extract (d : Nat) (x : Opd) (i : Nat) {gd : Option (Nat × Bool)} {msk unl : List Nat} {r : List DOp} {lg : List (Option Nat)} : EvD P (⟨(gd, .extract d x i), msk, unl⟩ :: r) fr M lg K = EvG P (gd, .extract d x i) fr M (evdK P r (lg ++ [none]) K) := evd_0 rfl
theorem evd_len (d : Nat) (x : Opd) {gd : Option (Nat × Bool)} {msk unl : List Nat} {r : List DOp} {lg : List (Option Nat)} : EvD P (⟨(gd, .len d x), msk, unl⟩ :: r) fr M lg K = EvG P (gd, .len d x) fr M (evdK P r (lg ++ [none]) K) := evd_0 rfl
theorem evd_lenT (d : Nat) (x : Opd) {gd : Option (Nat × Bool)} {msk unl : List Nat} {r : List DOp} {lg : List (Option Nat)} : EvD P (⟨(gd, .lenT d x), msk, unl⟩ :: r) fr M lg K = EvG P (gd, .lenT d x) fr M (evdK P r (lg ++ [none]) K) := evd_0 rfl
theorem evd_mm (d : Nat) (mx : Bool) (xs : List Opd) {gd : Option (Nat × Bool)} {msk unl : List Nat} {r : List DOp} {lg : List (Option Nat)} : EvD P (⟨(gd, .mm d mx xs), msk, unl⟩ :: r) fr M lg K = EvG P (gd, .mm d mx xs) fr M (evdK P r (lg ++ [none]) K) := evd_0 rfl
theorem evd_any (d : Nat) {gd : Option (Nat × Bool)} {msk unl : List Nat} {r : List DOp} {lg : List (Option Nat)} : EvD P (⟨(gd, .any d), msk, unl⟩ :: r) fr M lg K = EvG P (gd, .any d) fr M (evdK P r (lg ++ [none]) K) := evd_0 rfl
theorem evd_box (d : Nat) (x : Opd) {gd : Option (Nat × Bool)} {msk unl : List Nat} {r : List DOp} {lg : List (Option Nat)} : EvD P (⟨(gd, .box d x), msk, unl⟩ :: r) fr M lg K = EvG P (gd, .box d x) fr M (evd1K P r lg M.length K) := evd_1 rfl
theorem evd_alloc (d : Nat) (z : List LV) {gd : Option (Nat × Bool)} {msk unl : List Nat} {r : List DOp} {lg : List (Option Nat)} : EvD P (⟨(gd, .alloc d z), msk, unl⟩ :: r) fr M lg K = EvG P (gd, .alloc d z) fr M (evd1K P r lg M.length K) := evd_1 rfl
theorem evd_buildSl (d n e : Nat) (z : List LV) (ps : List (Nat × Nat × Opd)) {gd : Option (Nat × Bool)} {msk unl : List Nat} {r : List DOp} {lg : List (Option Nat)} : EvD P (⟨(gd, .buildSl d n e z ps), msk, unl⟩ :: r) fr M lg K = EvG P (gd, .buildSl d n e z ps) fr M (evd1K P r lg M.length K) := evd_1 rfl
theorem evd_mksl (d e b : Nat) (z : List LV) (l c : Opd) {gd : Option (Nat × Bool)} {msk unl : List Nat} {r : List DOp} {lg : List (Option Nat)} : EvD P (⟨(gd, .mksl d e b z l c), msk, unl⟩ :: r) fr M lg K = EvG P (gd, .mksl d e b z l c) fr M (evd1K P r lg M.length K) := evd_1 rfl
theorem evd_mkmap (d : Nat) {gd : Option (Nat × Bool)} {msk unl : List Nat} {r : List DOp} {lg : List (Option Nat)} : EvD P (⟨(gd, .mkmap d), msk, unl⟩ :: r) fr M lg K = EvG P (gd, .mkmap d) fr M (evd1K P r lg M.length K) := evd_1 rfl
theorem evd_sl0 (d e : Nat) (x : Opd) {gd : Option (Nat × Bool)} {msk unl : List Nat} {r : List DOp} {lg : List (Option Nat)} : EvD P (⟨(gd, .sl0 d e x), msk, unl⟩ :: r) fr M lg K = EvG P (gd, .sl0 d e x) fr M (evd1K P r lg M.length K) := evd_1 rfl
theorem evd_store (n : Nat) (a x : Opd) {gd : Option (Nat × Bool)} {msk unl : List Nat} {r : List DOp} {lg : List (Option Nat)} : EvD P (⟨(gd, .store n a x), msk, unl⟩ :: r) fr M lg K = EvG P (gd, .store n a x) fr (maskM (selL msk lg) M) (evd2K P r lg M (selL msk lg) (selL unl lg) K) := evd_2 rfl
theorem evd_append (d e b : Nat) (s x : Opd) {gd : Option (Nat × Bool)} {msk unl : List Nat} {r : List DOp} {lg : List (Option Nat)} : EvD P (⟨(gd, .append d e b s x), msk, unl⟩ :: r) fr M lg K = EvG P (gd, .append d e b s x) fr (maskM (selL msk lg) M) (evd2K P r lg M (selL msk lg) (selL unl lg) K) := evd_2 rfl
theorem evd_copy (d e : Nat) (s x : Opd) {gd : Option (Nat × Bool)} {msk unl : List Nat} {r : List DOp} {lg : List (Option Nat)} : EvD P (⟨(gd, .copy d e s x), msk, unl⟩ :: r) fr M lg K = EvG P (gd, .copy d e s x) fr (maskM (selL msk lg) M) (evd2K P r lg M (selL msk lg) (selL unl lg) K) := evd_2 rfl
theorem evd_clear (d : Option Nat) (e : Nat) (z : List LV) (x : Opd) {gd : Option (Nat × Bool)} {msk unl : List Nat} {r : List DOp} {lg : List (Option Nat)} : EvD P (⟨(gd, .clear d e z x), msk, unl⟩ :: r) fr M lg K = EvG P (gd, .clear d e z x) fr (maskM (selL msk lg) M) (evd2K P r lg M (selL msk lg) (selL unl lg) K) := evd_2 rfl
theorem evd_mupd (n : Nat) (m k v : Opd) {gd : Option (Nat × Bool)} {msk unl : List Nat} {r : List DOp} {lg : List (Option Nat)} : EvD P (⟨(gd, .mupd n m k v), msk, unl⟩ :: r) fr M lg K = EvG P (gd, .mupd n m k v) fr (maskM (selL msk lg) M) (evd2K P r lg M (selL msk lg) (selL unl lg) K) := evd_2 rfl
theorem evd_call (d : Option Nat) (f : FuncId) (xs : List Opd) {gd : Option (Nat × Bool)} {msk unl : List Nat} {r : List DOp} {lg : List (Option Nat)} : EvD P (⟨(gd, .call d f xs), msk, unl⟩ :: r) fr M lg K = EvG P (gd, .call d f xs) fr (maskM (selL msk lg) M) (evd2K P r lg M (selL msk lg) (selL unl lg) K) := evd_2 rfl
theorem evd_callV (d : Option Nat) (x : Opd) (xs : List Opd) {gd : Option (Nat × Bool)} {msk unl : List Nat} {r : List DOp} {lg : List (Option Nat)} : EvD P (⟨(gd, .callV d x xs), msk, unl⟩ :: r) fr M lg K = EvG P (gd, .callV d x xs) fr (maskM (selL msk lg) M) (evd2K P r lg M (selL msk lg) (selL unl lg) K) := evd_2 rfl
end
end Go.Ab

namespace Go.Ab
open Go

section
variable {k : IntKind} {a b : Int} {t : Bool}
theorem bv_add : binV .add (.val (.int k a)) (.val (.int k b)) = some (.val (.int k (k.wrap (a + b))), True) := by simp [binV, binInt]
theorem bv_sub : binV .sub (.val (.int k a)) (.val (.int k b)) = some (.val (.int k (k.wrap (a - b))), True) := by simp [binV, binInt]
theorem bv_mul : binV .mul (.val (.int k a)) (.val (.int k b)) = some (.val (.int k (k.wrap (a * b))), True) := by simp [binV, binInt]
theorem bv_quo : binV .quo (.val (.int k a)) (.val (.int k b)) = some (.val (.int k (k.wrap (a.tdiv b))), b ≠ 0) := by simp [binV, binInt]
theorem bv_rem : binV .rem (.val (.int k a)) (.val (.int k b)) = some (.val (.int k (a.tmod b)), b ≠ 0) := by simp [binV, binInt]
theorem bv_eql : binV .eql (.val (.int k a)) (.val (.int k b)) = some (.val (.bool (decide (a = b))), True) := by
  have : (a == b) = decide (a = b) := (rfl)
  simp [binV, binInt, this]
theorem bv_neq : binV .neq (.val (.int k a)) (.val (.int k b)) = some (.val (.bool (!decide (a = b))), True) := by
  have : (a != b) = !decide (a = b) := (rfl)
  simp [binV, binInt, this]
theorem bv_lss : binV .lss (.val (.int k a)) (.val (.int k b)) = some (.val (.bool (decide (a < b))), True) := by simp [binV, binInt]
theorem bv_leq : binV .leq (.val (.int k a)) (.val (.int k b)) = some (.val (.bool (decide (a ≤ b))), True) := by simp [binV, binInt]
theorem bv_gtr : binV .gtr (.val (.int k a)) (.val (.int k b)) = some (.val (.bool (decide (b < a))), True) := by simp [binV, binInt]
theorem bv_geq : binV .geq (.val (.int k a)) (.val (.int k b)) = some (.val (.bool (decide (b ≤ a))), True) := by simp [binV, binInt]
theorem bv_shl {k' : IntKind} : binV .shl (.val (.int k a)) (.val (.int k' b)) = some (.val (.int k (k.wrap (a * 2 ^ (min b.toNat k.bits)))), 0 ≤ b) := (rfl)
theorem bv_shr {k' : IntKind} : binV .shr (.val (.int k a)) (.val (.int k' b)) = some (.val (.int k (a.fdiv (2 ^ (min b.toNat k.bits)))), 0 ≤ b) := (rfl)
theorem bv_and : binV .and (.val (.int k a)) (.val (.int k b)) = some (.val (.int k (k.wrap ((BitVec.ofInt k.bits a &&& BitVec.ofInt k.bits b).toNat : Int))), True) := by simp [binV, binInt]
theorem bv_or : binV .or (.val (.int k a)) (.val (.int k b)) = some (.val (.int k (k.wrap ((BitVec.ofInt k.bits a ||| BitVec.ofInt k.bits b).toNat : Int))), True) := by simp [binV, binInt]
theorem bv_xor : binV .xor (.val (.int k a)) (.val (.int k b)) = some (.val (.int k (k.wrap ((BitVec.ofInt k.bits a ^^^ BitVec.ofInt k.bits b).toNat : Int))), True) := by simp [binV, binInt]
theorem bv_not : binV .andNot (.val (.int k a)) (.val (.int k b)) = some (.val (.int k (k.wrap ((BitVec.ofInt k.bits a &&& ~~~ BitVec.ofInt k.bits b).toNat : Int))), True) := by simp [binV, binInt]
theorem eqo_t {ng : Bool} {x : Opd} {i : Nat} {fr : Fr} : eqoV ng x (.t i) fr = eqbV ng (x.ev fr) (fr i) := (rfl)
theorem eqo_b {ng : Bool} {x : Opd} {b : Bool} {fr : Fr} : eqoV ng x (.c (.val (.bool b))) fr = eqbV ng (x.ev fr) (.val (.bool b)) := (rfl)
theorem eqo_n {ng : Bool} {x : Opd} {fr : Fr} : eqoV ng x (.c (.val (.slice none 0 0))) fr = nilV ng (x.ev fr) := (rfl)
theorem nil_r {ng : Bool} {t o n : Nat} : nilV ng (.ref t o (n + 1)) = some (.val (.bool ng)) := (rfl)
theorem nil_n {ng : Bool} : nilV ng (.val (.slice none 0 0)) = some (.val (.bool (!ng))) := (rfl)
theorem eb_eq {x y : Bool} : eqbV false (.val (.bool x)) (.val (.bool y)) = some (.val (.bool (x == y))) := (rfl)
theorem eb_ne {x y : Bool} : eqbV true (.val (.bool x)) (.val (.bool y)) = some (.val (.bool (!(x == y)))) := (rfl)
theorem un_not : unV .not (.val (.bool t)) = some (.val (.bool (!t))) := (rfl)
theorem un_neg : unV .neg (.val (.int k a)) = some (.val (.int k (k.wrap (0 - a)))) := (rfl)
theorem andK_mk {c A : Prop} (h1 : c) (h2 : A) : andK c A := ⟨h1, h2⟩
theorem len_ref {t o n : Nat} : lenV (.ref t o n) = some (n : Int) := (rfl)
theorem len_nil {n c : Nat} : lenV (.val (.slice none n c)) = some (n : Int) := (rfl)
theorem intV_i {n : Int} : intV (.val (.int k n)) = some n := (rfl)
end

theorem pick_dt {p : Prop} [Decidable p] {a b : LV} (h : p) : (if decide p = true then a else b) = a := by rw [if_pos (decide_eq_true h)]
theorem pick_df {p : Prop} [Decidable p] {a b : LV} (h : ¬ p) : (if decide p = true then a else b) = b := by rw [decide_eq_false h]; rfl
def LV.lo1 (n : Nat) : LV → Bool
  | .ref t _ _ => decide (t < n)
  | .ptr t _ => decide (t < n)
  | .mp t => decide (t < n)
  | .clo _ cs => cs.all fun p => decide (p.1 < n)
  | _ => true
def LV.lo (n : Nat) : LV → Bool
  | .agg cs => cs.all (LV.lo1 n)
  | .tup vs => vs.all fun v => match v with | .agg cs => cs.all (LV.lo1 n) | v => LV.lo1 n v
  | v => LV.lo1 n v

theorem rn1_id {ρ : Nat → Nat} {n : Nat} (h : ∀ t, t < n → ρ t = t) {v : LV} (hv : v.lo1 n = true) : rn1 ρ v = v := by
  cases v <;> simp only [LV.lo1, decide_eq_true_eq] at hv <;> simp only [rn1]
  case ref t o m => rw [h t hv]
  case ptr t o => rw [h t hv]
  case mp t => rw [h t hv]
  case clo f cs =>
    congr 1
    rw [List.all_eq_true] at hv
    conv => rhs; rw [← List.map_id cs]
    apply List.map_congr_left
    intro p hp
    have := hv p hp
    simp only [decide_eq_true_eq] at this
    simp [h p.1 this]

theorem rn1s_id {ρ : Nat → Nat} {n : Nat} (h : ∀ t, t < n → ρ t = t) {cs : List LV} (hv : cs.all (LV.lo1 n) = true) : cs.map (rn1 ρ) = cs := by
  rw [List.all_eq_true] at hv
  conv => rhs; rw [← List.map_id cs]
  exact List.map_congr_left fun c hc => rn1_id h (hv c hc)

theorem rn0_id {ρ : Nat → Nat} {n : Nat} (h : ∀ t, t < n → ρ t = t) {v : LV} (hv : (match v with | .agg cs => cs.all (LV.lo1 n) | v => LV.lo1 n v) = true) : rn0 ρ v = v := by
  cases v <;> simp only [rn0] <;> try (exact rn1_id h hv)
  case agg cs => rw [rn1s_id h hv]

theorem rn_id {ρ : Nat → Nat} {n : Nat} (h : ∀ t, t < n → ρ t = t) {v : LV} (hv : v.lo n = true) : rn ρ v = v := by
  cases v <;> simp only [rn] <;> try (exact rn0_id h hv)
  case tup vs =>
    congr 1
    simp only [LV.lo, List.all_eq_true] at hv
    conv => rhs; rw [← List.map_id vs]
    exact List.map_congr_left fun c hc => rn0_id h (hv c hc)

def Pre' (M N : Mem) : Prop := M.length ≤ N.length ∧ ∀ u, u < M.length → N[u]? = M[u]?

theorem cmp_drop {M L : Mem} {v : LV} (hv : v.lo M.length = true) : Cmp M (M ++ L) v M v := by
  refine ⟨⟨fun t => if t < M.length then t else t + L.length, fun t ht => by simp [ht], fun t ht => ?_, fun t blk hl => .inl ?_, fun t t' b b' h h' e => ?_, rn_id (n := M.length) (fun t ht => by simp [ht]) hv⟩, Nat.le_refl _⟩
  · simp only [List.length_append, if_neg (Nat.not_lt.2 ht)]; omega
  · have ht := hl.lt
    simp only [if_pos ht]
    refine ⟨?_, hl⟩
    unfold Live at *
    rw [List.getElem?_append_left ht]; exact hl
  · simpa [h.lt, h'.lt] using e

theorem cmp_drop0 {M : Mem} {v : LV} (hv : v.lo M.length = true) : Cmp M M v M v := by
  have := cmp_drop (M := M) (L := []) hv
  simpa using this

theorem cmp_dropB {M L : Mem} {p q : Prop} [Decidable p] [Decidable q] (h : p ↔ q) : Cmp M (M ++ L) (.val (.bool (decide p))) M (.val (.bool (decide q))) := by
  rw [show decide p = decide q by simp [h]]; exact cmp_drop rfl
theorem cmp_dropF {M L : Mem} {q : Prop} [Decidable q] (h : ¬ q) : Cmp M (M ++ L) (.val (.bool false)) M (.val (.bool (decide q))) := by
  rw [decide_eq_false h]; exact cmp_drop rfl
theorem cmp_dropT {M L : Mem} {q : Prop} [Decidable q] (h : q) : Cmp M (M ++ L) (.val (.bool true)) M (.val (.bool (decide q))) := by
  rw [decide_eq_true h]; exact cmp_drop rfl
theorem cmp_pre {M Me : Mem} {v : LV} (hp : Pre' M Me) (hv : v.lo M.length = true) : Cmp M Me v M v := by
  obtain ⟨L, rfl⟩ : ∃ L, Me = M ++ L := ⟨Me.drop M.length, by
    have h1 : Me.take M.length = M := by
      apply List.ext_getElem?
      intro i
      rw [List.getElem?_take]
      split
      · rename_i h; exact hp.2 i h
      · rename_i h; rw [List.getElem?_eq_none (Nat.le_of_not_lt h)]
    conv => lhs; rw [← List.take_append_drop M.length Me, h1]⟩
  exact cmp_drop hv

def keepR (n j l : Nat) : Nat → Nat := fun t => if t < n then t else if t = n then n + j else t + l
theorem keepR_n {n j l : Nat} : keepR n j l n = n + j := by simp [keepR]
theorem keepR_lt {n j l t : Nat} (h : t < n) : keepR n j l t = t := by simp [keepR, h]

theorem cmp_keep1 {M L : Mem} {j e : Nat} {cs : List LV} {v ve : LV} (hj : L[j]? = some (some (.row cs true e))) (hcs : cs.all (LV.lo1 M.length) = true) (hv : rn (keepR M.length j L.length) v = ve) :
    Cmp M (M ++ L) ve (M ++ [some (.row cs true e)]) v := by
  have hjl : j < L.length := by
    rcases Nat.lt_or_ge j L.length with h | h
    · exact h
    · rw [List.getElem?_eq_none h] at hj; cases hj
  have hid : ∀ t, t < M.length → keepR M.length j L.length t = t := fun t ht => keepR_lt ht
  refine ⟨⟨keepR M.length j L.length, hid, fun t ht => ?_, fun t blk hl => ?_, fun t t' b b' h h' e => ?_, hv⟩, by simp⟩
  · simp only [List.length_append, List.length_singleton] at ht ⊢
    unfold keepR
    rw [if_neg (by omega), if_neg (by omega)]; omega
  · rcases live_push hl with ⟨h1, h2⟩ | ⟨rfl, rfl⟩
    · refine .inl ?_
      rw [hid t h1]
      refine ⟨?_, h2⟩
      unfold Live at *
      rw [List.getElem?_append_left h1]; exact h2
    · refine .inr ?_
      rw [keepR_n]
      refine ⟨?_, rfl⟩
      unfold Live
      simp only [rnB]
      rw [at_j, hj, rn1s_id hid hcs]
  · have h1 := h.lt
    have h2 := h'.lt
    simp only [List.length_append, List.length_singleton] at h1 h2
    unfold keepR at e
    split at e <;> split at e
    · exact e
    · split at e <;> omega
    · split at e <;> omega
    · omega

end Go.Ab

namespace Go.Ab
open Go

structure Cell where
  a : Int
  b : Int
  c : Int
deriving DecidableEq

instance : Inhabited Cell := ⟨⟨0, 0, 0⟩⟩
def Cell.row (x : Cell) : List LV := [.I x.a, .I x.b, .I x.c]

def triL (cs : List Cell) : List LV := cs.flatMap Cell.row
def intL (xs : List Int) : List LV := xs.map LV.I

def Has (M : Mem) (t o : Nat) (vs : List LV) : Prop := ∃ row, getRow M t = some row ∧ o + vs.length ≤ row.length ∧ (row.drop o).take vs.length = vs
abbrev Ints (M : Mem) (t o : Nat) (xs : List Int) : Prop := Has M t o (intL xs)
abbrev Tri (M : Mem) (t o : Nat) (cs : List Cell) : Prop := Has M t o (triL cs)

theorem row_lt {M : Mem} {t : Nat} {row : List LV} (h : getRow M t = some row) : t < M.length := by
  obtain ⟨_, _, hl⟩ := getRow_live h; exact hl.lt
theorem Has.lt {M : Mem} {t o : Nat} {vs : List LV} (h : Has M t o vs) : t < M.length := by obtain ⟨_, h1, _⟩ := h; exact row_lt h1
theorem Has.app {M L : Mem} {t o : Nat} {vs : List LV} (h : Has M t o vs) : Has (M ++ L) t o vs := by
  obtain ⟨row, h1, h3, h2⟩ := h
  exact ⟨row, by rw [getRow_app (row_lt h1)]; exact h1, h3, h2⟩
theorem Has.get {M : Mem} {t o k : Nat} {vs : List LV} (h : Has M t o vs) (hk : k < vs.length) : getCell M t (o + k) = vs[k]? := by
  obtain ⟨row, h1, h3, h2⟩ := h
  unfold getCell
  rw [h1]
  simp only [Option.bind_some]
  conv => rhs; rw [← h2]
  rw [List.getElem?_take, if_pos hk, List.getElem?_drop]
theorem Has.gets {M : Mem} {t o k n : Nat} {vs : List LV} (h : Has M t o vs) (hk : k + n ≤ vs.length) : getCells M t (o + k) n = some ((vs.drop k).take n) := by
  obtain ⟨row, h1, h3, h2⟩ := h
  unfold getCells
  rw [h1]
  simp only [Option.bind_some]
  rw [if_pos (by omega)]
  congr 1
  conv => rhs; rw [← h2]
  rw [List.drop_take, List.take_take, List.drop_drop, Nat.min_eq_left (by omega)]
theorem Has.all {M : Mem} {t o : Nat} {vs : List LV} (h : Has M t o vs) : getCells M t o vs.length = some vs := by
  have := h.gets (k := 0) (n := vs.length) (by omega)
  simpa using this
theorem Has.new {M : Mem} {vs : List LV} {w : Bool} {e : Nat} : Has (M ++ [some (.row vs w e)]) M.length 0 vs := ⟨vs, by rw [row_0]; rfl, by simp, by simp⟩

theorem intL_len (xs : List Int) : (intL xs).length = xs.length := by simp [intL]
theorem triL_len (cs : List Cell) : (triL cs).length = cs.length * 3 := by
  induction cs with
  | nil => rfl
  | cons c cs ih => simp only [triL, List.flatMap_cons, List.length_append] at ih ⊢; rw [ih]; simp [Cell.row]; omega
theorem triL_drop (cs : List Cell) : ∀ k, (triL cs).drop (k * 3) = triL (cs.drop k) := by
  induction cs with
  | nil => intro k; simp [triL]
  | cons c cs ih =>
    intro k
    cases k with
    | zero => simp
    | succ k =>
      have : (k + 1) * 3 = k * 3 + 3 := by omega
      rw [this]
      show ((c.row ++ triL cs).drop (k * 3 + 3)) = triL (cs.drop k)
      rw [← ih k, Nat.add_comm, ← List.drop_drop]
      congr 1
theorem triL_at {cs : List Cell} {k : Nat} (hk : k < cs.length) : ((triL cs).drop (k * 3)).take 3 = (cs.getD k default).row := by
  rw [triL_drop]
  have : cs.drop k = cs.getD k default :: cs.drop (k + 1) := by
    rw [List.drop_eq_getElem_cons hk]
    simp [hk]
  rw [this]
  rfl

theorem Ints.get {M : Mem} {t o k : Nat} {xs : List Int} (h : Ints M t o xs) (hk : k < xs.length) : getCell M t (o + k) = some (.I (xs.getD k 0)) := by
  rw [Has.get h (by rw [intL_len]; exact hk)]
  simp [intL, hk]
theorem Tri.get {M : Mem} {t o k : Nat} {cs : List Cell} (h : Tri M t o cs) (hk : k < cs.length) : getCells M t (o + k * 3) 3 = some (cs.getD k default).row := by
  rw [Has.gets h (by rw [triL_len]; omega), triL_at hk]
theorem Tri.get1 {M : Mem} {t o k j : Nat} {cs : List Cell} (h : Tri M t o cs) (hk : k < cs.length) (hj : j < 3) : getCell M t (o + k * 3 + j) = (cs.getD k default).row[j]? := by
  rw [Nat.add_assoc, Has.get h (by rw [triL_len]; omega)]
  have := triL_at hk
  rw [← this, List.getElem?_take, if_pos hj, List.getElem?_drop]
theorem callK_of {P : Program} {f : FuncId} {args : List LV} {M N : Mem} {v : LV} {A : LV → Mem → Prop} (h : CallsTo P f args M v N) (hA : A v N) : callK P f args M A := h.mono fun _ _ e => by rw [e.1, e.2]; exact hA
theorem callR_of {P : Program} {f : FuncId} {args : List LV} {M : Mem} {A B : LV → Mem → Prop} (h : CallsR P f args M B) (hA : ∀ v N, B v N → A v N) : callK P f args M A := h.mono hA
theorem cell_eq {c d : Cell} : c = d ↔ c.a = d.a ∧ c.b = d.b ∧ c.c = d.c := by
  cases c; cases d; simp
theorem cell_eta {c : Cell} : (⟨c.a, c.b, c.c⟩ : Cell) = c := (rfl)
theorem eqI {a b : Int} (h : a = b) : LV.I a = LV.I b := by rw [h]
theorem intL_set {xs : List Int} {k : Nat} {v : Int} : (intL xs).set k (.I v) = intL (xs.set k v) := by simp [intL, List.map_set]
theorem triL_append (xs ys : List Cell) : triL (xs ++ ys) = triL xs ++ triL ys := by simp [triL]
theorem intL_append (xs ys : List Int) : intL (xs ++ ys) = intL xs ++ intL ys := by simp [intL]
theorem triL_take (cs : List Cell) : ∀ k, (triL cs).take (k * 3) = triL (cs.take k) := by
  induction cs with
  | nil => intro k; simp [triL]
  | cons c cs ih =>
    intro k
    cases k with
    | zero => simp [triL]
    | succ k =>
      have : (k + 1) * 3 = k * 3 + 3 := by omega
      rw [this]
      show ((c.row ++ triL cs).take (k * 3 + 3)) = c.row ++ triL (cs.take k)
      rw [← ih k, List.take_append, List.take_of_length_le (by simp [Cell.row])]
      congr 2
theorem getD_set {α : Type} {xs : List α} {k j : Nat} {v d : α} : (xs.set k v).getD j d = if j = k ∧ k < xs.length then v else xs.getD j d := by
  simp only [List.getD_eq_getElem?_getD]
  by_cases h : k = j
  · subst h
    by_cases hk : k < xs.length
    · simp [hk]
    · simp [hk, List.set_eq_of_length_le (Nat.le_of_not_lt hk)]
  · rw [List.getElem?_set_ne h, if_neg (fun e => h e.1.symm)]
theorem natI (k : Nat) : ((k : Int) + 1) = ((k + 1 : Nat) : Int) := by omega
end Go.Ab

namespace Go.Ab
open Go

abbrev Pre := Pre'
theorem Pre.refl (M : Mem) : Pre M M := ⟨Nat.le_refl _, fun _ _ => rfl⟩
theorem Pre.trans {M N O : Mem} (h : Pre M N) (k : Pre N O) : Pre M O := ⟨Nat.le_trans h.1 k.1, fun u hu => (k.2 u (Nat.lt_of_lt_of_le hu h.1)).trans (h.2 u hu)⟩
theorem Pre.app (M L : Mem) : Pre M (M ++ L) := ⟨by simp, fun u hu => List.getElem?_append_left hu⟩
theorem Pre.app' {M N L : Mem} (h : Pre M N) : Pre M (N ++ L) := h.trans (Pre.app N L)
theorem Live.pre {M N : Mem} {t : Nat} {b : Blk} (h : Live M t b) (hp : Pre M N) : Live N t b := by unfold Live; rw [hp.2 t h.lt]; exact h
theorem Live.app {M L : Mem} {t : Nat} {b : Blk} (h : Live M t b) : Live (M ++ L) t b := h.pre (Pre.app M L)
theorem Has.pre {M N : Mem} {t o : Nat} {vs : List LV} (h : Has M t o vs) (hp : Pre M N) : Has N t o vs := by
  obtain ⟨row, h1, h2⟩ := h
  refine ⟨row, ?_, h2⟩
  unfold getRow at *
  rw [hp.2 t (row_lt (M := M) (by unfold getRow; exact h1))]; exact h1
theorem Live.row {M : Mem} {t e : Nat} {cs : List LV} {w : Bool} (h : Live M t (.row cs w e)) : getRow M t = some cs := by unfold getRow; rw [show M[t]? = _ from h]
theorem Live.esz {M : Mem} {t e : Nat} {cs : List LV} {w : Bool} (h : Live M t (.row cs w e)) : getEsz M t = some e := by unfold getEsz; rw [show M[t]? = _ from h]
theorem Live.cell {M : Mem} {t e o : Nat} {cs : List LV} {w : Bool} (h : Live M t (.row cs w e)) : getCell M t o = cs[o]? := by unfold getCell; rw [h.row]; rfl
theorem Live.cells {M : Mem} {t e o n : Nat} {cs : List LV} {w : Bool} (h : Live M t (.row cs w e)) : getCells M t o n = if o + n ≤ cs.length then some ((cs.drop o).take n) else none := by unfold getCells; rw [h.row]; rfl
theorem Live.setC {M : Mem} {t e o : Nat} {cs vs : List LV} (h : Live M t (.row cs true e)) : setCells M t o vs = if o + vs.length ≤ cs.length then some (M.set t (some (.row (splice cs o vs) true e))) else none := by
  unfold setCells; rw [show M[t]? = _ from h]
theorem Live.has {M : Mem} {t e : Nat} {cs : List LV} {w : Bool} (h : Live M t (.row cs w e)) : Has M t 0 cs := ⟨cs, h.row, by simp, by simp⟩
theorem Live.set_eq {M : Mem} {t : Nat} {b b' : Blk} (h : Live M t b) : Live (M.set t (some b')) t b' := by unfold Live; simp [h.lt]
theorem Live.new {M L : Mem} {b : Blk} : Live (M ++ some b :: L) M.length b := by unfold Live; rw [at_0]; rfl
theorem Live.newj {M L : Mem} {b : Blk} {j : Nat} (h : L[j]? = some (some b)) : Live (M ++ L) (M.length + j) b := by unfold Live; rw [at_j]; exact h
theorem Pre.set {M N : Mem} {t : Nat} {x : Option Blk} (h : Pre M N) (ht : M.length ≤ t) : Pre M (N.set t x) := ⟨by simpa using h.1, fun u hu => by rw [List.getElem?_set_ne (by omega)]; exact h.2 u hu⟩

theorem appendK_1 {M : Mem} {t n e b : Nat} {acc new : List LV} {A : LV → Mem → Prop} (ht : Live M t (.row acc true e)) (hn : acc.length = n * e) (hne : new.length = e) (he : 0 < e)
    (hb : (n + 1) * b ≤ 140737488355328) (hn' : n + 1 ≤ 9223372036854775807)
    (hA : ∀ M', M'.length = M.length + 2 → Live M' (M.length + 1) (.row (acc ++ new) true e) → (∀ u, u ≠ t → u < M.length → M'[u]? = M[u]?) → A (.ref (M.length + 1) 0 (n + 1)) M') :
    appendK e b (.ref t 0 n) (.ref M.length 0 1) (M ++ [some (.row new true e)]) A := by
  have htl := ht.lt
  have hg : (M ++ [some (Blk.row new true e)])[t]? = some (some (.row acc true e)) := by rw [List.getElem?_append_left htl]; exact ht
  simp only [appendK, lenS, winC, Nat.one_ne_zero, if_false, cells_0, cellsL_z, Nat.one_mul, Nat.zero_add, hne, Nat.le_refl, if_true, List.drop_zero, List.take_of_length_le (Nat.le_of_eq hne)]
  refine andK_mk ⟨hb, hn'⟩ (.inl ?_)
  simp only [appV, Nat.one_ne_zero, if_false, hg, Nat.zero_add, hn, Nat.le_refl, and_self, if_true, appK, List.drop_zero]
  rw [List.take_of_length_le (by omega), len_app]
  refine hA _ (by simp) ?_ fun u hu hul => ?_
  · unfold Live
    rw [List.getElem?_append_right (by simp)]
    simp
  · rw [List.getElem?_append_left (by simp; omega), List.getElem?_set_ne (fun e => hu e.symm), List.getElem?_append_left hul]

theorem pre_step {M0 M M' : Mem} {t j : Nat} (hp : Pre M0 M) (ht : M0.length ≤ t) (hl : M'.length = M.length + j) (hu : ∀ u, u ≠ t → u < M.length → M'[u]? = M[u]?) : Pre M0 M' :=
  ⟨by have := hp.1; omega, fun u h => by rw [hu u (by omega) (Nat.lt_of_lt_of_le h hp.1)]; exact hp.2 u h⟩
theorem live_step {M M' : Mem} {t u : Nat} {b : Blk} (h : Live M u b) (hne : u ≠ t) (hu : ∀ u, u ≠ t → u < M.length → M'[u]? = M[u]?) : Live M' u b := by
  unfold Live; rw [hu u hne h.lt]; exact h
theorem appendK_cell {M : Mem} {t : Nat} {acc : List Cell} {x y z : Int} {A : LV → Mem → Prop} (ht : Live M t (.row (triL acc) true 3)) (hl : acc.length ≤ 1000000000)
    (hA : ∀ M', M'.length = M.length + 2 → Live M' (M.length + 1) (.row (triL (acc ++ [⟨x, y, z⟩])) true 3) → (∀ u, u ≠ t → u < M.length → M'[u]? = M[u]?) → A (.ref (M.length + 1) 0 (acc ++ [(⟨x, y, z⟩ : Cell)]).length) M') :
    appendK 3 24 (.ref t 0 acc.length) (.ref M.length 0 1) (M ++ [some (.row [LV.val (.int .i64 x), LV.val (.int .i64 y), LV.val (.int .i64 z)] true 3)]) A := by
  refine appendK_1 (acc := triL acc) (new := [LV.I x, LV.I y, LV.I z]) ht (by rw [triL_len]) rfl (by omega) (by omega) (by omega) fun M' h1 h2 h3 => ?_
  have := hA M' h1 (by rw [triL_append]; exact h2) h3
  simpa using this

end Go.Ab

namespace Go.Ab
open Go

@[reducible] def LV.W (s : BitVec 64) : LV := .val (.int .u64 ((s.toNat : Nat) : Int))

section
variable {k : IntKind} {a b : Int} {s u : BitVec 64}
theorem bvi_add : binV .add (.val (.int .i64 a)) (.val (.int .i64 b)) = some (.val (.int .i64 (IntKind.i64.wrap (a + b))), True) := bv_add
theorem bvi_sub : binV .sub (.val (.int .i64 a)) (.val (.int .i64 b)) = some (.val (.int .i64 (IntKind.i64.wrap (a - b))), True) := bv_sub
theorem bvi_mul : binV .mul (.val (.int .i64 a)) (.val (.int .i64 b)) = some (.val (.int .i64 (IntKind.i64.wrap (a * b))), True) := bv_mul
theorem bvi_and : binV .and (.val (.int .i64 a)) (.val (.int .i64 b)) = some (.val (.int .i64 (IntKind.i64.wrap ((BitVec.ofInt 64 a &&& BitVec.ofInt 64 b).toNat : Int))), True) := bv_and
theorem bvi_or : binV .or (.val (.int .i64 a)) (.val (.int .i64 b)) = some (.val (.int .i64 (IntKind.i64.wrap ((BitVec.ofInt 64 a ||| BitVec.ofInt 64 b).toNat : Int))), True) := bv_or
theorem bvi_xor : binV .xor (.val (.int .i64 a)) (.val (.int .i64 b)) = some (.val (.int .i64 (IntKind.i64.wrap ((BitVec.ofInt 64 a ^^^ BitVec.ofInt 64 b).toNat : Int))), True) := bv_xor
theorem bvi_shl {k' : IntKind} : binV .shl (.val (.int .i64 a)) (.val (.int k' b)) = some (.val (.int .i64 (IntKind.i64.wrap (a * 2 ^ (min b.toNat 64)))), 0 ≤ b) := bv_shl
theorem bvi_shr {k' : IntKind} : binV .shr (.val (.int .i64 a)) (.val (.int k' b)) = some (.val (.int .i64 (a.fdiv (2 ^ (min b.toNat 64)))), 0 ≤ b) := bv_shr
theorem bvb_add : binV .add (.val (.int .u8 a)) (.val (.int .u8 b)) = some (.val (.int .u8 (IntKind.u8.wrap (a + b))), True) := bv_add
theorem bvb_sub : binV .sub (.val (.int .u8 a)) (.val (.int .u8 b)) = some (.val (.int .u8 (IntKind.u8.wrap (a - b))), True) := bv_sub

theorem uni_neg : unV .neg (.val (.int .i64 a)) = some (.val (.int .i64 (IntKind.i64.wrap (0 - a)))) := un_neg
theorem ofInt_toNat : BitVec.ofInt 64 ((s.toNat : Nat) : Int) = s := by
  apply BitVec.eq_of_toNat_eq
  simp
theorem wrap_toNat : IntKind.u64.wrap ((s.toNat : Nat) : Int) = ((s.toNat : Nat) : Int) := by
  have := s.isLt
  rw [IntKind.wrap_u64]
  omega
theorem w_and : binV .and (.val (.int .u64 ((s.toNat : Nat) : Int))) (.val (.int .u64 ((u.toNat : Nat) : Int))) = some (.val (.int .u64 (((s &&& u).toNat : Nat) : Int)), True) := by
  rw [bv_and]
  show some (LV.val (.int .u64 (IntKind.u64.wrap (((BitVec.ofInt 64 ((s.toNat : Nat) : Int) &&& BitVec.ofInt 64 ((u.toNat : Nat) : Int)).toNat : Nat) : Int))), True) = _
  rw [ofInt_toNat, ofInt_toNat, wrap_toNat]
theorem w_or : binV .or (.val (.int .u64 ((s.toNat : Nat) : Int))) (.val (.int .u64 ((u.toNat : Nat) : Int))) = some (.val (.int .u64 (((s ||| u).toNat : Nat) : Int)), True) := by
  rw [bv_or]
  show some (LV.val (.int .u64 (IntKind.u64.wrap (((BitVec.ofInt 64 ((s.toNat : Nat) : Int) ||| BitVec.ofInt 64 ((u.toNat : Nat) : Int)).toNat : Nat) : Int))), True) = _
  rw [ofInt_toNat, ofInt_toNat, wrap_toNat]
theorem w_xor : binV .xor (.val (.int .u64 ((s.toNat : Nat) : Int))) (.val (.int .u64 ((u.toNat : Nat) : Int))) = some (.val (.int .u64 (((s ^^^ u).toNat : Nat) : Int)), True) := by
  rw [bv_xor]
  show some (LV.val (.int .u64 (IntKind.u64.wrap (((BitVec.ofInt 64 ((s.toNat : Nat) : Int) ^^^ BitVec.ofInt 64 ((u.toNat : Nat) : Int)).toNat : Nat) : Int))), True) = _
  rw [ofInt_toNat, ofInt_toNat, wrap_toNat]
theorem w_not : binV .andNot (.val (.int .u64 ((s.toNat : Nat) : Int))) (.val (.int .u64 ((u.toNat : Nat) : Int))) = some (.val (.int .u64 (((s &&& ~~~u).toNat : Nat) : Int)), True) := by
  rw [bv_not]
  show some (LV.val (.int .u64 (IntKind.u64.wrap (((BitVec.ofInt 64 ((s.toNat : Nat) : Int) &&& ~~~BitVec.ofInt 64 ((u.toNat : Nat) : Int)).toNat : Nat) : Int))), True) = _
  rw [ofInt_toNat, ofInt_toNat, wrap_toNat]
theorem w_and1 : binV .and (.val (.int .u64 ((s.toNat : Nat) : Int))) (.val (.int .u64 1)) = some (.val (.int .u64 (((s &&& 1#64).toNat : Nat) : Int)), True) := by
  have h := w_and (s := s) (u := 1#64)
  rw [show (((1#64).toNat : Nat) : Int) = 1 from rfl] at h; exact h
theorem w_or0 : binV .or (.val (.int .u64 0)) (.val (.int .u64 ((u.toNat : Nat) : Int))) = some (.val (.int .u64 (((0#64 ||| u).toNat : Nat) : Int)), True) := by
  have h := w_or (s := 0#64) (u := u)
  rw [show (((0#64).toNat : Nat) : Int) = 0 from rfl] at h; exact h
theorem w_shl1 {k' : IntKind} : binV .shl (.val (.int .u64 1)) (.val (.int k' b)) = some (.val (.int .u64 (((1#64 <<< b.toNat).toNat : Nat) : Int)), 0 ≤ b) := by
  rw [bv_shl]
  congr 1
  rw [show (IntKind.u64.wrap (1 * 2 ^ (min b.toNat IntKind.u64.bits))) = (((1#64 <<< b.toNat).toNat : Nat) : Int) from ?_]
  rw [IntKind.wrap_u64, Int.one_mul, BitVec.toNat_shiftLeft, Nat.shiftLeft_eq]
  show (2 : Int) ^ min b.toNat 64 % 18446744073709551616 = _
  rcases Nat.lt_or_ge b.toNat 64 with h | h
  · rw [Nat.min_eq_left (Nat.le_of_lt h)]
    simp
  · rw [Nat.min_eq_right h]
    have e : (1#64).toNat * 2 ^ b.toNat % 2 ^ 64 = 0 := by
      obtain ⟨d, hd⟩ : ∃ d, b.toNat = 64 + d := ⟨b.toNat - 64, by omega⟩
      rw [hd, Nat.pow_add]
      simp
    rw [e]; rfl
theorem w_shr {k' : IntKind} : binV .shr (.val (.int .u64 ((s.toNat : Nat) : Int))) (.val (.int k' b)) = some (.val (.int .u64 (((s >>> b.toNat).toNat : Nat) : Int)), 0 ≤ b) := by
  rw [bv_shr]
  congr 1
  rw [show (((s.toNat : Nat) : Int).fdiv (2 ^ (min b.toNat IntKind.u64.bits))) = (((s >>> b.toNat).toNat : Nat) : Int) from ?_]
  rw [Int.fdiv_eq_ediv_of_nonneg _ (Int.pow_nonneg (by decide)), BitVec.toNat_ushiftRight, Nat.shiftRight_eq_div_pow]
  show ((s.toNat : Nat) : Int) / 2 ^ min b.toNat 64 = _
  rcases Nat.lt_or_ge b.toNat 64 with h | h
  · rw [Nat.min_eq_left (Nat.le_of_lt h)]
    push_cast
    rfl
  · rw [Nat.min_eq_right h]
    have h1 : s.toNat < 2 ^ 64 := s.isLt
    have h2 : s.toNat / 2 ^ b.toNat = 0 := Nat.div_eq_of_lt (Nat.lt_of_lt_of_le h1 (Nat.pow_le_pow_right (by decide) h))
    rw [h2]
    omega
theorem w_sub1 : binV .sub (.val (.int .u64 ((s.toNat : Nat) : Int))) (.val (.int .u64 1)) = some (.val (.int .u64 (((s - 1#64).toNat : Nat) : Int)), True) := by
  rw [bv_sub, IntKind.wrap_u64, BitVec.toNat_sub]
  have := s.isLt
  congr 4
  show (((s.toNat : Nat) : Int) - 1) % 18446744073709551616 = (((2 ^ 64 - 1 + s.toNat) % 2 ^ 64 : Nat) : Int)
  omega
theorem w_neg : unV .neg (.val (.int .u64 ((s.toNat : Nat) : Int))) = some (.val (.int .u64 (((-s).toNat : Nat) : Int))) := by
  rw [un_neg, IntKind.wrap_u64, BitVec.toNat_neg]
  have := s.isLt
  congr 3
  show (0 - ((s.toNat : Nat) : Int)) % 18446744073709551616 = (((2 ^ 64 - s.toNat) % 2 ^ 64 : Nat) : Int)
  omega
theorem w_inj : (((s.toNat : Nat) : Int) = ((u.toNat : Nat) : Int)) = (s = u) := by
  refine propext ⟨fun h => BitVec.eq_of_toNat_eq (by omega), fun h => by rw [h]⟩
theorem w_eq0 : (((s.toNat : Nat) : Int) = 0) = (s = 0#64) := by
  refine propext ⟨fun h => BitVec.eq_of_toNat_eq (by simp; omega), fun h => by rw [h]; rfl⟩
theorem w_eq1 : (((s.toNat : Nat) : Int) = 1) = (s = 1#64) := by
  refine propext ⟨fun h => BitVec.eq_of_toNat_eq (by simp; omega), fun h => by rw [h]; rfl⟩
end
end Go.Ab

namespace Go.Ab
open Go
def SXd := (And.intro (And.intro (And.intro (And.intro (And.intro (And.intro @evc_skip (And.intro @evc_ops @evc_draw)) (And.intro (And.intro @evc_seq @evc_cond) (And.intro @evc_block @evc_exit))) (And.intro (And.intro @evc_ret (And.intro @opsK_r @putK_r)) (And.intro (And.intro @cntK_r @seqK_n) (And.intro @seqK_e @seqK_r)))) (And.intro (And.intro (And.intro @evdK_r (And.intro @evd1K_r @evd2K_r)) (And.intro (And.intro @endQ_r @endQ_n) (And.intro @endR_r @endR_n))) (And.intro (And.intro @thenK_n (And.intro @thenK_e @thenK_r)) (And.intro (And.intro @blockK_n @blockK_e) (And.intro @blockK_r @evops_n))))) (And.intro (And.intro (And.intro (And.intro @evops_c (And.intro @evg_n @evg_s)) (And.intro (And.intro @evd_n @ev_mv) (And.intro @ev_pick @ev_bin))) (And.intro (And.intro @ev_eqs (And.intro @ev_eqb @ev_un)) (And.intro (And.intro @ev_conv @ev_build) (And.intro @ev_load1 @ev_loadN)))) (And.intro (And.intro (And.intro @ev_nilck (And.intro @ev_mkf @ev_slS)) (And.intro (And.intro @ev_slA @ev_slT) (And.intro @ev_fieldAddr @ev_field))) (And.intro (And.intro (And.intro @ev_idxS @ev_idxA) (And.intro @ev_index @ev_idxT)) (And.intro (And.intro @ev_lookup @ev_extract) (And.intro @ev_len @ev_lenT)))))) (And.intro (And.intro (And.intro (And.intro (And.intro @ev_mm (And.intro @ev_any @ev_box)) (And.intro (And.intro @ev_alloc @ev_buildSl) (And.intro @ev_mksl @ev_mkmap))) (And.intro (And.intro @ev_sl0 (And.intro @ev_store @ev_append)) (And.intro (And.intro @ev_copy @ev_call) (And.intro @ev_callV @ev_clear)))) (And.intro (And.intro (And.intro @ev_mupd (And.intro @evd_mv @evd_pick)) (And.intro (And.intro @evd_bin @evd_eqs) (And.intro @evd_eqb @evd_un))) (And.intro (And.intro @evd_conv (And.intro @evd_build @evd_load1)) (And.intro (And.intro @evd_loadN @evd_nilck) (And.intro @evd_mkf @evd_slS))))) (And.intro (And.intro (And.intro (And.intro @evd_slA (And.intro @evd_slT @evd_fieldAddr)) (And.intro (And.intro @evd_field @evd_idxS) (And.intro @evd_idxA @evd_index))) (And.intro (And.intro @evd_idxT (And.intro @evd_lookup @evd_extract)) (And.intro (And.intro @evd_len @evd_lenT) (And.intro @evd_mm @evd_any)))) (And.intro (And.intro (And.intro @evd_box (And.intro @evd_alloc @evd_buildSl)) (And.intro (And.intro @evd_mksl @evd_mkmap) (And.intro @evd_sl0 @evd_store))) (And.intro (And.intro (And.intro @evd_append @evd_copy) (And.intro @evd_clear @evd_mupd)) (And.intro (And.intro @evd_call @evd_callV) (And.intro @upd_at @selL_n)))))))
def SXu := (And.intro (And.intro (And.intro (And.intro (And.intro (And.intro (And.intro @clearK_r (And.intro @ev_t @ev_c)) (And.intro @pick_dt (And.intro @pick_df @sopK_s))) (And.intro (And.intro @aopK_s (And.intro @memK_s @appK_s)) (And.intro @storeK_v (And.intro @storeK_r @storeK_p)))) (And.intro (And.intro (And.intro @storeK_m (And.intro @storeK_f @storeK_a)) (And.intro @andK_t (And.intro @andK_d @condC_dt))) (And.intro (And.intro @condC_df (And.intro @guardO_dtt @guardO_dtf)) (And.intro (And.intro @guardO_dft @guardO_dff) (And.intro @wrap_id @condC_t))))) (And.intro (And.intro (And.intro (And.intro @condC_f (And.intro @condC_not @guardO_tt)) (And.intro @guardO_ff (And.intro @guardO_tf @guardO_ft))) (And.intro (And.intro @guardO_not (And.intro @guardO_u @guardO_ud)) (And.intro @putO_s (And.intro @putO_n @callVK_c)))) (And.intro (And.intro (And.intro @bvi_add (And.intro @bvi_sub @bvi_mul)) (And.intro @bvi_and (And.intro @bvi_or @bvi_xor))) (And.intro (And.intro @bvi_shl (And.intro @bvi_shr @bvb_add)) (And.intro (And.intro @bvb_sub @uni_neg) (And.intro @w_and @w_or)))))) (And.intro (And.intro (And.intro (And.intro (And.intro @w_xor (And.intro @w_not @w_and1)) (And.intro @w_or0 (And.intro @w_shl1 @w_shr))) (And.intro (And.intro @w_sub1 (And.intro @w_neg @w_inj)) (And.intro @w_eq0 (And.intro @w_eq1 @bv_quo)))) (And.intro (And.intro (And.intro @bv_rem (And.intro @bv_eql @bv_neq)) (And.intro @bv_lss (And.intro @bv_leq @bv_gtr))) (And.intro (And.intro @bv_geq (And.intro @eb_eq @eb_ne)) (And.intro (And.intro @eqo_t @eqo_b) (And.intro @eqo_n @nil_r))))) (And.intro (And.intro (And.intro (And.intro @nil_n (And.intro @un_not @len_ref)) (And.intro @len_nil (And.intro @intV_i @setC_0))) (And.intro (And.intro @setC_j (And.intro @row_0 @row_j)) (And.intro @esz_0 (And.intro @esz_j @cell_0)))) (And.intro (And.intro (And.intro @cell_j (And.intro @cells_0 @cells_j)) (And.intro @len_app (And.intro @rowL_z @rowL_s))) (And.intro (And.intro @eszL_z (And.intro @eszL_s @cellL_z)) (And.intro (And.intro @cellL_s @cellsL_z) (And.intro @cellsL_s @setL_z))))))) (And.intro (And.intro (And.intro (And.intro (And.intro (And.intro @setL_s (And.intro @List.append_assoc.{0} @List.cons_append.{0})) (And.intro @List.nil_append.{0} (And.intro @List.length_cons.{0} @List.length_nil.{0}))) (And.intro (And.intro @List.getD_cons_zero.{0} (And.intro @List.getD_cons_succ.{0} @List.getD_nil.{0})) (And.intro @List.getElem?_cons_zero.{0} (And.intro @List.getElem?_cons_succ.{0} @List.map_cons.{0,0})))) (And.intro (And.intro (And.intro @List.map_nil.{0,0} (And.intro @Option.map_some.{0,0} @Option.bind_some.{0,0})) (And.intro @decide_true (And.intro @decide_false @Bool.not_true))) (And.intro (And.intro @Bool.not_false (And.intro @Nat.add_zero @Nat.zero_add)) (And.intro (And.intro @Nat.le_refl @true_and) (And.intro @and_true @Bool.false_eq_true))))) (And.intro (And.intro (And.intro (And.intro @List.drop_zero.{0} (And.intro @List.take_succ_cons.{0} @List.take_zero.{0})) (And.intro @List.drop_succ_cons.{0} (And.intro @beq_self_eq_true.{0} @Option.some.injEq.{0}))) (And.intro (And.intro @Int.toNat_natCast (And.intro @Nat.mul_one @Nat.mul_zero)) (And.intro @Nat.zero_mul (And.intro @Nat.one_mul @List.set_cons_zero.{0})))) (And.intro (And.intro (And.intro @List.set_cons_succ.{0} (And.intro @maskM_n @unmask_n)) (And.intro @keepL_n (And.intro @keepL_refl @keepL_app))) (And.intro (And.intro @ifo_pos (And.intro @selL_c @maskM_c)) (And.intro (And.intro @unmask_c @keepL_c) (And.intro @join_ss @keep1_refl)))))) (And.intro (And.intro (And.intro (And.intro (And.intro @at_0 (And.intro @at_j @set_0)) (And.intro @set_j (And.intro @add1_ne @imp_self))) (And.intro (And.intro @and_self (And.intro @spl_10 @spl_20)) (And.intro @spl_21 (And.intro @spl_30 @spl_31)))) (And.intro (And.intro (And.intro @spl_32 (And.intro @spl_40 @spl_41)) (And.intro @spl_42 (And.intro @spl_43 @spl_3r))) (And.intro (And.intro @spl_4r (And.intro @spl_2r @spl_5r)) (And.intro (And.intro @spl_50 @spl_51) (And.intro @spl_52 @spl_53))))) (And.intro (And.intro (And.intro (And.intro @spl_54 (And.intro @spl_6r @spl_60)) (And.intro @spl_61 (And.intro @spl_62 @spl_63))) (And.intro (And.intro @spl_64 (And.intro @spl_65 @spl_7r)) (And.intro @spl_70 (And.intro @spl_71 @spl_72)))) (And.intro (And.intro (And.intro @spl_73 (And.intro @spl_74 @spl_75)) (And.intro @spl_76 (And.intro @spl_8r @spl_80))) (And.intro (And.intro @spl_81 (And.intro @spl_82 @spl_83)) (And.intro (And.intro @spl_84 @spl_85) (And.intro @spl_86 @spl_87))))))))
end Go.Ab

namespace Go.Ab.C
open Go.Ab
def laws_heldIntA3S : AFn :=
 ⟨2, 28, [.tmp 4],
 .seq (.ops [(none, .mv 4 (.c (.I 0)))])
 (.seq (.seq (.ops [(none, .mv 5 (.c (.I 0)))])
 (.block 0 (.loop (.seq (.seq (.ops [(none, .mv 7 (.t 5)),
 (none, .mv 8 (.t 0)),
 (none, .len 9 (.t 8)),
 (none, .bin 10 .lss (.t 7) (.t 9))])
 (.cond (.t 10) (.skip)
 (.exit 0)))
 (.seq (.block 1 (.seq (.ops [(none, .mv 6 (.c (.I 0)))])
 (.block 2 (.loop (.seq (.seq (.ops [(none, .mv 13 (.t 6)),
 (none, .bin 14 .lss (.t 13) (.c (.I 3)))])
 (.cond (.t 14) (.skip)
 (.exit 2)))
 (.seq (.block 3 (.seq (.seq (.ops [(none, .mv 17 (.t 0)),
 (none, .mv 18 (.t 5)),
 (none, .mv 19 (.t 6)),
 (none, .idxS 20 3 (.t 17) (.t 18)),
 (none, .idxA 21 3 1 (.t 20) (.t 19)),
 (none, .load1 22 (.t 21)),
 (none, .mv 23 (.t 1)),
 (none, .bin 24 .neq (.t 22) (.t 23))])
 (.cond (.t 24) (.seq (.ops [(none, .mv 4 (.c (.I (-1))))])
 (.ret))
 (.skip)))
 (.ops [(none, .mv 25 (.t 1)),
 (none, .bin 26 .add (.t 25) (.c (.I 1))),
 (none, .mv 1 (.t 26))])))
 (.ops [(none, .mv 15 (.t 6)),
 (none, .bin 16 .add (.t 15) (.c (.I 1))),
 (none, .mv 6 (.t 16))])))))))
 (.ops [(none, .mv 11 (.t 5)),
 (none, .bin 12 .add (.t 11) (.c (.I 1))),
 (none, .mv 5 (.t 12))]))))))
 (.seq (.ops [(none, .mv 27 (.t 1)),
 (none, .mv 4 (.t 27))])
 (.ret)))⟩
def laws_heldHeap : AFn :=
 ⟨2, 12, [.tmp 4],
 .seq (.ops [(none, .box 2 (.t 0)),
 (none, .mv 4 (.c (.I 0)))])
 (.seq (.ops [(none, .fieldAddr 5 (.t 2) 3),
 (none, .load1 6 (.t 5)),
 (none, .mv 7 (.t 1)),
 (none, .call (some 8) F.laws_heldIntA3S [(.t 6), (.t 7)]),
 (none, .mv 1 (.t 8))])
 (.seq (.seq (.ops [(none, .mv 9 (.t 1)),
 (none, .bin 10 .lss (.t 9) (.c (.I 0)))])
 (.cond (.t 10) (.seq (.ops [(none, .mv 4 (.c (.I (-1))))])
 (.ret))
 (.skip)))
 (.seq (.ops [(none, .mv 11 (.t 1)),
 (none, .mv 4 (.t 11))])
 (.ret))))⟩
end Go.Ab.C

namespace Go.Ab.K
open Go Go.Ab
theorem laws_heldIntA3S : prepF Go.Proofs.Tryd.prog F.laws_heldIntA3S = some C.laws_heldIntA3S := by kernel_rfl
theorem laws_heldHeap : prepF Go.Proofs.Tryd.prog F.laws_heldHeap = some C.laws_heldHeap := by kernel_rfl
end Go.Ab.K

namespace Go.Ab.C
open Go.Ab
def laws_markHeap : AFn :=
 ⟨2, 10, [.tmp 4],
 .seq (.ops [(none, .box 2 (.t 0)),
 (none, .mv 4 (.c (.I 0)))])
 (.seq (.ops [(none, .fieldAddr 5 (.t 2) 3),
 (none, .load1 6 (.t 5)),
 (none, .mv 7 (.t 1)),
 (none, .call (some 8) F.laws_markIntA3S [(.t 6), (.t 7)]),
 (none, .mv 1 (.t 8))])
 (.seq (.ops [(none, .mv 9 (.t 1)),
 (none, .mv 4 (.t 9))])
 (.ret)))⟩
def laws_markIntA3S : AFn :=
 ⟨2, 26, [.tmp 4],
 .seq (.ops [(none, .mv 4 (.c (.I 0)))])
 (.seq (.seq (.ops [(none, .mv 5 (.c (.I 0)))])
 (.block 0 (.loop (.seq (.seq (.ops [(none, .mv 7 (.t 5)),
 (none, .mv 8 (.t 0)),
 (none, .len 9 (.t 8)),
 (none, .bin 10 .lss (.t 7) (.t 9))])
 (.cond (.t 10) (.skip)
 (.exit 0)))
 (.seq (.block 1 (.seq (.ops [(none, .mv 6 (.c (.I 0)))])
 (.block 2 (.loop (.seq (.seq (.ops [(none, .mv 13 (.t 6)),
 (none, .bin 14 .lss (.t 13) (.c (.I 3)))])
 (.cond (.t 14) (.skip)
 (.exit 2)))
 (.seq (.block 3 (.seq (.ops [(none, .mv 17 (.t 0)),
 (none, .mv 18 (.t 5)),
 (none, .mv 19 (.t 6)),
 (none, .mv 20 (.t 1)),
 (none, .idxS 21 3 (.t 17) (.t 18)),
 (none, .idxA 22 3 1 (.t 21) (.t 19)),
 (none, .store 1 (.t 22) (.t 20))])
 (.ops [(none, .mv 23 (.t 1)),
 (none, .bin 24 .add (.t 23) (.c (.I 1))),
 (none, .mv 1 (.t 24))])))
 (.ops [(none, .mv 15 (.t 6)),
 (none, .bin 16 .add (.t 15) (.c (.I 1))),
 (none, .mv 6 (.t 16))])))))))
 (.ops [(none, .mv 11 (.t 5)),
 (none, .bin 12 .add (.t 11) (.c (.I 1))),
 (none, .mv 5 (.t 12))]))))))
 (.seq (.ops [(none, .mv 25 (.t 1)),
 (none, .mv 4 (.t 25))])
 (.ret)))⟩
end Go.Ab.C

namespace Go.Ab.K
open Go Go.Ab
theorem laws_markHeap : prepF Go.Proofs.Tryd.prog F.laws_markHeap = some C.laws_markHeap := by kernel_rfl
theorem laws_markIntA3S : prepF Go.Proofs.Tryd.prog F.laws_markIntA3S = some C.laws_markIntA3S := by kernel_rfl
end Go.Ab.K

namespace Go.Ab.C
open Go.Ab
end Go.Ab.C

namespace Go.Ab.K
open Go Go.Ab
end Go.Ab.K

namespace Go.Ab
open Go
section
variable {P : Program}

theorem evg_mono {g : GOp} {fr : Fr} {M : Mem} {K K' : Fr → Mem → Prop} (h : ∀ fr M, K fr M → K' fr M) (he : EvG P g fr M K) : EvG P g fr M K' :=
  evg_congr (fun _ _ => rfl) (fun _ _ hk => h _ _ hk) he

theorem evops_mono : ∀ {l : List GOp} {fr : Fr} {M : Mem} {K K' : Fr → Mem → Prop}, (∀ fr M, K fr M → K' fr M) → EvOps P l fr M K → EvOps P l fr M K'
  | [], _, _, _, _, h, he => h _ _ he
  | _ :: _, _, _, _, _, h, he => evg_mono (fun _ _ hk => evops_mono h hk) he

theorem evd_mono : ∀ {l : List DOp} {fr : Fr} {M : Mem} {lg : List (Option Nat)} {K K' : Fr → Mem → Prop}, (∀ fr M, K fr M → K' fr M) → EvD P l fr M lg K → EvD P l fr M lg K'
  | [], _, _, _, _, _, h, he => h _ _ he
  | d :: r, fr, M, lg, K, K', h, he => by
    simp only [EvD] at he ⊢
    split
    · rename_i h0
      rw [if_pos h0] at he
      exact evg_mono (fun _ _ hk => evd_mono h hk) he
    · rename_i h0
      rw [if_neg h0] at he
      split
      · rename_i h1
        rw [if_pos h1] at he
        exact evg_mono (fun _ _ hk => evd_mono h hk) he
      · rename_i h1
        rw [if_neg h1] at he
        exact evg_mono (fun _ _ hk => ⟨hk.1, evd_mono h hk.2⟩) he

theorem evc_mono : ∀ {c : ACode} {fr : Fr} {M : Mem} {Q Q' : AExit → Fr → Mem → Prop}, (∀ e fr M, Q e fr M → Q' e fr M) → EvC P c fr M Q → EvC P c fr M Q' := by
  intro c
  induction c with
  | skip => intro fr M Q Q' h he; exact h _ _ _ he
  | ops l => intro fr M Q Q' h he; exact evops_mono (h .normal) he
  | draw l => intro fr M Q Q' h he; exact evd_mono (h .normal) he
  | seq a b iha ihb =>
    intro fr M Q Q' h he
    simp only [EvC] at he ⊢
    refine iha (fun e fr M hh => ?_) he
    cases e with
    | normal => exact ihb h hh
    | exit i => exact h _ _ _ hh
    | ret => exact h _ _ _ hh
  | cond c a b iha ihb =>
    intro fr M Q Q' h he
    simp only [EvC] at he ⊢
    split
    · rename_i t ht
      rw [ht] at he
      exact ⟨fun e => iha h (he.1 e), fun e => ihb h (he.2 e)⟩
    · rename_i hne
      split at he
      · rename_i t ht; exact absurd ht (hne t)
      · exact he
  | block id a ih =>
    intro fr M Q Q' h he
    simp only [EvC] at he ⊢
    refine ih (fun e fr M hh => ?_) he
    cases e with
    | normal => exact h _ _ _ hh
    | exit i =>
      simp only [blockK] at hh ⊢
      split
      · rename_i hi; rw [if_pos hi] at hh; exact h _ _ _ hh
      · rename_i hi; rw [if_neg hi] at hh; exact h _ _ _ hh
    | ret => exact h _ _ _ hh
  | loop a ih =>
    intro fr M Q Q' h he
    simp only [EvC] at he ⊢
    obtain ⟨I, m, h0, hr⟩ := he
    refine ⟨I, m, h0, fun m fr M hI => ih (fun e fr M hh => ?_) (hr m fr M hI)⟩
    cases e with
    | normal => exact hh
    | exit i => exact h _ _ _ hh
    | ret => exact h _ _ _ hh
  | exit id => intro fr M Q Q' h he; exact h _ _ _ he
  | ret => intro fr M Q Q' h he; exact h _ _ _ he
  | bad => intro fr M Q Q' h he; exact he

def joinK (J : Fr → Mem → Prop) : Fr → Mem → Prop := fun fr M => J fr M

end

end Go.Ab

namespace Go.Ab
noncomputable abbrev PG : Program := Go.Proofs.Tryd.prog
end Go.Ab

namespace Go.Ab
open Go

def IntsV (N : Mem) (v : LV) (l : List Int) : Prop := (v = .nil ∧ l = []) ∨ ∃ t o, v = .ref t o l.length ∧ Ints N t o l
def SlI (N : Mem) (v : LV) (l : List Int) : Prop := (v = .nil ∧ l = []) ∨ ∃ t ex, v = .ref t 0 l.length ∧ Live N t (.row (intL (l ++ ex)) true 1)
def Off : LV → Nat → Prop
  | .ref t _ _, u => u ≠ t
  | _, _ => True
def Newer (M : Mem) (v : LV) : Prop := ∀ u, u < M.length → Off v u

theorem Live.hasL {M : Mem} {t e : Nat} {vs ex : List LV} {w : Bool} (h : Live M t (.row (vs ++ ex) w e)) : Has M t 0 vs := ⟨vs ++ ex, h.row, by simp, by simp⟩
theorem SlI.v {N : Mem} {v : LV} {l : List Int} (h : SlI N v l) : IntsV N v l := by
  rcases h with h | ⟨t, ex, h1, h2⟩
  · exact .inl h
  · rw [intL_append] at h2; exact .inr ⟨t, 0, h1, h2.hasL⟩
theorem IntsV.pre {M N : Mem} {v : LV} {l : List Int} (h : IntsV M v l) (hp : Pre M N) : IntsV N v l := by
  rcases h with h | ⟨t, o, h1, h2⟩
  · exact .inl h
  · exact .inr ⟨t, o, h1, h2.pre hp⟩
theorem SlI.pre {M N : Mem} {v : LV} {l : List Int} (h : SlI M v l) (hp : Pre M N) : SlI N v l := by
  rcases h with h | ⟨t, ex, h1, h2⟩
  · exact .inl h
  · exact .inr ⟨t, ex, h1, h2.pre hp⟩
theorem SlI.nil {N : Mem} : SlI N .nil [] := .inl ⟨rfl, rfl⟩
theorem IntsV.nil {N : Mem} : IntsV N .nil [] := .inl ⟨rfl, rfl⟩
theorem SlI.of {N : Mem} {t : Nat} {l : List Int} (h : Live N t (.row (intL l) true 1)) : SlI N (.ref t 0 l.length) l := .inr ⟨t, [], rfl, by simpa using h⟩
theorem Newer.nil {M : Mem} : Newer M .nil := fun _ _ => trivial
theorem Newer.of {M : Mem} {t o n : Nat} (h : M.length ≤ t) : Newer M (.ref t o n) := fun u hu => by show u ≠ t; omega

def marks (k : Int) (n : Nat) : List Int := (List.range n).map fun (i : Nat) => k + (i : Int)
def Marked (M : Mem) (v : LV) (k : Int) (n : Nat) (r : LV) (N : Mem) : Prop := r = .I (k + n) ∧ SlI N v (marks k n) ∧ N.length = M.length ∧ ∀ u, Off v u → N[u]? = M[u]?

end Go.Ab

namespace Go.Ab.C
open Go.Ab
def laws_eqIntA3 : AFn :=
 ⟨2, 17, [.tmp 4],
 .seq (.ops [(none, .box 2 (.t 0)),
 (none, .box 3 (.t 1)),
 (none, .mv 4 (.c (.B false)))])
 (.seq (.seq (.ops [(none, .mv 5 (.c (.I 0)))])
 (.block 0 (.loop (.seq (.seq (.ops [(none, .mv 6 (.t 5)),
 (none, .bin 7 .lss (.t 6) (.c (.I 3)))])
 (.cond (.t 7) (.skip)
 (.exit 0)))
 (.seq (.block 1 (.seq (.draw [⟨(none, .mv 10 (.t 5)), [], []⟩,
 ⟨(none, .idxA 11 3 1 (.t 2) (.t 10)), [], []⟩,
 ⟨(none, .load1 12 (.t 11)), [], []⟩,
 ⟨(none, .mv 13 (.t 5)), [], []⟩,
 ⟨(none, .idxA 14 3 1 (.t 3) (.t 13)), [], []⟩,
 ⟨(none, .load1 15 (.t 14)), [], []⟩,
 ⟨(none, .bin 16 .neq (.t 12) (.t 15)), [], []⟩])
 (.cond (.t 16) (.seq (.ops [(none, .mv 4 (.c (.B false)))])
 (.ret))
 (.skip))))
 (.ops [(none, .mv 8 (.t 5)),
 (none, .bin 9 .add (.t 8) (.c (.I 1))),
 (none, .mv 5 (.t 9))]))))))
 (.seq (.ops [(none, .mv 4 (.c (.B true)))])
 (.ret)))⟩
def laws_eqIntA3S : AFn :=
 ⟨2, 27, [.tmp 4],
 .seq (.ops [(none, .mv 4 (.c (.B false)))])
 (.seq (.seq (.ops [(none, .mv 6 (.t 0)),
 (none, .len 7 (.t 6)),
 (none, .mv 8 (.t 1)),
 (none, .len 9 (.t 8)),
 (none, .bin 10 .neq (.t 7) (.t 9))])
 (.cond (.t 10) (.seq (.ops [(none, .mv 4 (.c (.B false)))])
 (.ret))
 (.skip)))
 (.seq (.seq (.ops [(none, .mv 5 (.c (.I 0)))])
 (.block 0 (.loop (.seq (.seq (.ops [(none, .mv 11 (.t 5)),
 (none, .mv 12 (.t 0)),
 (none, .len 13 (.t 12)),
 (none, .bin 14 .lss (.t 11) (.t 13))])
 (.cond (.t 14) (.skip)
 (.exit 0)))
 (.seq (.block 1 (.seq (.draw [⟨(none, .mv 17 (.t 0)), [], []⟩,
 ⟨(none, .mv 18 (.t 5)), [], []⟩,
 ⟨(none, .idxS 19 3 (.t 17) (.t 18)), [], []⟩,
 ⟨(none, .loadN 20 3 (.t 19)), [], []⟩,
 ⟨(none, .mv 21 (.t 1)), [], []⟩,
 ⟨(none, .mv 22 (.t 5)), [], []⟩,
 ⟨(none, .idxS 23 3 (.t 21) (.t 22)), [], []⟩,
 ⟨(none, .loadN 24 3 (.t 23)), [], []⟩,
 ⟨(none, .call (some 25) F.laws_eqIntA3 [(.t 20), (.t 24)]), [], []⟩,
 ⟨(none, .un 26 .not (.t 25)), [], []⟩])
 (.cond (.t 26) (.seq (.ops [(none, .mv 4 (.c (.B false)))])
 (.ret))
 (.skip))))
 (.ops [(none, .mv 15 (.t 5)),
 (none, .bin 16 .add (.t 15) (.c (.I 1))),
 (none, .mv 5 (.t 16))]))))))
 (.seq (.ops [(none, .mv 4 (.c (.B true)))])
 (.ret))))⟩
def laws_eqHeap : AFn :=
 ⟨2, 26, [.tmp 4],
 .seq (.ops [(none, .box 2 (.t 0)),
 (none, .box 3 (.t 1)),
 (none, .mv 4 (.c (.B false)))])
 (.seq (.seq (.ops [(none, .fieldAddr 5 (.t 2) 0),
 (none, .load1 6 (.t 5)),
 (none, .fieldAddr 7 (.t 3) 0),
 (none, .load1 8 (.t 7)),
 (none, .bin 9 .neq (.t 6) (.t 8))])
 (.cond (.t 9) (.seq (.ops [(none, .mv 4 (.c (.B false)))])
 (.ret))
 (.skip)))
 (.seq (.seq (.ops [(none, .fieldAddr 10 (.t 2) 1),
 (none, .load1 11 (.t 10)),
 (none, .fieldAddr 12 (.t 3) 1),
 (none, .load1 13 (.t 12)),
 (none, .bin 14 .neq (.t 11) (.t 13))])
 (.cond (.t 14) (.seq (.ops [(none, .mv 4 (.c (.B false)))])
 (.ret))
 (.skip)))
 (.seq (.seq (.ops [(none, .fieldAddr 15 (.t 2) 2),
 (none, .load1 16 (.t 15)),
 (none, .fieldAddr 17 (.t 3) 2),
 (none, .load1 18 (.t 17)),
 (none, .bin 19 .neq (.t 16) (.t 18))])
 (.cond (.t 19) (.seq (.ops [(none, .mv 4 (.c (.B false)))])
 (.ret))
 (.skip)))
 (.seq (.seq (.ops [(none, .fieldAddr 20 (.t 2) 3),
 (none, .load1 21 (.t 20)),
 (none, .fieldAddr 22 (.t 3) 3),
 (none, .load1 23 (.t 22)),
 (none, .call (some 24) F.laws_eqIntA3S [(.t 21), (.t 23)]),
 (none, .un 25 .not (.t 24))])
 (.cond (.t 25) (.seq (.ops [(none, .mv 4 (.c (.B false)))])
 (.ret))
 (.skip)))
 (.seq (.ops [(none, .mv 4 (.c (.B true)))])
 (.ret))))))⟩
end Go.Ab.C

namespace Go.Ab.K
open Go Go.Ab
theorem laws_eqIntA3 : prepF Go.Proofs.Tryd.prog F.laws_eqIntA3 = some C.laws_eqIntA3 := by kernel_rfl
theorem laws_eqIntA3S : prepF Go.Proofs.Tryd.prog F.laws_eqIntA3S = some C.laws_eqIntA3S := by kernel_rfl
theorem laws_eqHeap : prepF Go.Proofs.Tryd.prog F.laws_eqHeap = some C.laws_eqHeap := by kernel_rfl
end Go.Ab.K

namespace Go.Ab
open Go

theorem h_eqIntA3 {a b c a' b' c' : Int} {M : Mem} : CallsTo PG F.laws_eqIntA3 [.agg [.I a, .I b, .I c], .agg [.I a', .I b', .I c']] M (.B (decide ((⟨a, b, c⟩ : Cell) = ⟨a', b', c'⟩))) M := by
  refine calls_run K.laws_eqIntA3 rfl ?_
  simp (disch := omega) only [C.laws_eqIntA3, ↓SXd, SXu, slBounds, ↓sop, ↓aop, ↓reduceIte, LV.cells, AOp.dst, LV.I, LV.B, LV.U, LV.S, LV.nil, Nat.reduceEqDiff, Nat.reduceAdd, Nat.reduceMul, Nat.reduceSub, Nat.reduceLeDiff, Nat.reduceBEq, Nat.reduceDiv, Nat.reduceMod, Int.reduceToNat, Int.reduceLT, Int.reduceLE, Int.reduceAdd, Int.reduceSub, Int.reduceMul, Int.reduceEq, Int.reduceNeg, reduceCtorEq, resV, resAll, ARes.ev, LV.flat, ite_true, ite_false, exists_eq_left', exists_eq_left, keyOf, implies_true, fillC, capOf]
  refine ev_loop (fun m fr M' => ∃ k : Nat, k + m = 3 ∧ M' = M ++ [some (Blk.row [.I a, .I b, .I c] true 0), some (Blk.row [.I a', .I b', .I c'] true 0)] ∧ fr 2 = .ptr M.length 0 ∧ fr 3 = .ptr (M.length + 1) 0 ∧ fr 5 = .I k ∧
    (0 < k → a = a') ∧ (1 < k → b = b') ∧ (2 < k → c = c')) 3 ⟨0, rfl, rfl, rfl, rfl, rfl, by omega, by omega, by omega⟩ ?_
  rintro m fr M' ⟨k, hk, rfl, h2, h3, h5, ha, hb, hc⟩
  simp (disch := omega) only [h2, h3, h5, ↓SXd, SXu, slBounds, ↓sop, ↓aop, ↓reduceIte, LV.cells, AOp.dst, LV.I, LV.B, LV.U, LV.S, LV.nil, Nat.reduceEqDiff, Nat.reduceAdd, Nat.reduceMul, Nat.reduceSub, Nat.reduceLeDiff, Nat.reduceBEq, Nat.reduceDiv, Nat.reduceMod, Int.reduceToNat, Int.reduceLT, Int.reduceLE, Int.reduceAdd, Int.reduceSub, Int.reduceMul, Int.reduceEq, Int.reduceNeg, reduceCtorEq, resV, resAll, ARes.ev, LV.flat, ite_true, ite_false, exists_eq_left', exists_eq_left, keyOf, implies_true, fillC, capOf]
  refine condC_dec (fun hlt => ?_) (fun hlt => ?_)
  · have hk3 : k = 0 ∨ k = 1 ∨ k = 2 := by omega
    rcases hk3 with rfl | rfl | rfl
    all_goals
      simp (disch := omega) only [h2, h3, h5, ↓SXd, SXu, slBounds, ↓sop, ↓aop, ↓reduceIte, LV.cells, AOp.dst, LV.I, LV.B, LV.U, LV.S, LV.nil, Nat.reduceEqDiff, Nat.reduceAdd, Nat.reduceMul, Nat.reduceSub, Nat.reduceLeDiff, Nat.reduceBEq, Nat.reduceDiv, Nat.reduceMod, Int.reduceToNat, Int.reduceLT, Int.reduceLE, Int.reduceAdd, Int.reduceSub, Int.reduceMul, Int.reduceEq, Int.reduceNeg, reduceCtorEq, resV, resAll, ARes.ev, LV.flat, ite_true, ite_false, exists_eq_left', exists_eq_left, keyOf, implies_true, fillC, capOf]
      refine condC_dec (fun he => ?_) (fun he => ?_)
      · simp (disch := omega) only [h2, h3, h5, ↓SXd, SXu, slBounds, ↓sop, ↓aop, ↓reduceIte, LV.cells, AOp.dst, LV.I, LV.B, LV.U, LV.S, LV.nil, Nat.reduceEqDiff, Nat.reduceAdd, Nat.reduceMul, Nat.reduceSub, Nat.reduceLeDiff, Nat.reduceBEq, Nat.reduceDiv, Nat.reduceMod, Int.reduceToNat, Int.reduceLT, Int.reduceLE, Int.reduceAdd, Int.reduceSub, Int.reduceMul, Int.reduceEq, Int.reduceNeg, reduceCtorEq, resV, resAll, ARes.ev, LV.flat, ite_true, ite_false, exists_eq_left', exists_eq_left, keyOf, implies_true, fillC, capOf]
        exact ⟨m - 1, by omega, _, by omega, rfl, h2, h3, eqI (natI _), by omega, by omega, by omega⟩
      · simp (disch := omega) only [h2, h3, h5, ↓SXd, SXu, slBounds, ↓sop, ↓aop, ↓reduceIte, LV.cells, AOp.dst, LV.I, LV.B, LV.U, LV.S, LV.nil, Nat.reduceEqDiff, Nat.reduceAdd, Nat.reduceMul, Nat.reduceSub, Nat.reduceLeDiff, Nat.reduceBEq, Nat.reduceDiv, Nat.reduceMod, Int.reduceToNat, Int.reduceLT, Int.reduceLE, Int.reduceAdd, Int.reduceSub, Int.reduceMul, Int.reduceEq, Int.reduceNeg, reduceCtorEq, resV, resAll, ARes.ev, LV.flat, ite_true, ite_false, exists_eq_left', exists_eq_left, keyOf, implies_true, fillC, capOf]
        rw [decide_eq_false (fun e => he (by injection e))]
        exact cmp_drop rfl
  · simp (disch := omega) only [h2, h3, h5, ↓SXd, SXu, slBounds, ↓sop, ↓aop, ↓reduceIte, LV.cells, AOp.dst, LV.I, LV.B, LV.U, LV.S, LV.nil, Nat.reduceEqDiff, Nat.reduceAdd, Nat.reduceMul, Nat.reduceSub, Nat.reduceLeDiff, Nat.reduceBEq, Nat.reduceDiv, Nat.reduceMod, Int.reduceToNat, Int.reduceLT, Int.reduceLE, Int.reduceAdd, Int.reduceSub, Int.reduceMul, Int.reduceEq, Int.reduceNeg, reduceCtorEq, resV, resAll, ARes.ev, LV.flat, ite_true, ite_false, exists_eq_left', exists_eq_left, keyOf, implies_true, fillC, capOf]
    rw [decide_eq_true (cell_eq.2 ⟨ha (by omega), hb (by omega), hc (by omega)⟩)]
    exact cmp_drop rfl

theorem h_eqIntA3S {t o t' o' : Nat} {cs ds : List Cell} {M : Mem} (h : Tri M t o cs) (h' : Tri M t' o' ds) (hn : cs.length ≤ 1000000000) (hn' : ds.length ≤ 1000000000) :
    CallsTo PG F.laws_eqIntA3S [.ref t o cs.length, .ref t' o' ds.length] M (.B (decide (cs = ds))) M := by
  refine calls_run K.laws_eqIntA3S rfl ?_
  simp (disch := omega) only [C.laws_eqIntA3S, ↓SXd, SXu, slBounds, ↓sop, ↓aop, ↓reduceIte, LV.cells, AOp.dst, LV.I, LV.B, LV.U, LV.S, LV.nil, Nat.reduceEqDiff, Nat.reduceAdd, Nat.reduceMul, Nat.reduceSub, Nat.reduceLeDiff, Nat.reduceBEq, Nat.reduceDiv, Nat.reduceMod, Int.reduceToNat, Int.reduceLT, Int.reduceLE, Int.reduceAdd, Int.reduceSub, Int.reduceMul, Int.reduceEq, Int.reduceNeg, reduceCtorEq, resV, resAll, ARes.ev, LV.flat, ite_true, ite_false, exists_eq_left', exists_eq_left, keyOf, implies_true, fillC, capOf]
  refine condC_dec (fun hl => ?_) (fun hl => ?_)
  · simp (disch := omega) only [↓SXd, SXu, slBounds, ↓sop, ↓aop, ↓reduceIte, LV.cells, AOp.dst, LV.I, LV.B, LV.U, LV.S, LV.nil, Nat.reduceEqDiff, Nat.reduceAdd, Nat.reduceMul, Nat.reduceSub, Nat.reduceLeDiff, Nat.reduceBEq, Nat.reduceDiv, Nat.reduceMod, Int.reduceToNat, Int.reduceLT, Int.reduceLE, Int.reduceAdd, Int.reduceSub, Int.reduceMul, Int.reduceEq, Int.reduceNeg, reduceCtorEq, resV, resAll, ARes.ev, LV.flat, ite_true, ite_false, exists_eq_left', exists_eq_left, keyOf, implies_true, fillC, capOf]
    refine ev_loop (fun m fr M' => ∃ k : Nat, k + m = cs.length ∧ M' = M ∧ fr 0 = .ref t o cs.length ∧ fr 1 = .ref t' o' ds.length ∧ fr 5 = .I k ∧ cs.take k = ds.take k) cs.length ⟨0, by omega, rfl, rfl, rfl, rfl, by simp⟩ ?_
    rintro m fr M' ⟨k, hk, rfl, h0, h1, h5, heq⟩
    simp (disch := omega) only [h0, h1, h5, ↓SXd, SXu, slBounds, ↓sop, ↓aop, ↓reduceIte, LV.cells, AOp.dst, LV.I, LV.B, LV.U, LV.S, LV.nil, Nat.reduceEqDiff, Nat.reduceAdd, Nat.reduceMul, Nat.reduceSub, Nat.reduceLeDiff, Nat.reduceBEq, Nat.reduceDiv, Nat.reduceMod, Int.reduceToNat, Int.reduceLT, Int.reduceLE, Int.reduceAdd, Int.reduceSub, Int.reduceMul, Int.reduceEq, Int.reduceNeg, reduceCtorEq, resV, resAll, ARes.ev, LV.flat, ite_true, ite_false, exists_eq_left', exists_eq_left, keyOf, implies_true, fillC, capOf]
    refine condC_dec (fun hlt => ?_) (fun hlt => ?_)
    · simp (disch := omega) only [h0, h1, h5, h.get, h'.get, ↓SXd, SXu, slBounds, ↓sop, ↓aop, ↓reduceIte, LV.cells, AOp.dst, LV.I, LV.B, LV.U, LV.S, LV.nil, Nat.reduceEqDiff, Nat.reduceAdd, Nat.reduceMul, Nat.reduceSub, Nat.reduceLeDiff, Nat.reduceBEq, Nat.reduceDiv, Nat.reduceMod, Int.reduceToNat, Int.reduceLT, Int.reduceLE, Int.reduceAdd, Int.reduceSub, Int.reduceMul, Int.reduceEq, Int.reduceNeg, reduceCtorEq, resV, resAll, ARes.ev, LV.flat, ite_true, ite_false, exists_eq_left', exists_eq_left, keyOf, implies_true, fillC, capOf]
      refine callK_of h_eqIntA3 ?_
      simp (disch := omega) only [h0, h1, h5, ↓SXd, SXu, slBounds, ↓sop, ↓aop, ↓reduceIte, LV.cells, AOp.dst, LV.I, LV.B, LV.U, LV.S, LV.nil, Nat.reduceEqDiff, Nat.reduceAdd, Nat.reduceMul, Nat.reduceSub, Nat.reduceLeDiff, Nat.reduceBEq, Nat.reduceDiv, Nat.reduceMod, Int.reduceToNat, Int.reduceLT, Int.reduceLE, Int.reduceAdd, Int.reduceSub, Int.reduceMul, Int.reduceEq, Int.reduceNeg, reduceCtorEq, resV, resAll, ARes.ev, LV.flat, ite_true, ite_false, exists_eq_left', exists_eq_left, keyOf, implies_true, fillC, capOf]
      refine condC_dec (fun he => ?_) (fun he => ?_)
      · simp (disch := omega) only [h0, h1, h5, ↓SXd, SXu, slBounds, ↓sop, ↓aop, ↓reduceIte, LV.cells, AOp.dst, LV.I, LV.B, LV.U, LV.S, LV.nil, Nat.reduceEqDiff, Nat.reduceAdd, Nat.reduceMul, Nat.reduceSub, Nat.reduceLeDiff, Nat.reduceBEq, Nat.reduceDiv, Nat.reduceMod, Int.reduceToNat, Int.reduceLT, Int.reduceLE, Int.reduceAdd, Int.reduceSub, Int.reduceMul, Int.reduceEq, Int.reduceNeg, reduceCtorEq, resV, resAll, ARes.ev, LV.flat, ite_true, ite_false, exists_eq_left', exists_eq_left, keyOf, implies_true, fillC, capOf]
        refine ⟨m - 1, by omega, _, by omega, rfl, h0, h1, eqI (natI _), ?_⟩
        have e1 : k < cs.length := by omega
        have e2 : k < ds.length := by omega
        rw [List.take_add_one, List.take_add_one, heq]
        simp only [List.getD_eq_getElem?_getD, e1, e2, getElem?_pos, Option.getD_some] at he
        simp only [e1, e2, getElem?_pos, Option.toList]
        rw [show cs[k] = ds[k] from he]
      · simp (disch := omega) only [h0, h1, h5, ↓SXd, SXu, slBounds, ↓sop, ↓aop, ↓reduceIte, LV.cells, AOp.dst, LV.I, LV.B, LV.U, LV.S, LV.nil, Nat.reduceEqDiff, Nat.reduceAdd, Nat.reduceMul, Nat.reduceSub, Nat.reduceLeDiff, Nat.reduceBEq, Nat.reduceDiv, Nat.reduceMod, Int.reduceToNat, Int.reduceLT, Int.reduceLE, Int.reduceAdd, Int.reduceSub, Int.reduceMul, Int.reduceEq, Int.reduceNeg, reduceCtorEq, resV, resAll, ARes.ev, LV.flat, ite_true, ite_false, exists_eq_left', exists_eq_left, keyOf, implies_true, fillC, capOf]
        rw [decide_eq_false (fun e => he (by rw [e]))]
        exact cmp_drop0 rfl
    · simp (disch := omega) only [↓SXd, SXu, slBounds, ↓sop, ↓aop, ↓reduceIte, LV.cells, AOp.dst, LV.I, LV.B, LV.U, LV.S, LV.nil, Nat.reduceEqDiff, Nat.reduceAdd, Nat.reduceMul, Nat.reduceSub, Nat.reduceLeDiff, Nat.reduceBEq, Nat.reduceDiv, Nat.reduceMod, Int.reduceToNat, Int.reduceLT, Int.reduceLE, Int.reduceAdd, Int.reduceSub, Int.reduceMul, Int.reduceEq, Int.reduceNeg, reduceCtorEq, resV, resAll, ARes.ev, LV.flat, ite_true, ite_false, exists_eq_left', exists_eq_left, keyOf, implies_true, fillC, capOf]
      have : cs = ds := by
        rw [List.take_of_length_le (by omega), List.take_of_length_le (by omega)] at heq
        exact heq
      rw [decide_eq_true this]
      exact cmp_drop0 rfl
  · simp (disch := omega) only [↓SXd, SXu, slBounds, ↓sop, ↓aop, ↓reduceIte, LV.cells, AOp.dst, LV.I, LV.B, LV.U, LV.S, LV.nil, Nat.reduceEqDiff, Nat.reduceAdd, Nat.reduceMul, Nat.reduceSub, Nat.reduceLeDiff, Nat.reduceBEq, Nat.reduceDiv, Nat.reduceMod, Int.reduceToNat, Int.reduceLT, Int.reduceLE, Int.reduceAdd, Int.reduceSub, Int.reduceMul, Int.reduceEq, Int.reduceNeg, reduceCtorEq, resV, resAll, ARes.ev, LV.flat, ite_true, ite_false, exists_eq_left', exists_eq_left, keyOf, implies_true, fillC, capOf]
    rw [decide_eq_false (fun e => hl (by rw [e]))]
    exact cmp_drop0 rfl

end Go.Ab

namespace Go.Ab
open Go

def CellsV (N : Mem) (v : LV) (l : List Cell) : Prop := (v = .nil ∧ l = []) ∨ ∃ t o, v = .ref t o l.length ∧ Tri N t o l
def SlC (N : Mem) (v : LV) (l : List Cell) : Prop := (v = .nil ∧ l = []) ∨ ∃ t ex, v = .ref t 0 l.length ∧ Live N t (.row (triL (l ++ ex)) true 3)
theorem SlC.v {N : Mem} {v : LV} {l : List Cell} (h : SlC N v l) : CellsV N v l := by
  rcases h with h | ⟨t, ex, h1, h2⟩
  · exact .inl h
  · rw [triL_append] at h2; exact .inr ⟨t, 0, h1, h2.hasL⟩
theorem CellsV.pre {M N : Mem} {v : LV} {l : List Cell} (h : CellsV M v l) (hp : Pre M N) : CellsV N v l := by
  rcases h with h | ⟨t, o, h1, h2⟩
  · exact .inl h
  · exact .inr ⟨t, o, h1, h2.pre hp⟩
theorem SlC.pre {M N : Mem} {v : LV} {l : List Cell} (h : SlC M v l) (hp : Pre M N) : SlC N v l := by
  rcases h with h | ⟨t, ex, h1, h2⟩
  · exact .inl h
  · exact .inr ⟨t, ex, h1, h2.pre hp⟩
theorem SlC.nil {N : Mem} : SlC N .nil [] := .inl ⟨rfl, rfl⟩
theorem CellsV.nil {N : Mem} : CellsV N .nil [] := .inl ⟨rfl, rfl⟩
theorem SlC.of {N : Mem} {t : Nat} {l : List Cell} (h : Live N t (.row (triL l) true 3)) : SlC N (.ref t 0 l.length) l := .inr ⟨t, [], rfl, by simpa using h⟩
theorem CellsV.of {N : Mem} {t o : Nat} {l : List Cell} (h : Tri N t o l) : CellsV N (.ref t o l.length) l := .inr ⟨t, o, rfl, h⟩

def marks3 (k : Int) (n : Nat) : List Cell := (List.range n).map fun (i : Nat) => ⟨k + 3 * (i : Int), k + 3 * (i : Int) + 1, k + 3 * (i : Int) + 2⟩
theorem marks3_len (k : Int) (n : Nat) : (marks3 k n).length = n := by simp [marks3]
theorem marks3_get {k : Int} {n i : Nat} (h : i < n) : (marks3 k n).getD i default = ⟨k + 3 * i, k + 3 * i + 1, k + 3 * i + 2⟩ := by simp [marks3, h]

theorem h_eqIntA3S_n {l' : List Cell} {v' : LV} {M : Mem} (h' : CellsV M v' l') (hn' : l'.length ≤ 1000000000) : CallsTo PG F.laws_eqIntA3S [.nil, v'] M (.B (decide ([] = l'))) M := by
  refine calls_run K.laws_eqIntA3S rfl ?_
  have hlen : lenV v' = some (l'.length : Int) := by
    rcases h' with ⟨rfl, rfl⟩ | ⟨t, o, rfl, _⟩ <;> rfl
  simp (disch := omega) only [C.laws_eqIntA3S, hlen, ↓SXd, SXu, slBounds, ↓sop, ↓aop, ↓reduceIte, LV.cells, AOp.dst, LV.I, LV.B, LV.U, LV.S, LV.nil, Nat.reduceEqDiff, Nat.reduceAdd, Nat.reduceMul, Nat.reduceSub, Nat.reduceLeDiff, Nat.reduceBEq, Nat.reduceDiv, Nat.reduceMod, Int.reduceToNat, Int.reduceLT, Int.reduceLE, Int.reduceAdd, Int.reduceSub, Int.reduceMul, Int.reduceEq, Int.reduceNeg, reduceCtorEq, resV, resAll, ARes.ev, LV.flat, ite_true, ite_false, exists_eq_left', exists_eq_left, keyOf, implies_true, fillC, capOf]
  refine condC_dec (fun hl => ?_) (fun hl => ?_)
  rotate_left
  · rw [show decide ([] = l') = false from decide_eq_false (fun e => by subst e; exact (hl rfl).elim)]
    simp (disch := omega) only [↓SXd, SXu, slBounds, ↓sop, ↓aop, ↓reduceIte, LV.cells, AOp.dst, LV.I, LV.B, LV.U, LV.S, LV.nil, Nat.reduceEqDiff, Nat.reduceAdd, Nat.reduceMul, Nat.reduceSub, Nat.reduceLeDiff, Nat.reduceBEq, Nat.reduceDiv, Nat.reduceMod, Int.reduceToNat, Int.reduceLT, Int.reduceLE, Int.reduceAdd, Int.reduceSub, Int.reduceMul, Int.reduceEq, Int.reduceNeg, reduceCtorEq, resV, resAll, ARes.ev, LV.flat, ite_true, ite_false, exists_eq_left', exists_eq_left, keyOf, implies_true, fillC, capOf]
    exact cmp_drop0 rfl
  · simp (disch := omega) only [↓SXd, SXu, slBounds, ↓sop, ↓aop, ↓reduceIte, LV.cells, AOp.dst, LV.I, LV.B, LV.U, LV.S, LV.nil, Nat.reduceEqDiff, Nat.reduceAdd, Nat.reduceMul, Nat.reduceSub, Nat.reduceLeDiff, Nat.reduceBEq, Nat.reduceDiv, Nat.reduceMod, Int.reduceToNat, Int.reduceLT, Int.reduceLE, Int.reduceAdd, Int.reduceSub, Int.reduceMul, Int.reduceEq, Int.reduceNeg, reduceCtorEq, resV, resAll, ARes.ev, LV.flat, ite_true, ite_false, exists_eq_left', exists_eq_left, keyOf, implies_true, fillC, capOf]
    refine ev_loop (fun m fr M' => M' = M ∧ fr 0 = .nil ∧ fr 5 = .I 0) 0 ⟨rfl, rfl, rfl⟩ ?_
    rintro m fr M' ⟨rfl, h0, h5⟩
    simp (disch := omega) only [h0, h5, ↓SXd, SXu, slBounds, ↓sop, ↓aop, ↓reduceIte, LV.cells, AOp.dst, LV.I, LV.B, LV.U, LV.S, LV.nil, Nat.reduceEqDiff, Nat.reduceAdd, Nat.reduceMul, Nat.reduceSub, Nat.reduceLeDiff, Nat.reduceBEq, Nat.reduceDiv, Nat.reduceMod, Int.reduceToNat, Int.reduceLT, Int.reduceLE, Int.reduceAdd, Int.reduceSub, Int.reduceMul, Int.reduceEq, Int.reduceNeg, reduceCtorEq, resV, resAll, ARes.ev, LV.flat, ite_true, ite_false, exists_eq_left', exists_eq_left, keyOf, implies_true, fillC, capOf]
    rw [decide_eq_true (List.eq_nil_of_length_eq_zero (by simpa using hl.symm)).symm]
    exact cmp_drop0 rfl

theorem h_eqIntA3S_rn {l : List Cell} {t o : Nat} {M : Mem} (h : Tri M t o l) (hn : l.length ≤ 1000000000) : CallsTo PG F.laws_eqIntA3S [.ref t o l.length, .nil] M (.B (decide (l = []))) M := by
  refine calls_run K.laws_eqIntA3S rfl ?_
  simp (disch := omega) only [C.laws_eqIntA3S, ↓SXd, SXu, slBounds, ↓sop, ↓aop, ↓reduceIte, LV.cells, AOp.dst, LV.I, LV.B, LV.U, LV.S, LV.nil, Nat.reduceEqDiff, Nat.reduceAdd, Nat.reduceMul, Nat.reduceSub, Nat.reduceLeDiff, Nat.reduceBEq, Nat.reduceDiv, Nat.reduceMod, Int.reduceToNat, Int.reduceLT, Int.reduceLE, Int.reduceAdd, Int.reduceSub, Int.reduceMul, Int.reduceEq, Int.reduceNeg, reduceCtorEq, resV, resAll, ARes.ev, LV.flat, ite_true, ite_false, exists_eq_left', exists_eq_left, keyOf, implies_true, fillC, capOf]
  refine condC_dec (fun hl => ?_) (fun hl => ?_)
  rotate_left
  · rw [show decide (l = []) = false from decide_eq_false (fun e => by subst e; exact (hl rfl).elim)]
    simp (disch := omega) only [↓SXd, SXu, slBounds, ↓sop, ↓aop, ↓reduceIte, LV.cells, AOp.dst, LV.I, LV.B, LV.U, LV.S, LV.nil, Nat.reduceEqDiff, Nat.reduceAdd, Nat.reduceMul, Nat.reduceSub, Nat.reduceLeDiff, Nat.reduceBEq, Nat.reduceDiv, Nat.reduceMod, Int.reduceToNat, Int.reduceLT, Int.reduceLE, Int.reduceAdd, Int.reduceSub, Int.reduceMul, Int.reduceEq, Int.reduceNeg, reduceCtorEq, resV, resAll, ARes.ev, LV.flat, ite_true, ite_false, exists_eq_left', exists_eq_left, keyOf, implies_true, fillC, capOf]
    exact cmp_drop0 rfl
  · simp (disch := omega) only [↓SXd, SXu, slBounds, ↓sop, ↓aop, ↓reduceIte, LV.cells, AOp.dst, LV.I, LV.B, LV.U, LV.S, LV.nil, Nat.reduceEqDiff, Nat.reduceAdd, Nat.reduceMul, Nat.reduceSub, Nat.reduceLeDiff, Nat.reduceBEq, Nat.reduceDiv, Nat.reduceMod, Int.reduceToNat, Int.reduceLT, Int.reduceLE, Int.reduceAdd, Int.reduceSub, Int.reduceMul, Int.reduceEq, Int.reduceNeg, reduceCtorEq, resV, resAll, ARes.ev, LV.flat, ite_true, ite_false, exists_eq_left', exists_eq_left, keyOf, implies_true, fillC, capOf]
    have hz : l.length = 0 := by omega
    refine ev_loop (fun m fr M' => M' = M ∧ fr 0 = .ref t o l.length ∧ fr 5 = .I 0) 0 ⟨rfl, rfl, rfl⟩ ?_
    rintro m fr M' ⟨rfl, h0, h5⟩
    simp (disch := omega) only [h0, h5, hz, ↓SXd, SXu, slBounds, ↓sop, ↓aop, ↓reduceIte, LV.cells, AOp.dst, LV.I, LV.B, LV.U, LV.S, LV.nil, Nat.reduceEqDiff, Nat.reduceAdd, Nat.reduceMul, Nat.reduceSub, Nat.reduceLeDiff, Nat.reduceBEq, Nat.reduceDiv, Nat.reduceMod, Int.reduceToNat, Int.reduceLT, Int.reduceLE, Int.reduceAdd, Int.reduceSub, Int.reduceMul, Int.reduceEq, Int.reduceNeg, reduceCtorEq, resV, resAll, ARes.ev, LV.flat, ite_true, ite_false, exists_eq_left', exists_eq_left, keyOf, implies_true, fillC, capOf]
    rw [decide_eq_true (List.eq_nil_of_length_eq_zero hz)]
    exact cmp_drop0 rfl

theorem h_eqCells {l l' : List Cell} {v v' : LV} {M : Mem} (h : CellsV M v l) (h' : CellsV M v' l') (hn : l.length ≤ 1000000000) (hn' : l'.length ≤ 1000000000) :
    CallsTo PG F.laws_eqIntA3S [v, v'] M (.B (decide (l = l'))) M := by
  rcases h with ⟨rfl, rfl⟩ | ⟨t, o, rfl, h⟩
  · exact h_eqIntA3S_n h' hn'
  · rcases h' with ⟨rfl, rfl⟩ | ⟨t', o', rfl, h'⟩
    · exact h_eqIntA3S_rn h hn
    · exact h_eqIntA3S h h' hn hn'

theorem h_eqHeapV {x y z x' y' z' : Int} {v v' : LV} {cs ds : List Cell} {M : Mem} (h : CellsV M v cs) (h' : CellsV M v' ds) (hn : cs.length ≤ 1000000000) (hn' : ds.length ≤ 1000000000) :
    CallsTo PG F.laws_eqHeap [.agg [.I x, .I y, .I z, v], .agg [.I x', .I y', .I z', v']] M (.B (decide (x = x' ∧ y = y' ∧ z = z' ∧ cs = ds))) M := by
  have hv : ∀ {v : LV} {l : List Cell}, CellsV M v l → v.one = true ∧ v.cells = some [v] ∧ v.lo1 M.length = true := fun {v l} h => by
    rcases h with ⟨rfl, rfl⟩ | ⟨t, o, rfl, h⟩
    · exact ⟨rfl, rfl, rfl⟩
    · exact ⟨rfl, rfl, decide_eq_true h.lt⟩
  refine calls_run K.laws_eqHeap rfl ?_
  simp (disch := omega) only [C.laws_eqHeap, ↓SXd, SXu, slBounds, ↓sop, ↓aop, ↓reduceIte, LV.cells, AOp.dst, LV.I, LV.B, LV.U, LV.S, LV.nil, Nat.reduceEqDiff, Nat.reduceAdd, Nat.reduceMul, Nat.reduceSub, Nat.reduceLeDiff, Nat.reduceBEq, Nat.reduceDiv, Nat.reduceMod, Int.reduceToNat, Int.reduceLT, Int.reduceLE, Int.reduceAdd, Int.reduceSub, Int.reduceMul, Int.reduceEq, Int.reduceNeg, reduceCtorEq, resV, resAll, ARes.ev, LV.flat, ite_true, ite_false, exists_eq_left', exists_eq_left, keyOf, implies_true, fillC, capOf]
  refine condC_dec (fun h1 => ?_) (fun h1 => ?_) <;> simp (disch := omega) only [↓SXd, SXu, slBounds, ↓sop, ↓aop, ↓reduceIte, LV.cells, AOp.dst, LV.I, LV.B, LV.U, LV.S, LV.nil, Nat.reduceEqDiff, Nat.reduceAdd, Nat.reduceMul, Nat.reduceSub, Nat.reduceLeDiff, Nat.reduceBEq, Nat.reduceDiv, Nat.reduceMod, Int.reduceToNat, Int.reduceLT, Int.reduceLE, Int.reduceAdd, Int.reduceSub, Int.reduceMul, Int.reduceEq, Int.reduceNeg, reduceCtorEq, resV, resAll, ARes.ev, LV.flat, ite_true, ite_false, exists_eq_left', exists_eq_left, keyOf, implies_true, fillC, capOf]
  · refine condC_dec (fun h2 => ?_) (fun h2 => ?_) <;> simp (disch := omega) only [↓SXd, SXu, slBounds, ↓sop, ↓aop, ↓reduceIte, LV.cells, AOp.dst, LV.I, LV.B, LV.U, LV.S, LV.nil, Nat.reduceEqDiff, Nat.reduceAdd, Nat.reduceMul, Nat.reduceSub, Nat.reduceLeDiff, Nat.reduceBEq, Nat.reduceDiv, Nat.reduceMod, Int.reduceToNat, Int.reduceLT, Int.reduceLE, Int.reduceAdd, Int.reduceSub, Int.reduceMul, Int.reduceEq, Int.reduceNeg, reduceCtorEq, resV, resAll, ARes.ev, LV.flat, ite_true, ite_false, exists_eq_left', exists_eq_left, keyOf, implies_true, fillC, capOf]
    · refine condC_dec (fun h3 => ?_) (fun h3 => ?_) <;> simp (disch := omega) only [↓SXd, SXu, slBounds, ↓sop, ↓aop, ↓reduceIte, LV.cells, AOp.dst, LV.I, LV.B, LV.U, LV.S, LV.nil, Nat.reduceEqDiff, Nat.reduceAdd, Nat.reduceMul, Nat.reduceSub, Nat.reduceLeDiff, Nat.reduceBEq, Nat.reduceDiv, Nat.reduceMod, Int.reduceToNat, Int.reduceLT, Int.reduceLE, Int.reduceAdd, Int.reduceSub, Int.reduceMul, Int.reduceEq, Int.reduceNeg, reduceCtorEq, resV, resAll, ARes.ev, LV.flat, ite_true, ite_false, exists_eq_left', exists_eq_left, keyOf, implies_true, fillC, capOf]
      · refine callK_of (h_eqCells (h.pre (Pre.app _ _)) (h'.pre (Pre.app _ _)) hn hn') ?_
        simp (disch := omega) only [↓SXd, SXu, slBounds, ↓sop, ↓aop, ↓reduceIte, LV.cells, AOp.dst, LV.I, LV.B, LV.U, LV.S, LV.nil, Nat.reduceEqDiff, Nat.reduceAdd, Nat.reduceMul, Nat.reduceSub, Nat.reduceLeDiff, Nat.reduceBEq, Nat.reduceDiv, Nat.reduceMod, Int.reduceToNat, Int.reduceLT, Int.reduceLE, Int.reduceAdd, Int.reduceSub, Int.reduceMul, Int.reduceEq, Int.reduceNeg, reduceCtorEq, resV, resAll, ARes.ev, LV.flat, ite_true, ite_false, exists_eq_left', exists_eq_left, keyOf, implies_true, fillC, capOf]
        refine condC_dec (fun h4 => ?_) (fun h4 => ?_) <;> simp (disch := omega) only [↓SXd, SXu, slBounds, ↓sop, ↓aop, ↓reduceIte, LV.cells, AOp.dst, LV.I, LV.B, LV.U, LV.S, LV.nil, Nat.reduceEqDiff, Nat.reduceAdd, Nat.reduceMul, Nat.reduceSub, Nat.reduceLeDiff, Nat.reduceBEq, Nat.reduceDiv, Nat.reduceMod, Int.reduceToNat, Int.reduceLT, Int.reduceLE, Int.reduceAdd, Int.reduceSub, Int.reduceMul, Int.reduceEq, Int.reduceNeg, reduceCtorEq, resV, resAll, ARes.ev, LV.flat, ite_true, ite_false, exists_eq_left', exists_eq_left, keyOf, implies_true, fillC, capOf]
        · rw [decide_eq_true ⟨h1, h2, h3, h4⟩]; exact cmp_drop rfl
        · rw [decide_eq_false (fun e => h4 e.2.2.2)]; exact cmp_drop rfl
      · rw [decide_eq_false (fun e => h3 e.2.2.1)]; exact cmp_drop rfl
    · rw [decide_eq_false (fun e => h2 e.2.1)]; exact cmp_drop rfl
  · rw [decide_eq_false (fun e => h1 e.1)]; exact cmp_drop rfl

theorem marks3_step {k : Int} {l : List Cell} {i : Nat} (h : i < l.length) : (marks3 k i ++ l.drop i).set i ⟨k + 3 * i, k + 3 * i + 1, k + 3 * i + 2⟩ = marks3 k (i + 1) ++ l.drop (i + 1) := by
  rw [List.set_append_right _ _ (by rw [marks3_len]; omega), marks3_len, Nat.sub_self, List.drop_eq_getElem_cons h, List.set_cons_zero]
  simp [marks3, List.range_succ, List.append_assoc]

def Marked3 (M : Mem) (v : LV) (k : Int) (n : Nat) (r : LV) (N : Mem) : Prop := r = .I (k + 3 * n) ∧ SlC N v (marks3 k n) ∧ N.length = M.length ∧ ∀ u, Off v u → N[u]? = M[u]?

def cellSet (c : Cell) (j : Nat) (v : Int) : Cell := match j with | 0 => ⟨v, c.b, c.c⟩ | 1 => ⟨c.a, v, c.c⟩ | _ => ⟨c.a, c.b, v⟩
theorem triL_set1 (cs : List Cell) : ∀ (k j : Nat) (v : Int), k < cs.length → j < 3 → splice (triL cs) (k * 3 + j) [LV.val (.int .i64 v)] = triL (cs.set k (cellSet (cs.getD k default) j v)) := by
  induction cs with
  | nil => intro k j v h; simp at h
  | cons c cs ih =>
    intro k j v h hj
    rw [splice_1 (by rw [triL_len]; simp only [List.length_cons] at h ⊢; omega)]
    cases k with
    | zero =>
      match j, hj with
      | 0, _ => rfl
      | 1, _ => rfl
      | 2, _ => rfl
    | succ k =>
      have h2 := ih k j v (by simpa using h) hj
      rw [splice_1 (by rw [triL_len]; simp only [List.length_cons] at h; omega)] at h2
      have e : (k + 1) * 3 + j = (k * 3 + j) + 3 := by omega
      rw [e]
      show c.row ++ (triL cs).set (k * 3 + j) (LV.val (.int .i64 v)) = c.row ++ triL (cs.set k (cellSet (cs.getD k default) j v))
      rw [h2]

theorem memK_cell {M : Mem} {t k j : Nat} {cs : List Cell} {v : Int} {A : Mem → Prop} (ht : Live M t (.row (triL cs) true 3)) (hk : k < cs.length) (hj : j < 3)
    (hA : ∀ M', M'.length = M.length → Live M' t (.row (triL (cs.set k (cellSet (cs.getD k default) j v))) true 3) → (∀ u, u ≠ t → u < M.length → M'[u]? = M[u]?) → A M') :
    memK (setCells M t (k * 3 + j) [.val (.int .i64 v)]) A := by
  rw [ht.setC, if_pos (by rw [triL_len]; simp; omega), triL_set1 _ _ _ _ hk hj]
  exact hA _ (by simp) ht.set_eq fun u hu _ => List.getElem?_set_ne (fun e => hu e.symm)

theorem h_markIntA3S {v : LV} {l : List Cell} {k : Int} {M : Mem} (h : SlC M v l) (hn : l.length ≤ 1000000000) (hk : 0 ≤ k ∧ k ≤ 1000000000) :
    CallsR PG F.laws_markIntA3S [v, .I k] M (Marked3 M v k l.length) := by
  refine callsR_run K.laws_markIntA3S rfl ?_
  rcases h with ⟨rfl, rfl⟩ | ⟨t, ex, rfl, h⟩
  · simp (disch := omega) only [C.laws_markIntA3S, ↓SXd, SXu, slBounds, ↓sop, ↓aop, ↓reduceIte, LV.cells, AOp.dst, LV.I, LV.B, LV.U, LV.S, LV.nil, Nat.reduceEqDiff, Nat.reduceAdd, Nat.reduceMul, Nat.reduceSub, Nat.reduceLeDiff, Nat.reduceBEq, Nat.reduceDiv, Nat.reduceMod, Int.reduceToNat, Int.reduceLT, Int.reduceLE, Int.reduceAdd, Int.reduceSub, Int.reduceMul, Int.reduceEq, Int.reduceNeg, reduceCtorEq, resV, resAll, ARes.ev, LV.flat, ite_true, ite_false, exists_eq_left', exists_eq_left, keyOf, implies_true, fillC, capOf]
    refine ev_loop (fun m fr M' => M' = M ∧ fr 0 = .nil ∧ fr 1 = .I k ∧ fr 5 = .I 0) 0 ⟨rfl, rfl, rfl, rfl⟩ ?_
    rintro m fr M' ⟨rfl, h0, h1, h5⟩
    simp (disch := omega) only [h0, h1, h5, ↓SXd, SXu, slBounds, ↓sop, ↓aop, ↓reduceIte, LV.cells, AOp.dst, LV.I, LV.B, LV.U, LV.S, LV.nil, Nat.reduceEqDiff, Nat.reduceAdd, Nat.reduceMul, Nat.reduceSub, Nat.reduceLeDiff, Nat.reduceBEq, Nat.reduceDiv, Nat.reduceMod, Int.reduceToNat, Int.reduceLT, Int.reduceLE, Int.reduceAdd, Int.reduceSub, Int.reduceMul, Int.reduceEq, Int.reduceNeg, reduceCtorEq, resV, resAll, ARes.ev, LV.flat, ite_true, ite_false, exists_eq_left', exists_eq_left, keyOf, implies_true, fillC, capOf]
    exact ⟨eqI (by simp), (SlC.nil (N := M') : SlC M' LV.nil []), rfl, fun _ _ => rfl⟩
  · simp (disch := omega) only [C.laws_markIntA3S, ↓SXd, SXu, slBounds, ↓sop, ↓aop, ↓reduceIte, LV.cells, AOp.dst, LV.I, LV.B, LV.U, LV.S, LV.nil, Nat.reduceEqDiff, Nat.reduceAdd, Nat.reduceMul, Nat.reduceSub, Nat.reduceLeDiff, Nat.reduceBEq, Nat.reduceDiv, Nat.reduceMod, Int.reduceToNat, Int.reduceLT, Int.reduceLE, Int.reduceAdd, Int.reduceSub, Int.reduceMul, Int.reduceEq, Int.reduceNeg, reduceCtorEq, resV, resAll, ARes.ev, LV.flat, ite_true, ite_false, exists_eq_left', exists_eq_left, keyOf, implies_true, fillC, capOf]
    refine ev_loop (fun m fr M' => ∃ i : Nat, i + m = l.length ∧ M'.length = M.length ∧ Live M' t (.row (triL (marks3 k i ++ (l ++ ex).drop i)) true 3) ∧ (∀ u, u ≠ t → M'[u]? = M[u]?) ∧ fr 0 = .ref t 0 l.length ∧ fr 1 = .I (k + 3 * i) ∧ fr 5 = .I i) l.length
      ⟨0, by omega, rfl, by simpa [marks3] using h, fun _ _ => rfl, rfl, eqI (by omega), rfl⟩ ?_
    rintro m fr M' ⟨i, hi, hlen, hlive, hoff, h0, h1, h5⟩
    simp (disch := omega) only [h0, h1, h5, ↓SXd, SXu, slBounds, ↓sop, ↓aop, ↓reduceIte, LV.cells, AOp.dst, LV.I, LV.B, LV.U, LV.S, LV.nil, Nat.reduceEqDiff, Nat.reduceAdd, Nat.reduceMul, Nat.reduceSub, Nat.reduceLeDiff, Nat.reduceBEq, Nat.reduceDiv, Nat.reduceMod, Int.reduceToNat, Int.reduceLT, Int.reduceLE, Int.reduceAdd, Int.reduceSub, Int.reduceMul, Int.reduceEq, Int.reduceNeg, reduceCtorEq, resV, resAll, ARes.ev, LV.flat, ite_true, ite_false, exists_eq_left', exists_eq_left, keyOf, implies_true, fillC, capOf]
    refine condC_dec (fun hlt => ?_) (fun hlt => ?_)
    · simp (disch := omega) only [h0, h1, h5, ↓SXd, SXu, slBounds, ↓sop, ↓aop, ↓reduceIte, LV.cells, AOp.dst, LV.I, LV.B, LV.U, LV.S, LV.nil, Nat.reduceEqDiff, Nat.reduceAdd, Nat.reduceMul, Nat.reduceSub, Nat.reduceLeDiff, Nat.reduceBEq, Nat.reduceDiv, Nat.reduceMod, Int.reduceToNat, Int.reduceLT, Int.reduceLE, Int.reduceAdd, Int.reduceSub, Int.reduceMul, Int.reduceEq, Int.reduceNeg, reduceCtorEq, resV, resAll, ARes.ev, LV.flat, ite_true, ite_false, exists_eq_left', exists_eq_left, keyOf, implies_true, fillC, capOf]
      generalize hds : marks3 k i ++ (l ++ ex).drop i = ds at hlive
      have hdl : i < ds.length := by rw [← hds]; simp [marks3_len]; omega
      refine ev_loop (fun m2 fr N => ∃ j : Nat, j + m2 = 3 ∧ N.length = M.length ∧ Live N t (.row (triL (ds.set i ⟨if 0 < j then k + 3 * i else (ds.getD i default).a, if 1 < j then k + 3 * i + 1 else (ds.getD i default).b, if 2 < j then k + 3 * i + 2 else (ds.getD i default).c⟩)) true 3) ∧ (∀ u, u ≠ t → N[u]? = M[u]?) ∧
        fr 0 = .ref t 0 l.length ∧ fr 1 = .I (k + 3 * i + j) ∧ fr 5 = .I i ∧ fr 6 = .I j) 3
        ⟨0, rfl, hlen, by
          simp only [Nat.lt_irrefl, Nat.not_lt_zero, if_false]
          rw [show (ds.set i ⟨(ds.getD i default).a, (ds.getD i default).b, (ds.getD i default).c⟩) = ds from by
            rw [cell_eta]; simp [hdl]]
          exact hlive, hoff, h0, h1.trans (eqI (by omega)), h5, rfl⟩ ?_
      rintro m2 fr N ⟨j, hj, hlen, hlive, hoff, h0, h1, h5, h6⟩
      simp (disch := omega) only [h0, h1, h5, h6, ↓SXd, SXu, slBounds, ↓sop, ↓aop, ↓reduceIte, LV.cells, AOp.dst, LV.I, LV.B, LV.U, LV.S, LV.nil, Nat.reduceEqDiff, Nat.reduceAdd, Nat.reduceMul, Nat.reduceSub, Nat.reduceLeDiff, Nat.reduceBEq, Nat.reduceDiv, Nat.reduceMod, Int.reduceToNat, Int.reduceLT, Int.reduceLE, Int.reduceAdd, Int.reduceSub, Int.reduceMul, Int.reduceEq, Int.reduceNeg, reduceCtorEq, resV, resAll, ARes.ev, LV.flat, ite_true, ite_false, exists_eq_left', exists_eq_left, keyOf, implies_true, fillC, capOf]
      refine condC_dec (fun hlt2 => ?_) (fun hlt2 => ?_)
      · simp (disch := omega) only [h0, h1, h5, h6, ↓SXd, SXu, slBounds, ↓sop, ↓aop, ↓reduceIte, LV.cells, AOp.dst, LV.I, LV.B, LV.U, LV.S, LV.nil, Nat.reduceEqDiff, Nat.reduceAdd, Nat.reduceMul, Nat.reduceSub, Nat.reduceLeDiff, Nat.reduceBEq, Nat.reduceDiv, Nat.reduceMod, Int.reduceToNat, Int.reduceLT, Int.reduceLE, Int.reduceAdd, Int.reduceSub, Int.reduceMul, Int.reduceEq, Int.reduceNeg, reduceCtorEq, resV, resAll, ARes.ev, LV.flat, ite_true, ite_false, exists_eq_left', exists_eq_left, keyOf, implies_true, fillC, capOf]
        refine memK_cell hlive (by simpa using hdl) (by omega) fun N' l1 l2 l3 => ?_
        simp (disch := omega) only [h0, h1, h5, h6, ↓SXd, SXu, slBounds, ↓sop, ↓aop, ↓reduceIte, LV.cells, AOp.dst, LV.I, LV.B, LV.U, LV.S, LV.nil, Nat.reduceEqDiff, Nat.reduceAdd, Nat.reduceMul, Nat.reduceSub, Nat.reduceLeDiff, Nat.reduceBEq, Nat.reduceDiv, Nat.reduceMod, Int.reduceToNat, Int.reduceLT, Int.reduceLE, Int.reduceAdd, Int.reduceSub, Int.reduceMul, Int.reduceEq, Int.reduceNeg, reduceCtorEq, resV, resAll, ARes.ev, LV.flat, ite_true, ite_false, exists_eq_left', exists_eq_left, keyOf, implies_true, fillC, capOf]
        refine ⟨m2 - 1, by omega, j + 1, by omega, by omega, ?_, fun u hu => by
          rcases Nat.lt_or_ge u N.length with h2 | h2
          · rw [l3 u hu h2]; exact hoff u hu
          · rw [List.getElem?_eq_none (by omega), List.getElem?_eq_none (by omega)], h0, eqI (by omega), h5, eqI (natI _)⟩
        rw [List.set_set, getD_set, if_pos ⟨rfl, hdl⟩] at l2
        have hj3 : j = 0 ∨ j = 1 ∨ j = 2 := by omega
        rcases hj3 with rfl | rfl | rfl
        · simpa [cellSet] using l2
        · simpa [cellSet] using l2
        · simpa [cellSet] using l2
      · simp (disch := omega) only [h0, h1, h5, h6, ↓SXd, SXu, slBounds, ↓sop, ↓aop, ↓reduceIte, LV.cells, AOp.dst, LV.I, LV.B, LV.U, LV.S, LV.nil, Nat.reduceEqDiff, Nat.reduceAdd, Nat.reduceMul, Nat.reduceSub, Nat.reduceLeDiff, Nat.reduceBEq, Nat.reduceDiv, Nat.reduceMod, Int.reduceToNat, Int.reduceLT, Int.reduceLE, Int.reduceAdd, Int.reduceSub, Int.reduceMul, Int.reduceEq, Int.reduceNeg, reduceCtorEq, resV, resAll, ARes.ev, LV.flat, ite_true, ite_false, exists_eq_left', exists_eq_left, keyOf, implies_true, fillC, capOf]
        have : j = 3 := by omega
        subst this
        refine ⟨m - 1, by omega, i + 1, by omega, hlen, ?_, hoff, h0, h1.trans (eqI (by omega)), eqI (natI _)⟩
        rw [← hds] at hlive
        simp only [show (0 < 3) = True by simp, show (1 < 3) = True by simp, show (2 < 3) = True by simp, if_true] at hlive
        rw [marks3_step (by simp; omega)] at hlive
        exact hlive
    · simp (disch := omega) only [h0, h1, h5, ↓SXd, SXu, slBounds, ↓sop, ↓aop, ↓reduceIte, LV.cells, AOp.dst, LV.I, LV.B, LV.U, LV.S, LV.nil, Nat.reduceEqDiff, Nat.reduceAdd, Nat.reduceMul, Nat.reduceSub, Nat.reduceLeDiff, Nat.reduceBEq, Nat.reduceDiv, Nat.reduceMod, Int.reduceToNat, Int.reduceLT, Int.reduceLE, Int.reduceAdd, Int.reduceSub, Int.reduceMul, Int.reduceEq, Int.reduceNeg, reduceCtorEq, resV, resAll, ARes.ev, LV.flat, ite_true, ite_false, exists_eq_left', exists_eq_left, keyOf, implies_true, fillC, capOf]
      have : i = l.length := by omega
      subst this
      refine ⟨rfl, .inr ⟨t, ex, by rw [marks3_len], ?_⟩, hlen, fun u hu => hoff u hu⟩
      have e : (l ++ ex).drop l.length = ex := by simp
      rw [e] at hlive; exact hlive

theorem h_markHeap {x y z : Int} {v : LV} {l : List Cell} {k : Int} {M : Mem} (h : SlC M v l) (hn : l.length ≤ 1000000000) (hk : 0 ≤ k ∧ k ≤ 1000000000) :
    CallsR PG F.laws_markHeap [.agg [.I x, .I y, .I z, v], .I k] M fun r N => r = .I (k + 3 * l.length) ∧ SlC N v (marks3 k l.length) ∧ M.length ≤ N.length ∧ ∀ u, u < M.length → Off v u → N[u]? = M[u]? := by
  refine callsR_run K.laws_markHeap rfl ?_
  simp (disch := omega) only [C.laws_markHeap, ↓SXd, SXu, slBounds, ↓sop, ↓aop, ↓reduceIte, LV.cells, AOp.dst, LV.I, LV.B, LV.U, LV.S, LV.nil, Nat.reduceEqDiff, Nat.reduceAdd, Nat.reduceMul, Nat.reduceSub, Nat.reduceLeDiff, Nat.reduceBEq, Nat.reduceDiv, Nat.reduceMod, Int.reduceToNat, Int.reduceLT, Int.reduceLE, Int.reduceAdd, Int.reduceSub, Int.reduceMul, Int.reduceEq, Int.reduceNeg, reduceCtorEq, resV, resAll, ARes.ev, LV.flat, ite_true, ite_false, exists_eq_left', exists_eq_left, keyOf, implies_true, fillC, capOf]
  refine callR_of (h_markIntA3S (h.pre (Pre.app _ _)) hn hk) ?_
  rintro _ _ ⟨rfl, h1, h2, h3⟩
  simp (disch := omega) only [↓SXd, SXu, slBounds, ↓sop, ↓aop, ↓reduceIte, LV.cells, AOp.dst, LV.I, LV.B, LV.U, LV.S, LV.nil, Nat.reduceEqDiff, Nat.reduceAdd, Nat.reduceMul, Nat.reduceSub, Nat.reduceLeDiff, Nat.reduceBEq, Nat.reduceDiv, Nat.reduceMod, Int.reduceToNat, Int.reduceLT, Int.reduceLE, Int.reduceAdd, Int.reduceSub, Int.reduceMul, Int.reduceEq, Int.reduceNeg, reduceCtorEq, resV, resAll, ARes.ev, LV.flat, ite_true, ite_false, exists_eq_left', exists_eq_left, keyOf, implies_true, fillC, capOf]
  exact ⟨rfl, h1, by rw [h2]; simp, fun u hu ho => by rw [h3 u ho]; exact List.getElem?_append_left hu⟩
end Go.Ab

namespace Go.Ab
open Go

def PreV (v : LV) (M N : Mem) : Prop := M.length ≤ N.length ∧ ∀ u, u < M.length → Off v u → N[u]? = M[u]?
def Apart (v w : LV) : Prop := ∀ t o n, w = .ref t o n → Off v t
theorem PreV.live {v : LV} {M N : Mem} {t : Nat} {b : Blk} (hp : PreV v M N) (h : Live M t b) (ho : Off v t) : Live N t b := by unfold Live; rw [hp.2 t h.lt ho]; exact h
theorem PreV.has {v : LV} {M N : Mem} {t o : Nat} {vs : List LV} (hp : PreV v M N) (h : Has M t o vs) (ho : Off v t) : Has N t o vs := by
  obtain ⟨row, h1, h2⟩ := h
  refine ⟨row, ?_, h2⟩
  unfold getRow at *
  rw [hp.2 t (row_lt (M := M) (by unfold getRow; exact h1)) ho]; exact h1
theorem PreV.slC {v w : LV} {M N : Mem} {l : List Cell} (hp : PreV v M N) (h : SlC M w l) (ho : Apart v w) : SlC N w l := by
  rcases h with h | ⟨t, ex, h1, h2⟩
  · exact .inl h
  · exact .inr ⟨t, ex, h1, hp.live h2 (ho _ _ _ h1)⟩
theorem Marked.pre {M N : Mem} {v r : LV} {k : Int} {n : Nat} (h : Marked M v k n r N) : PreV v M N := ⟨by rw [h.2.2.1]; exact Nat.le_refl _, fun u _ ho => h.2.2.2 u ho⟩
theorem Marked3.pre {M N : Mem} {v r : LV} {k : Int} {n : Nat} (h : Marked3 M v k n r N) : PreV v M N := ⟨by rw [h.2.2.1]; exact Nat.le_refl _, fun u _ ho => h.2.2.2 u ho⟩
theorem PreV.pre {M0 M N : Mem} {v : LV} (hp : PreV v M N) (h : Pre M0 M) (hv : Newer M0 v) : Pre M0 N := ⟨Nat.le_trans h.1 hp.1, fun u hu => by rw [hp.2 u (Nat.lt_of_lt_of_le hu h.1) (hv u hu)]; exact h.2 u hu⟩
def Older (M : Mem) (v : LV) : Prop := ∀ t o n, v = .ref t o n → t < M.length
theorem SlI.older {M : Mem} {v : LV} {l : List Int} (h : SlI M v l) : Older M v := fun t o n e => by
  rcases h with ⟨rfl, _⟩ | ⟨t', ex, h1, h2⟩
  · cases e
  · rw [h1] at e; cases e; exact h2.lt
theorem SlC.older {M : Mem} {v : LV} {l : List Cell} (h : SlC M v l) : Older M v := fun t o n e => by
  rcases h with ⟨rfl, _⟩ | ⟨t', ex, h1, h2⟩
  · cases e
  · rw [h1] at e; cases e; exact h2.lt
theorem CellsV.older {M : Mem} {v : LV} {l : List Cell} (h : CellsV M v l) : Older M v := fun t o n e => by
  rcases h with ⟨rfl, _⟩ | ⟨t', o', h1, h2⟩
  · cases e
  · rw [h1] at e; cases e; exact h2.lt
theorem IntsV.older {M : Mem} {v : LV} {l : List Int} (h : IntsV M v l) : Older M v := fun t o n e => by
  rcases h with ⟨rfl, _⟩ | ⟨t', o', h1, h2⟩
  · cases e
  · rw [h1] at e; cases e; exact h2.lt
theorem Newer.apart {M : Mem} {v w : LV} (hv : Newer M v) (hw : Older M w) : Apart v w := fun t o n e => hv t (hw t o n e)
theorem Apart.symm {v w : LV} (h : Apart v w) : Apart w v := fun t o n e => by
  cases w with
  | ref t' o' n' => have := h t' o' n' rfl; subst e; exact fun e => this e.symm
  | _ => trivial
theorem Newer.mono {M N : Mem} {v : LV} (h : Newer N v) (hp : Pre M N) : Newer M v := fun u hu => h u (Nat.lt_of_lt_of_le hu hp.1)

def IntsRes (M : Mem) (r : Option (List Int)) (v : LV) (N : Mem) : Prop := ∃ w, v = .tup [w, .B r.isSome] ∧ SlI N w (r.getD []) ∧ Newer M w ∧ Pre M N
def CellsRes (M : Mem) (r : Option (List Cell)) (v : LV) (N : Mem) : Prop := ∃ w, v = .tup [w, .B r.isSome] ∧ SlC N w (r.getD []) ∧ Newer M w ∧ Pre M N
end Go.Ab
