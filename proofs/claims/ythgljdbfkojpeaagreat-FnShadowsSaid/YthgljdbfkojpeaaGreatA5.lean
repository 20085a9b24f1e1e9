/- Parts of the proof of FnShadowsSaid: Sx C_Hg K_Hg Sf C_Ha K_Ha C_Gb K_Gb C_Ga K_Ga Pg Ga C_Da K_Da Da Gb C_Uf K_Uf C_Ue K_Ue C_Uc K_Uc C_Ub K_Ub C_Ua K_Ua Gd Ua C_Eb K_Eb C_Ea K_Ea Ma Ea Eb C_Db K_Db Db Na. -/
import Derived.Test.YthgljdbfkojpeaaGreatA4
import Derived.Test.YthgljdbfkojpeaaGreatA3
import Derived.Test.YthgljdbfkojpeaaGreatProg
import Derived.KernelRfl
set_option linter.all false
/- The rules of the walk, bundled. -/
namespace Go.Ab
open Go
def SXd := (And.intro (And.intro (And.intro (And.intro (And.intro (And.intro @evc_skip (And.intro @evc_ops @evc_draw)) (And.intro (And.intro @evc_seq @evc_cond) (And.intro @evc_block @evc_exit))) (And.intro (And.intro @evc_ret (And.intro @opsK_r @putK_r)) (And.intro (And.intro @cntK_r @seqK_n) (And.intro @seqK_e @seqK_r)))) (And.intro (And.intro (And.intro @evdK_r (And.intro @evd1K_r @evd2K_r)) (And.intro (And.intro @endQ_r @endQ_n) (And.intro @endR_r @endR_n))) (And.intro (And.intro @thenK_n (And.intro @thenK_e @thenK_r)) (And.intro (And.intro @blockK_n @blockK_e) (And.intro @blockK_r @evops_n))))) (And.intro (And.intro (And.intro (And.intro @evops_c (And.intro @evg_n @evg_s)) (And.intro (And.intro @evd_n @ev_mv) (And.intro @ev_pick @ev_bin))) (And.intro (And.intro @ev_eqs (And.intro @ev_eqb @ev_un)) (And.intro (And.intro @ev_conv @ev_build) (And.intro @ev_load1 @ev_loadN)))) (And.intro (And.intro (And.intro @ev_nilck (And.intro @ev_mkf @ev_slS)) (And.intro (And.intro @ev_slA @ev_slT) (And.intro @ev_fieldAddr @ev_field))) (And.intro (And.intro @ev_idxS (And.intro @ev_idxA @ev_index)) (And.intro (And.intro @ev_idxT @ev_lookup) (And.intro @ev_extract @ev_len)))))) (And.intro (And.intro (And.intro (And.intro (And.intro @ev_lenT (And.intro @ev_mm @ev_any)) (And.intro (And.intro @ev_box @ev_alloc) (And.intro @ev_buildSl @ev_mksl))) (And.intro (And.intro @ev_mkmap (And.intro @ev_sl0 @ev_store)) (And.intro (And.intro @ev_append @ev_copy) (And.intro @ev_call @ev_callV)))) (And.intro (And.intro (And.intro @ev_clear (And.intro @evd_mv @evd_pick)) (And.intro (And.intro @evd_bin @evd_eqs) (And.intro @evd_eqb @evd_un))) (And.intro (And.intro @evd_conv (And.intro @evd_build @evd_load1)) (And.intro (And.intro @evd_loadN @evd_nilck) (And.intro @evd_mkf @evd_slS))))) (And.intro (And.intro (And.intro (And.intro @evd_slA (And.intro @evd_slT @evd_fieldAddr)) (And.intro (And.intro @evd_field @evd_idxS) (And.intro @evd_idxA @evd_index))) (And.intro (And.intro @evd_idxT (And.intro @evd_lookup @evd_extract)) (And.intro (And.intro @evd_len @evd_lenT) (And.intro @evd_mm @evd_any)))) (And.intro (And.intro (And.intro @evd_box (And.intro @evd_alloc @evd_buildSl)) (And.intro (And.intro @evd_mksl @evd_mkmap) (And.intro @evd_sl0 @evd_store))) (And.intro (And.intro (And.intro @evd_append @evd_copy) (And.intro @evd_clear @evd_mupd)) (And.intro (And.intro @evd_call @evd_callV) (And.intro @upd_at @selL_n)))))))
def SXu := (And.intro (And.intro (And.intro (And.intro (And.intro (And.intro (And.intro @clearK_r (And.intro @ev_t @ev_c)) (And.intro @pick_dt (And.intro @pick_df @sopK_s))) (And.intro (And.intro @aopK_s (And.intro @memK_s @appK_s)) (And.intro @storeK_v (And.intro @storeK_r @storeK_p)))) (And.intro (And.intro (And.intro @storeK_m (And.intro @storeK_f @storeK_a)) (And.intro @andK_t (And.intro @andK_d @condC_dt))) (And.intro (And.intro @condC_df (And.intro @guardO_dtt @guardO_dtf)) (And.intro (And.intro @guardO_dft @guardO_dff) (And.intro @wrap_id @condC_t))))) (And.intro (And.intro (And.intro (And.intro @condC_f (And.intro @condC_not @guardO_tt)) (And.intro @guardO_ff (And.intro @guardO_tf @guardO_ft))) (And.intro (And.intro @guardO_not (And.intro @guardO_u @guardO_ud)) (And.intro @putO_s (And.intro @putO_n @callVK_c)))) (And.intro (And.intro (And.intro @bvi_add (And.intro @bvi_sub @bvi_mul)) (And.intro @bvi_and (And.intro @bvi_or @bvi_xor))) (And.intro (And.intro @bvi_shl (And.intro @bvi_shr @bvb_add)) (And.intro (And.intro @bvb_sub @uni_neg) (And.intro @w_and @w_or)))))) (And.intro (And.intro (And.intro (And.intro (And.intro @w_xor (And.intro @w_not @w_and1)) (And.intro @w_or0 (And.intro @w_shl1 @w_shr))) (And.intro (And.intro @w_sub1 (And.intro @w_neg @w_inj)) (And.intro @w_eq0 (And.intro @w_eq1 @bv_quo)))) (And.intro (And.intro (And.intro @bv_rem (And.intro @bv_eql @bv_neq)) (And.intro @bv_lss (And.intro @bv_leq @bv_gtr))) (And.intro (And.intro @bv_geq (And.intro @eb_eq @eb_ne)) (And.intro (And.intro @eqo_t @eqo_b) (And.intro @eqo_n @nil_r))))) (And.intro (And.intro (And.intro (And.intro @nil_n (And.intro @un_not @len_ref)) (And.intro @len_nil (And.intro @intV_i @setC_0))) (And.intro (And.intro @setC_j (And.intro @row_0 @row_j)) (And.intro @esz_0 (And.intro @esz_j @cell_0)))) (And.intro (And.intro (And.intro @cell_j (And.intro @cells_0 @cells_j)) (And.intro @len_app (And.intro @rowL_z @rowL_s))) (And.intro (And.intro @eszL_z (And.intro @eszL_s @cellL_z)) (And.intro (And.intro @cellL_s @cellsL_z) (And.intro @cellsL_s @setL_z))))))) (And.intro (And.intro (And.intro (And.intro (And.intro (And.intro @setL_s (And.intro @List.append_assoc.{0} @List.cons_append.{0})) (And.intro @List.nil_append.{0} (And.intro @List.length_cons.{0} @List.length_nil.{0}))) (And.intro (And.intro @List.getD_cons_zero.{0} (And.intro @List.getD_cons_succ.{0} @List.getD_nil.{0})) (And.intro @List.getElem?_cons_zero.{0} (And.intro @List.getElem?_cons_succ.{0} @List.map_cons.{0,0})))) (And.intro (And.intro (And.intro @List.map_nil.{0,0} (And.intro @Option.map_some.{0,0} @Option.bind_some.{0,0})) (And.intro @decide_true (And.intro @decide_false @Bool.not_true))) (And.intro (And.intro @Bool.not_false (And.intro @Nat.add_zero @Nat.zero_add)) (And.intro (And.intro @Nat.le_refl @true_and) (And.intro @and_true @Bool.false_eq_true))))) (And.intro (And.intro (And.intro (And.intro @List.drop_zero.{0} (And.intro @List.take_succ_cons.{0} @List.take_zero.{0})) (And.intro @List.drop_succ_cons.{0} (And.intro @beq_self_eq_true.{0} @Option.some.injEq.{0}))) (And.intro (And.intro @Int.toNat_natCast (And.intro @Nat.mul_one @Nat.mul_zero)) (And.intro @Nat.zero_mul (And.intro @Nat.one_mul @List.set_cons_zero.{0})))) (And.intro (And.intro (And.intro @List.set_cons_succ.{0} (And.intro @maskM_n @unmask_n)) (And.intro @keepL_n (And.intro @keepL_refl @keepL_app))) (And.intro (And.intro @ifo_pos (And.intro @selL_c @maskM_c)) (And.intro (And.intro @unmask_c @keepL_c) (And.intro @join_ss @keep1_refl)))))) (And.intro (And.intro (And.intro (And.intro (And.intro @at_0 (And.intro @at_j @set_0)) (And.intro @set_j (And.intro @add1_ne @imp_self))) (And.intro (And.intro @and_self (And.intro @spl_10 @spl_20)) (And.intro @spl_21 (And.intro @spl_30 @spl_31)))) (And.intro (And.intro (And.intro @spl_32 (And.intro @spl_40 @spl_41)) (And.intro @spl_42 (And.intro @spl_43 @spl_3r))) (And.intro (And.intro @spl_4r (And.intro @spl_2r @spl_5r)) (And.intro (And.intro @spl_50 @spl_51) (And.intro @spl_52 @spl_53))))) (And.intro (And.intro (And.intro (And.intro @spl_54 (And.intro @spl_6r @spl_60)) (And.intro @spl_61 (And.intro @spl_62 @spl_63))) (And.intro (And.intro @spl_64 (And.intro @spl_65 @spl_7r)) (And.intro @spl_70 (And.intro @spl_71 @spl_72)))) (And.intro (And.intro (And.intro @spl_73 (And.intro @spl_74 @spl_75)) (And.intro @spl_76 (And.intro @spl_8r @spl_80))) (And.intro (And.intro @spl_81 (And.intro @spl_82 @spl_83)) (And.intro (And.intro @spl_84 @spl_85) (And.intro @spl_86 @spl_87))))))))
end Go.Ab

/- The abstract code of some functions (written by a program of mine from the translation, by way of prepF). -/
namespace Go.Ab.C
open Go.Ab
def laws_vBig : AFn :=
 ⟨1, 6, [.tmp 2],
 .seq (.ops [(none, .mv 2 (.c (.B false)))])
 (.seq (.ops [(none, .mv 3 (.t 0)),
 (none, .len 4 (.t 3)),
 (none, .bin 5 .gtr (.t 4) (.c (.I 65536))),
 (none, .mv 2 (.t 5))])
 (.ret))⟩
def laws_vInts : AFn :=
 ⟨2, 26, [.tmp 4],
 .seq (.ops [(none, .mv 4 (.c (.B false)))])
 (.seq (.seq (.ops [(none, .mv 6 (.t 0)),
 (none, .len 7 (.t 6)),
 (none, .mv 8 (.t 1)),
 (none, .len 9 (.t 8)),
 (none, .bin 10 .neq (.t 7) (.t 9))])
 (.cond (.t 10) (.seq (.ops [(none, .mv 4 (.c (.B false)))])
 (.ret))
 (.skip)))
 (.seq (.seq (.ops [(none, .mv 5 (.c (.I 0)))])
 (.block 0 (.loop (.seq (.seq (.ops [(none, .mv 11 (.t 5)),
 (none, .mv 12 (.t 0)),
 (none, .len 13 (.t 12)),
 (none, .bin 14 .lss (.t 11) (.t 13))])
 (.cond (.t 14) (.skip)
 (.exit 0)))
 (.seq (.block 1 (.seq (.draw [⟨(none, .mv 17 (.t 0)), [], []⟩,
 ⟨(none, .mv 18 (.t 5)), [], []⟩,
 ⟨(none, .idxS 19 1 (.t 17) (.t 18)), [], []⟩,
 ⟨(none, .load1 20 (.t 19)), [], []⟩,
 ⟨(none, .mv 21 (.t 1)), [], []⟩,
 ⟨(none, .mv 22 (.t 5)), [], []⟩,
 ⟨(none, .idxS 23 1 (.t 21) (.t 22)), [], []⟩,
 ⟨(none, .load1 24 (.t 23)), [], []⟩,
 ⟨(none, .bin 25 .neq (.t 20) (.t 24)), [], []⟩])
 (.cond (.t 25) (.seq (.ops [(none, .mv 4 (.c (.B false)))])
 (.ret))
 (.skip))))
 (.ops [(none, .mv 15 (.t 5)),
 (none, .bin 16 .add (.t 15) (.c (.I 1))),
 (none, .mv 5 (.t 16))]))))))
 (.seq (.ops [(none, .mv 4 (.c (.B true)))])
 (.ret))))⟩
end Go.Ab.C

/- That the program has this code. -/
namespace Go.Ab.K
open Go Go.Ab
theorem laws_vBig : prepF Go.Proofs.Tryz.prog F.laws_vBig = some C.laws_vBig := by kernel_rfl
theorem laws_vInts : prepF Go.Proofs.Tryz.prog F.laws_vInts = some C.laws_vInts := by kernel_rfl
end Go.Ab.K

/- What follows may be weakened; ways that meet again. -/
namespace Go.Ab
open Go
section
variable {P : Program}

theorem evg_mono {g : GOp} {fr : Fr} {M : Mem} {K K' : Fr → Mem → Prop} (h : ∀ fr M, K fr M → K' fr M) (he : EvG P g fr M K) : EvG P g fr M K' :=
  evg_congr (fun _ _ => rfl) (fun _ _ hk => h _ _ hk) he

theorem evops_mono : ∀ {l : List GOp} {fr : Fr} {M : Mem} {K K' : Fr → Mem → Prop}, (∀ fr M, K fr M → K' fr M) → EvOps P l fr M K → EvOps P l fr M K'
  | [], _, _, _, _, h, he => h _ _ he
  | _ :: _, _, _, _, _, h, he => evg_mono (fun _ _ hk => evops_mono h hk) he

theorem evd_mono : ∀ {l : List DOp} {fr : Fr} {M : Mem} {lg : List (Option Nat)} {K K' : Fr → Mem → Prop}, (∀ fr M, K fr M → K' fr M) → EvD P l fr M lg K → EvD P l fr M lg K'
  | [], _, _, _, _, _, h, he => h _ _ he
  | d :: r, fr, M, lg, K, K', h, he => by
    simp only [EvD] at he ⊢
    split
    · rename_i h0
      rw [if_pos h0] at he
      exact evg_mono (fun _ _ hk => evd_mono h hk) he
    · rename_i h0
      rw [if_neg h0] at he
      split
      · rename_i h1
        rw [if_pos h1] at he
        exact evg_mono (fun _ _ hk => evd_mono h hk) he
      · rename_i h1
        rw [if_neg h1] at he
        exact evg_mono (fun _ _ hk => ⟨hk.1, evd_mono h hk.2⟩) he

theorem evc_mono : ∀ {c : ACode} {fr : Fr} {M : Mem} {Q Q' : AExit → Fr → Mem → Prop}, (∀ e fr M, Q e fr M → Q' e fr M) → EvC P c fr M Q → EvC P c fr M Q' := by
  intro c
  induction c with
  | skip => intro fr M Q Q' h he; exact h _ _ _ he
  | ops l => intro fr M Q Q' h he; exact evops_mono (h .normal) he
  | draw l => intro fr M Q Q' h he; exact evd_mono (h .normal) he
  | seq a b iha ihb =>
    intro fr M Q Q' h he
    simp only [EvC] at he ⊢
    refine iha (fun e fr M hh => ?_) he
    cases e with
    | normal => exact ihb h hh
    | exit i => exact h _ _ _ hh
    | ret => exact h _ _ _ hh
  | cond c a b iha ihb =>
    intro fr M Q Q' h he
    simp only [EvC] at he ⊢
    split
    · rename_i t ht
      rw [ht] at he
      exact ⟨fun e => iha h (he.1 e), fun e => ihb h (he.2 e)⟩
    · rename_i hne
      split at he
      · rename_i t ht; exact absurd ht (hne t)
      · exact he
  | block id a ih =>
    intro fr M Q Q' h he
    simp only [EvC] at he ⊢
    refine ih (fun e fr M hh => ?_) he
    cases e with
    | normal => exact h _ _ _ hh
    | exit i =>
      simp only [blockK] at hh ⊢
      split
      · rename_i hi; rw [if_pos hi] at hh; exact h _ _ _ hh
      · rename_i hi; rw [if_neg hi] at hh; exact h _ _ _ hh
    | ret => exact h _ _ _ hh
  | loop a ih =>
    intro fr M Q Q' h he
    simp only [EvC] at he ⊢
    obtain ⟨I, m, h0, hr⟩ := he
    refine ⟨I, m, h0, fun m fr M hI => ih (fun e fr M hh => ?_) (hr m fr M hI)⟩
    cases e with
    | normal => exact hh
    | exit i => exact h _ _ _ hh
    | ret => exact h _ _ _ hh
  | exit id => intro fr M Q Q' h he; exact h _ _ _ he
  | ret => intro fr M Q Q' h he; exact h _ _ _ he
  | bad => intro fr M Q Q' h he; exact he

def joinK (J : Fr → Mem → Prop) : Fr → Mem → Prop := fun fr M => J fr M

end

end Go.Ab

/- The abstract code of some functions (written by a program of mine from the translation, by way of prepF). -/
namespace Go.Ab.C
open Go.Ab
def spec_l1Cur_next : AFn :=
 ⟨1, 62, [.tmp 2],
 .seq (.ops [(none, .mv 2 (.c (.I 0)))])
 (.seq (.ops [(none, .mv 3 (.c (.I 0)))])
 (.seq (.seq (.draw [⟨(none, .mv 4 (.t 0)), [], []⟩,
 ⟨(none, .nilck 5 (.t 4)), [], []⟩,
 ⟨(none, .fieldAddr 6 (.t 5) 1), [], []⟩,
 ⟨(none, .load1 7 (.t 6)), [], []⟩,
 ⟨(none, .mv 8 (.t 0)), [], []⟩,
 ⟨(none, .nilck 9 (.t 8)), [], []⟩,
 ⟨(none, .fieldAddr 10 (.t 9) 0), [], []⟩,
 ⟨(none, .load1 11 (.t 10)), [], []⟩,
 ⟨(none, .len 12 (.t 11)), [], []⟩,
 ⟨(none, .bin 13 .lss (.t 7) (.t 12)), [], []⟩])
 (.cond (.t 13) (.draw [⟨(none, .mv 14 (.t 0)), [], []⟩,
 ⟨(none, .nilck 15 (.t 14)), [], []⟩,
 ⟨(none, .fieldAddr 16 (.t 15) 0), [], []⟩,
 ⟨(none, .load1 17 (.t 16)), [], []⟩,
 ⟨(none, .mv 18 (.t 0)), [], []⟩,
 ⟨(none, .nilck 19 (.t 18)), [], []⟩,
 ⟨(none, .fieldAddr 20 (.t 19) 1), [], []⟩,
 ⟨(none, .load1 21 (.t 20)), [], []⟩,
 ⟨(none, .idxS 22 1 (.t 17) (.t 21)), [], []⟩,
 ⟨(none, .load1 23 (.t 22)), [], []⟩,
 ⟨(none, .conv 24 .i64 (.t 23)), [], []⟩,
 ⟨(none, .mv 3 (.t 24)), [], []⟩])
 (.skip)))
 (.seq (.ops [(none, .mv 25 (.t 0)),
 (none, .nilck 26 (.t 25)),
 (none, .fieldAddr 27 (.t 26) 1),
 (none, .load1 28 (.t 27)),
 (none, .bin 29 .add (.t 28) (.c (.I 1))),
 (none, .nilck 30 (.t 25)),
 (none, .fieldAddr 31 (.t 30) 1),
 (none, .store 1 (.t 31) (.t 29))])
 (.seq (.ops [(none, .mv 32 (.t 0)),
 (none, .mv 33 (.t 0)),
 (none, .nilck 34 (.t 33)),
 (none, .fieldAddr 35 (.t 34) 2),
 (none, .load1 36 (.t 35)),
 (none, .bin 37 .mul (.t 36) (.c (.U 6364136223846793005))),
 (none, .mv 38 (.t 3)),
 (none, .conv 39 .u64 (.t 38)),
 (none, .bin 40 .add (.t 37) (.t 39)),
 (none, .bin 41 .add (.t 40) (.c (.U 462197))),
 (none, .nilck 42 (.t 32)),
 (none, .fieldAddr 43 (.t 42) 2),
 (none, .store 1 (.t 43) (.t 41))])
 (.seq (.seq (.draw [⟨(none, .mv 44 (.t 0)), [], []⟩,
 ⟨(none, .nilck 45 (.t 44)), [], []⟩,
 ⟨(none, .fieldAddr 46 (.t 45) 1), [], []⟩,
 ⟨(none, .load1 47 (.t 46)), [], []⟩,
 ⟨(none, .mv 48 (.t 0)), [], []⟩,
 ⟨(none, .nilck 49 (.t 48)), [], []⟩,
 ⟨(none, .fieldAddr 50 (.t 49) 0), [], []⟩,
 ⟨(none, .load1 51 (.t 50)), [], []⟩,
 ⟨(none, .len 52 (.t 51)), [], []⟩,
 ⟨(none, .bin 53 .leq (.t 47) (.t 52)), [], []⟩])
 (.cond (.t 53) (.seq (.ops [(none, .mv 54 (.t 3)),
 (none, .mv 2 (.t 54))])
 (.ret))
 (.skip)))
 (.seq (.ops [(none, .mv 55 (.t 0)),
 (none, .nilck 56 (.t 55)),
 (none, .fieldAddr 57 (.t 56) 2),
 (none, .load1 58 (.t 57)),
 (none, .bin 59 .shr (.t 58) (.c (.U 40))),
 (none, .bin 60 .and (.t 59) (.c (.U 255))),
 (none, .conv 61 .i64 (.t 60)),
 (none, .mv 2 (.t 61))])
 (.ret)))))))⟩
def spec_l1Cur_pick : AFn :=
 ⟨2, 20, [.tmp 4],
 .seq (.ops [(none, .mv 4 (.c (.I 0)))])
 (.seq (.seq (.ops [(none, .mv 6 (.t 1)),
 (none, .bin 7 .leq (.t 6) (.c (.I 1)))])
 (.cond (.t 7) (.seq (.ops [(none, .mv 4 (.c (.I 0)))])
 (.ret))
 (.skip)))
 (.seq (.ops [(none, .mv 8 (.t 0)),
 (none, .call (some 9) F.spec_l1Cur_next [(.t 8)]),
 (none, .mv 5 (.t 9))])
 (.seq (.seq (.ops [(none, .mv 10 (.t 1)),
 (none, .bin 11 .gtr (.t 10) (.c (.I 200)))])
 (.cond (.t 11) (.ops [(none, .mv 12 (.t 5)),
 (none, .bin 13 .mul (.t 12) (.c (.I 256))),
 (none, .mv 14 (.t 0)),
 (none, .call (some 15) F.spec_l1Cur_next [(.t 14)]),
 (none, .bin 16 .add (.t 13) (.t 15)),
 (none, .mv 5 (.t 16))])
 (.skip)))
 (.seq (.ops [(none, .mv 17 (.t 5)),
 (none, .mv 18 (.t 1)),
 (none, .bin 19 .rem (.t 17) (.t 18)),
 (none, .mv 4 (.t 19))])
 (.ret)))))⟩
def spec_l1Cur_one : AFn :=
 ⟨2, 9, [.tmp 4],
 .seq (.ops [(none, .mv 4 (.c (.B false)))])
 (.seq (.ops [(none, .mv 5 (.t 0)),
 (none, .mv 6 (.t 1)),
 (none, .call (some 7) F.spec_l1Cur_pick [(.t 5), (.t 6)]),
 (none, .bin 8 .eql (.t 7) (.c (.I 0))),
 (none, .mv 4 (.t 8))])
 (.ret))⟩
def spec_l1Cur_among : AFn :=
 ⟨2, 12, [.tmp 4],
 .seq (.ops [(none, .mv 4 (.c (.I 0)))])
 (.seq (.ops [(none, .mv 5 (.t 1)),
 (none, .mv 6 (.t 0)),
 (none, .mv 7 (.t 1)),
 (none, .len 8 (.t 7)),
 (none, .call (some 9) F.spec_l1Cur_pick [(.t 6), (.t 8)]),
 (none, .idxS 10 1 (.t 5) (.t 9)),
 (none, .load1 11 (.t 10)),
 (none, .mv 4 (.t 11))])
 (.ret))⟩
end Go.Ab.C

/- That the program has this code. -/
namespace Go.Ab.K
open Go Go.Ab
theorem spec_l1Cur_next : prepF Go.Proofs.Tryz.prog F.spec_l1Cur_next = some C.spec_l1Cur_next := by kernel_rfl
theorem spec_l1Cur_pick : prepF Go.Proofs.Tryz.prog F.spec_l1Cur_pick = some C.spec_l1Cur_pick := by kernel_rfl
theorem spec_l1Cur_one : prepF Go.Proofs.Tryz.prog F.spec_l1Cur_one = some C.spec_l1Cur_one := by kernel_rfl
theorem spec_l1Cur_among : prepF Go.Proofs.Tryz.prog F.spec_l1Cur_among = some C.spec_l1Cur_among := by kernel_rfl
end Go.Ab.K

/- The abstract code of some functions (written by a program of mine from the translation, by way of prepF). -/
namespace Go.Ab.C
open Go.Ab
end Go.Ab.C

/- That the program has this code. -/
namespace Go.Ab.K
open Go Go.Ab
end Go.Ab.K

/- The abstract code of some functions (written by a program of mine from the translation, by way of prepF). -/
namespace Go.Ab.C
open Go.Ab
end Go.Ab.C

/- That the program has this code. -/
namespace Go.Ab.K
open Go Go.Ab
end Go.Ab.K

/- The program of this seat. -/
namespace Go.Ab
noncomputable abbrev PG : Program := Go.Proofs.Tryz.prog
end Go.Ab

/- Contracts: the laws' helpers on lists of numbers. -/
namespace Go.Ab
open Go
set_option linter.unusedSimpArgs false
set_option linter.unusedVariables false

/-- A list of numbers that may be read. -/
def IntsV (N : Mem) (v : LV) (l : List Int) : Prop := (v = .nil ∧ l = []) ∨ ∃ t o, v = .ref t o l.length ∧ Ints N t o l
/-- A list of numbers that is one's own. -/
def SlI (N : Mem) (v : LV) (l : List Int) : Prop := (v = .nil ∧ l = []) ∨ ∃ t ex, v = .ref t 0 l.length ∧ Live N t (.row (intL (l ++ ex)) true 1)
/-- Block u is not that of a slice. -/
def Off : LV → Nat → Prop
  | .ref t _ _, u => u ≠ t
  | _, _ => True
/-- The slice has been made behind M. -/
def Newer (M : Mem) (v : LV) : Prop := ∀ u, u < M.length → Off v u

theorem Live.hasL {M : Mem} {t e : Nat} {vs ex : List LV} {w : Bool} (h : Live M t (.row (vs ++ ex) w e)) : Has M t 0 vs := ⟨vs ++ ex, h.row, by simp, by simp⟩
theorem SlI.v {N : Mem} {v : LV} {l : List Int} (h : SlI N v l) : IntsV N v l := by
  rcases h with h | ⟨t, ex, h1, h2⟩
  · exact .inl h
  · rw [intL_append] at h2; exact .inr ⟨t, 0, h1, h2.hasL⟩
theorem IntsV.pre {M N : Mem} {v : LV} {l : List Int} (h : IntsV M v l) (hp : Pre M N) : IntsV N v l := by
  rcases h with h | ⟨t, o, h1, h2⟩
  · exact .inl h
  · exact .inr ⟨t, o, h1, h2.pre hp⟩
theorem SlI.pre {M N : Mem} {v : LV} {l : List Int} (h : SlI M v l) (hp : Pre M N) : SlI N v l := by
  rcases h with h | ⟨t, ex, h1, h2⟩
  · exact .inl h
  · exact .inr ⟨t, ex, h1, h2.pre hp⟩
theorem SlI.nil {N : Mem} : SlI N .nil [] := .inl ⟨rfl, rfl⟩
theorem IntsV.nil {N : Mem} : IntsV N .nil [] := .inl ⟨rfl, rfl⟩
theorem SlI.of {N : Mem} {t : Nat} {l : List Int} (h : Live N t (.row (intL l) true 1)) : SlI N (.ref t 0 l.length) l := .inr ⟨t, [], rfl, by simpa using h⟩
theorem Newer.nil {M : Mem} : Newer M .nil := fun _ _ => trivial
theorem Newer.of {M : Mem} {t o n : Nat} (h : M.length ≤ t) : Newer M (.ref t o n) := fun u hu => by show u ≠ t; omega

def marks (k : Int) (n : Nat) : List Int := (List.range n).map fun (i : Nat) => k + (i : Int)
/-- What a marking leaves. -/
def Marked (M : Mem) (v : LV) (k : Int) (n : Nat) (r : LV) (N : Mem) : Prop := r = .I (k + n) ∧ SlI N v (marks k n) ∧ N.length = M.length ∧ ∀ u, Off v u → N[u]? = M[u]?

end Go.Ab

/- The abstract code of some functions (written by a program of mine from the translation, by way of prepF). -/
namespace Go.Ab.C
open Go.Ab
end Go.Ab.C

/- That the program has this code. -/
namespace Go.Ab.K
open Go Go.Ab
end Go.Ab.K

/- Contracts: the laws' helpers on heaps. -/
namespace Go.Ab
open Go
set_option linter.unusedSimpArgs false
set_option linter.unusedVariables false

end Go.Ab

/- Contracts: the laws' helpers on lists of cells, and on heaps. -/
namespace Go.Ab
open Go
set_option linter.unusedSimpArgs false
set_option linter.unusedVariables false

/-- A list of cells that may be read. -/
def CellsV (N : Mem) (v : LV) (l : List Cell) : Prop := (v = .nil ∧ l = []) ∨ ∃ t o, v = .ref t o l.length ∧ Tri N t o l
/-- A list of cells that is one's own. -/
def SlC (N : Mem) (v : LV) (l : List Cell) : Prop := (v = .nil ∧ l = []) ∨ ∃ t ex, v = .ref t 0 l.length ∧ Live N t (.row (triL (l ++ ex)) true 3)
theorem SlC.v {N : Mem} {v : LV} {l : List Cell} (h : SlC N v l) : CellsV N v l := by
  rcases h with h | ⟨t, ex, h1, h2⟩
  · exact .inl h
  · rw [triL_append] at h2; exact .inr ⟨t, 0, h1, h2.hasL⟩
theorem CellsV.pre {M N : Mem} {v : LV} {l : List Cell} (h : CellsV M v l) (hp : Pre M N) : CellsV N v l := by
  rcases h with h | ⟨t, o, h1, h2⟩
  · exact .inl h
  · exact .inr ⟨t, o, h1, h2.pre hp⟩
theorem SlC.pre {M N : Mem} {v : LV} {l : List Cell} (h : SlC M v l) (hp : Pre M N) : SlC N v l := by
  rcases h with h | ⟨t, ex, h1, h2⟩
  · exact .inl h
  · exact .inr ⟨t, ex, h1, h2.pre hp⟩
theorem SlC.nil {N : Mem} : SlC N .nil [] := .inl ⟨rfl, rfl⟩
theorem CellsV.nil {N : Mem} : CellsV N .nil [] := .inl ⟨rfl, rfl⟩
theorem SlC.of {N : Mem} {t : Nat} {l : List Cell} (h : Live N t (.row (triL l) true 3)) : SlC N (.ref t 0 l.length) l := .inr ⟨t, [], rfl, by simpa using h⟩
theorem CellsV.of {N : Mem} {t o : Nat} {l : List Cell} (h : Tri N t o l) : CellsV N (.ref t o l.length) l := .inr ⟨t, o, rfl, h⟩

def marks3 (k : Int) (n : Nat) : List Cell := (List.range n).map fun (i : Nat) => ⟨k + 3 * (i : Int), k + 3 * (i : Int) + 1, k + 3 * (i : Int) + 2⟩
/-- What a marking leaves. -/
def Marked3 (M : Mem) (v : LV) (k : Int) (n : Nat) (r : LV) (N : Mem) : Prop := r = .I (k + 3 * n) ∧ SlC N v (marks3 k n) ∧ N.length = M.length ∧ ∀ u, Off v u → N[u]? = M[u]?

def cellSet (c : Cell) (j : Nat) (v : Int) : Cell := match j with | 0 => ⟨v, c.b, c.c⟩ | 1 => ⟨c.a, v, c.c⟩ | _ => ⟨c.a, c.b, v⟩
end Go.Ab

/- The abstract code of some functions (written by a program of mine from the translation, by way of prepF). -/
namespace Go.Ab.C
open Go.Ab
def spec_l3Allowed : AFn :=
 ⟨1, 86, [.cellN 2 4],
 .seq (.ops [(none, .box 1 (.t 0)),
 (none, .alloc 2 [(.I 0), (.I 0), (.I 0), .nil])])
 (.seq (.ops [(none, .fieldAddr 9 (.t 1) 0),
 (none, .load1 10 (.t 9)),
 (none, .fieldAddr 11 (.t 1) 1),
 (none, .load1 12 (.t 11)),
 (none, .fieldAddr 13 (.t 1) 2),
 (none, .load1 14 (.t 13)),
 (none, .call (some 15) F.spec_l2Empty [(.t 10), (.t 12), (.t 14)]),
 (none, .alloc 3 [(.I 0), (.I 0), (.I 0), .nil]),
 (none, .store 4 (.t 3) (.t 15))])
 (.seq (.ops [(none, .loadN 16 4 (.t 3)),
 (none, .call (some 17) F.spec_l2All [(.t 16)]),
 (none, .mv 4 (.t 17))])
 (.seq (.seq (.ops [(none, .mv 5 (.c (.I 0)))])
 (.block 0 (.loop (.seq (.seq (.ops [(none, .mv 18 (.t 5)),
 (none, .mv 19 (.t 4)),
 (none, .len 20 (.t 19)),
 (none, .bin 21 .lss (.t 18) (.t 20))])
 (.cond (.t 21) (.skip)
 (.exit 0)))
 (.seq (.block 1 (.seq (.draw [⟨(none, .mv 24 (.t 4)), [], []⟩,
 ⟨(none, .mv 25 (.t 5)), [], []⟩,
 ⟨(none, .idxS 26 3 (.t 24) (.t 25)), [], []⟩,
 ⟨(none, .idxA 27 3 1 (.t 26) (.c (.I 0))), [], []⟩,
 ⟨(none, .load1 28 (.t 27)), [], []⟩,
 ⟨(none, .mv 29 (.t 4)), [], []⟩,
 ⟨(none, .mv 30 (.t 5)), [], []⟩,
 ⟨(none, .idxS 31 3 (.t 29) (.t 30)), [], []⟩,
 ⟨(none, .idxA 32 3 1 (.t 31) (.c (.I 1))), [], []⟩,
 ⟨(none, .load1 33 (.t 32)), [], []⟩,
 ⟨(none, .mv 34 (.t 4)), [], []⟩,
 ⟨(none, .mv 35 (.t 5)), [], []⟩,
 ⟨(none, .idxS 36 3 (.t 34) (.t 35)), [], []⟩,
 ⟨(none, .idxA 37 3 1 (.t 36) (.c (.I 2))), [], []⟩,
 ⟨(none, .load1 38 (.t 37)), [], []⟩,
 ⟨(none, .mv 6 (.t 28)), [], []⟩,
 ⟨(none, .mv 7 (.t 33)), [], []⟩,
 ⟨(none, .mv 8 (.t 38)), [], []⟩])
 (.seq (.ops [(none, .fieldAddr 39 (.t 1) 3),
 (none, .load1 40 (.t 39)),
 (none, .mv 41 (.t 6)),
 (none, .fieldAddr 42 (.t 1) 1),
 (none, .load1 43 (.t 42)),
 (none, .bin 44 .mul (.t 41) (.t 43)),
 (none, .mv 45 (.t 7)),
 (none, .bin 46 .add (.t 44) (.t 45)),
 (none, .idxS 47 1 (.t 40) (.t 46)),
 (none, .load1 48 (.t 47)),
 (none, .bin 49 .eql (.t 48) (.c (.I 1))),
 (none, .mv 50 (.t 49)),
 (some (50, true), .fieldAddr 51 (.t 1) 4),
 (some (50, true), .load1 52 (.t 51)),
 (some (50, true), .mv 53 (.t 6)),
 (some (50, true), .fieldAddr 54 (.t 1) 2),
 (some (50, true), .load1 55 (.t 54)),
 (some (50, true), .bin 56 .mul (.t 53) (.t 55)),
 (some (50, true), .mv 57 (.t 8)),
 (some (50, true), .bin 58 .add (.t 56) (.t 57)),
 (some (50, true), .idxS 59 1 (.t 52) (.t 58)),
 (some (50, true), .load1 60 (.t 59)),
 (some (50, true), .bin 61 .eql (.t 60) (.c (.I 1))),
 (none, .pick 62 (.t 50) (.t 61) (.c (.B false))),
 (none, .mv 63 (.t 62)),
 (some (63, true), .fieldAddr 64 (.t 1) 5),
 (some (63, true), .load1 65 (.t 64)),
 (some (63, true), .mv 66 (.t 7)),
 (some (63, true), .fieldAddr 67 (.t 1) 2),
 (some (63, true), .load1 68 (.t 67)),
 (some (63, true), .bin 69 .mul (.t 66) (.t 68)),
 (some (63, true), .mv 70 (.t 8)),
 (some (63, true), .bin 71 .add (.t 69) (.t 70)),
 (some (63, true), .idxS 72 1 (.t 65) (.t 71)),
 (some (63, true), .load1 73 (.t 72)),
 (some (63, true), .bin 74 .eql (.t 73) (.c (.I 1))),
 (none, .pick 75 (.t 63) (.t 74) (.c (.B false)))])
 (.cond (.t 75) (.draw [⟨(none, .fieldAddr 76 (.t 3) 3), [], []⟩,
 ⟨(none, .load1 77 (.t 76)), [], []⟩,
 ⟨(none, .mv 78 (.t 4)), [], []⟩,
 ⟨(none, .mv 79 (.t 5)), [], []⟩,
 ⟨(none, .idxS 80 3 (.t 78) (.t 79)), [], []⟩,
 ⟨(none, .loadN 81 3 (.t 80)), [], []⟩,
 ⟨(none, .buildSl 82 1 3 [(.I 0), (.I 0), (.I 0)] [(0, 3, (.t 81))]), [], []⟩,
 ⟨(none, .append 83 3 24 (.t 77) (.t 82)), [], []⟩,
 ⟨(none, .fieldAddr 84 (.t 3) 3), [], []⟩,
 ⟨(none, .store 1 (.t 84) (.t 83)), [], []⟩])
 (.skip)))))
 (.ops [(none, .mv 22 (.t 5)),
 (none, .bin 23 .add (.t 22) (.c (.I 1))),
 (none, .mv 5 (.t 23))]))))))
 (.seq (.ops [(none, .loadN 85 4 (.t 3)),
 (none, .store 4 (.t 2) (.t 85))])
 (.ret)))))⟩
end Go.Ab.C

/- That the program has this code. -/
namespace Go.Ab.K
open Go Go.Ab
theorem spec_l3Allowed : prepF Go.Proofs.Tryz.prog F.spec_l3Allowed = some C.spec_l3Allowed := by kernel_rfl
end Go.Ab.K

/- The abstract code of some functions (written by a program of mine from the translation, by way of prepF). -/
namespace Go.Ab.C
open Go.Ab
def impl_Shadow_allowed : AFn :=
 ⟨1, 7, [.tmp 2],
 .seq (.ops [(none, .box 1 (.t 0)),
 (none, .mv 2 (.c (.U 0)))])
 (.seq (.ops [(none, .loadN 3 6 (.t 1)),
 (none, .call (some 4) F.impl_Shadow_box [(.t 3)]),
 (none, .mkf 5 F.impl_Shadow_allowed_1 [(.t 1)]),
 (none, .call (some 6) F.impl_box_those [(.t 4), (.t 5)]),
 (none, .mv 2 (.t 6))])
 (.ret))⟩
def impl_Shadow_allowed_1 : AFn :=
 ⟨2, 20, [.tmp 3],
 .seq (.ops [(none, .box 2 (.t 0)),
 (none, .mv 3 (.c (.B false)))])
 (.seq (.seq (.ops [(none, .mv 5 (.c (.I 0)))])
 (.block 0 (.loop (.seq (.ops [(none, .bin 6 .lss (.t 5) (.c (.I 3)))])
 (.seq (.cond (.t 6) (.skip)
 (.exit 0))
 (.seq (.block 1 (.seq (.ops [(none, .mv 7 (.t 5)),
 (none, .mv 4 (.t 7))])
 (.seq (.draw [⟨(none, .loadN 8 6 (.t 1)), [], []⟩,
 ⟨(none, .mv 9 (.t 4)), [], []⟩,
 ⟨(none, .loadN 11 6 (.t 1)), [], []⟩,
 ⟨(none, .loadN 13 3 (.t 2)), [], []⟩,
 ⟨(none, .mv 14 (.t 4)), [], []⟩,
 ⟨(none, .call (some 10) F.impl_Shadow_list [(.t 8), (.t 9)]), [], [2, 3, 4]⟩,
 ⟨(none, .call (some 12) F.impl_Shadow_box [(.t 11)]), [], [3, 4]⟩,
 ⟨(none, .call (some 15) F.impl_box_line [(.t 12), (.t 13), (.t 14)]), [], []⟩,
 ⟨(none, .idxS 16 1 (.t 10) (.t 15)), [], []⟩,
 ⟨(none, .load1 17 (.t 16)), [], []⟩,
 ⟨(none, .bin 18 .eql (.t 17) (.c (.I 0))), [], []⟩])
 (.cond (.t 18) (.seq (.ops [(none, .mv 3 (.c (.B false)))])
 (.ret))
 (.skip)))))
 (.ops [(none, .bin 19 .add (.t 5) (.c (.I 1))),
 (none, .mv 5 (.t 19))])))))))
 (.seq (.ops [(none, .mv 3 (.c (.B true)))])
 (.ret)))⟩
end Go.Ab.C

/- That the program has this code. -/
namespace Go.Ab.K
open Go Go.Ab
theorem impl_Shadow_allowed : prepF Go.Proofs.Tryz.prog F.impl_Shadow_allowed = some C.impl_Shadow_allowed := by kernel_rfl
theorem impl_Shadow_allowed_1 : prepF Go.Proofs.Tryz.prog F.impl_Shadow_allowed_1 = some C.impl_Shadow_allowed_1 := by kernel_rfl
end Go.Ab.K

/- The abstract code of some functions (written by a program of mine from the translation, by way of prepF). -/
namespace Go.Ab.C
open Go.Ab
def impl_IsShadow : AFn :=
 ⟨1, 28, [.tmp 2],
 .seq (.ops [(none, .box 1 (.t 0)),
 (none, .mv 2 (.c (.B false)))])
 (.seq (.seq (.ops [(none, .loadN 5 6 (.t 1)),
 (none, .call (some 6) F.impl_Shadow_box [(.t 5)]),
 (none, .call (some 7) F.impl_box_valid [(.t 6)]),
 (none, .un 8 .not (.t 7))])
 (.cond (.t 8) (.seq (.ops [(none, .mv 2 (.c (.B false)))])
 (.ret))
 (.skip)))
 (.seq (.seq (.ops [(none, .mv 9 (.c (.I 0)))])
 (.block 0 (.loop (.seq (.ops [(none, .bin 10 .lss (.t 9) (.c (.I 3)))])
 (.seq (.cond (.t 10) (.skip)
 (.exit 0))
 (.seq (.block 1 (.seq (.ops [(none, .mv 11 (.t 9)),
 (none, .mv 3 (.t 11))])
 (.seq (.ops [(none, .loadN 12 6 (.t 1)),
 (none, .mv 13 (.t 3)),
 (none, .call (some 14) F.impl_Shadow_list [(.t 12), (.t 13)]),
 (none, .mv 4 (.t 14))])
 (.seq (.ops [(none, .mv 15 (.t 4)),
 (none, .len 16 (.t 15)),
 (none, .loadN 17 6 (.t 1)),
 (none, .call (some 18) F.impl_Shadow_box [(.t 17)]),
 (none, .mv 19 (.t 3)),
 (none, .call (some 20) F.impl_box_lines [(.t 18), (.t 19)]),
 (none, .bin 21 .neq (.t 16) (.t 20)),
 (none, .mv 22 (.t 21)),
 (some (22, false), .mv 23 (.t 4)),
 (some (22, false), .call (some 24) F.impl_allWithin [(.t 23), (.c (.I 0)), (.c (.I 1))]),
 (some (22, false), .un 25 .not (.t 24)),
 (none, .pick 26 (.t 22) (.c (.B true)) (.t 25))])
 (.cond (.t 26) (.seq (.ops [(none, .mv 2 (.c (.B false)))])
 (.ret))
 (.skip))))))
 (.ops [(none, .bin 27 .add (.t 9) (.c (.I 1))),
 (none, .mv 9 (.t 27))])))))))
 (.seq (.ops [(none, .mv 2 (.c (.B true)))])
 (.ret))))⟩
def impl_box_lines : AFn :=
 ⟨2, 11, [.tmp 4],
 .seq (.ops [(none, .box 2 (.t 0)),
 (none, .mv 4 (.c (.I 0)))])
 (.seq (.draw [⟨(none, .loadN 5 3 (.t 2)), [], []⟩,
 ⟨(none, .mv 7 (.t 1)), [], []⟩,
 ⟨(none, .idxA 8 3 1 (.t 2) (.t 7)), [], []⟩,
 ⟨(none, .load1 9 (.t 8)), [], []⟩,
 ⟨(none, .call (some 6) F.impl_box_size [(.t 5)]), [], [1, 2, 3]⟩,
 ⟨(none, .bin 10 .quo (.t 6) (.t 9)), [], []⟩,
 ⟨(none, .mv 4 (.t 10)), [], []⟩])
 (.ret))⟩
def impl_Shadow_box : AFn :=
 ⟨1, 10, [.cellN 2 3],
 .seq (.ops [(none, .box 1 (.t 0)),
 (none, .alloc 2 [(.I 0), (.I 0), (.I 0)])])
 (.seq (.ops [(none, .fieldAddr 3 (.t 1) 0),
 (none, .load1 4 (.t 3)),
 (none, .fieldAddr 5 (.t 1) 1),
 (none, .load1 6 (.t 5)),
 (none, .fieldAddr 7 (.t 1) 2),
 (none, .load1 8 (.t 7)),
 (none, .build 9 [(.I 0), (.I 0), (.I 0)] [(0, 1, (.t 4)), (1, 1, (.t 6)), (2, 1, (.t 8))]),
 (none, .store 3 (.t 2) (.t 9))])
 (.ret))⟩
def impl_Shadow_list : AFn :=
 ⟨2, 14, [.tmp 4],
 .seq (.ops [(none, .box 2 (.t 0)),
 (none, .mv 4 (.c .nil))])
 (.seq (.ops [(none, .fieldAddr 5 (.t 2) 5),
 (none, .load1 6 (.t 5)),
 (none, .fieldAddr 7 (.t 2) 4),
 (none, .load1 8 (.t 7)),
 (none, .fieldAddr 9 (.t 2) 3),
 (none, .load1 10 (.t 9)),
 (none, .build 11 [.nil, .nil, .nil] [(0, 1, (.t 6)), (1, 1, (.t 8)), (2, 1, (.t 10))]),
 (none, .mv 12 (.t 1)),
 (none, .index 13 3 1 false (.t 11) (.t 12)),
 (none, .mv 4 (.t 13))])
 (.ret))⟩
end Go.Ab.C

/- That the program has this code. -/
namespace Go.Ab.K
open Go Go.Ab
theorem impl_IsShadow : prepF Go.Proofs.Tryz.prog F.impl_IsShadow = some C.impl_IsShadow := by kernel_rfl
theorem impl_box_lines : prepF Go.Proofs.Tryz.prog F.impl_box_lines = some C.impl_box_lines := by kernel_rfl
theorem impl_Shadow_box : prepF Go.Proofs.Tryz.prog F.impl_Shadow_box = some C.impl_Shadow_box := by kernel_rfl
theorem impl_Shadow_list : prepF Go.Proofs.Tryz.prog F.impl_Shadow_list = some C.impl_Shadow_list := by kernel_rfl
end Go.Ab.K

/- The abstract code of some functions (written by a program of mine from the translation, by way of prepF). -/
namespace Go.Ab.C
open Go.Ab
def spec_l3Ones : AFn :=
 ⟨2, 22, [.tmp 4],
 .seq (.ops [(none, .mv 4 (.c (.B false)))])
 (.seq (.seq (.ops [(none, .mv 5 (.c (.I 0)))])
 (.block 0 (.loop (.seq (.seq (.ops [(none, .mv 6 (.t 5)),
 (none, .mv 7 (.t 0)),
 (none, .len 8 (.t 7)),
 (none, .bin 9 .lss (.t 6) (.t 8))])
 (.cond (.t 9) (.skip)
 (.exit 0)))
 (.seq (.block 1 (.seq (.ops [(none, .mv 12 (.t 0)),
 (none, .mv 13 (.t 5)),
 (none, .idxS 14 1 (.t 12) (.t 13)),
 (none, .load1 15 (.t 14)),
 (none, .call (some 16) F.spec_l1In [(.t 15), (.c (.I 0)), (.c (.I 1))]),
 (none, .un 17 .not (.t 16))])
 (.cond (.t 17) (.seq (.ops [(none, .mv 4 (.c (.B false)))])
 (.ret))
 (.skip))))
 (.ops [(none, .mv 10 (.t 5)),
 (none, .bin 11 .add (.t 10) (.c (.I 1))),
 (none, .mv 5 (.t 11))]))))))
 (.seq (.ops [(none, .mv 18 (.t 0)),
 (none, .len 19 (.t 18)),
 (none, .mv 20 (.t 1)),
 (none, .bin 21 .eql (.t 19) (.t 20)),
 (none, .mv 4 (.t 21))])
 (.ret)))⟩
def spec_l3Shadow : AFn :=
 ⟨1, 40, [.tmp 2],
 .seq (.ops [(none, .box 1 (.t 0)),
 (none, .mv 2 (.c (.B false)))])
 (.seq (.ops [(none, .fieldAddr 3 (.t 1) 0),
 (none, .load1 4 (.t 3)),
 (none, .fieldAddr 5 (.t 1) 1),
 (none, .load1 6 (.t 5)),
 (none, .fieldAddr 7 (.t 1) 2),
 (none, .load1 8 (.t 7)),
 (none, .call (some 9) F.spec_l2Sides [(.t 4), (.t 6), (.t 8)]),
 (none, .mv 10 (.t 9)),
 (some (10, true), .fieldAddr 11 (.t 1) 3),
 (some (10, true), .load1 12 (.t 11)),
 (some (10, true), .fieldAddr 13 (.t 1) 0),
 (some (10, true), .load1 14 (.t 13)),
 (some (10, true), .fieldAddr 15 (.t 1) 1),
 (some (10, true), .load1 16 (.t 15)),
 (some (10, true), .bin 17 .mul (.t 14) (.t 16)),
 (some (10, true), .call (some 18) F.spec_l3Ones [(.t 12), (.t 17)]),
 (none, .pick 19 (.t 10) (.t 18) (.c (.B false))),
 (none, .mv 20 (.t 19)),
 (some (20, true), .fieldAddr 21 (.t 1) 4),
 (some (20, true), .load1 22 (.t 21)),
 (some (20, true), .fieldAddr 23 (.t 1) 0),
 (some (20, true), .load1 24 (.t 23)),
 (some (20, true), .fieldAddr 25 (.t 1) 2),
 (some (20, true), .load1 26 (.t 25)),
 (some (20, true), .bin 27 .mul (.t 24) (.t 26)),
 (some (20, true), .call (some 28) F.spec_l3Ones [(.t 22), (.t 27)]),
 (none, .pick 29 (.t 20) (.t 28) (.c (.B false))),
 (none, .mv 30 (.t 29)),
 (some (30, true), .fieldAddr 31 (.t 1) 5),
 (some (30, true), .load1 32 (.t 31)),
 (some (30, true), .fieldAddr 33 (.t 1) 1),
 (some (30, true), .load1 34 (.t 33)),
 (some (30, true), .fieldAddr 35 (.t 1) 2),
 (some (30, true), .load1 36 (.t 35)),
 (some (30, true), .bin 37 .mul (.t 34) (.t 36)),
 (some (30, true), .call (some 38) F.spec_l3Ones [(.t 32), (.t 37)]),
 (none, .pick 39 (.t 30) (.t 38) (.c (.B false))),
 (none, .mv 2 (.t 39))])
 (.ret))⟩
end Go.Ab.C

/- That the program has this code. -/
namespace Go.Ab.K
open Go Go.Ab
theorem spec_l3Ones : prepF Go.Proofs.Tryz.prog F.spec_l3Ones = some C.spec_l3Ones := by kernel_rfl
theorem spec_l3Shadow : prepF Go.Proofs.Tryz.prog F.spec_l3Shadow = some C.spec_l3Shadow := by kernel_rfl
end Go.Ab.K

/- The abstract code of some functions (written by a program of mine from the translation, by way of prepF). -/
namespace Go.Ab.C
open Go.Ab
end Go.Ab.C

/- That the program has this code. -/
namespace Go.Ab.K
open Go Go.Ab
end Go.Ab.K

/- Memories of which one slice's block may have changed; what laws are told of results. -/
namespace Go.Ab
open Go
set_option linter.unusedSimpArgs false
set_option linter.unusedVariables false

/-- What M holds, N holds, but for the block of v. -/
def PreV (v : LV) (M N : Mem) : Prop := M.length ≤ N.length ∧ ∀ u, u < M.length → Off v u → N[u]? = M[u]?
/-- The slices v and w have not the same block. -/
def Apart (v w : LV) : Prop := ∀ t o n, w = .ref t o n → Off v t
theorem PreV.live {v : LV} {M N : Mem} {t : Nat} {b : Blk} (hp : PreV v M N) (h : Live M t b) (ho : Off v t) : Live N t b := by unfold Live; rw [hp.2 t h.lt ho]; exact h
theorem PreV.has {v : LV} {M N : Mem} {t o : Nat} {vs : List LV} (hp : PreV v M N) (h : Has M t o vs) (ho : Off v t) : Has N t o vs := by
  obtain ⟨row, h1, h2⟩ := h
  refine ⟨row, ?_, h2⟩
  unfold getRow at *
  rw [hp.2 t (row_lt (M := M) (by unfold getRow; exact h1)) ho]; exact h1
theorem Marked.pre {M N : Mem} {v r : LV} {k : Int} {n : Nat} (h : Marked M v k n r N) : PreV v M N := ⟨by rw [h.2.2.1]; exact Nat.le_refl _, fun u _ ho => h.2.2.2 u ho⟩
theorem Marked3.pre {M N : Mem} {v r : LV} {k : Int} {n : Nat} (h : Marked3 M v k n r N) : PreV v M N := ⟨by rw [h.2.2.1]; exact Nat.le_refl _, fun u _ ho => h.2.2.2 u ho⟩
theorem PreV.pre {M0 M N : Mem} {v : LV} (hp : PreV v M N) (h : Pre M0 M) (hv : Newer M0 v) : Pre M0 N := ⟨Nat.le_trans h.1 hp.1, fun u hu => by rw [hp.2 u (Nat.lt_of_lt_of_le hu h.1) (hv u hu)]; exact h.2 u hu⟩
/-- The block of the slice lies in M. -/
def Older (M : Mem) (v : LV) : Prop := ∀ t o n, v = .ref t o n → t < M.length
theorem SlI.older {M : Mem} {v : LV} {l : List Int} (h : SlI M v l) : Older M v := fun t o n e => by
  rcases h with ⟨rfl, _⟩ | ⟨t', ex, h1, h2⟩
  · cases e
  · rw [h1] at e; cases e; exact h2.lt
theorem SlC.older {M : Mem} {v : LV} {l : List Cell} (h : SlC M v l) : Older M v := fun t o n e => by
  rcases h with ⟨rfl, _⟩ | ⟨t', ex, h1, h2⟩
  · cases e
  · rw [h1] at e; cases e; exact h2.lt
theorem CellsV.older {M : Mem} {v : LV} {l : List Cell} (h : CellsV M v l) : Older M v := fun t o n e => by
  rcases h with ⟨rfl, _⟩ | ⟨t', o', h1, h2⟩
  · cases e
  · rw [h1] at e; cases e; exact h2.lt
theorem IntsV.older {M : Mem} {v : LV} {l : List Int} (h : IntsV M v l) : Older M v := fun t o n e => by
  rcases h with ⟨rfl, _⟩ | ⟨t', o', h1, h2⟩
  · cases e
  · rw [h1] at e; cases e; exact h2.lt
/-- A newer slice is apart from an older one, and the other way. -/
theorem Newer.apart {M : Mem} {v w : LV} (hv : Newer M v) (hw : Older M w) : Apart v w := fun t o n e => hv t (hw t o n e)
theorem Apart.symm {v w : LV} (h : Apart v w) : Apart w v := fun t o n e => by
  cases w with
  | ref t' o' n' => have := h t' o' n' rfl; subst e; exact fun e => this e.symm
  | _ => trivial
theorem Newer.mono {M N : Mem} {v : LV} (h : Newer N v) (hp : Pre M N) : Newer M v := fun u hu => h u (Nat.lt_of_lt_of_le hu hp.1)

/-- A list of numbers, or none, and whether there is one. -/
def IntsRes (M : Mem) (r : Option (List Int)) (v : LV) (N : Mem) : Prop := ∃ w, v = .tup [w, .B r.isSome] ∧ SlI N w (r.getD []) ∧ Newer M w ∧ Pre M N
/-- A list of cells, or none, and whether there is one. -/
def CellsRes (M : Mem) (r : Option (List Cell)) (v : LV) (N : Mem) : Prop := ∃ w, v = .tup [w, .B r.isSome] ∧ SlC N w (r.getD []) ∧ Newer M w ∧ Pre M N
/-- A call that leaves one new block: where it lies is forgotten. -/
theorem callN_of {P : Program} {f : FuncId} {args : List LV} {M : Mem} {n e : Nat} {vs : List LV} {A : LV → Mem → Prop} (h : CallsTo P f args M (.ref M.length 0 n) (M ++ [some (.row vs true e)]))
    (hA : ∀ (t : Nat) (N : Mem), M.length ≤ t → Pre M N → Live N t (.row vs true e) → A (.ref t 0 n) N) : callK P f args M A := callK_of h (hA _ _ (Nat.le_refl _) (Pre.app _ _) Live.new)

/-- The same for a heap. -/
theorem callH_of {P : Program} {f : FuncId} {args : List LV} {M : Mem} {n e : Nat} {a b c : LV} {vs : List LV} {A : LV → Mem → Prop} (h : CallsTo P f args M (.agg [a, b, c, .ref M.length 0 n]) (M ++ [some (.row vs true e)]))
    (hA : ∀ (t : Nat) (N : Mem), M.length ≤ t → Pre M N → Live N t (.row vs true e) → A (.agg [a, b, c, .ref t 0 n]) N) : callK P f args M A := callK_of h (hA _ _ (Nat.le_refl _) (Pre.app _ _) Live.new)
theorem Live.tri {M : Mem} {t k : Nat} {w : Bool} {cs ex : List Cell} (h : Live M t (.row (triL (cs ++ ex)) w 3)) (hk : k < cs.length) : getCells M t (k * 3) 3 = some (cs.getD k default).row := by
  rw [triL_append] at h
  have := Tri.get (cs := cs) h.hasL hk
  rwa [Nat.zero_add] at this
theorem Live.tri0 {M : Mem} {t k : Nat} {w : Bool} {cs : List Cell} (h : Live M t (.row (triL cs) w 3)) (hk : k < cs.length) : getCells M t (k * 3) 3 = some (cs.getD k default).row := Live.tri (ex := []) (by simpa using h) hk
end Go.Ab

/- Contracts: the laws' helpers on shadows. -/
namespace Go.Ab
open Go
set_option linter.unusedSimpArgs false
set_option linter.unusedVariables false

/-- A shadow as a value, its lists in three blocks behind M. -/
def ShdRes (M : Mem) (x y z : Int) (tp fr sd : List Int) (v : LV) (N : Mem) : Prop := ∃ a b c : Nat, v = .agg [.I x, .I y, .I z, .ref a 0 tp.length, .ref b 0 fr.length, .ref c 0 sd.length] ∧ M.length ≤ a ∧ M.length ≤ b ∧ M.length ≤ c ∧ a ≠ b ∧ a ≠ c ∧ b ≠ c ∧
  Live N a (.row (intL tp) true 1) ∧ Live N b (.row (intL fr) true 1) ∧ Live N c (.row (intL sd) true 1) ∧ Pre M N
end Go.Ab

/- The abstract code of some functions (written by a program of mine from the translation, by way of prepF). -/
namespace Go.Ab.C
open Go.Ab
def impl_others : AFn :=
 ⟨1, 9, [.tmp 2, .tmp 3],
 .seq (.ops [(none, .mv 2 (.c (.I 0))),
 (none, .mv 3 (.c (.I 0)))])
 (.seq (.seq (.ops [(none, .mv 4 (.t 0))])
 (.block 0 (.seq (.ops [(none, .bin 6 .eql (.t 4) (.c (.I 0))),
 (none, .mv 5 (.t 6))])
 (.cond (.t 5) (.seq (.ops [(none, .mv 2 (.c (.I 1))),
 (none, .mv 3 (.c (.I 2)))])
 (.ret))
 (.seq (.ops [(none, .bin 8 .eql (.t 4) (.c (.I 1))),
 (none, .mv 7 (.t 8))])
 (.cond (.t 7) (.seq (.ops [(none, .mv 2 (.c (.I 0))),
 (none, .mv 3 (.c (.I 2)))])
 (.ret))
 (.skip)))))))
 (.seq (.ops [(none, .mv 2 (.c (.I 0))),
 (none, .mv 3 (.c (.I 1)))])
 (.ret)))⟩
def impl_box_line : AFn :=
 ⟨3, 25, [.tmp 6],
 .seq (.ops [(none, .box 3 (.t 0)),
 (none, .box 4 (.t 1)),
 (none, .mv 6 (.c (.I 0)))])
 (.seq (.ops [(none, .mv 10 (.t 2)),
 (none, .call (some 11) F.impl_others [(.t 10)]),
 (none, .mv 9 (.t 11)),
 (none, .extract 12 (.t 9) 0),
 (none, .extract 13 (.t 9) 1),
 (none, .mv 7 (.t 12)),
 (none, .mv 8 (.t 13))])
 (.seq (.draw [⟨(none, .mv 14 (.t 7)), [], []⟩,
 ⟨(none, .idxA 15 3 1 (.t 4) (.t 14)), [], []⟩,
 ⟨(none, .load1 16 (.t 15)), [], []⟩,
 ⟨(none, .mv 17 (.t 8)), [], []⟩,
 ⟨(none, .idxA 18 3 1 (.t 3) (.t 17)), [], []⟩,
 ⟨(none, .load1 19 (.t 18)), [], []⟩,
 ⟨(none, .bin 20 .mul (.t 16) (.t 19)), [], []⟩,
 ⟨(none, .mv 21 (.t 8)), [], []⟩,
 ⟨(none, .idxA 22 3 1 (.t 4) (.t 21)), [], []⟩,
 ⟨(none, .load1 23 (.t 22)), [], []⟩,
 ⟨(none, .bin 24 .add (.t 20) (.t 23)), [], []⟩,
 ⟨(none, .mv 6 (.t 24)), [], []⟩])
 (.ret)))⟩
def impl_allWithin : AFn :=
 ⟨3, 21, [.tmp 6],
 .seq (.ops [(none, .mv 6 (.c (.B false)))])
 (.seq (.seq (.ops [(none, .mv 9 (.t 0)),
 (none, .len 10 (.t 9)),
 (none, .mv 11 (.c (.I 0)))])
 (.block 0 (.loop (.seq (.ops [(none, .bin 12 .lss (.t 11) (.t 10))])
 (.seq (.cond (.t 12) (.skip)
 (.exit 0))
 (.seq (.block 1 (.seq (.ops [(none, .idxS 13 1 (.t 9) (.t 11)),
 (none, .load1 14 (.t 13)),
 (none, .mv 8 (.t 14))])
 (.seq (.ops [(none, .mv 15 (.t 8)),
 (none, .mv 16 (.t 1)),
 (none, .mv 17 (.t 2)),
 (none, .call (some 18) F.impl_within [(.t 15), (.t 16), (.t 17)]),
 (none, .un 19 .not (.t 18))])
 (.cond (.t 19) (.seq (.ops [(none, .mv 6 (.c (.B false)))])
 (.ret))
 (.skip)))))
 (.ops [(none, .bin 20 .add (.t 11) (.c (.I 1))),
 (none, .mv 11 (.t 20))])))))))
 (.seq (.ops [(none, .mv 6 (.c (.B true)))])
 (.ret)))⟩
end Go.Ab.C

/- That the program has this code. -/
namespace Go.Ab.K
open Go Go.Ab
theorem impl_others : prepF Go.Proofs.Tryz.prog F.impl_others = some C.impl_others := by kernel_rfl
theorem impl_box_line : prepF Go.Proofs.Tryz.prog F.impl_box_line = some C.impl_box_line := by kernel_rfl
theorem impl_allWithin : prepF Go.Proofs.Tryz.prog F.impl_allWithin = some C.impl_allWithin := by kernel_rfl
end Go.Ab.K

/- The abstract code of some functions (written by a program of mine from the translation, by way of prepF). -/
namespace Go.Ab.C
open Go.Ab
def cmp_isNaN_int : AFn :=
 ⟨1, 6, [.tmp 2],
 .seq (.ops [(none, .mv 2 (.c (.B false)))])
 (.seq (.ops [(none, .mv 3 (.t 0)),
 (none, .mv 4 (.t 0)),
 (none, .bin 5 .neq (.t 3) (.t 4)),
 (none, .mv 2 (.t 5))])
 (.ret))⟩
def cmp_Compare_int : AFn :=
 ⟨2, 20, [.tmp 4],
 .seq (.ops [(none, .mv 4 (.c (.I 0)))])
 (.seq (.ops [(none, .mv 7 (.t 0)),
 (none, .call (some 8) F.cmp_isNaN_int [(.t 7)]),
 (none, .mv 5 (.t 8))])
 (.seq (.ops [(none, .mv 9 (.t 1)),
 (none, .call (some 10) F.cmp_isNaN_int [(.t 9)]),
 (none, .mv 6 (.t 10))])
 (.seq (.seq (.ops [(none, .mv 11 (.t 5))])
 (.cond (.t 11) (.seq (.seq (.ops [(none, .mv 12 (.t 6))])
 (.cond (.t 12) (.seq (.ops [(none, .mv 4 (.c (.I 0)))])
 (.ret))
 (.skip)))
 (.seq (.ops [(none, .mv 4 (.c (.I (-1))))])
 (.ret)))
 (.skip)))
 (.seq (.seq (.ops [(none, .mv 13 (.t 6))])
 (.cond (.t 13) (.seq (.ops [(none, .mv 4 (.c (.I 1)))])
 (.ret))
 (.skip)))
 (.seq (.seq (.ops [(none, .mv 14 (.t 0)),
 (none, .mv 15 (.t 1)),
 (none, .bin 16 .lss (.t 14) (.t 15))])
 (.cond (.t 16) (.seq (.ops [(none, .mv 4 (.c (.I (-1))))])
 (.ret))
 (.skip)))
 (.seq (.seq (.ops [(none, .mv 17 (.t 0)),
 (none, .mv 18 (.t 1)),
 (none, .bin 19 .gtr (.t 17) (.t 18))])
 (.cond (.t 19) (.seq (.ops [(none, .mv 4 (.c (.I 1)))])
 (.ret))
 (.skip)))
 (.seq (.ops [(none, .mv 4 (.c (.I 0)))])
 (.ret))))))))⟩
def slices_Compare_Sint_int : AFn :=
 ⟨2, 36, [.tmp 4],
 .seq (.ops [(none, .mv 4 (.c (.I 0)))])
 (.seq (.seq (.ops [(none, .mv 9 (.t 0)),
 (none, .len 10 (.t 9)),
 (none, .mv 11 (.c (.I 0)))])
 (.block 0 (.loop (.seq (.ops [(none, .bin 12 .lss (.t 11) (.t 10))])
 (.seq (.cond (.t 12) (.skip)
 (.exit 0))
 (.seq (.block 1 (.seq (.ops [(none, .mv 13 (.t 11)),
 (none, .idxS 14 1 (.t 9) (.t 11)),
 (none, .load1 15 (.t 14)),
 (none, .mv 5 (.t 13)),
 (none, .mv 6 (.t 15))])
 (.seq (.seq (.ops [(none, .mv 16 (.t 5)),
 (none, .mv 17 (.t 1)),
 (none, .len 18 (.t 17)),
 (none, .bin 19 .geq (.t 16) (.t 18))])
 (.cond (.t 19) (.seq (.ops [(none, .mv 4 (.c (.I 1)))])
 (.ret))
 (.skip)))
 (.seq (.ops [(none, .mv 20 (.t 1)),
 (none, .mv 21 (.t 5)),
 (none, .idxS 22 1 (.t 20) (.t 21)),
 (none, .load1 23 (.t 22)),
 (none, .mv 7 (.t 23))])
 (.seq (.ops [(none, .mv 24 (.t 6)),
 (none, .mv 25 (.t 7)),
 (none, .call (some 26) F.cmp_Compare_int [(.t 24), (.t 25)]),
 (none, .mv 8 (.t 26))])
 (.seq (.ops [(none, .mv 27 (.t 8)),
 (none, .bin 28 .neq (.t 27) (.c (.I 0)))])
 (.cond (.t 28) (.seq (.ops [(none, .mv 29 (.t 8)),
 (none, .mv 4 (.t 29))])
 (.ret))
 (.skip))))))))
 (.ops [(none, .bin 30 .add (.t 11) (.c (.I 1))),
 (none, .mv 11 (.t 30))])))))))
 (.seq (.seq (.ops [(none, .mv 31 (.t 0)),
 (none, .len 32 (.t 31)),
 (none, .mv 33 (.t 1)),
 (none, .len 34 (.t 33)),
 (none, .bin 35 .lss (.t 32) (.t 34))])
 (.cond (.t 35) (.seq (.ops [(none, .mv 4 (.c (.I (-1))))])
 (.ret))
 (.skip)))
 (.seq (.ops [(none, .mv 4 (.c (.I 0)))])
 (.ret))))⟩
def impl_within : AFn :=
 ⟨3, 15, [.tmp 6],
 .seq (.ops [(none, .mv 6 (.c (.B false)))])
 (.seq (.ops [(none, .mv 7 (.t 0)),
 (none, .mv 8 (.t 1)),
 (none, .bin 9 .geq (.t 7) (.t 8)),
 (none, .mv 10 (.t 9)),
 (some (10, true), .mv 11 (.t 0)),
 (some (10, true), .mv 12 (.t 2)),
 (some (10, true), .bin 13 .leq (.t 11) (.t 12)),
 (none, .pick 14 (.t 10) (.t 13) (.c (.B false))),
 (none, .mv 6 (.t 14))])
 (.ret))⟩
def impl_Heap_box : AFn :=
 ⟨1, 10, [.cellN 2 3],
 .seq (.ops [(none, .box 1 (.t 0)),
 (none, .alloc 2 [(.I 0), (.I 0), (.I 0)])])
 (.seq (.ops [(none, .fieldAddr 3 (.t 1) 0),
 (none, .load1 4 (.t 3)),
 (none, .fieldAddr 5 (.t 1) 1),
 (none, .load1 6 (.t 5)),
 (none, .fieldAddr 7 (.t 1) 2),
 (none, .load1 8 (.t 7)),
 (none, .build 9 [(.I 0), (.I 0), (.I 0)] [(0, 1, (.t 4)), (1, 1, (.t 6)), (2, 1, (.t 8))]),
 (none, .store 3 (.t 2) (.t 9))])
 (.ret))⟩
def impl_box_valid : AFn :=
 ⟨1, 16, [.tmp 2],
 .seq (.ops [(none, .box 1 (.t 0)),
 (none, .mv 2 (.c (.B false)))])
 (.seq (.ops [(none, .idxA 3 3 1 (.t 1) (.c (.I 0))),
 (none, .load1 4 (.t 3)),
 (none, .call (some 5) F.impl_within [(.t 4), (.c (.I 1)), (.c (.I 4))]),
 (none, .mv 6 (.t 5)),
 (some (6, true), .idxA 7 3 1 (.t 1) (.c (.I 1))),
 (some (6, true), .load1 8 (.t 7)),
 (some (6, true), .call (some 9) F.impl_within [(.t 8), (.c (.I 1)), (.c (.I 4))]),
 (none, .pick 10 (.t 6) (.t 9) (.c (.B false))),
 (none, .mv 11 (.t 10)),
 (some (11, true), .idxA 12 3 1 (.t 1) (.c (.I 2))),
 (some (11, true), .load1 13 (.t 12)),
 (some (11, true), .call (some 14) F.impl_within [(.t 13), (.c (.I 1)), (.c (.I 4))]),
 (none, .pick 15 (.t 11) (.t 14) (.c (.B false))),
 (none, .mv 2 (.t 15))])
 (.ret))⟩
def impl_box_has : AFn :=
 ⟨2, 27, [.tmp 4],
 .seq (.ops [(none, .box 2 (.t 0)),
 (none, .box 3 (.t 1)),
 (none, .mv 4 (.c (.B false)))])
 (.seq (.ops [(none, .idxA 5 3 1 (.t 3) (.c (.I 0))),
 (none, .load1 6 (.t 5)),
 (none, .idxA 7 3 1 (.t 2) (.c (.I 0))),
 (none, .load1 8 (.t 7)),
 (none, .bin 9 .sub (.t 8) (.c (.I 1))),
 (none, .call (some 10) F.impl_within [(.t 6), (.c (.I 0)), (.t 9)]),
 (none, .mv 11 (.t 10)),
 (some (11, true), .idxA 12 3 1 (.t 3) (.c (.I 1))),
 (some (11, true), .load1 13 (.t 12)),
 (some (11, true), .idxA 14 3 1 (.t 2) (.c (.I 1))),
 (some (11, true), .load1 15 (.t 14)),
 (some (11, true), .bin 16 .sub (.t 15) (.c (.I 1))),
 (some (11, true), .call (some 17) F.impl_within [(.t 13), (.c (.I 0)), (.t 16)]),
 (none, .pick 18 (.t 11) (.t 17) (.c (.B false))),
 (none, .mv 19 (.t 18)),
 (some (19, true), .idxA 20 3 1 (.t 3) (.c (.I 2))),
 (some (19, true), .load1 21 (.t 20)),
 (some (19, true), .idxA 22 3 1 (.t 2) (.c (.I 2))),
 (some (19, true), .load1 23 (.t 22)),
 (some (19, true), .bin 24 .sub (.t 23) (.c (.I 1))),
 (some (19, true), .call (some 25) F.impl_within [(.t 21), (.c (.I 0)), (.t 24)]),
 (none, .pick 26 (.t 19) (.t 25) (.c (.B false))),
 (none, .mv 4 (.t 26))])
 (.ret))⟩
def impl_compareCells : AFn :=
 ⟨2, 8, [.tmp 4],
 .seq (.ops [(none, .box 2 (.t 0)),
 (none, .box 3 (.t 1)),
 (none, .mv 4 (.c (.I 0)))])
 (.seq (.draw [⟨(none, .slA 5 3 1 (.t 2) none none), [], []⟩,
 ⟨(none, .slA 6 3 1 (.t 3) none none), [], []⟩,
 ⟨(none, .call (some 7) F.slices_Compare_Sint_int [(.t 5), (.t 6)]), [], []⟩,
 ⟨(none, .mv 4 (.t 7)), [], []⟩])
 (.ret))⟩
def impl_IsHeap : AFn :=
 ⟨1, 38, [.tmp 2],
 .seq (.ops [(none, .box 1 (.t 0)),
 (none, .mv 2 (.c (.B false)))])
 (.seq (.seq (.ops [(none, .loadN 5 4 (.t 1)),
 (none, .call (some 6) F.impl_Heap_box [(.t 5)]),
 (none, .call (some 7) F.impl_box_valid [(.t 6)]),
 (none, .un 8 .not (.t 7))])
 (.cond (.t 8) (.seq (.ops [(none, .mv 2 (.c (.B false)))])
 (.ret))
 (.skip)))
 (.seq (.seq (.ops [(none, .fieldAddr 9 (.t 1) 3),
 (none, .load1 10 (.t 9)),
 (none, .len 11 (.t 10)),
 (none, .mv 12 (.c (.I 0)))])
 (.block 0 (.loop (.seq (.ops [(none, .bin 13 .lss (.t 12) (.t 11))])
 (.seq (.cond (.t 13) (.skip)
 (.exit 0))
 (.seq (.block 1 (.seq (.ops [(none, .mv 14 (.t 12)),
 (none, .idxS 15 3 (.t 10) (.t 12)),
 (none, .loadN 16 3 (.t 15)),
 (none, .alloc 4 [(.I 0), (.I 0), (.I 0)]),
 (none, .mv 3 (.t 14)),
 (none, .store 3 (.t 4) (.t 16))])
 (.seq (.draw [⟨(none, .loadN 17 4 (.t 1)), [], []⟩,
 ⟨(none, .loadN 19 3 (.t 4)), [], []⟩,
 ⟨(none, .call (some 18) F.impl_Heap_box [(.t 17)]), [], [1]⟩,
 ⟨(none, .call (some 20) F.impl_box_has [(.t 18), (.t 19)]), [], []⟩,
 ⟨(none, .un 21 .not (.t 20)), [], []⟩,
 ⟨(none, .mv 22 (.t 21)), [], []⟩,
 ⟨(some (22, false), .mv 23 (.t 3)), [], []⟩,
 ⟨(some (22, false), .bin 24 .gtr (.t 23) (.c (.I 0))), [], []⟩,
 ⟨(some (22, false), .mv 25 (.t 24)), [], []⟩,
 ⟨(some (25, true), .fieldAddr 26 (.t 1) 3), [], []⟩,
 ⟨(some (25, true), .load1 27 (.t 26)), [], []⟩,
 ⟨(some (25, true), .mv 28 (.t 3)), [], []⟩,
 ⟨(some (25, true), .bin 29 .sub (.t 28) (.c (.I 1))), [], []⟩,
 ⟨(some (25, true), .idxS 30 3 (.t 27) (.t 29)), [], []⟩,
 ⟨(some (25, true), .loadN 31 3 (.t 30)), [], []⟩,
 ⟨(some (25, true), .loadN 32 3 (.t 4)), [], []⟩,
 ⟨(some (25, true), .call (some 33) F.impl_compareCells [(.t 31), (.t 32)]), [], []⟩,
 ⟨(some (25, true), .bin 34 .geq (.t 33) (.c (.I 0))), [], []⟩,
 ⟨(some (22, false), .pick 35 (.t 25) (.t 34) (.c (.B false))), [], []⟩,
 ⟨(none, .pick 36 (.t 22) (.c (.B true)) (.t 35)), [], []⟩])
 (.cond (.t 36) (.seq (.ops [(none, .mv 2 (.c (.B false)))])
 (.ret))
 (.skip)))))
 (.ops [(none, .bin 37 .add (.t 12) (.c (.I 1))),
 (none, .mv 12 (.t 37))])))))))
 (.seq (.ops [(none, .mv 2 (.c (.B true)))])
 (.ret))))⟩
end Go.Ab.C

/- That the program has this code. -/
namespace Go.Ab.K
open Go Go.Ab
theorem cmp_isNaN_int : prepF Go.Proofs.Tryz.prog F.cmp_isNaN_int = some C.cmp_isNaN_int := by kernel_rfl
theorem cmp_Compare_int : prepF Go.Proofs.Tryz.prog F.cmp_Compare_int = some C.cmp_Compare_int := by kernel_rfl
theorem slices_Compare_Sint_int : prepF Go.Proofs.Tryz.prog F.slices_Compare_Sint_int = some C.slices_Compare_Sint_int := by kernel_rfl
theorem impl_within : prepF Go.Proofs.Tryz.prog F.impl_within = some C.impl_within := by kernel_rfl
theorem impl_Heap_box : prepF Go.Proofs.Tryz.prog F.impl_Heap_box = some C.impl_Heap_box := by kernel_rfl
theorem impl_box_valid : prepF Go.Proofs.Tryz.prog F.impl_box_valid = some C.impl_box_valid := by kernel_rfl
theorem impl_box_has : prepF Go.Proofs.Tryz.prog F.impl_box_has = some C.impl_box_has := by kernel_rfl
theorem impl_compareCells : prepF Go.Proofs.Tryz.prog F.impl_compareCells = some C.impl_compareCells := by kernel_rfl
theorem impl_IsHeap : prepF Go.Proofs.Tryz.prog F.impl_IsHeap = some C.impl_IsHeap := by kernel_rfl
end Go.Ab.K

/- Plain words for heaps: sides, cells, order, heights of columns. -/
namespace Go.Ab

def Sides (x y z : Int) : Prop := (1 ≤ x ∧ x ≤ 4) ∧ (1 ≤ y ∧ y ≤ 4) ∧ (1 ≤ z ∧ z ≤ 4)
instance (x y z : Int) : Decidable (Sides x y z) := by unfold Sides; infer_instance
def Cell.lt (p q : Cell) : Prop := p.a < q.a ∨ (p.a = q.a ∧ (p.b < q.b ∨ (p.b = q.b ∧ p.c < q.c)))
instance (p q : Cell) : Decidable (p.lt q) := by unfold Cell.lt; infer_instance
def Cell.inBox (x y z : Int) (c : Cell) : Prop := (0 ≤ c.a ∧ c.a ≤ x - 1) ∧ (0 ≤ c.b ∧ c.b ≤ y - 1) ∧ (0 ≤ c.c ∧ c.c ≤ z - 1)
instance (x y z : Int) (c : Cell) : Decidable (c.inBox x y z) := by unfold Cell.inBox; infer_instance
/-- A valid heap. -/
def HeapOK (x y z : Int) (cs : List Cell) : Prop :=
  Sides x y z ∧ ∀ k, k < cs.length → (cs.getD k default).inBox x y z ∧ (0 < k → (cs.getD (k - 1) default).lt (cs.getD k default))
noncomputable instance (x y z : Int) (cs : List Cell) : Decidable (HeapOK x y z cs) := Classical.propDecidable _

/-- The heights of columns. -/
def topStep (y : Int) (out : List Int) (c : Cell) : List Int := out.set (c.a * y + c.b).toNat (max (out.getD (c.a * y + c.b).toNat 0) (c.c + 1))
def topsOf (x y : Int) (cs : List Cell) : List Int := cs.foldl (topStep y) (List.replicate (x * y).toNat 0)

def apart (p q : Cell) : Int := max (p.a - q.a) (q.a - p.a) + max (p.b - q.b) (q.b - p.b) + max (p.c - q.c) (q.c - p.c)
def colOf (y p : Int) : Cell := ⟨p.tdiv y, p.tmod y, 0⟩
def nums (n : Nat) : List Int := (List.range n).map Int.ofNat
def nexts (x y p : Int) : List Int := (nums (x * y).toNat).filter fun q => decide (apart (colOf y p) (colOf y q) = 1)
def gap (a b : Int) : Int := max (a - b) (b - a)
def stepsOf (x y : Int) (ts : List Int) (p s : Int) : List Int := (nexts x y p).filter fun q => decide (gap (ts.getD q.toNat 0) (ts.getD p.toNat 0) ≤ s)

end Go.Ab

/- Contracts: the program's boxes, cells, valid heaps. -/
namespace Go.Ab
open Go
set_option linter.unusedSimpArgs false
set_option linter.unusedVariables false

theorem g_within {n lo hi : Int} {M : Mem} : CallsTo PG F.impl_within [.I n, .I lo, .I hi] M (.B (decide (lo ≤ n ∧ n ≤ hi))) M := by
  refine calls_run K.impl_within rfl ?_
  simp (disch := omega) only [C.impl_within, ↓SXd, SXu, slBounds, ↓sop, ↓aop, ↓reduceIte, LV.cells, AOp.dst, LV.I, LV.B, LV.U, LV.S, LV.nil, Nat.reduceEqDiff, Nat.reduceAdd, Nat.reduceMul, Nat.reduceSub, Nat.reduceLeDiff, Nat.reduceBEq, Nat.reduceDiv, Nat.reduceMod, Int.reduceToNat, Int.reduceLT, Int.reduceLE, Int.reduceAdd, Int.reduceSub, Int.reduceMul, Int.reduceEq, Int.reduceNeg, reduceCtorEq, resV, resAll, ARes.ev, LV.flat, ite_true, ite_false, exists_eq_left', exists_eq_left, keyOf, implies_true, fillC, capOf]
  by_cases h1 : lo ≤ n
  · simp (disch := omega) only [h1, ↓SXd, SXu, slBounds, ↓sop, ↓aop, ↓reduceIte, LV.cells, AOp.dst, LV.I, LV.B, LV.U, LV.S, LV.nil, Nat.reduceEqDiff, Nat.reduceAdd, Nat.reduceMul, Nat.reduceSub, Nat.reduceLeDiff, Nat.reduceBEq, Nat.reduceDiv, Nat.reduceMod, Int.reduceToNat, Int.reduceLT, Int.reduceLE, Int.reduceAdd, Int.reduceSub, Int.reduceMul, Int.reduceEq, Int.reduceNeg, reduceCtorEq, resV, resAll, ARes.ev, LV.flat, ite_true, ite_false, exists_eq_left', exists_eq_left, keyOf, implies_true, fillC, capOf]
    exact cmp_drop0 rfl
  · simp (disch := omega) only [h1, ↓SXd, SXu, slBounds, ↓sop, ↓aop, ↓reduceIte, LV.cells, AOp.dst, LV.I, LV.B, LV.U, LV.S, LV.nil, Nat.reduceEqDiff, Nat.reduceAdd, Nat.reduceMul, Nat.reduceSub, Nat.reduceLeDiff, Nat.reduceBEq, Nat.reduceDiv, Nat.reduceMod, Int.reduceToNat, Int.reduceLT, Int.reduceLE, Int.reduceAdd, Int.reduceSub, Int.reduceMul, Int.reduceEq, Int.reduceNeg, reduceCtorEq, resV, resAll, ARes.ev, LV.flat, ite_true, ite_false, exists_eq_left', exists_eq_left, keyOf, implies_true, fillC, capOf]
    exact cmp_drop0 rfl

theorem g_box {x y z : Int} {v : LV} {M : Mem} : CallsTo PG F.impl_Heap_box [.agg [.I x, .I y, .I z, v]] M (.agg [.I x, .I y, .I z]) M := by
  refine calls_run K.impl_Heap_box rfl ?_
  simp (disch := omega) only [C.impl_Heap_box, ↓SXd, SXu, slBounds, ↓sop, ↓aop, ↓reduceIte, LV.cells, AOp.dst, LV.I, LV.B, LV.U, LV.S, LV.nil, Nat.reduceEqDiff, Nat.reduceAdd, Nat.reduceMul, Nat.reduceSub, Nat.reduceLeDiff, Nat.reduceBEq, Nat.reduceDiv, Nat.reduceMod, Int.reduceToNat, Int.reduceLT, Int.reduceLE, Int.reduceAdd, Int.reduceSub, Int.reduceMul, Int.reduceEq, Int.reduceNeg, reduceCtorEq, resV, resAll, ARes.ev, LV.flat, ite_true, ite_false, exists_eq_left', exists_eq_left, keyOf, implies_true, fillC, capOf]
  exact cmp_drop rfl

theorem g_valid {x y z : Int} {M : Mem} : CallsTo PG F.impl_box_valid [.agg [.I x, .I y, .I z]] M (.B (decide (Sides x y z))) M := by
  refine calls_run K.impl_box_valid rfl ?_
  simp (disch := omega) only [C.impl_box_valid, ↓SXd, SXu, slBounds, ↓sop, ↓aop, ↓reduceIte, LV.cells, AOp.dst, LV.I, LV.B, LV.U, LV.S, LV.nil, Nat.reduceEqDiff, Nat.reduceAdd, Nat.reduceMul, Nat.reduceSub, Nat.reduceLeDiff, Nat.reduceBEq, Nat.reduceDiv, Nat.reduceMod, Int.reduceToNat, Int.reduceLT, Int.reduceLE, Int.reduceAdd, Int.reduceSub, Int.reduceMul, Int.reduceEq, Int.reduceNeg, reduceCtorEq, resV, resAll, ARes.ev, LV.flat, ite_true, ite_false, exists_eq_left', exists_eq_left, keyOf, implies_true, fillC, capOf]
  refine callK_of g_within ?_
  simp (disch := omega) only [↓SXd, SXu, slBounds, ↓sop, ↓aop, ↓reduceIte, LV.cells, AOp.dst, LV.I, LV.B, LV.U, LV.S, LV.nil, Nat.reduceEqDiff, Nat.reduceAdd, Nat.reduceMul, Nat.reduceSub, Nat.reduceLeDiff, Nat.reduceBEq, Nat.reduceDiv, Nat.reduceMod, Int.reduceToNat, Int.reduceLT, Int.reduceLE, Int.reduceAdd, Int.reduceSub, Int.reduceMul, Int.reduceEq, Int.reduceNeg, reduceCtorEq, resV, resAll, ARes.ev, LV.flat, ite_true, ite_false, exists_eq_left', exists_eq_left, keyOf, implies_true, fillC, capOf]
  unfold Sides
  by_cases h1 : 1 ≤ x ∧ x ≤ 4
  · simp (disch := omega) only [h1, ↓SXd, SXu, slBounds, ↓sop, ↓aop, ↓reduceIte, LV.cells, AOp.dst, LV.I, LV.B, LV.U, LV.S, LV.nil, Nat.reduceEqDiff, Nat.reduceAdd, Nat.reduceMul, Nat.reduceSub, Nat.reduceLeDiff, Nat.reduceBEq, Nat.reduceDiv, Nat.reduceMod, Int.reduceToNat, Int.reduceLT, Int.reduceLE, Int.reduceAdd, Int.reduceSub, Int.reduceMul, Int.reduceEq, Int.reduceNeg, reduceCtorEq, resV, resAll, ARes.ev, LV.flat, ite_true, ite_false, exists_eq_left', exists_eq_left, keyOf, implies_true, fillC, capOf]
    refine callK_of g_within ?_
    simp (disch := omega) only [↓SXd, SXu, slBounds, ↓sop, ↓aop, ↓reduceIte, LV.cells, AOp.dst, LV.I, LV.B, LV.U, LV.S, LV.nil, Nat.reduceEqDiff, Nat.reduceAdd, Nat.reduceMul, Nat.reduceSub, Nat.reduceLeDiff, Nat.reduceBEq, Nat.reduceDiv, Nat.reduceMod, Int.reduceToNat, Int.reduceLT, Int.reduceLE, Int.reduceAdd, Int.reduceSub, Int.reduceMul, Int.reduceEq, Int.reduceNeg, reduceCtorEq, resV, resAll, ARes.ev, LV.flat, ite_true, ite_false, exists_eq_left', exists_eq_left, keyOf, implies_true, fillC, capOf]
    by_cases h2 : 1 ≤ y ∧ y ≤ 4
    · simp (disch := omega) only [h2, ↓SXd, SXu, slBounds, ↓sop, ↓aop, ↓reduceIte, LV.cells, AOp.dst, LV.I, LV.B, LV.U, LV.S, LV.nil, Nat.reduceEqDiff, Nat.reduceAdd, Nat.reduceMul, Nat.reduceSub, Nat.reduceLeDiff, Nat.reduceBEq, Nat.reduceDiv, Nat.reduceMod, Int.reduceToNat, Int.reduceLT, Int.reduceLE, Int.reduceAdd, Int.reduceSub, Int.reduceMul, Int.reduceEq, Int.reduceNeg, reduceCtorEq, resV, resAll, ARes.ev, LV.flat, ite_true, ite_false, exists_eq_left', exists_eq_left, keyOf, implies_true, fillC, capOf]
      refine callK_of g_within ?_
      simp (disch := omega) only [↓SXd, SXu, slBounds, ↓sop, ↓aop, ↓reduceIte, LV.cells, AOp.dst, LV.I, LV.B, LV.U, LV.S, LV.nil, Nat.reduceEqDiff, Nat.reduceAdd, Nat.reduceMul, Nat.reduceSub, Nat.reduceLeDiff, Nat.reduceBEq, Nat.reduceDiv, Nat.reduceMod, Int.reduceToNat, Int.reduceLT, Int.reduceLE, Int.reduceAdd, Int.reduceSub, Int.reduceMul, Int.reduceEq, Int.reduceNeg, reduceCtorEq, resV, resAll, ARes.ev, LV.flat, ite_true, ite_false, exists_eq_left', exists_eq_left, keyOf, implies_true, fillC, capOf]
      exact cmp_drop rfl
    · simp (disch := omega) only [h2, false_and, ↓SXd, SXu, slBounds, ↓sop, ↓aop, ↓reduceIte, LV.cells, AOp.dst, LV.I, LV.B, LV.U, LV.S, LV.nil, Nat.reduceEqDiff, Nat.reduceAdd, Nat.reduceMul, Nat.reduceSub, Nat.reduceLeDiff, Nat.reduceBEq, Nat.reduceDiv, Nat.reduceMod, Int.reduceToNat, Int.reduceLT, Int.reduceLE, Int.reduceAdd, Int.reduceSub, Int.reduceMul, Int.reduceEq, Int.reduceNeg, reduceCtorEq, resV, resAll, ARes.ev, LV.flat, ite_true, ite_false, exists_eq_left', exists_eq_left, keyOf, implies_true, fillC, capOf]
      exact cmp_drop rfl
  · simp (disch := omega) only [h1, false_and, ↓SXd, SXu, slBounds, ↓sop, ↓aop, ↓reduceIte, LV.cells, AOp.dst, LV.I, LV.B, LV.U, LV.S, LV.nil, Nat.reduceEqDiff, Nat.reduceAdd, Nat.reduceMul, Nat.reduceSub, Nat.reduceLeDiff, Nat.reduceBEq, Nat.reduceDiv, Nat.reduceMod, Int.reduceToNat, Int.reduceLT, Int.reduceLE, Int.reduceAdd, Int.reduceSub, Int.reduceMul, Int.reduceEq, Int.reduceNeg, reduceCtorEq, resV, resAll, ARes.ev, LV.flat, ite_true, ite_false, exists_eq_left', exists_eq_left, keyOf, implies_true, fillC, capOf]
    exact cmp_drop rfl

theorem g_has {x y z a b c : Int} {M : Mem} (hS : Sides x y z) : CallsTo PG F.impl_box_has [.agg [.I x, .I y, .I z], .agg [.I a, .I b, .I c]] M (.B (decide (Cell.inBox x y z ⟨a, b, c⟩))) M := by
  obtain ⟨hx, hy, hz⟩ := hS
  refine calls_run K.impl_box_has rfl ?_
  simp (disch := omega) only [C.impl_box_has, ↓SXd, SXu, slBounds, ↓sop, ↓aop, ↓reduceIte, LV.cells, AOp.dst, LV.I, LV.B, LV.U, LV.S, LV.nil, Nat.reduceEqDiff, Nat.reduceAdd, Nat.reduceMul, Nat.reduceSub, Nat.reduceLeDiff, Nat.reduceBEq, Nat.reduceDiv, Nat.reduceMod, Int.reduceToNat, Int.reduceLT, Int.reduceLE, Int.reduceAdd, Int.reduceSub, Int.reduceMul, Int.reduceEq, Int.reduceNeg, reduceCtorEq, resV, resAll, ARes.ev, LV.flat, ite_true, ite_false, exists_eq_left', exists_eq_left, keyOf, implies_true, fillC, capOf]
  refine callK_of g_within ?_
  simp (disch := omega) only [↓SXd, SXu, slBounds, ↓sop, ↓aop, ↓reduceIte, LV.cells, AOp.dst, LV.I, LV.B, LV.U, LV.S, LV.nil, Nat.reduceEqDiff, Nat.reduceAdd, Nat.reduceMul, Nat.reduceSub, Nat.reduceLeDiff, Nat.reduceBEq, Nat.reduceDiv, Nat.reduceMod, Int.reduceToNat, Int.reduceLT, Int.reduceLE, Int.reduceAdd, Int.reduceSub, Int.reduceMul, Int.reduceEq, Int.reduceNeg, reduceCtorEq, resV, resAll, ARes.ev, LV.flat, ite_true, ite_false, exists_eq_left', exists_eq_left, keyOf, implies_true, fillC, capOf]
  unfold Cell.inBox
  by_cases h1 : 0 ≤ a ∧ a ≤ x - 1
  · simp (disch := omega) only [h1, ↓SXd, SXu, slBounds, ↓sop, ↓aop, ↓reduceIte, LV.cells, AOp.dst, LV.I, LV.B, LV.U, LV.S, LV.nil, Nat.reduceEqDiff, Nat.reduceAdd, Nat.reduceMul, Nat.reduceSub, Nat.reduceLeDiff, Nat.reduceBEq, Nat.reduceDiv, Nat.reduceMod, Int.reduceToNat, Int.reduceLT, Int.reduceLE, Int.reduceAdd, Int.reduceSub, Int.reduceMul, Int.reduceEq, Int.reduceNeg, reduceCtorEq, resV, resAll, ARes.ev, LV.flat, ite_true, ite_false, exists_eq_left', exists_eq_left, keyOf, implies_true, fillC, capOf]
    refine callK_of g_within ?_
    simp (disch := omega) only [↓SXd, SXu, slBounds, ↓sop, ↓aop, ↓reduceIte, LV.cells, AOp.dst, LV.I, LV.B, LV.U, LV.S, LV.nil, Nat.reduceEqDiff, Nat.reduceAdd, Nat.reduceMul, Nat.reduceSub, Nat.reduceLeDiff, Nat.reduceBEq, Nat.reduceDiv, Nat.reduceMod, Int.reduceToNat, Int.reduceLT, Int.reduceLE, Int.reduceAdd, Int.reduceSub, Int.reduceMul, Int.reduceEq, Int.reduceNeg, reduceCtorEq, resV, resAll, ARes.ev, LV.flat, ite_true, ite_false, exists_eq_left', exists_eq_left, keyOf, implies_true, fillC, capOf]
    by_cases h2 : 0 ≤ b ∧ b ≤ y - 1
    · simp (disch := omega) only [h2, ↓SXd, SXu, slBounds, ↓sop, ↓aop, ↓reduceIte, LV.cells, AOp.dst, LV.I, LV.B, LV.U, LV.S, LV.nil, Nat.reduceEqDiff, Nat.reduceAdd, Nat.reduceMul, Nat.reduceSub, Nat.reduceLeDiff, Nat.reduceBEq, Nat.reduceDiv, Nat.reduceMod, Int.reduceToNat, Int.reduceLT, Int.reduceLE, Int.reduceAdd, Int.reduceSub, Int.reduceMul, Int.reduceEq, Int.reduceNeg, reduceCtorEq, resV, resAll, ARes.ev, LV.flat, ite_true, ite_false, exists_eq_left', exists_eq_left, keyOf, implies_true, fillC, capOf]
      refine callK_of g_within ?_
      simp (disch := omega) only [↓SXd, SXu, slBounds, ↓sop, ↓aop, ↓reduceIte, LV.cells, AOp.dst, LV.I, LV.B, LV.U, LV.S, LV.nil, Nat.reduceEqDiff, Nat.reduceAdd, Nat.reduceMul, Nat.reduceSub, Nat.reduceLeDiff, Nat.reduceBEq, Nat.reduceDiv, Nat.reduceMod, Int.reduceToNat, Int.reduceLT, Int.reduceLE, Int.reduceAdd, Int.reduceSub, Int.reduceMul, Int.reduceEq, Int.reduceNeg, reduceCtorEq, resV, resAll, ARes.ev, LV.flat, ite_true, ite_false, exists_eq_left', exists_eq_left, keyOf, implies_true, fillC, capOf]
      exact cmp_drop rfl
    · simp (disch := omega) only [h2, false_and, ↓SXd, SXu, slBounds, ↓sop, ↓aop, ↓reduceIte, LV.cells, AOp.dst, LV.I, LV.B, LV.U, LV.S, LV.nil, Nat.reduceEqDiff, Nat.reduceAdd, Nat.reduceMul, Nat.reduceSub, Nat.reduceLeDiff, Nat.reduceBEq, Nat.reduceDiv, Nat.reduceMod, Int.reduceToNat, Int.reduceLT, Int.reduceLE, Int.reduceAdd, Int.reduceSub, Int.reduceMul, Int.reduceEq, Int.reduceNeg, reduceCtorEq, resV, resAll, ARes.ev, LV.flat, ite_true, ite_false, exists_eq_left', exists_eq_left, keyOf, implies_true, fillC, capOf]
      exact cmp_drop rfl
  · simp (disch := omega) only [h1, false_and, ↓SXd, SXu, slBounds, ↓sop, ↓aop, ↓reduceIte, LV.cells, AOp.dst, LV.I, LV.B, LV.U, LV.S, LV.nil, Nat.reduceEqDiff, Nat.reduceAdd, Nat.reduceMul, Nat.reduceSub, Nat.reduceLeDiff, Nat.reduceBEq, Nat.reduceDiv, Nat.reduceMod, Int.reduceToNat, Int.reduceLT, Int.reduceLE, Int.reduceAdd, Int.reduceSub, Int.reduceMul, Int.reduceEq, Int.reduceNeg, reduceCtorEq, resV, resAll, ARes.ev, LV.flat, ite_true, ite_false, exists_eq_left', exists_eq_left, keyOf, implies_true, fillC, capOf]
    exact cmp_drop rfl

theorem g_isNaN {n : Int} {M : Mem} : CallsTo PG F.cmp_isNaN_int [.I n] M (.B false) M := by
  refine calls_run K.cmp_isNaN_int rfl ?_
  simp (disch := omega) only [C.cmp_isNaN_int, ↓SXd, SXu, slBounds, ↓sop, ↓aop, ↓reduceIte, LV.cells, AOp.dst, LV.I, LV.B, LV.U, LV.S, LV.nil, Nat.reduceEqDiff, Nat.reduceAdd, Nat.reduceMul, Nat.reduceSub, Nat.reduceLeDiff, Nat.reduceBEq, Nat.reduceDiv, Nat.reduceMod, Int.reduceToNat, Int.reduceLT, Int.reduceLE, Int.reduceAdd, Int.reduceSub, Int.reduceMul, Int.reduceEq, Int.reduceNeg, reduceCtorEq, resV, resAll, ARes.ev, LV.flat, ite_true, ite_false, exists_eq_left', exists_eq_left, keyOf, implies_true, fillC, capOf]
  exact cmp_drop0 rfl

def cmpI (a b : Int) : Int := if a < b then -1 else if b < a then 1 else 0
theorem g_cmp {a b : Int} {M : Mem} : CallsTo PG F.cmp_Compare_int [.I a, .I b] M (.I (cmpI a b)) M := by
  refine calls_run K.cmp_Compare_int rfl ?_
  simp (disch := omega) only [C.cmp_Compare_int, ↓SXd, SXu, slBounds, ↓sop, ↓aop, ↓reduceIte, LV.cells, AOp.dst, LV.I, LV.B, LV.U, LV.S, LV.nil, Nat.reduceEqDiff, Nat.reduceAdd, Nat.reduceMul, Nat.reduceSub, Nat.reduceLeDiff, Nat.reduceBEq, Nat.reduceDiv, Nat.reduceMod, Int.reduceToNat, Int.reduceLT, Int.reduceLE, Int.reduceAdd, Int.reduceSub, Int.reduceMul, Int.reduceEq, Int.reduceNeg, reduceCtorEq, resV, resAll, ARes.ev, LV.flat, ite_true, ite_false, exists_eq_left', exists_eq_left, keyOf, implies_true, fillC, capOf]
  refine callK_of g_isNaN ?_
  simp (disch := omega) only [↓SXd, SXu, slBounds, ↓sop, ↓aop, ↓reduceIte, LV.cells, AOp.dst, LV.I, LV.B, LV.U, LV.S, LV.nil, Nat.reduceEqDiff, Nat.reduceAdd, Nat.reduceMul, Nat.reduceSub, Nat.reduceLeDiff, Nat.reduceBEq, Nat.reduceDiv, Nat.reduceMod, Int.reduceToNat, Int.reduceLT, Int.reduceLE, Int.reduceAdd, Int.reduceSub, Int.reduceMul, Int.reduceEq, Int.reduceNeg, reduceCtorEq, resV, resAll, ARes.ev, LV.flat, ite_true, ite_false, exists_eq_left', exists_eq_left, keyOf, implies_true, fillC, capOf]
  refine callK_of g_isNaN ?_
  simp (disch := omega) only [↓SXd, SXu, slBounds, ↓sop, ↓aop, ↓reduceIte, LV.cells, AOp.dst, LV.I, LV.B, LV.U, LV.S, LV.nil, Nat.reduceEqDiff, Nat.reduceAdd, Nat.reduceMul, Nat.reduceSub, Nat.reduceLeDiff, Nat.reduceBEq, Nat.reduceDiv, Nat.reduceMod, Int.reduceToNat, Int.reduceLT, Int.reduceLE, Int.reduceAdd, Int.reduceSub, Int.reduceMul, Int.reduceEq, Int.reduceNeg, reduceCtorEq, resV, resAll, ARes.ev, LV.flat, ite_true, ite_false, exists_eq_left', exists_eq_left, keyOf, implies_true, fillC, capOf]
  refine condC_dec (fun h1 => ?_) (fun h1 => ?_) <;> simp (disch := omega) only [↓SXd, SXu, slBounds, ↓sop, ↓aop, ↓reduceIte, LV.cells, AOp.dst, LV.I, LV.B, LV.U, LV.S, LV.nil, Nat.reduceEqDiff, Nat.reduceAdd, Nat.reduceMul, Nat.reduceSub, Nat.reduceLeDiff, Nat.reduceBEq, Nat.reduceDiv, Nat.reduceMod, Int.reduceToNat, Int.reduceLT, Int.reduceLE, Int.reduceAdd, Int.reduceSub, Int.reduceMul, Int.reduceEq, Int.reduceNeg, reduceCtorEq, resV, resAll, ARes.ev, LV.flat, ite_true, ite_false, exists_eq_left', exists_eq_left, keyOf, implies_true, fillC, capOf]
  · rw [show cmpI a b = -1 by simp [cmpI, h1]]; exact cmp_drop0 rfl
  · refine condC_dec (fun h2 => ?_) (fun h2 => ?_) <;> simp (disch := omega) only [↓SXd, SXu, slBounds, ↓sop, ↓aop, ↓reduceIte, LV.cells, AOp.dst, LV.I, LV.B, LV.U, LV.S, LV.nil, Nat.reduceEqDiff, Nat.reduceAdd, Nat.reduceMul, Nat.reduceSub, Nat.reduceLeDiff, Nat.reduceBEq, Nat.reduceDiv, Nat.reduceMod, Int.reduceToNat, Int.reduceLT, Int.reduceLE, Int.reduceAdd, Int.reduceSub, Int.reduceMul, Int.reduceEq, Int.reduceNeg, reduceCtorEq, resV, resAll, ARes.ev, LV.flat, ite_true, ite_false, exists_eq_left', exists_eq_left, keyOf, implies_true, fillC, capOf]
    · rw [show cmpI a b = 1 by simp [cmpI, h1, h2]]; exact cmp_drop0 rfl
    · rw [show cmpI a b = 0 by simp [cmpI, h1, h2]]; exact cmp_drop0 rfl

/-- Two lists of numbers, compared. -/
def cmpL : List Int → List Int → Int
  | [], [] => 0
  | [], _ :: _ => -1
  | _ :: _, [] => 1
  | a :: r, b :: r' => if cmpI a b = 0 then cmpL r r' else cmpI a b

theorem g_compare {xs ys : List Int} {t o t' o' : Nat} {M : Mem} (h : Ints M t o xs) (h' : Ints M t' o' ys) (hn : xs.length ≤ 1000000000) (hn' : ys.length ≤ 1000000000) :
    CallsTo PG F.slices_Compare_Sint_int [.ref t o xs.length, .ref t' o' ys.length] M (.I (cmpL xs ys)) M := by
  refine calls_run K.slices_Compare_Sint_int rfl ?_
  simp (disch := omega) only [C.slices_Compare_Sint_int, ↓SXd, SXu, slBounds, ↓sop, ↓aop, ↓reduceIte, LV.cells, AOp.dst, LV.I, LV.B, LV.U, LV.S, LV.nil, Nat.reduceEqDiff, Nat.reduceAdd, Nat.reduceMul, Nat.reduceSub, Nat.reduceLeDiff, Nat.reduceBEq, Nat.reduceDiv, Nat.reduceMod, Int.reduceToNat, Int.reduceLT, Int.reduceLE, Int.reduceAdd, Int.reduceSub, Int.reduceMul, Int.reduceEq, Int.reduceNeg, reduceCtorEq, resV, resAll, ARes.ev, LV.flat, ite_true, ite_false, exists_eq_left', exists_eq_left, keyOf, implies_true, fillC, capOf]
  refine ev_loop (fun m fr M' => ∃ k : Nat, k + m = xs.length ∧ M' = M ∧ k ≤ ys.length ∧ fr 0 = .ref t o xs.length ∧ fr 1 = .ref t' o' ys.length ∧ fr 9 = .ref t o xs.length ∧ fr 10 = .I (xs.length : Nat) ∧ fr 11 = .I k ∧ cmpL xs ys = cmpL (xs.drop k) (ys.drop k)) xs.length
    ⟨0, by omega, rfl, by omega, rfl, rfl, rfl, rfl, rfl, rfl⟩ ?_
  rintro m fr M' ⟨k, hk, rfl, hky, h0, h1, h9, h10, h11, he⟩
  simp (disch := omega) only [h0, h1, h9, h10, h11, ↓SXd, SXu, slBounds, ↓sop, ↓aop, ↓reduceIte, LV.cells, AOp.dst, LV.I, LV.B, LV.U, LV.S, LV.nil, Nat.reduceEqDiff, Nat.reduceAdd, Nat.reduceMul, Nat.reduceSub, Nat.reduceLeDiff, Nat.reduceBEq, Nat.reduceDiv, Nat.reduceMod, Int.reduceToNat, Int.reduceLT, Int.reduceLE, Int.reduceAdd, Int.reduceSub, Int.reduceMul, Int.reduceEq, Int.reduceNeg, reduceCtorEq, resV, resAll, ARes.ev, LV.flat, ite_true, ite_false, exists_eq_left', exists_eq_left, keyOf, implies_true, fillC, capOf]
  refine condC_dec (fun hlt => ?_) (fun hlt => ?_)
  · have hx : xs.drop k = xs.getD k 0 :: xs.drop (k + 1) := by
      rw [List.drop_eq_getElem_cons (show k < xs.length by omega)]; simp [show k < xs.length by omega]
    simp (disch := omega) only [h0, h1, h9, h10, h11, Ints.get h, ↓SXd, SXu, slBounds, ↓sop, ↓aop, ↓reduceIte, LV.cells, AOp.dst, LV.I, LV.B, LV.U, LV.S, LV.nil, Nat.reduceEqDiff, Nat.reduceAdd, Nat.reduceMul, Nat.reduceSub, Nat.reduceLeDiff, Nat.reduceBEq, Nat.reduceDiv, Nat.reduceMod, Int.reduceToNat, Int.reduceLT, Int.reduceLE, Int.reduceAdd, Int.reduceSub, Int.reduceMul, Int.reduceEq, Int.reduceNeg, reduceCtorEq, resV, resAll, ARes.ev, LV.flat, ite_true, ite_false, exists_eq_left', exists_eq_left, keyOf, implies_true, fillC, capOf]
    refine condC_dec (fun h2 => ?_) (fun h2 => ?_)
    · simp (disch := omega) only [h0, h1, h9, h10, h11, ↓SXd, SXu, slBounds, ↓sop, ↓aop, ↓reduceIte, LV.cells, AOp.dst, LV.I, LV.B, LV.U, LV.S, LV.nil, Nat.reduceEqDiff, Nat.reduceAdd, Nat.reduceMul, Nat.reduceSub, Nat.reduceLeDiff, Nat.reduceBEq, Nat.reduceDiv, Nat.reduceMod, Int.reduceToNat, Int.reduceLT, Int.reduceLE, Int.reduceAdd, Int.reduceSub, Int.reduceMul, Int.reduceEq, Int.reduceNeg, reduceCtorEq, resV, resAll, ARes.ev, LV.flat, ite_true, ite_false, exists_eq_left', exists_eq_left, keyOf, implies_true, fillC, capOf]
      have : ys.drop k = [] := List.drop_eq_nil_of_le (by omega)
      rw [he, hx, this]; exact cmp_drop0 rfl
    · have hy : ys.drop k = ys.getD k 0 :: ys.drop (k + 1) := by
        rw [List.drop_eq_getElem_cons (show k < ys.length by omega)]; simp [show k < ys.length by omega]
      simp (disch := omega) only [h0, h1, h9, h10, h11, Ints.get h, Ints.get h', ↓SXd, SXu, slBounds, ↓sop, ↓aop, ↓reduceIte, LV.cells, AOp.dst, LV.I, LV.B, LV.U, LV.S, LV.nil, Nat.reduceEqDiff, Nat.reduceAdd, Nat.reduceMul, Nat.reduceSub, Nat.reduceLeDiff, Nat.reduceBEq, Nat.reduceDiv, Nat.reduceMod, Int.reduceToNat, Int.reduceLT, Int.reduceLE, Int.reduceAdd, Int.reduceSub, Int.reduceMul, Int.reduceEq, Int.reduceNeg, reduceCtorEq, resV, resAll, ARes.ev, LV.flat, ite_true, ite_false, exists_eq_left', exists_eq_left, keyOf, implies_true, fillC, capOf]
      refine callK_of g_cmp ?_
      simp (disch := omega) only [h0, h1, h9, h10, h11, ↓SXd, SXu, slBounds, ↓sop, ↓aop, ↓reduceIte, LV.cells, AOp.dst, LV.I, LV.B, LV.U, LV.S, LV.nil, Nat.reduceEqDiff, Nat.reduceAdd, Nat.reduceMul, Nat.reduceSub, Nat.reduceLeDiff, Nat.reduceBEq, Nat.reduceDiv, Nat.reduceMod, Int.reduceToNat, Int.reduceLT, Int.reduceLE, Int.reduceAdd, Int.reduceSub, Int.reduceMul, Int.reduceEq, Int.reduceNeg, reduceCtorEq, resV, resAll, ARes.ev, LV.flat, ite_true, ite_false, exists_eq_left', exists_eq_left, keyOf, implies_true, fillC, capOf]
      refine condC_dec (fun h3 => ?_) (fun h3 => ?_)
      · simp (disch := omega) only [h0, h1, h9, h10, h11, ↓SXd, SXu, slBounds, ↓sop, ↓aop, ↓reduceIte, LV.cells, AOp.dst, LV.I, LV.B, LV.U, LV.S, LV.nil, Nat.reduceEqDiff, Nat.reduceAdd, Nat.reduceMul, Nat.reduceSub, Nat.reduceLeDiff, Nat.reduceBEq, Nat.reduceDiv, Nat.reduceMod, Int.reduceToNat, Int.reduceLT, Int.reduceLE, Int.reduceAdd, Int.reduceSub, Int.reduceMul, Int.reduceEq, Int.reduceNeg, reduceCtorEq, resV, resAll, ARes.ev, LV.flat, ite_true, ite_false, exists_eq_left', exists_eq_left, keyOf, implies_true, fillC, capOf]
        exact ⟨m - 1, by omega, k + 1, by omega, rfl, by omega, h0, h1, h9, h10, eqI (natI _), by rw [he, hx, hy, cmpL, if_pos h3]⟩
      · simp (disch := omega) only [h0, h1, h9, h10, h11, ↓SXd, SXu, slBounds, ↓sop, ↓aop, ↓reduceIte, LV.cells, AOp.dst, LV.I, LV.B, LV.U, LV.S, LV.nil, Nat.reduceEqDiff, Nat.reduceAdd, Nat.reduceMul, Nat.reduceSub, Nat.reduceLeDiff, Nat.reduceBEq, Nat.reduceDiv, Nat.reduceMod, Int.reduceToNat, Int.reduceLT, Int.reduceLE, Int.reduceAdd, Int.reduceSub, Int.reduceMul, Int.reduceEq, Int.reduceNeg, reduceCtorEq, resV, resAll, ARes.ev, LV.flat, ite_true, ite_false, exists_eq_left', exists_eq_left, keyOf, implies_true, fillC, capOf]
        rw [he, hx, hy, cmpL, if_neg h3]; exact cmp_drop0 rfl
  · simp (disch := omega) only [h0, h1, h9, h10, h11, ↓SXd, SXu, slBounds, ↓sop, ↓aop, ↓reduceIte, LV.cells, AOp.dst, LV.I, LV.B, LV.U, LV.S, LV.nil, Nat.reduceEqDiff, Nat.reduceAdd, Nat.reduceMul, Nat.reduceSub, Nat.reduceLeDiff, Nat.reduceBEq, Nat.reduceDiv, Nat.reduceMod, Int.reduceToNat, Int.reduceLT, Int.reduceLE, Int.reduceAdd, Int.reduceSub, Int.reduceMul, Int.reduceEq, Int.reduceNeg, reduceCtorEq, resV, resAll, ARes.ev, LV.flat, ite_true, ite_false, exists_eq_left', exists_eq_left, keyOf, implies_true, fillC, capOf]
    have hx : xs.drop k = [] := List.drop_eq_nil_of_le (by omega)
    refine condC_dec (fun h2 => ?_) (fun h2 => ?_) <;> simp (disch := omega) only [h0, h1, h9, h10, h11, ↓SXd, SXu, slBounds, ↓sop, ↓aop, ↓reduceIte, LV.cells, AOp.dst, LV.I, LV.B, LV.U, LV.S, LV.nil, Nat.reduceEqDiff, Nat.reduceAdd, Nat.reduceMul, Nat.reduceSub, Nat.reduceLeDiff, Nat.reduceBEq, Nat.reduceDiv, Nat.reduceMod, Int.reduceToNat, Int.reduceLT, Int.reduceLE, Int.reduceAdd, Int.reduceSub, Int.reduceMul, Int.reduceEq, Int.reduceNeg, reduceCtorEq, resV, resAll, ARes.ev, LV.flat, ite_true, ite_false, exists_eq_left', exists_eq_left, keyOf, implies_true, fillC, capOf]
    · have hy : ys.drop k = ys.getD k 0 :: ys.drop (k + 1) := by
        rw [List.drop_eq_getElem_cons (show k < ys.length by omega)]; simp [show k < ys.length by omega]
      rw [he, hx, hy]; exact cmp_drop0 rfl
    · have hy : ys.drop k = [] := List.drop_eq_nil_of_le (by omega)
      rw [he, hx, hy]; exact cmp_drop0 rfl

theorem cmpL_lt {a b c a' b' c' : Int} : 0 ≤ cmpL [a, b, c] [a', b', c'] ↔ ¬ Cell.lt ⟨a, b, c⟩ ⟨a', b', c'⟩ := by
  have hc : ∀ a b : Int, cmpI a b = if a < b then -1 else if b < a then 1 else 0 := fun _ _ => rfl
  simp only [cmpL, hc, Cell.lt]
  by_cases h1 : a < a' <;> by_cases h2 : a' < a <;> by_cases h3 : b < b' <;> by_cases h4 : b' < b <;> by_cases h5 : c < c' <;> by_cases h6 : c' < c <;> simp only [h1, h2, h3, h4, h5, h6, if_true, if_false] <;> simp <;> omega

theorem g_compareCells {a b c a' b' c' : Int} {M : Mem} : CallsTo PG F.impl_compareCells [.agg [.I a, .I b, .I c], .agg [.I a', .I b', .I c']] M (.I (cmpL [a, b, c] [a', b', c'])) M := by
  refine calls_run K.impl_compareCells rfl ?_
  simp (disch := omega) only [C.impl_compareCells, slBounds, Option.isSome_some, and_self, if_true, ↓SXd, SXu, slBounds, ↓sop, ↓aop, ↓reduceIte, LV.cells, AOp.dst, LV.I, LV.B, LV.U, LV.S, LV.nil, Nat.reduceEqDiff, Nat.reduceAdd, Nat.reduceMul, Nat.reduceSub, Nat.reduceLeDiff, Nat.reduceBEq, Nat.reduceDiv, Nat.reduceMod, Int.reduceToNat, Int.reduceLT, Int.reduceLE, Int.reduceAdd, Int.reduceSub, Int.reduceMul, Int.reduceEq, Int.reduceNeg, reduceCtorEq, resV, resAll, ARes.ev, LV.flat, ite_true, ite_false, exists_eq_left', exists_eq_left, keyOf, implies_true, fillC, capOf]
  refine callK_of (g_compare (xs := [a, b, c]) (ys := [a', b', c']) (o := 0) (o' := 0) (Live.new (b := .row (intL [a, b, c]) true 0)).has (Live.newj (j := 1) (b := .row (intL [a', b', c']) true 0) rfl).has (by simp) (by simp)) ?_
  simp (disch := omega) only [↓SXd, SXu, slBounds, ↓sop, ↓aop, ↓reduceIte, LV.cells, AOp.dst, LV.I, LV.B, LV.U, LV.S, LV.nil, Nat.reduceEqDiff, Nat.reduceAdd, Nat.reduceMul, Nat.reduceSub, Nat.reduceLeDiff, Nat.reduceBEq, Nat.reduceDiv, Nat.reduceMod, Int.reduceToNat, Int.reduceLT, Int.reduceLE, Int.reduceAdd, Int.reduceSub, Int.reduceMul, Int.reduceEq, Int.reduceNeg, reduceCtorEq, resV, resAll, ARes.ev, LV.flat, ite_true, ite_false, exists_eq_left', exists_eq_left, keyOf, implies_true, fillC, capOf]
  exact cmp_drop rfl

theorem g_IsHeap {x y z : Int} {t o : Nat} {cs : List Cell} {M : Mem} (h : Tri M t o cs) (hn : cs.length ≤ 1000000000) :
    CallsTo PG F.impl_IsHeap [.agg [.I x, .I y, .I z, .ref t o cs.length]] M (.B (decide (HeapOK x y z cs))) M := by
  refine calls_run K.impl_IsHeap rfl ?_
  simp (disch := omega) only [C.impl_IsHeap, ↓SXd, SXu, slBounds, ↓sop, ↓aop, ↓reduceIte, LV.cells, AOp.dst, LV.I, LV.B, LV.U, LV.S, LV.nil, Nat.reduceEqDiff, Nat.reduceAdd, Nat.reduceMul, Nat.reduceSub, Nat.reduceLeDiff, Nat.reduceBEq, Nat.reduceDiv, Nat.reduceMod, Int.reduceToNat, Int.reduceLT, Int.reduceLE, Int.reduceAdd, Int.reduceSub, Int.reduceMul, Int.reduceEq, Int.reduceNeg, reduceCtorEq, resV, resAll, ARes.ev, LV.flat, ite_true, ite_false, exists_eq_left', exists_eq_left, keyOf, implies_true, fillC, capOf]
  refine callK_of g_box ?_
  simp (disch := omega) only [↓SXd, SXu, slBounds, ↓sop, ↓aop, ↓reduceIte, LV.cells, AOp.dst, LV.I, LV.B, LV.U, LV.S, LV.nil, Nat.reduceEqDiff, Nat.reduceAdd, Nat.reduceMul, Nat.reduceSub, Nat.reduceLeDiff, Nat.reduceBEq, Nat.reduceDiv, Nat.reduceMod, Int.reduceToNat, Int.reduceLT, Int.reduceLE, Int.reduceAdd, Int.reduceSub, Int.reduceMul, Int.reduceEq, Int.reduceNeg, reduceCtorEq, resV, resAll, ARes.ev, LV.flat, ite_true, ite_false, exists_eq_left', exists_eq_left, keyOf, implies_true, fillC, capOf]
  refine callK_of g_valid ?_
  simp (disch := omega) only [↓SXd, SXu, slBounds, ↓sop, ↓aop, ↓reduceIte, LV.cells, AOp.dst, LV.I, LV.B, LV.U, LV.S, LV.nil, Nat.reduceEqDiff, Nat.reduceAdd, Nat.reduceMul, Nat.reduceSub, Nat.reduceLeDiff, Nat.reduceBEq, Nat.reduceDiv, Nat.reduceMod, Int.reduceToNat, Int.reduceLT, Int.reduceLE, Int.reduceAdd, Int.reduceSub, Int.reduceMul, Int.reduceEq, Int.reduceNeg, reduceCtorEq, resV, resAll, ARes.ev, LV.flat, ite_true, ite_false, exists_eq_left', exists_eq_left, keyOf, implies_true, fillC, capOf]
  by_cases hS : Sides x y z
  · simp (disch := omega) only [hS, ↓SXd, SXu, slBounds, ↓sop, ↓aop, ↓reduceIte, LV.cells, AOp.dst, LV.I, LV.B, LV.U, LV.S, LV.nil, Nat.reduceEqDiff, Nat.reduceAdd, Nat.reduceMul, Nat.reduceSub, Nat.reduceLeDiff, Nat.reduceBEq, Nat.reduceDiv, Nat.reduceMod, Int.reduceToNat, Int.reduceLT, Int.reduceLE, Int.reduceAdd, Int.reduceSub, Int.reduceMul, Int.reduceEq, Int.reduceNeg, reduceCtorEq, resV, resAll, ARes.ev, LV.flat, ite_true, ite_false, exists_eq_left', exists_eq_left, keyOf, implies_true, fillC, capOf]
    refine ev_loop (fun m fr M' => ∃ k : Nat, k + m = cs.length ∧ Pre M M' ∧ Live M' M.length (.row [.I x, .I y, .I z, .ref t o cs.length] true 0) ∧ fr 1 = .ptr M.length 0 ∧ fr 10 = .ref t o cs.length ∧ fr 11 = .I (cs.length : Nat) ∧ fr 12 = .I k ∧
      ∀ j, j < k → (cs.getD j default).inBox x y z ∧ (0 < j → (cs.getD (j - 1) default).lt (cs.getD j default))) cs.length ⟨0, by omega, Pre.app _ _, Live.new, rfl, rfl, rfl, rfl, by omega⟩ ?_
    rintro m fr M' ⟨k, hk, hpre, hbox, h1, h10, h11, h12, hj⟩
    have h' : Tri M' t o cs := h.pre hpre
    have ht := h'.lt
    simp (disch := omega) only [h1, h10, h11, h12, ↓SXd, SXu, slBounds, ↓sop, ↓aop, ↓reduceIte, LV.cells, AOp.dst, LV.I, LV.B, LV.U, LV.S, LV.nil, Nat.reduceEqDiff, Nat.reduceAdd, Nat.reduceMul, Nat.reduceSub, Nat.reduceLeDiff, Nat.reduceBEq, Nat.reduceDiv, Nat.reduceMod, Int.reduceToNat, Int.reduceLT, Int.reduceLE, Int.reduceAdd, Int.reduceSub, Int.reduceMul, Int.reduceEq, Int.reduceNeg, reduceCtorEq, resV, resAll, ARes.ev, LV.flat, ite_true, ite_false, exists_eq_left', exists_eq_left, keyOf, implies_true, fillC, capOf]
    refine condC_dec (fun hlt => ?_) (fun hlt => ?_)
    · have hbox' : ∀ {L : Mem} {o n : Nat}, getCells (M' ++ L) M.length o n = _ := fun {L o n} => (hbox.app (L := L)).cells
      have hboxc : ∀ {L : Mem} {o : Nat}, getCell (M' ++ L) M.length o = _ := fun {L o} => (hbox.app (L := L)).cell
      simp (disch := omega) only [h1, h10, h11, h12, Tri.get h', Cell.row, hbox', hboxc, ↓SXd, SXu, slBounds, ↓sop, ↓aop, ↓reduceIte, LV.cells, AOp.dst, LV.I, LV.B, LV.U, LV.S, LV.nil, Nat.reduceEqDiff, Nat.reduceAdd, Nat.reduceMul, Nat.reduceSub, Nat.reduceLeDiff, Nat.reduceBEq, Nat.reduceDiv, Nat.reduceMod, Int.reduceToNat, Int.reduceLT, Int.reduceLE, Int.reduceAdd, Int.reduceSub, Int.reduceMul, Int.reduceEq, Int.reduceNeg, reduceCtorEq, resV, resAll, ARes.ev, LV.flat, ite_true, ite_false, exists_eq_left', exists_eq_left, keyOf, implies_true, fillC, capOf]
      refine callK_of g_box ?_
      simp (disch := omega) only [h1, h10, h11, h12, Tri.get h', Cell.row, hbox', hboxc, ↓SXd, SXu, slBounds, ↓sop, ↓aop, ↓reduceIte, LV.cells, AOp.dst, LV.I, LV.B, LV.U, LV.S, LV.nil, Nat.reduceEqDiff, Nat.reduceAdd, Nat.reduceMul, Nat.reduceSub, Nat.reduceLeDiff, Nat.reduceBEq, Nat.reduceDiv, Nat.reduceMod, Int.reduceToNat, Int.reduceLT, Int.reduceLE, Int.reduceAdd, Int.reduceSub, Int.reduceMul, Int.reduceEq, Int.reduceNeg, reduceCtorEq, resV, resAll, ARes.ev, LV.flat, ite_true, ite_false, exists_eq_left', exists_eq_left, keyOf, implies_true, fillC, capOf]
      refine callK_of (g_has hS) ?_
      simp (disch := omega) only [h1, h10, h11, h12, Cell.row, cell_eta, ↓SXd, SXu, slBounds, ↓sop, ↓aop, ↓reduceIte, LV.cells, AOp.dst, LV.I, LV.B, LV.U, LV.S, LV.nil, Nat.reduceEqDiff, Nat.reduceAdd, Nat.reduceMul, Nat.reduceSub, Nat.reduceLeDiff, Nat.reduceBEq, Nat.reduceDiv, Nat.reduceMod, Int.reduceToNat, Int.reduceLT, Int.reduceLE, Int.reduceAdd, Int.reduceSub, Int.reduceMul, Int.reduceEq, Int.reduceNeg, reduceCtorEq, resV, resAll, ARes.ev, LV.flat, ite_true, ite_false, exists_eq_left', exists_eq_left, keyOf, implies_true, fillC, capOf]
      by_cases hin : (cs.getD k default).inBox x y z
      · by_cases hk0 : k = 0
        · subst hk0
          simp (disch := omega) only [hin, h1, h10, h11, h12, cell_eta, Int.natCast_zero, gt_iff_lt, Int.lt_irrefl, ↓SXd, SXu, slBounds, ↓sop, ↓aop, ↓reduceIte, LV.cells, AOp.dst, LV.I, LV.B, LV.U, LV.S, LV.nil, Nat.reduceEqDiff, Nat.reduceAdd, Nat.reduceMul, Nat.reduceSub, Nat.reduceLeDiff, Nat.reduceBEq, Nat.reduceDiv, Nat.reduceMod, Int.reduceToNat, Int.reduceLT, Int.reduceLE, Int.reduceAdd, Int.reduceSub, Int.reduceMul, Int.reduceEq, Int.reduceNeg, reduceCtorEq, resV, resAll, ARes.ev, LV.flat, ite_true, ite_false, exists_eq_left', exists_eq_left, keyOf, implies_true, fillC, capOf]
          exact ⟨m - 1, by omega, 1, by omega, Pre.app' hpre, hbox.app, h1, h10, h11, rfl, fun j hj1 => by
            have : j = 0 := by omega
            subst this
            exact ⟨hin, by omega⟩⟩
        · have e1 : ((k : Int) - 1).toNat = k - 1 := by omega
          have e2 : (0 : Int) < k := by omega
          simp (disch := omega) only [hin, h1, h10, h11, h12, getCells_app, Tri.get h', Cell.row, cell_eta, hbox', hboxc, e1, e2, ↓SXd, SXu, slBounds, ↓sop, ↓aop, ↓reduceIte, LV.cells, AOp.dst, LV.I, LV.B, LV.U, LV.S, LV.nil, Nat.reduceEqDiff, Nat.reduceAdd, Nat.reduceMul, Nat.reduceSub, Nat.reduceLeDiff, Nat.reduceBEq, Nat.reduceDiv, Nat.reduceMod, Int.reduceToNat, Int.reduceLT, Int.reduceLE, Int.reduceAdd, Int.reduceSub, Int.reduceMul, Int.reduceEq, Int.reduceNeg, reduceCtorEq, resV, resAll, ARes.ev, LV.flat, ite_true, ite_false, exists_eq_left', exists_eq_left, keyOf, implies_true, fillC, capOf]
          refine callK_of g_compareCells ?_
          simp (disch := omega) only [hin, h1, h10, h11, h12, cell_eta, ↓SXd, SXu, slBounds, ↓sop, ↓aop, ↓reduceIte, LV.cells, AOp.dst, LV.I, LV.B, LV.U, LV.S, LV.nil, Nat.reduceEqDiff, Nat.reduceAdd, Nat.reduceMul, Nat.reduceSub, Nat.reduceLeDiff, Nat.reduceBEq, Nat.reduceDiv, Nat.reduceMod, Int.reduceToNat, Int.reduceLT, Int.reduceLE, Int.reduceAdd, Int.reduceSub, Int.reduceMul, Int.reduceEq, Int.reduceNeg, reduceCtorEq, resV, resAll, ARes.ev, LV.flat, ite_true, ite_false, exists_eq_left', exists_eq_left, keyOf, implies_true, fillC, capOf]
          by_cases hb : (cs.getD (k - 1) default).lt (cs.getD k default)
          · have hb' : ¬ 0 ≤ cmpL [(cs.getD (k - 1) default).a, (cs.getD (k - 1) default).b, (cs.getD (k - 1) default).c] [(cs.getD k default).a, (cs.getD k default).b, (cs.getD k default).c] := fun e => (cmpL_lt.1 e) hb
            simp (disch := omega) only [hb', h1, h10, h11, h12, ↓SXd, SXu, slBounds, ↓sop, ↓aop, ↓reduceIte, LV.cells, AOp.dst, LV.I, LV.B, LV.U, LV.S, LV.nil, Nat.reduceEqDiff, Nat.reduceAdd, Nat.reduceMul, Nat.reduceSub, Nat.reduceLeDiff, Nat.reduceBEq, Nat.reduceDiv, Nat.reduceMod, Int.reduceToNat, Int.reduceLT, Int.reduceLE, Int.reduceAdd, Int.reduceSub, Int.reduceMul, Int.reduceEq, Int.reduceNeg, reduceCtorEq, resV, resAll, ARes.ev, LV.flat, ite_true, ite_false, exists_eq_left', exists_eq_left, keyOf, implies_true, fillC, capOf]
            exact ⟨m - 1, by omega, k + 1, by omega, Pre.app' hpre, hbox.app, h1, h10, h11, eqI (natI _), fun j hj1 => by
              by_cases hjk : j = k
              · subst hjk; exact ⟨hin, fun _ => hb⟩
              · exact hj j (by omega)⟩
          · have hb' : 0 ≤ cmpL [(cs.getD (k - 1) default).a, (cs.getD (k - 1) default).b, (cs.getD (k - 1) default).c] [(cs.getD k default).a, (cs.getD k default).b, (cs.getD k default).c] := cmpL_lt.2 hb
            simp (disch := omega) only [hb', h1, h10, h11, h12, ↓SXd, SXu, slBounds, ↓sop, ↓aop, ↓reduceIte, LV.cells, AOp.dst, LV.I, LV.B, LV.U, LV.S, LV.nil, Nat.reduceEqDiff, Nat.reduceAdd, Nat.reduceMul, Nat.reduceSub, Nat.reduceLeDiff, Nat.reduceBEq, Nat.reduceDiv, Nat.reduceMod, Int.reduceToNat, Int.reduceLT, Int.reduceLE, Int.reduceAdd, Int.reduceSub, Int.reduceMul, Int.reduceEq, Int.reduceNeg, reduceCtorEq, resV, resAll, ARes.ev, LV.flat, ite_true, ite_false, exists_eq_left', exists_eq_left, keyOf, implies_true, fillC, capOf]
            rw [decide_eq_false (fun hh : HeapOK x y z cs => hb ((hh.2 k (by omega)).2 (by omega)))]
            exact cmp_pre (Pre.app' hpre) rfl
      · simp (disch := omega) only [hin, h1, h10, h11, h12, ↓SXd, SXu, slBounds, ↓sop, ↓aop, ↓reduceIte, LV.cells, AOp.dst, LV.I, LV.B, LV.U, LV.S, LV.nil, Nat.reduceEqDiff, Nat.reduceAdd, Nat.reduceMul, Nat.reduceSub, Nat.reduceLeDiff, Nat.reduceBEq, Nat.reduceDiv, Nat.reduceMod, Int.reduceToNat, Int.reduceLT, Int.reduceLE, Int.reduceAdd, Int.reduceSub, Int.reduceMul, Int.reduceEq, Int.reduceNeg, reduceCtorEq, resV, resAll, ARes.ev, LV.flat, ite_true, ite_false, exists_eq_left', exists_eq_left, keyOf, implies_true, fillC, capOf]
        rw [decide_eq_false (fun hh : HeapOK x y z cs => hin (hh.2 k (by omega)).1)]
        exact cmp_pre (Pre.app' hpre) rfl
    · simp (disch := omega) only [h1, h10, h11, h12, ↓SXd, SXu, slBounds, ↓sop, ↓aop, ↓reduceIte, LV.cells, AOp.dst, LV.I, LV.B, LV.U, LV.S, LV.nil, Nat.reduceEqDiff, Nat.reduceAdd, Nat.reduceMul, Nat.reduceSub, Nat.reduceLeDiff, Nat.reduceBEq, Nat.reduceDiv, Nat.reduceMod, Int.reduceToNat, Int.reduceLT, Int.reduceLE, Int.reduceAdd, Int.reduceSub, Int.reduceMul, Int.reduceEq, Int.reduceNeg, reduceCtorEq, resV, resAll, ARes.ev, LV.flat, ite_true, ite_false, exists_eq_left', exists_eq_left, keyOf, implies_true, fillC, capOf]
      rw [decide_eq_true (show HeapOK x y z cs from ⟨hS, fun j hj1 => hj j (by omega)⟩)]
      exact cmp_pre hpre rfl
  · simp (disch := omega) only [hS, ↓SXd, SXu, slBounds, ↓sop, ↓aop, ↓reduceIte, LV.cells, AOp.dst, LV.I, LV.B, LV.U, LV.S, LV.nil, Nat.reduceEqDiff, Nat.reduceAdd, Nat.reduceMul, Nat.reduceSub, Nat.reduceLeDiff, Nat.reduceBEq, Nat.reduceDiv, Nat.reduceMod, Int.reduceToNat, Int.reduceLT, Int.reduceLE, Int.reduceAdd, Int.reduceSub, Int.reduceMul, Int.reduceEq, Int.reduceNeg, reduceCtorEq, resV, resAll, ARes.ev, LV.flat, ite_true, ite_false, exists_eq_left', exists_eq_left, keyOf, implies_true, fillC, capOf]
    exact cmp_dropF fun hh => hS hh.1
end Go.Ab

/- Contracts: the program's heights; whether columns are there. -/
namespace Go.Ab
open Go
set_option linter.unusedSimpArgs false
set_option linter.unusedVariables false

end Go.Ab

/- The abstract code of some functions (written by a program of mine from the translation, by way of prepF). -/
namespace Go.Ab.C
open Go.Ab
def spec_l1In : AFn :=
 ⟨3, 15, [.tmp 6],
 .seq (.ops [(none, .mv 6 (.c (.B false)))])
 (.seq (.ops [(none, .mv 7 (.t 0)),
 (none, .mv 8 (.t 1)),
 (none, .bin 9 .geq (.t 7) (.t 8)),
 (none, .mv 10 (.t 9)),
 (some (10, true), .mv 11 (.t 0)),
 (some (10, true), .mv 12 (.t 2)),
 (some (10, true), .bin 13 .leq (.t 11) (.t 12)),
 (none, .pick 14 (.t 10) (.t 13) (.c (.B false))),
 (none, .mv 6 (.t 14))])
 (.ret))⟩
def spec_l1Most : AFn :=
 ⟨2, 10, [.tmp 4],
 .seq (.ops [(none, .mv 4 (.c (.I 0)))])
 (.seq (.seq (.ops [(none, .mv 5 (.t 0)),
 (none, .mv 6 (.t 1)),
 (none, .bin 7 .gtr (.t 5) (.t 6))])
 (.cond (.t 7) (.seq (.ops [(none, .mv 8 (.t 0)),
 (none, .mv 4 (.t 8))])
 (.ret))
 (.skip)))
 (.seq (.ops [(none, .mv 9 (.t 1)),
 (none, .mv 4 (.t 9))])
 (.ret)))⟩
def spec_l2Sides : AFn :=
 ⟨3, 17, [.tmp 6],
 .seq (.ops [(none, .mv 6 (.c (.B false)))])
 (.seq (.ops [(none, .mv 7 (.t 0)),
 (none, .call (some 8) F.spec_l1In [(.t 7), (.c (.I 1)), (.c (.I 4))]),
 (none, .mv 9 (.t 8)),
 (some (9, true), .mv 10 (.t 1)),
 (some (9, true), .call (some 11) F.spec_l1In [(.t 10), (.c (.I 1)), (.c (.I 4))]),
 (none, .pick 12 (.t 9) (.t 11) (.c (.B false))),
 (none, .mv 13 (.t 12)),
 (some (13, true), .mv 14 (.t 2)),
 (some (13, true), .call (some 15) F.spec_l1In [(.t 14), (.c (.I 1)), (.c (.I 4))]),
 (none, .pick 16 (.t 13) (.t 15) (.c (.B false))),
 (none, .mv 6 (.t 16))])
 (.ret))⟩
def spec_l2Before : AFn :=
 ⟨2, 24, [.tmp 4],
 .seq (.ops [(none, .box 2 (.t 0)),
 (none, .box 3 (.t 1)),
 (none, .mv 4 (.c (.B false)))])
 (.seq (.seq (.ops [(none, .mv 5 (.c (.I 0)))])
 (.block 0 (.loop (.seq (.seq (.ops [(none, .mv 6 (.t 5)),
 (none, .bin 7 .lss (.t 6) (.c (.I 3)))])
 (.cond (.t 7) (.skip)
 (.exit 0)))
 (.seq (.block 1 (.seq (.draw [⟨(none, .mv 10 (.t 5)), [], []⟩,
 ⟨(none, .idxA 11 3 1 (.t 2) (.t 10)), [], []⟩,
 ⟨(none, .load1 12 (.t 11)), [], []⟩,
 ⟨(none, .mv 13 (.t 5)), [], []⟩,
 ⟨(none, .idxA 14 3 1 (.t 3) (.t 13)), [], []⟩,
 ⟨(none, .load1 15 (.t 14)), [], []⟩,
 ⟨(none, .bin 16 .neq (.t 12) (.t 15)), [], []⟩])
 (.cond (.t 16) (.seq (.draw [⟨(none, .mv 17 (.t 5)), [], []⟩,
 ⟨(none, .idxA 18 3 1 (.t 2) (.t 17)), [], []⟩,
 ⟨(none, .load1 19 (.t 18)), [], []⟩,
 ⟨(none, .mv 20 (.t 5)), [], []⟩,
 ⟨(none, .idxA 21 3 1 (.t 3) (.t 20)), [], []⟩,
 ⟨(none, .load1 22 (.t 21)), [], []⟩,
 ⟨(none, .bin 23 .lss (.t 19) (.t 22)), [], []⟩,
 ⟨(none, .mv 4 (.t 23)), [], []⟩])
 (.ret))
 (.skip))))
 (.ops [(none, .mv 8 (.t 5)),
 (none, .bin 9 .add (.t 8) (.c (.I 1))),
 (none, .mv 5 (.t 9))]))))))
 (.seq (.ops [(none, .mv 4 (.c (.B false)))])
 (.ret)))⟩
def spec_l2In : AFn :=
 ⟨2, 27, [.tmp 4],
 .seq (.ops [(none, .box 2 (.t 0)),
 (none, .box 3 (.t 1)),
 (none, .mv 4 (.c (.B false)))])
 (.seq (.ops [(none, .idxA 5 3 1 (.t 3) (.c (.I 0))),
 (none, .load1 6 (.t 5)),
 (none, .fieldAddr 7 (.t 2) 0),
 (none, .load1 8 (.t 7)),
 (none, .bin 9 .sub (.t 8) (.c (.I 1))),
 (none, .call (some 10) F.spec_l1In [(.t 6), (.c (.I 0)), (.t 9)]),
 (none, .mv 11 (.t 10)),
 (some (11, true), .idxA 12 3 1 (.t 3) (.c (.I 1))),
 (some (11, true), .load1 13 (.t 12)),
 (some (11, true), .fieldAddr 14 (.t 2) 1),
 (some (11, true), .load1 15 (.t 14)),
 (some (11, true), .bin 16 .sub (.t 15) (.c (.I 1))),
 (some (11, true), .call (some 17) F.spec_l1In [(.t 13), (.c (.I 0)), (.t 16)]),
 (none, .pick 18 (.t 11) (.t 17) (.c (.B false))),
 (none, .mv 19 (.t 18)),
 (some (19, true), .idxA 20 3 1 (.t 3) (.c (.I 2))),
 (some (19, true), .load1 21 (.t 20)),
 (some (19, true), .fieldAddr 22 (.t 2) 2),
 (some (19, true), .load1 23 (.t 22)),
 (some (19, true), .bin 24 .sub (.t 23) (.c (.I 1))),
 (some (19, true), .call (some 25) F.spec_l1In [(.t 21), (.c (.I 0)), (.t 24)]),
 (none, .pick 26 (.t 19) (.t 25) (.c (.B false))),
 (none, .mv 4 (.t 26))])
 (.ret))⟩
end Go.Ab.C

/- That the program has this code. -/
namespace Go.Ab.K
open Go Go.Ab
theorem spec_l1In : prepF Go.Proofs.Tryz.prog F.spec_l1In = some C.spec_l1In := by kernel_rfl
theorem spec_l1Most : prepF Go.Proofs.Tryz.prog F.spec_l1Most = some C.spec_l1Most := by kernel_rfl
theorem spec_l2Sides : prepF Go.Proofs.Tryz.prog F.spec_l2Sides = some C.spec_l2Sides := by kernel_rfl
theorem spec_l2Before : prepF Go.Proofs.Tryz.prog F.spec_l2Before = some C.spec_l2Before := by kernel_rfl
theorem spec_l2In : prepF Go.Proofs.Tryz.prog F.spec_l2In = some C.spec_l2In := by kernel_rfl
end Go.Ab.K

/- Contracts: the reference's heaps and columns. -/
namespace Go.Ab
open Go
set_option linter.unusedSimpArgs false
set_option linter.unusedVariables false

theorem h_l1In {n lo hi : Int} {M : Mem} : CallsTo PG F.spec_l1In [.I n, .I lo, .I hi] M (.B (decide (lo ≤ n ∧ n ≤ hi))) M := by
  refine calls_run K.spec_l1In rfl ?_
  simp (disch := omega) only [C.spec_l1In, ↓SXd, SXu, slBounds, ↓sop, ↓aop, ↓reduceIte, LV.cells, AOp.dst, LV.I, LV.B, LV.U, LV.S, LV.nil, Nat.reduceEqDiff, Nat.reduceAdd, Nat.reduceMul, Nat.reduceSub, Nat.reduceLeDiff, Nat.reduceBEq, Nat.reduceDiv, Nat.reduceMod, Int.reduceToNat, Int.reduceLT, Int.reduceLE, Int.reduceAdd, Int.reduceSub, Int.reduceMul, Int.reduceEq, Int.reduceNeg, reduceCtorEq, resV, resAll, ARes.ev, LV.flat, ite_true, ite_false, exists_eq_left', exists_eq_left, keyOf, implies_true, fillC, capOf]
  by_cases h1 : lo ≤ n
  · simp (disch := omega) only [h1, ↓SXd, SXu, slBounds, ↓sop, ↓aop, ↓reduceIte, LV.cells, AOp.dst, LV.I, LV.B, LV.U, LV.S, LV.nil, Nat.reduceEqDiff, Nat.reduceAdd, Nat.reduceMul, Nat.reduceSub, Nat.reduceLeDiff, Nat.reduceBEq, Nat.reduceDiv, Nat.reduceMod, Int.reduceToNat, Int.reduceLT, Int.reduceLE, Int.reduceAdd, Int.reduceSub, Int.reduceMul, Int.reduceEq, Int.reduceNeg, reduceCtorEq, resV, resAll, ARes.ev, LV.flat, ite_true, ite_false, exists_eq_left', exists_eq_left, keyOf, implies_true, fillC, capOf]
    exact cmp_drop0 rfl
  · simp (disch := omega) only [h1, ↓SXd, SXu, slBounds, ↓sop, ↓aop, ↓reduceIte, LV.cells, AOp.dst, LV.I, LV.B, LV.U, LV.S, LV.nil, Nat.reduceEqDiff, Nat.reduceAdd, Nat.reduceMul, Nat.reduceSub, Nat.reduceLeDiff, Nat.reduceBEq, Nat.reduceDiv, Nat.reduceMod, Int.reduceToNat, Int.reduceLT, Int.reduceLE, Int.reduceAdd, Int.reduceSub, Int.reduceMul, Int.reduceEq, Int.reduceNeg, reduceCtorEq, resV, resAll, ARes.ev, LV.flat, ite_true, ite_false, exists_eq_left', exists_eq_left, keyOf, implies_true, fillC, capOf]
    exact cmp_drop0 rfl

theorem h_l1Most {a b : Int} {M : Mem} : CallsTo PG F.spec_l1Most [.I a, .I b] M (.I (max a b)) M := by
  refine calls_run K.spec_l1Most rfl ?_
  simp (disch := omega) only [C.spec_l1Most, ↓SXd, SXu, slBounds, ↓sop, ↓aop, ↓reduceIte, LV.cells, AOp.dst, LV.I, LV.B, LV.U, LV.S, LV.nil, Nat.reduceEqDiff, Nat.reduceAdd, Nat.reduceMul, Nat.reduceSub, Nat.reduceLeDiff, Nat.reduceBEq, Nat.reduceDiv, Nat.reduceMod, Int.reduceToNat, Int.reduceLT, Int.reduceLE, Int.reduceAdd, Int.reduceSub, Int.reduceMul, Int.reduceEq, Int.reduceNeg, reduceCtorEq, resV, resAll, ARes.ev, LV.flat, ite_true, ite_false, exists_eq_left', exists_eq_left, keyOf, implies_true, fillC, capOf]
  refine condC_dec (fun h => ?_) (fun h => ?_) <;> simp (disch := omega) only [↓SXd, SXu, slBounds, ↓sop, ↓aop, ↓reduceIte, LV.cells, AOp.dst, LV.I, LV.B, LV.U, LV.S, LV.nil, Nat.reduceEqDiff, Nat.reduceAdd, Nat.reduceMul, Nat.reduceSub, Nat.reduceLeDiff, Nat.reduceBEq, Nat.reduceDiv, Nat.reduceMod, Int.reduceToNat, Int.reduceLT, Int.reduceLE, Int.reduceAdd, Int.reduceSub, Int.reduceMul, Int.reduceEq, Int.reduceNeg, reduceCtorEq, resV, resAll, ARes.ev, LV.flat, ite_true, ite_false, exists_eq_left', exists_eq_left, keyOf, implies_true, fillC, capOf]
  · rw [show max a b = a by omega]; exact cmp_drop0 rfl
  · rw [show max a b = b by omega]; exact cmp_drop0 rfl

theorem h_l2Sides {x y z : Int} {M : Mem} : CallsTo PG F.spec_l2Sides [.I x, .I y, .I z] M (.B (decide (Sides x y z))) M := by
  refine calls_run K.spec_l2Sides rfl ?_
  simp (disch := omega) only [C.spec_l2Sides, ↓SXd, SXu, slBounds, ↓sop, ↓aop, ↓reduceIte, LV.cells, AOp.dst, LV.I, LV.B, LV.U, LV.S, LV.nil, Nat.reduceEqDiff, Nat.reduceAdd, Nat.reduceMul, Nat.reduceSub, Nat.reduceLeDiff, Nat.reduceBEq, Nat.reduceDiv, Nat.reduceMod, Int.reduceToNat, Int.reduceLT, Int.reduceLE, Int.reduceAdd, Int.reduceSub, Int.reduceMul, Int.reduceEq, Int.reduceNeg, reduceCtorEq, resV, resAll, ARes.ev, LV.flat, ite_true, ite_false, exists_eq_left', exists_eq_left, keyOf, implies_true, fillC, capOf]
  refine callK_of h_l1In ?_
  simp (disch := omega) only [↓SXd, SXu, slBounds, ↓sop, ↓aop, ↓reduceIte, LV.cells, AOp.dst, LV.I, LV.B, LV.U, LV.S, LV.nil, Nat.reduceEqDiff, Nat.reduceAdd, Nat.reduceMul, Nat.reduceSub, Nat.reduceLeDiff, Nat.reduceBEq, Nat.reduceDiv, Nat.reduceMod, Int.reduceToNat, Int.reduceLT, Int.reduceLE, Int.reduceAdd, Int.reduceSub, Int.reduceMul, Int.reduceEq, Int.reduceNeg, reduceCtorEq, resV, resAll, ARes.ev, LV.flat, ite_true, ite_false, exists_eq_left', exists_eq_left, keyOf, implies_true, fillC, capOf]
  unfold Sides
  by_cases h1 : 1 ≤ x ∧ x ≤ 4
  · simp (disch := omega) only [h1, ↓SXd, SXu, slBounds, ↓sop, ↓aop, ↓reduceIte, LV.cells, AOp.dst, LV.I, LV.B, LV.U, LV.S, LV.nil, Nat.reduceEqDiff, Nat.reduceAdd, Nat.reduceMul, Nat.reduceSub, Nat.reduceLeDiff, Nat.reduceBEq, Nat.reduceDiv, Nat.reduceMod, Int.reduceToNat, Int.reduceLT, Int.reduceLE, Int.reduceAdd, Int.reduceSub, Int.reduceMul, Int.reduceEq, Int.reduceNeg, reduceCtorEq, resV, resAll, ARes.ev, LV.flat, ite_true, ite_false, exists_eq_left', exists_eq_left, keyOf, implies_true, fillC, capOf]
    refine callK_of h_l1In ?_
    simp (disch := omega) only [↓SXd, SXu, slBounds, ↓sop, ↓aop, ↓reduceIte, LV.cells, AOp.dst, LV.I, LV.B, LV.U, LV.S, LV.nil, Nat.reduceEqDiff, Nat.reduceAdd, Nat.reduceMul, Nat.reduceSub, Nat.reduceLeDiff, Nat.reduceBEq, Nat.reduceDiv, Nat.reduceMod, Int.reduceToNat, Int.reduceLT, Int.reduceLE, Int.reduceAdd, Int.reduceSub, Int.reduceMul, Int.reduceEq, Int.reduceNeg, reduceCtorEq, resV, resAll, ARes.ev, LV.flat, ite_true, ite_false, exists_eq_left', exists_eq_left, keyOf, implies_true, fillC, capOf]
    by_cases h2 : 1 ≤ y ∧ y ≤ 4
    · simp (disch := omega) only [h2, ↓SXd, SXu, slBounds, ↓sop, ↓aop, ↓reduceIte, LV.cells, AOp.dst, LV.I, LV.B, LV.U, LV.S, LV.nil, Nat.reduceEqDiff, Nat.reduceAdd, Nat.reduceMul, Nat.reduceSub, Nat.reduceLeDiff, Nat.reduceBEq, Nat.reduceDiv, Nat.reduceMod, Int.reduceToNat, Int.reduceLT, Int.reduceLE, Int.reduceAdd, Int.reduceSub, Int.reduceMul, Int.reduceEq, Int.reduceNeg, reduceCtorEq, resV, resAll, ARes.ev, LV.flat, ite_true, ite_false, exists_eq_left', exists_eq_left, keyOf, implies_true, fillC, capOf]
      refine callK_of h_l1In ?_
      simp (disch := omega) only [↓SXd, SXu, slBounds, ↓sop, ↓aop, ↓reduceIte, LV.cells, AOp.dst, LV.I, LV.B, LV.U, LV.S, LV.nil, Nat.reduceEqDiff, Nat.reduceAdd, Nat.reduceMul, Nat.reduceSub, Nat.reduceLeDiff, Nat.reduceBEq, Nat.reduceDiv, Nat.reduceMod, Int.reduceToNat, Int.reduceLT, Int.reduceLE, Int.reduceAdd, Int.reduceSub, Int.reduceMul, Int.reduceEq, Int.reduceNeg, reduceCtorEq, resV, resAll, ARes.ev, LV.flat, ite_true, ite_false, exists_eq_left', exists_eq_left, keyOf, implies_true, fillC, capOf]
      exact cmp_drop0 rfl
    · simp (disch := omega) only [h2, false_and, ↓SXd, SXu, slBounds, ↓sop, ↓aop, ↓reduceIte, LV.cells, AOp.dst, LV.I, LV.B, LV.U, LV.S, LV.nil, Nat.reduceEqDiff, Nat.reduceAdd, Nat.reduceMul, Nat.reduceSub, Nat.reduceLeDiff, Nat.reduceBEq, Nat.reduceDiv, Nat.reduceMod, Int.reduceToNat, Int.reduceLT, Int.reduceLE, Int.reduceAdd, Int.reduceSub, Int.reduceMul, Int.reduceEq, Int.reduceNeg, reduceCtorEq, resV, resAll, ARes.ev, LV.flat, ite_true, ite_false, exists_eq_left', exists_eq_left, keyOf, implies_true, fillC, capOf]
      exact cmp_drop0 rfl
  · simp (disch := omega) only [h1, false_and, ↓SXd, SXu, slBounds, ↓sop, ↓aop, ↓reduceIte, LV.cells, AOp.dst, LV.I, LV.B, LV.U, LV.S, LV.nil, Nat.reduceEqDiff, Nat.reduceAdd, Nat.reduceMul, Nat.reduceSub, Nat.reduceLeDiff, Nat.reduceBEq, Nat.reduceDiv, Nat.reduceMod, Int.reduceToNat, Int.reduceLT, Int.reduceLE, Int.reduceAdd, Int.reduceSub, Int.reduceMul, Int.reduceEq, Int.reduceNeg, reduceCtorEq, resV, resAll, ARes.ev, LV.flat, ite_true, ite_false, exists_eq_left', exists_eq_left, keyOf, implies_true, fillC, capOf]
    exact cmp_drop0 rfl

theorem h_l2Before {a b c a' b' c' : Int} {M : Mem} : CallsTo PG F.spec_l2Before [.agg [.I a, .I b, .I c], .agg [.I a', .I b', .I c']] M (.B (decide (Cell.lt ⟨a, b, c⟩ ⟨a', b', c'⟩))) M := by
  refine calls_run K.spec_l2Before rfl ?_
  simp (disch := omega) only [C.spec_l2Before, ↓SXd, SXu, slBounds, ↓sop, ↓aop, ↓reduceIte, LV.cells, AOp.dst, LV.I, LV.B, LV.U, LV.S, LV.nil, Nat.reduceEqDiff, Nat.reduceAdd, Nat.reduceMul, Nat.reduceSub, Nat.reduceLeDiff, Nat.reduceBEq, Nat.reduceDiv, Nat.reduceMod, Int.reduceToNat, Int.reduceLT, Int.reduceLE, Int.reduceAdd, Int.reduceSub, Int.reduceMul, Int.reduceEq, Int.reduceNeg, reduceCtorEq, resV, resAll, ARes.ev, LV.flat, ite_true, ite_false, exists_eq_left', exists_eq_left, keyOf, implies_true, fillC, capOf]
  refine ev_loop (fun m fr M' => ∃ k : Nat, k + m = 3 ∧ M' = M ++ [some (Blk.row [.I a, .I b, .I c] true 0), some (Blk.row [.I a', .I b', .I c'] true 0)] ∧ fr 2 = .ptr M.length 0 ∧ fr 3 = .ptr (M.length + 1) 0 ∧ fr 5 = .I k ∧
    (0 < k → a = a') ∧ (1 < k → b = b') ∧ (2 < k → c = c')) 3 ⟨0, rfl, rfl, rfl, rfl, rfl, by omega, by omega, by omega⟩ ?_
  rintro m fr M' ⟨k, hk, rfl, h2, h3, h5, ha, hb, hc⟩
  simp (disch := omega) only [h2, h3, h5, ↓SXd, SXu, slBounds, ↓sop, ↓aop, ↓reduceIte, LV.cells, AOp.dst, LV.I, LV.B, LV.U, LV.S, LV.nil, Nat.reduceEqDiff, Nat.reduceAdd, Nat.reduceMul, Nat.reduceSub, Nat.reduceLeDiff, Nat.reduceBEq, Nat.reduceDiv, Nat.reduceMod, Int.reduceToNat, Int.reduceLT, Int.reduceLE, Int.reduceAdd, Int.reduceSub, Int.reduceMul, Int.reduceEq, Int.reduceNeg, reduceCtorEq, resV, resAll, ARes.ev, LV.flat, ite_true, ite_false, exists_eq_left', exists_eq_left, keyOf, implies_true, fillC, capOf]
  refine condC_dec (fun hlt => ?_) (fun hlt => ?_)
  · have hk3 : k = 0 ∨ k = 1 ∨ k = 2 := by omega
    rcases hk3 with rfl | rfl | rfl
    all_goals
      simp (disch := omega) only [h2, h3, h5, ↓SXd, SXu, slBounds, ↓sop, ↓aop, ↓reduceIte, LV.cells, AOp.dst, LV.I, LV.B, LV.U, LV.S, LV.nil, Nat.reduceEqDiff, Nat.reduceAdd, Nat.reduceMul, Nat.reduceSub, Nat.reduceLeDiff, Nat.reduceBEq, Nat.reduceDiv, Nat.reduceMod, Int.reduceToNat, Int.reduceLT, Int.reduceLE, Int.reduceAdd, Int.reduceSub, Int.reduceMul, Int.reduceEq, Int.reduceNeg, reduceCtorEq, resV, resAll, ARes.ev, LV.flat, ite_true, ite_false, exists_eq_left', exists_eq_left, keyOf, implies_true, fillC, capOf]
      refine condC_dec (fun he => ?_) (fun he => ?_)
      · simp (disch := omega) only [h2, h3, h5, ↓SXd, SXu, slBounds, ↓sop, ↓aop, ↓reduceIte, LV.cells, AOp.dst, LV.I, LV.B, LV.U, LV.S, LV.nil, Nat.reduceEqDiff, Nat.reduceAdd, Nat.reduceMul, Nat.reduceSub, Nat.reduceLeDiff, Nat.reduceBEq, Nat.reduceDiv, Nat.reduceMod, Int.reduceToNat, Int.reduceLT, Int.reduceLE, Int.reduceAdd, Int.reduceSub, Int.reduceMul, Int.reduceEq, Int.reduceNeg, reduceCtorEq, resV, resAll, ARes.ev, LV.flat, ite_true, ite_false, exists_eq_left', exists_eq_left, keyOf, implies_true, fillC, capOf]
        exact ⟨m - 1, by omega, _, by omega, rfl, h2, h3, eqI (natI _), by omega, by omega, by omega⟩
      · simp (disch := omega) only [h2, h3, h5, ↓SXd, SXu, slBounds, ↓sop, ↓aop, ↓reduceIte, LV.cells, AOp.dst, LV.I, LV.B, LV.U, LV.S, LV.nil, Nat.reduceEqDiff, Nat.reduceAdd, Nat.reduceMul, Nat.reduceSub, Nat.reduceLeDiff, Nat.reduceBEq, Nat.reduceDiv, Nat.reduceMod, Int.reduceToNat, Int.reduceLT, Int.reduceLE, Int.reduceAdd, Int.reduceSub, Int.reduceMul, Int.reduceEq, Int.reduceNeg, reduceCtorEq, resV, resAll, ARes.ev, LV.flat, ite_true, ite_false, exists_eq_left', exists_eq_left, keyOf, implies_true, fillC, capOf]
        exact cmp_dropB (by simp only [Cell.lt]; omega)
  · simp (disch := omega) only [h2, h3, h5, ↓SXd, SXu, slBounds, ↓sop, ↓aop, ↓reduceIte, LV.cells, AOp.dst, LV.I, LV.B, LV.U, LV.S, LV.nil, Nat.reduceEqDiff, Nat.reduceAdd, Nat.reduceMul, Nat.reduceSub, Nat.reduceLeDiff, Nat.reduceBEq, Nat.reduceDiv, Nat.reduceMod, Int.reduceToNat, Int.reduceLT, Int.reduceLE, Int.reduceAdd, Int.reduceSub, Int.reduceMul, Int.reduceEq, Int.reduceNeg, reduceCtorEq, resV, resAll, ARes.ev, LV.flat, ite_true, ite_false, exists_eq_left', exists_eq_left, keyOf, implies_true, fillC, capOf]
    exact cmp_dropF (by simp only [Cell.lt]; omega)

theorem h_l2In {x y z a b c : Int} {v : LV} {M : Mem} (hS : Sides x y z) : CallsTo PG F.spec_l2In [.agg [.I x, .I y, .I z, v], .agg [.I a, .I b, .I c]] M (.B (decide (Cell.inBox x y z ⟨a, b, c⟩))) M := by
  obtain ⟨hx, hy, hz⟩ := hS
  refine calls_run K.spec_l2In rfl ?_
  simp (disch := omega) only [C.spec_l2In, ↓SXd, SXu, slBounds, ↓sop, ↓aop, ↓reduceIte, LV.cells, AOp.dst, LV.I, LV.B, LV.U, LV.S, LV.nil, Nat.reduceEqDiff, Nat.reduceAdd, Nat.reduceMul, Nat.reduceSub, Nat.reduceLeDiff, Nat.reduceBEq, Nat.reduceDiv, Nat.reduceMod, Int.reduceToNat, Int.reduceLT, Int.reduceLE, Int.reduceAdd, Int.reduceSub, Int.reduceMul, Int.reduceEq, Int.reduceNeg, reduceCtorEq, resV, resAll, ARes.ev, LV.flat, ite_true, ite_false, exists_eq_left', exists_eq_left, keyOf, implies_true, fillC, capOf]
  refine callK_of h_l1In ?_
  simp (disch := omega) only [↓SXd, SXu, slBounds, ↓sop, ↓aop, ↓reduceIte, LV.cells, AOp.dst, LV.I, LV.B, LV.U, LV.S, LV.nil, Nat.reduceEqDiff, Nat.reduceAdd, Nat.reduceMul, Nat.reduceSub, Nat.reduceLeDiff, Nat.reduceBEq, Nat.reduceDiv, Nat.reduceMod, Int.reduceToNat, Int.reduceLT, Int.reduceLE, Int.reduceAdd, Int.reduceSub, Int.reduceMul, Int.reduceEq, Int.reduceNeg, reduceCtorEq, resV, resAll, ARes.ev, LV.flat, ite_true, ite_false, exists_eq_left', exists_eq_left, keyOf, implies_true, fillC, capOf]
  unfold Cell.inBox
  by_cases h1 : 0 ≤ a ∧ a ≤ x - 1
  · simp (disch := omega) only [h1, ↓SXd, SXu, slBounds, ↓sop, ↓aop, ↓reduceIte, LV.cells, AOp.dst, LV.I, LV.B, LV.U, LV.S, LV.nil, Nat.reduceEqDiff, Nat.reduceAdd, Nat.reduceMul, Nat.reduceSub, Nat.reduceLeDiff, Nat.reduceBEq, Nat.reduceDiv, Nat.reduceMod, Int.reduceToNat, Int.reduceLT, Int.reduceLE, Int.reduceAdd, Int.reduceSub, Int.reduceMul, Int.reduceEq, Int.reduceNeg, reduceCtorEq, resV, resAll, ARes.ev, LV.flat, ite_true, ite_false, exists_eq_left', exists_eq_left, keyOf, implies_true, fillC, capOf]
    refine callK_of h_l1In ?_
    simp (disch := omega) only [↓SXd, SXu, slBounds, ↓sop, ↓aop, ↓reduceIte, LV.cells, AOp.dst, LV.I, LV.B, LV.U, LV.S, LV.nil, Nat.reduceEqDiff, Nat.reduceAdd, Nat.reduceMul, Nat.reduceSub, Nat.reduceLeDiff, Nat.reduceBEq, Nat.reduceDiv, Nat.reduceMod, Int.reduceToNat, Int.reduceLT, Int.reduceLE, Int.reduceAdd, Int.reduceSub, Int.reduceMul, Int.reduceEq, Int.reduceNeg, reduceCtorEq, resV, resAll, ARes.ev, LV.flat, ite_true, ite_false, exists_eq_left', exists_eq_left, keyOf, implies_true, fillC, capOf]
    by_cases h2 : 0 ≤ b ∧ b ≤ y - 1
    · simp (disch := omega) only [h2, ↓SXd, SXu, slBounds, ↓sop, ↓aop, ↓reduceIte, LV.cells, AOp.dst, LV.I, LV.B, LV.U, LV.S, LV.nil, Nat.reduceEqDiff, Nat.reduceAdd, Nat.reduceMul, Nat.reduceSub, Nat.reduceLeDiff, Nat.reduceBEq, Nat.reduceDiv, Nat.reduceMod, Int.reduceToNat, Int.reduceLT, Int.reduceLE, Int.reduceAdd, Int.reduceSub, Int.reduceMul, Int.reduceEq, Int.reduceNeg, reduceCtorEq, resV, resAll, ARes.ev, LV.flat, ite_true, ite_false, exists_eq_left', exists_eq_left, keyOf, implies_true, fillC, capOf]
      refine callK_of h_l1In ?_
      simp (disch := omega) only [↓SXd, SXu, slBounds, ↓sop, ↓aop, ↓reduceIte, LV.cells, AOp.dst, LV.I, LV.B, LV.U, LV.S, LV.nil, Nat.reduceEqDiff, Nat.reduceAdd, Nat.reduceMul, Nat.reduceSub, Nat.reduceLeDiff, Nat.reduceBEq, Nat.reduceDiv, Nat.reduceMod, Int.reduceToNat, Int.reduceLT, Int.reduceLE, Int.reduceAdd, Int.reduceSub, Int.reduceMul, Int.reduceEq, Int.reduceNeg, reduceCtorEq, resV, resAll, ARes.ev, LV.flat, ite_true, ite_false, exists_eq_left', exists_eq_left, keyOf, implies_true, fillC, capOf]
      exact cmp_drop rfl
    · simp (disch := omega) only [h2, false_and, ↓SXd, SXu, slBounds, ↓sop, ↓aop, ↓reduceIte, LV.cells, AOp.dst, LV.I, LV.B, LV.U, LV.S, LV.nil, Nat.reduceEqDiff, Nat.reduceAdd, Nat.reduceMul, Nat.reduceSub, Nat.reduceLeDiff, Nat.reduceBEq, Nat.reduceDiv, Nat.reduceMod, Int.reduceToNat, Int.reduceLT, Int.reduceLE, Int.reduceAdd, Int.reduceSub, Int.reduceMul, Int.reduceEq, Int.reduceNeg, reduceCtorEq, resV, resAll, ARes.ev, LV.flat, ite_true, ite_false, exists_eq_left', exists_eq_left, keyOf, implies_true, fillC, capOf]
      exact cmp_drop rfl
  · simp (disch := omega) only [h1, false_and, ↓SXd, SXu, slBounds, ↓sop, ↓aop, ↓reduceIte, LV.cells, AOp.dst, LV.I, LV.B, LV.U, LV.S, LV.nil, Nat.reduceEqDiff, Nat.reduceAdd, Nat.reduceMul, Nat.reduceSub, Nat.reduceLeDiff, Nat.reduceBEq, Nat.reduceDiv, Nat.reduceMod, Int.reduceToNat, Int.reduceLT, Int.reduceLE, Int.reduceAdd, Int.reduceSub, Int.reduceMul, Int.reduceEq, Int.reduceNeg, reduceCtorEq, resV, resAll, ARes.ev, LV.flat, ite_true, ite_false, exists_eq_left', exists_eq_left, keyOf, implies_true, fillC, capOf]
    exact cmp_drop rfl
end Go.Ab

/- Plain words: the cells of a box in their order; sets of them as 64 bits. -/
namespace Go.Ab

def idx (y z : Int) (c : Cell) : Int := (c.a * y + c.b) * z + c.c
def cellAt (y z i : Int) : Cell := ⟨(i.tdiv z).tdiv y, (i.tdiv z).tmod y, i.tmod z⟩
def vol (x y z : Int) : Nat := (x * y * z).toNat
def cellsOf (x y z : Int) : List Cell := (List.range (vol x y z)).map fun (i : Nat) => cellAt y z i
/-- The cells of a box of which p holds, in order. -/
def pick (x y z : Int) (p : Cell → Bool) : List Cell := (cellsOf x y z).filter p

section
variable {x y z : Int} (hS : Sides x y z)
include hS
omit hS in
theorem getD_mem' {α : Type} {l : List α} {k : Nat} {d : α} (h : k < l.length) : l.getD k d ∈ l := by simp [h]
theorem vol_bound : 1 ≤ x * y * z ∧ x * y * z ≤ 64 ∧ 1 ≤ y * z ∧ y * z ≤ 16 ∧ 1 ≤ x * y ∧ x * y ≤ 16 := by
  obtain ⟨hx, hy, hz⟩ := hS
  have h2 : y = 1 ∨ y = 2 ∨ y = 3 ∨ y = 4 := by omega
  have h3 : z = 1 ∨ z = 2 ∨ z = 3 ∨ z = 4 := by omega
  rcases h2 with rfl | rfl | rfl | rfl <;> rcases h3 with rfl | rfl | rfl | rfl <;> omega
theorem vol_cast : ((vol x y z : Nat) : Int) = x * y * z ∧ 1 ≤ vol x y z ∧ vol x y z ≤ 64 := by
  have := vol_bound hS
  unfold vol; omega
theorem idx_in {c : Cell} (hc : c.inBox x y z) : 0 ≤ idx y z c ∧ idx y z c < x * y * z ∧ cellAt y z (idx y z c) = c := by
  obtain ⟨hx, hy, hz⟩ := hS
  obtain ⟨a, b, d⟩ := c
  obtain ⟨h1, h2, h3⟩ := hc
  simp only at h1 h2 h3
  have e2 : y = 1 ∨ y = 2 ∨ y = 3 ∨ y = 4 := by omega
  have e3 : z = 1 ∨ z = 2 ∨ z = 3 ∨ z = 4 := by omega
  unfold idx cellAt
  simp only
  have hn : 0 ≤ (a * y + b) * z + d := by rcases e2 with rfl | rfl | rfl | rfl <;> rcases e3 with rfl | rfl | rfl | rfl <;> omega
  refine ⟨hn, by rcases e2 with rfl | rfl | rfl | rfl <;> rcases e3 with rfl | rfl | rfl | rfl <;> omega, ?_⟩
  rw [Int.tdiv_eq_ediv_of_nonneg hn, Int.tmod_eq_emod_of_nonneg hn]
  have hq : 0 ≤ ((a * y + b) * z + d) / z := Int.ediv_nonneg hn (by omega)
  rw [Int.tdiv_eq_ediv_of_nonneg hq, Int.tmod_eq_emod_of_nonneg hq]
  rw [cell_eq]
  rcases e2 with rfl | rfl | rfl | rfl <;> rcases e3 with rfl | rfl | rfl | rfl <;> simp only <;> omega
theorem cellAt_in {i : Int} (h0 : 0 ≤ i) (hi : i < x * y * z) : (cellAt y z i).inBox x y z ∧ idx y z (cellAt y z i) = i := by
  obtain ⟨hx, hy, hz⟩ := hS
  have e1 : x = 1 ∨ x = 2 ∨ x = 3 ∨ x = 4 := by omega
  have e2 : y = 1 ∨ y = 2 ∨ y = 3 ∨ y = 4 := by omega
  have e3 : z = 1 ∨ z = 2 ∨ z = 3 ∨ z = 4 := by omega
  unfold idx cellAt Cell.inBox
  simp only
  rw [Int.tdiv_eq_ediv_of_nonneg h0, Int.tmod_eq_emod_of_nonneg h0]
  have hq : 0 ≤ i / z := Int.ediv_nonneg h0 (by omega)
  rw [Int.tdiv_eq_ediv_of_nonneg hq, Int.tmod_eq_emod_of_nonneg hq]
  rcases e2 with rfl | rfl | rfl | rfl <;> rcases e3 with rfl | rfl | rfl | rfl <;> (refine ⟨⟨⟨?_, ?_⟩, ⟨?_, ?_⟩, ⟨?_, ?_⟩⟩, ?_⟩ <;> omega)
theorem lt_iff {c d : Cell} (hc : c.inBox x y z) (hd : d.inBox x y z) : c.lt d ↔ idx y z c < idx y z d := by
  obtain ⟨hx, hy, hz⟩ := hS
  obtain ⟨a, b, e⟩ := c
  obtain ⟨a', b', e'⟩ := d
  obtain ⟨h1, h2, h3⟩ := hc
  obtain ⟨k1, k2, k3⟩ := hd
  simp only at h1 h2 h3 k1 k2 k3
  unfold idx Cell.lt
  simp only
  have e2 : y = 1 ∨ y = 2 ∨ y = 3 ∨ y = 4 := by omega
  have e3 : z = 1 ∨ z = 2 ∨ z = 3 ∨ z = 4 := by omega
  rcases e2 with rfl | rfl | rfl | rfl <;> rcases e3 with rfl | rfl | rfl | rfl <;> omega

theorem mem_cellsOf {c : Cell} : c ∈ cellsOf x y z ↔ c.inBox x y z := by
  unfold cellsOf
  rw [List.mem_map]
  have hv := vol_cast hS
  constructor
  · rintro ⟨i, hi, rfl⟩
    exact (cellAt_in hS (by omega) (by have := List.mem_range.1 hi; omega)).1
  · intro hc
    obtain ⟨h1, h2, h3⟩ := idx_in hS hc
    refine ⟨(idx y z c).toNat, List.mem_range.2 (by omega), ?_⟩
    rw [Int.toNat_of_nonneg h1, h3]
theorem mem_pick {p : Cell → Bool} {c : Cell} : c ∈ pick x y z p ↔ c.inBox x y z ∧ p c = true := by
  unfold pick
  rw [List.mem_filter, mem_cellsOf hS]
theorem cellsOf_sorted : (cellsOf x y z).Pairwise Cell.lt := by
  unfold cellsOf
  rw [List.pairwise_map]
  have hv := vol_cast hS
  refine List.Pairwise.imp_of_mem (R := fun a b => a < b) ?_ (List.pairwise_lt_range)
  intro i j hi hj hij
  have hi := List.mem_range.1 hi
  have hj := List.mem_range.1 hj
  obtain ⟨h1, h2⟩ := cellAt_in hS (i := (i : Int)) (by omega) (by omega)
  obtain ⟨h3, h4⟩ := cellAt_in hS (i := (j : Int)) (by omega) (by omega)
  rw [lt_iff hS h1 h3, h2, h4]; omega
theorem pick_sorted (p : Cell → Bool) : (pick x y z p).Pairwise Cell.lt := (cellsOf_sorted hS).filter p
end

theorem take_dec {cs : List Cell} {k : Nat} {c : Cell} (h : k < cs.length) : (decide (c ∈ cs.take k) || decide (c = cs.getD k default)) = decide (c ∈ cs.take (k + 1)) := by
  rw [List.take_succ, List.getElem?_eq_getElem h]
  have e : cs.getD k default = cs[k] := by simp [h]
  rw [e]
  simp only [Option.toList, List.mem_append, List.mem_singleton, Bool.decide_or]

theorem Cell.lt_irrefl (c : Cell) : ¬ c.lt c := by unfold Cell.lt; omega
theorem Cell.lt_trans {a b c : Cell} (h : a.lt b) (k : b.lt c) : a.lt c := by unfold Cell.lt at *; omega
/-- Sorted lists with the same members are the same. -/
theorem sorted_ext : ∀ {l m : List Cell}, l.Pairwise Cell.lt → m.Pairwise Cell.lt → (∀ c, c ∈ l ↔ c ∈ m) → l = m
  | [], [], _, _, _ => rfl
  | [], b :: m, _, _, h => by have := (h b).2 (by simp); simp at this
  | a :: l, [], _, _, h => by have := (h a).1 (by simp); simp at this
  | a :: l, b :: m, hl, hm, h => by
    rw [List.pairwise_cons] at hl hm
    have hab : a = b := by
      rcases List.mem_cons.1 ((h a).1 (by simp)) with h1 | h1
      · exact h1
      · rcases List.mem_cons.1 ((h b).2 (by simp)) with h2 | h2
        · exact h2.symm
        · exact absurd (Cell.lt_trans (hm.1 a h1) (hl.1 b h2)) (Cell.lt_irrefl b)
    subst hab
    congr 1
    refine sorted_ext hl.2 hm.2 fun c => ?_
    have h1 : ∀ {c}, c ∈ l → a ≠ c := fun hc e => Cell.lt_irrefl a (by have := hl.1 _ hc; rw [← e] at this; exact this)
    have h2 : ∀ {c}, c ∈ m → a ≠ c := fun hc e => Cell.lt_irrefl a (by have := hm.1 _ hc; rw [← e] at this; exact this)
    have := h c
    simp only [List.mem_cons] at this
    constructor
    · intro hc; exact (this.1 (.inr hc)).resolve_left fun e => h1 hc e.symm
    · intro hc; exact (this.2 (.inr hc)).resolve_left fun e => h2 hc e.symm

theorem HeapOK.sorted {x y z : Int} {cs : List Cell} (h : HeapOK x y z cs) : cs.Pairwise Cell.lt := by
  rw [List.pairwise_iff_getElem]
  have key : ∀ (d i : Nat) (h1 : i < cs.length) (h2 : i + d + 1 < cs.length), (cs.getD i default).lt (cs.getD (i + d + 1) default) := by
    intro d
    induction d with
    | zero => intro i h1 h2; have := (h.2 (i + 1) h2).2 (by omega); simpa using this
    | succ d ih =>
      intro i h1 h2
      have h3 := ih i h1 (by omega)
      have h4 := (h.2 (i + (d + 1) + 1) h2).2 (by omega)
      rw [show i + (d + 1) + 1 - 1 = i + d + 1 by omega] at h4
      exact Cell.lt_trans h3 h4
  intro i j hi hj hij
  have := key (j - i - 1) i hi (by omega)
  rw [show i + (j - i - 1) + 1 = j by omega] at this
  simpa [hi, hj] using this
theorem HeapOK.mem {x y z : Int} {cs : List Cell} (h : HeapOK x y z cs) {c : Cell} (hc : c ∈ cs) : c.inBox x y z := by
  obtain ⟨i, hi, rfl⟩ := List.getElem_of_mem hc
  have := (h.2 i hi).1
  simpa [hi] using this
theorem HeapOK.of {x y z : Int} {cs : List Cell} (hS : Sides x y z) (hs : cs.Pairwise Cell.lt) (hm : ∀ c ∈ cs, c.inBox x y z) : HeapOK x y z cs := by
  refine ⟨hS, fun k hk => ⟨hm _ (by simp [hk]), fun h0 => ?_⟩⟩
  rw [List.pairwise_iff_getElem] at hs
  have := hs (k - 1) k (by omega) hk (by omega)
  have h1 : k - 1 < cs.length := by omega
  simpa [hk, h1] using this
theorem pick_ok {x y z : Int} (hS : Sides x y z) (p : Cell → Bool) : HeapOK x y z (pick x y z p) := HeapOK.of hS (pick_sorted hS p) fun c hc => ((mem_pick hS).1 hc).1
/-- A valid heap's cells are those of its box that it has, in order. -/
theorem HeapOK.pick {x y z : Int} {cs : List Cell} (h : HeapOK x y z cs) : cs = pick x y z fun c => decide (c ∈ cs) := by
  refine sorted_ext h.sorted (pick_sorted h.1 _) fun c => ?_
  rw [mem_pick h.1]
  simp only [decide_eq_true_eq]
  exact ⟨fun hc => ⟨h.mem hc, hc⟩, fun hc => hc.2⟩
theorem pick_len {x y z : Int} (hS : Sides x y z) (p : Cell → Bool) : (pick x y z p).length ≤ 64 := by
  have h1 := List.length_filter_le p (cellsOf x y z)
  have h2 : (cellsOf x y z).length = vol x y z := by simp [cellsOf]
  have h3 := vol_cast hS
  unfold Go.Ab.pick
  omega
theorem HeapOK.len {x y z : Int} {cs : List Cell} (h : HeapOK x y z cs) : cs.length ≤ 64 := by rw [h.pick]; exact pick_len h.1 _
theorem pick_congr {x y z : Int} (hS : Sides x y z) {p q : Cell → Bool} (h : ∀ c, c.inBox x y z → p c = q c) : pick x y z p = pick x y z q :=
  List.filter_congr fun c hc => h c ((mem_cellsOf hS).1 hc)
theorem HeapOK.nodup {x y z : Int} {cs : List Cell} (h : HeapOK x y z cs) : cs.Nodup := h.sorted.imp fun {a b} hab e => by subst e; exact Cell.lt_irrefl _ hab

/-! ### Bits -/
def bsN (n : Nat) (f : Nat → Bool) : BitVec 64 := (List.range n).foldl (fun s i => if f i then s ||| (1#64 <<< i) else s) 0#64
theorem bsN_succ (n : Nat) (f : Nat → Bool) : bsN (n + 1) f = if f n then bsN n f ||| (1#64 <<< n) else bsN n f := by
  simp [bsN, List.range_succ, List.foldl_append]
theorem bit_one {n i : Nat} (hn : n < 64) : (1#64 <<< n).getLsbD i = decide (i = n) := by
  rw [BitVec.getLsbD_shiftLeft, BitVec.getLsbD_one]
  by_cases h1 : i < 64
  · by_cases h2 : i < n
    · simp [h1, h2]; omega
    · simp [h1, h2]; omega
  · simp [h1]; omega
theorem bsN_bit {f : Nat → Bool} : ∀ {n : Nat}, n ≤ 64 → ∀ i, (bsN n f).getLsbD i = (decide (i < n) && f i)
  | 0, _, i => by simp [bsN]
  | n + 1, hn, i => by
    rw [bsN_succ]
    have ih := bsN_bit (f := f) (n := n) (by omega) i
    by_cases hf : f n = true
    · rw [if_pos hf, BitVec.getLsbD_or, ih, bit_one (by omega)]
      by_cases h1 : i = n
      · subst h1; simp [hf]
      · have : decide (i < n + 1) = decide (i < n) := decide_eq_decide.2 (by omega)
        rw [this]; simp [h1]
    · rw [if_neg hf, ih]
      by_cases h1 : i = n
      · subst h1; simp [hf]
      · have : decide (i < n + 1) = decide (i < n) := decide_eq_decide.2 (by omega)
        rw [this]

/-- The set of the cells of a box of which p holds. -/
def bs (x y z : Int) (p : Cell → Bool) : BitVec 64 := bsN (vol x y z) fun i => p (cellAt y z i)

section
variable {x y z : Int} (hS : Sides x y z)
include hS
theorem bs_bit (p : Cell → Bool) (i : Nat) : (bs x y z p).getLsbD i = (decide (i < vol x y z) && p (cellAt y z i)) := bsN_bit (vol_cast hS).2.2 i
theorem bs_has {p : Cell → Bool} {c : Cell} (hc : c.inBox x y z) : (bs x y z p).getLsbD (idx y z c).toNat = p c := by
  obtain ⟨h1, h2, h3⟩ := idx_in hS hc
  have hv := vol_cast hS
  rw [bs_bit hS, Int.toNat_of_nonneg h1, h3, decide_eq_true (by omega)]; rfl
theorem bs_ext {p : Cell → Bool} {s : BitVec 64} (h : ∀ i : Nat, i < vol x y z → s.getLsbD i = p (cellAt y z i)) (h' : ∀ i, vol x y z ≤ i → s.getLsbD i = false) : s = bs x y z p := by
  apply BitVec.eq_of_getLsbD_eq
  intro i _
  rw [bs_bit hS]
  by_cases hi : i < vol x y z
  · rw [h i hi, decide_eq_true hi]; rfl
  · rw [h' i (by omega), decide_eq_false hi]; rfl
theorem bs_eq {p q : Cell → Bool} : bs x y z p = bs x y z q ↔ ∀ c, c.inBox x y z → p c = q c := by
  constructor
  · intro h c hc; rw [← bs_has (p := p) hS hc, h, bs_has hS hc]
  · intro h
    have hv := vol_cast hS
    refine bs_ext hS (fun i hi => ?_) fun i hi => ?_
    · rw [bs_bit hS, decide_eq_true hi]; exact h _ (cellAt_in hS (by omega) (by omega)).1
    · rw [bs_bit hS, decide_eq_false (by omega)]; rfl
theorem bs_or (p q : Cell → Bool) : bs x y z p ||| bs x y z q = bs x y z fun c => p c || q c :=
  bs_ext hS (fun i hi => by rw [BitVec.getLsbD_or, bs_bit hS, bs_bit hS, decide_eq_true hi]; rfl) fun i hi => by rw [BitVec.getLsbD_or, bs_bit hS, bs_bit hS, decide_eq_false (by omega)]; rfl
theorem bs_and (p q : Cell → Bool) : bs x y z p &&& bs x y z q = bs x y z fun c => p c && q c :=
  bs_ext hS (fun i hi => by rw [BitVec.getLsbD_and, bs_bit hS, bs_bit hS, decide_eq_true hi]; rfl) fun i hi => by rw [BitVec.getLsbD_and, bs_bit hS, bs_bit hS, decide_eq_false (by omega)]; rfl
theorem bs_diff (p q : Cell → Bool) : bs x y z p &&& ~~~bs x y z q = bs x y z fun c => p c && !q c :=
  bs_ext hS (fun i hi => by
    have := vol_cast hS
    rw [BitVec.getLsbD_and, BitVec.getLsbD_not, bs_bit hS, bs_bit hS, decide_eq_true hi, decide_eq_true (show i < 64 by omega)]; rfl) fun i hi => by rw [BitVec.getLsbD_and, bs_bit hS, decide_eq_false (by omega)]; rfl
theorem bs_none : (0#64) = bs x y z fun _ => false := bs_ext hS (fun i _ => by simp) fun i _ => by simp
theorem bs_zero {p : Cell → Bool} : bs x y z p = 0#64 ↔ ∀ c, c.inBox x y z → p c = false := by rw [bs_none hS, bs_eq hS]
theorem bs_one {c : Cell} (hc : c.inBox x y z) : 1#64 <<< (idx y z c).toNat = bs x y z fun d => decide (d = c) := by
  obtain ⟨h1, h2, h3⟩ := idx_in hS hc
  have hv := vol_cast hS
  refine bs_ext hS (fun i hi => ?_) fun i hi => ?_
  · rw [bit_one (by omega)]
    refine decide_eq_decide.2 ⟨fun e => ?_, fun e => ?_⟩
    · rw [e, Int.toNat_of_nonneg h1, h3]
    · have := (cellAt_in hS (i := (i : Int)) (by omega) (by omega)).2
      rw [e] at this; omega
  · rw [bit_one (by omega)]; exact decide_eq_false (by omega)
end
end Go.Ab
