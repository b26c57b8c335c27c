import Derived.Test.YthoionlldmfpiaaDoorCfg
import Derived.Test.YthoionlldmfpiaaDoorBits
namespace Go.Proofs.YthoionlldmfpiaaDoor
open Go Go.Ab

/-! What a walk rewrites with. -/
attribute [go_sem] aol_move aol_assign aol_some' aol_none' aol_nil' aop ev_t ev_i ev_b ev_n ev_s ev_f
attribute [go_sem] nth_k0 upd_k0 nth_k1 upd_k1 nth_k2 upd_k2 nth_k3 upd_k3 nth_k4 upd_k4 nth_k5 upd_k5
attribute [go_sem] nth_k6 upd_k6 nth_k7 upd_k7 nth_8 upd_8 thn_n thn_r thn_e blk_n blk_r fin_n
attribute [go_sem] fin_r b_add b_sub b_mul b_quo b_rem b_and b_or b_xor b_andNot b_eql b_neq
attribute [go_sem] b_eqlB b_neqB b_lss b_leq b_gtr b_geq b_shl b_shr b_shlv b_shrv u_not u_neg
attribute [go_sem] p_t p_f ev_u64 b_add_u64 b_sub_u64 b_mul_u64 b_and_u64 b_or_u64 b_xor_u64 b_andNot_u64 b_eql_u64 b_neq_u64
attribute [go_sem] b_lss_u64 b_leq_u64 b_gtr_u64 b_geq_u64 b_quo_u64 b_rem_u64 b_shl_u64 b_shli_u64 b_shr_u64 b_shri_u64 ev_u32 b_add_u32
attribute [go_sem] b_sub_u32 b_mul_u32 b_and_u32 b_or_u32 b_xor_u32 b_andNot_u32 b_eql_u32 b_neq_u32 b_lss_u32 b_leq_u32 b_gtr_u32 b_geq_u32
attribute [go_sem] b_quo_u32 b_rem_u32 b_shl_u32 b_shli_u32 b_shr_u32 b_shri_u32 ev_u8 b_add_u8 b_sub_u8 b_mul_u8 b_and_u8 b_or_u8
attribute [go_sem] b_xor_u8 b_andNot_u8 b_eql_u8 b_neq_u8 b_lss_u8 b_leq_u8 b_gtr_u8 b_geq_u8 b_quo_u8 b_rem_u8 b_shl_u8 b_shli_u8
attribute [go_sem] b_shr_u8 b_shri_u8 ev_i32 b_add_i32 b_sub_i32 b_mul_i32 b_and_i32 b_or_i32 b_xor_i32 b_andNot_i32 b_eql_i32 b_neq_i32
attribute [go_sem] b_lss_i32 b_leq_i32 b_gtr_i32 b_geq_i32 b_quo_i32 b_rem_i32 b_shl_i32 b_shli_i32 b_shr_i32 b_shri_i32 run_ok run_bad
attribute [go_sem] true_and and_true List.getElem?_cons_succ List.getElem?_cons_zero Option.bind_some id decide_eq_true_eq decide_eq_false_iff_not Bool.not_true Bool.not_false Bool.not_eq_true' Bool.not_eq_false'
attribute [go_sem] Int.not_le Int.not_lt forall_const call_fn after_nil after_row shift_ag AV.shift0 mk_T mk_Γ Go.Ab.look shift_i
attribute [go_sem] shift_b shift_v shift_un frz_i frz_b frz_v frz_sl frz_nl frz_ref frz_fv frz_ag frz_fn
attribute [go_sem] frz_own frz_vw frz_sc frz_bp frz0 frz1 List.map_cons List.map_nil List.append_nil eq_self ne_eq inR_iff inR_not isSet_iff
attribute [go_sem] isSet_not ge_iff_le gt_iff_lt Int.toNat_natCast wrap64_id u64_id ishl_one wrap_full decide_true decide_false List.nil_append List.cons_append
attribute [go_sem] List.length_nil List.length_cons Nat.zero_add List.replicate List.set_cons_zero List.set_cons_succ beq_self_eq_true shift_own shift_tu shift_nl sh0_i sh0_b
attribute [go_sem] sh0_v sh0_nl sh0_own sh1_i sh1_b sh1_v sh1_nl sh1_own sh1_ag Go.Ab.aLoad Go.Ab.aStore Go.Ab.aBuiltin
attribute [go_sem] Go.Ab.aLen Go.Ab.aIndexAddr Go.Ab.elemOf Go.Ab.elemC Go.Ab.aBuildSlice Go.Ab.aRowFill Go.Ab.aRowFillC Go.Ab.aSrcC cval AV.val? Go.Ab.aNew Go.Ab.aMakeSlice Go.Ab.aBox Go.Ab.aAlloc Go.Ab.aFieldAddr Go.Ab.aField Go.Ab.aConvert
attribute [go_sem] Go.Ab.aExtract Go.Ab.aSlice Go.Ab.aAppend Go.Ab.aSrc Go.Ab.aNilCheck Go.Ab.aMin Go.Ab.aMax Go.Ab.aBuild Go.Ab.aFill Option.map_some Option.map_none int_i
attribute [go_sem] int_v wrapV iv TD.agg tInt tInts tBool tPair tUint tByte Γ AV.cellOk
attribute [go_sem] List.drop_succ_cons List.drop_zero List.take_succ_cons List.take_zero List.mem_cons
attribute [go_sem] tU32 str_one u8_id List.size_toArray size_bs b_sadd b_seql b_sneq ix_s int_own ofB_l ByteArray.extract_mk Go.Ab.aConvStr
attribute [go_sem] tStr
attribute [go_sem] tStrs
attribute [go_sem] tBytes
attribute [go_sem] mk2_T mk2_M mk2_Γ noM_mk noM_mk2 after_none lend_nil lend_cons afterM_some lendIds addNew boxIds AV.ids0 AV.ids1 posIn AV.pos0 AV.pos1 lent AO.pos
attribute [go_sem] lendσ List.range' lendBack AV.ren AV.ren1 AV.ren0 AO.ren List.getD_cons_zero List.getD_cons_succ lookM finm_n finm_r true_or or_true false_or or_false List.not_mem_nil List.flatMap_cons List.flatMap_nil

end Go.Proofs.YthoionlldmfpiaaDoor
