/- Walks of functions of the program: each returns what the plain function gives. Conditions: those that each statement names. -/
import Derived.Test.YtigngogjgohfgaaWgm
namespace Go.Proofs.Ytigngogjgohfgaa
open Go
set_option linter.unusedSimpArgs false
set_option linter.unusedVariables false
theorem drawQt_ok {Hcode : Hp} {vcode : Value} (code : List Int) (hcode : Bytes Hcode vcode code) : Spec Try.prog 18 [vcode] [Hcode] (fun Hq vq => ∃ (mq : Mod) (fq : List Bool) (uq0a uq0b uq1 : Value), vq = .tuple #[.agg #[uq0a, uq0b], uq1] ∧ Ints Hq uq0a mq.doms ∧ Cons Hq uq0b mq.cons ∧ Bools Hq uq1 fq ∧ ModSm 100 mq ∧ fq.length ≤ 5) := by
 refine spec_ofR Try.func18 rfl rfl rfl (fun B => ?_)
 refine kc_seq (kc_region ?_)
 refine kl_alloc (cs := [.slice none 0 0, .slice none 0 0]) rfl (fun b1 hb2 => ?_)
 refine kl_as rfl ?_
 refine kl_nil (kq_code (kc_seq (kc_region ?_)))
 refine kl_mv rfl ?_
 refine kl_callT rfl rfl (newReader_ok code hcode) (fun v3 L1 Ln K7 h4 f5 f6 => ?_)
 obtain ⟨rfl, b8, v9, x10, rfl, rfl, h11⟩ := h4
 refine kl_norm ?_
 refine kl_as rfl ?_
 refine kl_nil (kq_code (kc_seq (kc_region ?_)))
 refine kl_mv rfl ?_
 refine kl_callT rfl rfl (gameModel_ok 0 (by omega) h11) (fun v12 L1 Ln K16 h13 f14 f15 => ?_)
 obtain ⟨q17, h18, rfl, H21, M23, v24, v25, z19, rfl, rfl, o22, o26, h20⟩ := h13
 have f27 := f14 _ (.head _)
 have f28 := f14 _ (.tail _ (.head _))
 have hd1 := h20.d1
 have hd4 := h20.d
 have hc1 := h20.c
 have hcc := h20.cc
 refine kl_norm ?_
 refine kl_alloc (cs := [.slice none 0 0, .slice none 0 0]) rfl (fun b29 hb30 => ?_)
 refine kl_stW (us := [v24, v25]) rfl rfl rfl rfl (oc (OwnL.oneCell (by assumption)) (oc (OwnL.oneCell (by assumption)) oc_nil)) rfl ?_
 refine kl_chg [sing b29 (.cells [v24, v25].toArray 26 (0, 0)), sing b8 (.cells [v9, .int .i64 (q17 : Int)].toArray 106 (0, 0)), H21, M23, sing b1 (.cells [.slice none 0 0, .slice none 0 0].toArray 26 (0, 0))] rfl ?_
 refine kl_nil (kq_code ?_)
 refine kc_seq ?_
 refine kc_tree (fun i => ([6] : List Nat).contains i) [sing b29 (.cells [v24, v25].toArray 26 (0, 0))] (by kernel_rfl) ?_
 refine kt_q 0 (.cons_cons _ (List.nil_sublist _)) rfl (by kernel_rfl) ?_
 refine kl_ldS rfl (at_box (T := 26) (cs := [v24, v25]) (off := 0) (fz := (0, 0))) rfl ?_
 refine kl_nil (kq_q ?_)
 refine kt_q 1 (.cons_cons _ (List.nil_sublist _)) rfl (by kernel_rfl) ?_
 refine kl_mv rfl ?_
 refine kl_nil (kq_q ?_)
 refine kt_q 2 (.cons_cons _ (List.nil_sublist _)) rfl (by kernel_rfl) ?_
 refine kl_fdV rfl ?_
 refine kl_nil (kq_q ?_)
 refine kt_q 3 (.cons_cons _ (List.nil_sublist _)) rfl (by kernel_rfl) ?_
 refine kl_ld rfl (at_box (T := 26) (cs := [v24, v25]) (off := 0) (fz := (0, 0))) ?_
 refine kl_nil (kq_q ?_)
 refine kt_q 4 (.cons_cons _ (List.nil_sublist _)) rfl (by kernel_rfl) ?_
 refine kl_lenL rfl o22 (fun l31 => ?_)
 refine kl_nil (kq_q ?_)
 refine kt_a 5 rfl (by kernel_rfl) ?_
 refine kl_callT rfl rfl (quantifiers_ok q17 (z19.doms.length : Int) (by first | assumption | omega) (by omega) h11) (fun v32 L1 Ln K36 h33 f34 f35 => ?_)
 obtain ⟨q37, h38, rfl, H41, z39, rfl, o42, h40⟩ := h33
 have f43 := f34 _ (.head _)
 refine kl_norm ?_
 refine kl_nil (kq_a (.cons _ (.cons _ (.cons_cons _ (List.nil_sublist _)))) ?_)
 refine kt_a 6 rfl (by kernel_rfl) ?_
 refine kl_stW (us := [v24, v25]) rfl rfl rfl rfl (oc (OwnL.oneCell (by assumption)) (oc (OwnL.oneCell (by assumption)) oc_nil)) rfl ?_
 refine kl_chg [sing b8 (.cells [v9, .int .i64 (q37 : Int)].toArray 106 (0, 0)), H41, sing b29 (.cells [v24, v25].toArray 26 (0, 0)), H21, M23, sing b1 (.cells [v24, v25].toArray 26 (0, 0))] rfl ?_
 refine kl_nil (kq_x rfl ?_)
 refine kt_q 7 (.cons _ (.cons _ (.cons_cons _ (List.nil_sublist _)))) rfl (by kernel_rfl) ?_
 refine kl_as rfl ?_
 refine kl_nil (kq_q ?_)
 refine kt_end (by kernel_rfl) ?_
 refine kq_code ?_
 refine kc_ret ?_
 refine kq_frz H21 ?_
 refine kq_frz M23 ?_
 refine kq_cmp M23 K16 (fun c44 => ?_)
 refine kq_frz H41 ?_
 refine kq_cmp (orHp M23 K16) H41 (fun c45 => ?_)
 refine kq_cmp H21 (orHp (orHp M23 K16) H41) (fun c46 => ?_)
 exact kq_retR (rss2 rfl (rs_agg rfl rfl) (rs_tmp rfl)) (orHp H21 (orHp (orHp M23 K16) H41)) (fr_or f27 (fr_or (fr_or f28 f15) f43)) ⟨(⟨z19.doms, z19.cons⟩ : Mod), z39, _, _, _, rfl, (Sl.mono (OwnL.ints o22) (fun b o h => orL b o h) (fun _ _ h => h)), (Cons.mono' (OwnL.consK o26 c44) (fun b o h => orC c46 b o (orL b o h))), (Sl.mono (OwnL.bools o42) (fun b o h => orC c46 b o (orC c45 b o h)) (fun _ _ h => h)), by exact ⟨by (constructor <;> dsimp only <;> first | omega | assumption), by assumption⟩⟩ .none
end Go.Proofs.Ytigngogjgohfgaa
