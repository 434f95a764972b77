/- Walks of functions of the program: each returns what the plain function gives. Conditions: those that each statement names. -/
import Derived.Test.YtigngogjgohfgaaWrm
namespace Go.Proofs.Ytigngogjgohfgaa
open Go
set_option linter.unusedSimpArgs false
set_option linter.unusedVariables false
theorem drawSa_ok {Hcode : Hp} {vcode : Value} (code : List Int) (hcode : Bytes Hcode vcode code) : Spec Try.prog 11 [vcode] [Hcode] (fun Hq vq => ∃ (mq : Mod) (z : Int) (uq0a uq0b : Value), vq = .tuple #[.agg #[uq0a, uq0b], .int .i64 z] ∧ Ints Hq uq0a mq.doms ∧ Cons Hq uq0b mq.cons ∧ ModSm 100 mq) := by
  refine spec_ofR Try.func11 rfl rfl rfl (fun B => ?_)
  refine kc_seq ?_
  refine kc_region ?_
  refine kl_alloc (cs := [.slice none 0 0, .slice none 0 0]) rfl (fun b1 hb2 => ?_)
  refine kl_as rfl ?_
  refine kl_nil ?_
  refine kq_code ?_
  refine kc_seq ?_
  refine kc_region ?_
  refine kl_mv rfl ?_
  refine kl_callT rfl rfl (newReader_ok code hcode) (fun v3 L1 Ln K7 h4 f5 f6 => ?_)
  obtain ⟨rfl, b8, v9, x10, rfl, rfl, h11⟩ := h4
  refine kl_norm ?_
  refine kl_as rfl ?_
  refine kl_nil ?_
  refine kq_code ?_
  refine kc_seq ?_
  refine kc_region ?_
  refine kl_mv rfl ?_
  refine kl_callT rfl rfl (anyModel_ok 0 (by omega) h11) (fun v12 L1 Ln K16 h13 f14 f15 => ?_)
  obtain ⟨q17, h18, rfl, H21, M23, v24, v25, z19, rfl, rfl, o22, o26, h20⟩ := h13
  have f27 := f14 _ (.head _)
  have f28 := f14 _ (.tail _ (.head _))
  refine kl_norm ?_
  refine kl_alloc (cs := [.slice none 0 0, .slice none 0 0]) rfl (fun b29 hb30 => ?_)
  refine kl_stW (us := [v24, v25]) rfl rfl rfl rfl (oc (OwnL.oneCell (by assumption)) (oc (OwnL.oneCell (by assumption)) oc_nil)) rfl ?_
  refine kl_chg [sing b29 (.cells [v24, v25].toArray 26 (0, 0)), sing b8 (.cells [v9, .int .i64 (q17 : Int)].toArray 106 (0, 0)), H21, M23, sing b1 (.cells [.slice none 0 0, .slice none 0 0].toArray 26 (0, 0))] rfl ?_
  refine kl_nil ?_
  refine kq_code ?_
  refine kc_seq ?_
  refine kc_tree (fun i => ([4] : List Nat).contains i) [sing b29 (.cells [v24, v25].toArray 26 (0, 0))] (by kernel_rfl) ?_
  refine kt_q 0 (.cons_cons _ (List.nil_sublist _)) rfl (by kernel_rfl) ?_
  refine kl_ldS rfl (at_box (T := 26) (cs := [v24, v25]) (off := 0) (fz := (0, 0))) rfl ?_
  refine kl_nil (kq_q ?_)
  refine kt_q 1 (.cons_cons _ (List.nil_sublist _)) rfl (by kernel_rfl) ?_
  refine kl_mv rfl ?_
  refine kl_nil (kq_q ?_)
  refine kt_a 2 rfl (by kernel_rfl) ?_
  refine kl_bs rfl rfl rfl (by decide) (ca rfl (ca rfl (ca rfl (ca rfl (ca rfl (ca rfl (ca rfl (ca rfl ca_nil)))))))) (fun v31 H32 f33 r34 s35 => ?_)
  have h36 : Ints H32 v31 [(0 : Int), (1 : Int), (2 : Int), (5 : Int), (17 : Int), (100 : Int), (-1 : Int), (2000 : Int)] := litInts (xs := [(0 : Int), (1 : Int), (2 : Int), (5 : Int), (17 : Int), (100 : Int), (-1 : Int), (2000 : Int)]) (by simpa using s35)
  refine kl_nil (kq_a (.cons_cons _ (List.nil_sublist _)) ?_)
  refine kt_a 3 rfl (by kernel_rfl) ?_
  refine kl_callT rfl rfl (one_ok q17 ([(0 : Int), (1 : Int), (2 : Int), (5 : Int), (17 : Int), (100 : Int), (-1 : Int), (2000 : Int)]) (by simp) (by omega) h11 (by assumption)) (fun v37 L1 Ln K41 h38 f39 f40 => ?_)
  obtain ⟨q42, h43, rfl, rfl, z44, rfl, h45⟩ := h38
  refine kl_norm ?_
  refine kl_nil (kq_a (.cons _ (.cons_cons _ (List.nil_sublist _))) ?_)
  refine kt_a 4 rfl (by kernel_rfl) ?_
  refine kl_stW (us := [v24, v25]) rfl rfl rfl rfl (oc (OwnL.oneCell (by assumption)) (oc (OwnL.oneCell (by assumption)) oc_nil)) rfl ?_
  refine kl_chg [sing b8 (.cells [v9, .int .i64 (q42 : Int)].toArray 106 (0, 0)), sing b29 (.cells [v24, v25].toArray 26 (0, 0)), H21, M23, sing b1 (.cells [v24, v25].toArray 26 (0, 0))] rfl ?_
  refine kl_nil (kq_x rfl ?_)
  refine kt_q 5 (.cons _ (.cons_cons _ (List.nil_sublist _))) rfl (by kernel_rfl) ?_
  refine kl_as rfl ?_
  refine kl_nil (kq_q ?_)
  refine kt_end (by kernel_rfl) ?_
  refine kq_code ?_
  refine kc_ret ?_
  refine kq_frz H21 ?_
  refine kq_frz M23 ?_
  refine kq_cmp M23 K16 (fun c48 => ?_)
  refine kq_cmp H21 (orHp M23 K16) (fun c49 => ?_)
  exact kq_retR (rss2 rfl (rs_agg rfl rfl) (rs_tmp rfl)) (orHp H21 (orHp M23 K16)) (fr_or f27 (fr_or f28 f15)) ⟨(⟨z19.doms, z19.cons⟩ : Mod), z44, _, _, rfl, (Sl.mono (OwnL.ints o22) (fun b o h => orL b o h) (fun _ _ h => h)), (Cons.mono' (OwnL.consK o26 c48) (fun b o h => orC c49 b o h)), by assumption⟩ .none
end Go.Proofs.Ytigngogjgohfgaa
