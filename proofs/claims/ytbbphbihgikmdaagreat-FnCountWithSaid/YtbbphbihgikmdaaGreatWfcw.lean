/- Walks of functions of the program: each returns what the plain function gives. Conditions: those that each statement names. -/
import Derived.Test.YtbbphbihgikmdaaGreatWrcl
import Derived.Test.YtbbphbihgikmdaaGreatWcw
import Derived.Test.YtbbphbihgikmdaaGreatWrm
import Derived.Test.YtbbphbihgikmdaaGreatWcnt
namespace Go.Proofs.YtbbphbihgikmdaaGreat
open Go
set_option linter.unusedSimpArgs false
set_option linter.unusedVariables false
theorem drawCw_ok {Hcode : Hp} {vcode : Value} (code : List Int) (hcode : Bytes Hcode vcode code) : Spec Tryz.prog 16 [vcode] [Hcode] (fun Hq vq => ∃ (mq : Mod) (lq : List Lit) (uq0a uq0b uq1 : Value), vq = .tuple #[.agg #[uq0a, uq0b], uq1] ∧ Ints Hq uq0a mq.doms ∧ Cons Hq uq0b mq.cons ∧ Lits Hq uq1 lq ∧ ModSm 100 mq ∧ lq.length ≤ 5) := by
 refine spec_ofR Tryz.func16 rfl rfl rfl (fun B => ?_)
 refine kc_seq (kc_region ?_)
 refine kl_alloc (cs := [.slice none 0 0, .slice none 0 0]) rfl (fun b1 hb2 => ?_)
 refine kl_as rfl ?_
 refine kl_nil (kq_code (kc_seq (kc_region ?_)))
 refine kl_mv rfl ?_
 refine kl_callT rfl rfl (newReader_ok code hcode) (fun v3 L1 Ln K7 h4 f5 f6 => ?_)
 obtain ⟨rfl, b8, v9, x10, rfl, rfl, h11⟩ := h4
 refine kl_norm ?_
 refine kl_as rfl ?_
 refine kl_nil (kq_code (kc_seq (kc_region ?_)))
 refine kl_mv rfl ?_
 refine kl_callT rfl rfl (anyModel_ok 0 (by omega) h11) (fun v12 L1 Ln K16 h13 f14 f15 => ?_)
 obtain ⟨q17, h18, rfl, H21, M23, v24, v25, z19, rfl, rfl, o22, o26, h20⟩ := h13
 have f27 := f14 _ (.head _)
 have f28 := f14 _ (.tail _ (.head _))
 have hd1 := h20.d1
 have hd4 := h20.d
 have hc1 := h20.c
 have hcc := h20.cc
 refine kl_norm ?_
 refine kl_frz H21 ?_
 have h29 := OwnL.ints o22
 refine kl_frz M23 ?_
 refine kl_cmp M23 K16 (fun c30 => ?_)
 have h31 := OwnL.consK o26 c30
 refine kl_alloc (cs := [.slice none 0 0, .slice none 0 0]) rfl (fun b32 hb33 => ?_)
 refine kl_stW (us := [v24, v25]) rfl rfl rfl rfl (oc (Sl.oneCell (by assumption)) (oc (Sl.oneCell (by assumption)) oc_nil)) rfl ?_
 refine kl_chg [sing b32 (.cells [v24, v25].toArray 32 (0, 0)), sing b8 (.cells [v9, .int .i64 (q17 : Int)].toArray 113 (0, 0)), sing b1 (.cells [.slice none 0 0, .slice none 0 0].toArray 32 (0, 0))] rfl ?_
 refine kl_nil (kq_code ?_)
 refine kc_seq ?_
 refine kc_tree (fun i => ([6] : List Nat).contains i) [sing b32 (.cells [v24, v25].toArray 32 (0, 0))] (by kernel_rfl) ?_
 refine kt_q 0 (.cons_cons _ (List.nil_sublist _)) rfl (by kernel_rfl) ?_
 refine kl_ldS rfl (at_box (T := 32) (cs := [v24, v25]) (off := 0) (fz := (0, 0))) rfl ?_
 refine kl_nil (kq_q ?_)
 refine kt_q 1 (.cons_cons _ (List.nil_sublist _)) rfl (by kernel_rfl) ?_
 refine kl_mv rfl ?_
 refine kl_nil (kq_q ?_)
 refine kt_q 2 (.cons_cons _ (List.nil_sublist _)) rfl (by kernel_rfl) ?_
 refine kl_fdV rfl ?_
 refine kl_nil (kq_q ?_)
 refine kt_q 3 (.cons_cons _ (List.nil_sublist _)) rfl (by kernel_rfl) ?_
 refine kl_ld rfl (at_box (T := 32) (cs := [v24, v25]) (off := 0) (fz := (0, 0))) ?_
 refine kl_nil (kq_q ?_)
 refine kt_q 4 (.cons_cons _ (List.nil_sublist _)) rfl (by kernel_rfl) ?_
 refine kl_len rfl (by assumption) (fun l34 => ?_)
 refine kl_nil (kq_q ?_)
 refine kt_a 5 rfl (by kernel_rfl) ?_
 refine kl_callT rfl rfl (anyClause_ok q17 (z19.doms.length : Int) (by omega) h11) (fun v35 L1 Ln K39 h36 f37 f38 => ?_)
 obtain ⟨q40, h41, rfl, H44, z42, rfl, o45, h43⟩ := h36
 have f46 := f37 _ (.head _)
 have hac := h43
 refine kl_norm ?_
 refine kl_nil (kq_a (.cons _ (.cons _ (.cons_cons _ (List.nil_sublist _)))) ?_)
 refine kt_a 6 rfl (by kernel_rfl) ?_
 refine kl_stW (us := [v24, v25]) rfl rfl rfl rfl (oc (Sl.oneCell (by assumption)) (oc (Sl.oneCell (by assumption)) oc_nil)) rfl ?_
 refine kl_chg [sing b8 (.cells [v9, .int .i64 (q40 : Int)].toArray 113 (0, 0)), H44, sing b32 (.cells [v24, v25].toArray 32 (0, 0)), sing b1 (.cells [v24, v25].toArray 32 (0, 0))] rfl ?_
 refine kl_nil (kq_x rfl ?_)
 refine kt_q 7 (.cons _ (.cons _ (.cons_cons _ (List.nil_sublist _)))) rfl (by kernel_rfl) ?_
 refine kl_as rfl ?_
 refine kl_nil (kq_q ?_)
 refine kt_end (by kernel_rfl) ?_
 refine kq_code ?_
 refine kc_ret ?_
 refine kq_frz H44 ?_
 refine kq_cmp (orHp M23 K16) H44 (fun c47 => ?_)
 refine kq_cmp H21 (orHp (orHp M23 K16) H44) (fun c48 => ?_)
 exact kq_retR (rss2 rfl (rs_agg rfl rfl) (rs_tmp rfl)) (orHp H21 (orHp (orHp M23 K16) H44)) (fr_or f27 (fr_or (fr_or f28 f15) f46)) ⟨(⟨z19.doms, z19.cons⟩ : Mod), z42, _, _, _, rfl, (Sl.mono (by assumption) (fun b o h => orL b o h) (fun _ _ h => h)), (Cons.mono' (by assumption) (fun b o h => orC c48 b o (orL b o h))), (Sl.mono (OwnL.lits o45) (fun b o h => orC c48 b o (orC c47 b o h)) (fun _ _ h => h)), by exact ⟨by assumption, by assumption⟩⟩ .none
theorem lawFnCw_ok {Hcode : Hp} {vcode : Value} (code : List Int) (hcode : Bytes Hcode vcode code) : SpecP Tryz.prog 4 [vcode] [Hcode] (.bool true) := by
 refine spec_of Tryz.func4 rfl rfl rfl (fun B => ?_)
 refine kc_seq (kc_region ?_)
 refine kl_as rfl ?_
 refine kl_nil (kq_code ?_)
 refine kc_seq ?_
 refine kc_seq (kc_region ?_)
 refine kl_mv rfl ?_
 refine kl_len rfl (by assumption) (fun l1 => ?_)
 refine kl_gtr rfl rfl ?_
 refine kl_nil (kq_code ?_)
 refine kc_if rfl (fun c2 => ?_) (fun c2 => ?_)
 ·skip
  refine kc_seq (kc_region ?_)
  refine kl_as rfl ?_
  refine kl_nil (kq_code ?_)
  refine kc_ret ?_
  refine kq_retP rfl rfl (congrArg Value.bool ?_)
  first | rfl | (simp; done) | exact cw_nil hlo
 ·skip
  refine kc_skipQ ?_
  refine kq_code ?_
  refine kc_seq (kc_region ?_)
  refine kl_mv rfl ?_
  refine kl_call rfl rfl (drawCw_ok code hcode) (fun v3 H4 f5 h6 => ?_)
  obtain ⟨z9, z14, u10, u11, u15, rfl, h12, h13, h16, h8⟩ := h6
  have hd1 := h8.1.d1
  have hd4 := h8.1.d
  have hll := h8.2
  refine kl_mv rfl ?_
  refine kl_xt rfl rfl ?_
  refine kl_xt rfl rfl ?_
  refine kl_alloc (cs := [.slice none 0 0, .slice none 0 0]) rfl (fun b17 hb18 => ?_)
  refine kl_stW (us := [u10, u11]) rfl rfl rfl rfl (oc (Sl.oneCell (by assumption)) (oc (Sl.oneCell (by assumption)) oc_nil)) rfl ?_
  refine kl_chg [sing b17 (.cells [u10, u11].toArray 32 (0, 0))] rfl ?_
  refine kl_as rfl ?_
  refine kl_nil (kq_code (kc_seq (kc_region ?_)))
  refine kl_ldW rfl rfl ?_
  refine kl_mv rfl ?_
  refine kl_callP rfl rfl (cwImp_ok z9 z14 (by assumption) (by assumption) (by assumption)) ?_
  refine kl_as rfl ?_
  refine kl_nil (kq_code ?_)
  refine kc_seq ?_
  refine kc_seq (kc_region ?_)
  refine kl_mv rfl ?_
  refine kl_ldW rfl rfl ?_
  refine kl_mv rfl ?_
  refine kl_callP rfl rfl (cwSpc_ok z9 z14 (by assumption) (by assumption) (by assumption)) ?_
  refine kl_neq rfl rfl ?_
  refine kl_mv rfl ?_
  refine kl_join 3 28 (.bool (decide ((cwI z9 z14) ≠ (cwI z9 z14)) || decide ((cwI z9 z14) < (0 : Int)))) (pc 2 rfl (pc 3 rfl (pc 4 rfl (pc 5 rfl (pc 25 rfl pn))))) (fun J20 => ?_) ?_
  ·rcases Bool.eq_false_or_eq_true (decide ((cwI z9 z14) ≠ (cwI z9 z14))) with g19 | g19
   ·skip
    refine kl_gF rfl rfl g19 ?_
    refine kl_gF rfl rfl g19 ?_
    refine kl_orT (decide ((cwI z9 z14) < (0 : Int))) rfl rfl g19 ?_
    exact J20 _ (pc 28 rfl (pc 2 rfl (pc 3 rfl (pc 4 rfl (pc 5 rfl (pc 25 rfl pn))))))
   ·skip
    have g19p := of_decide_eq_false g19
    refine kl_gT rfl rfl g19 ?_
    refine kl_mv rfl ?_
    refine kl_gT rfl rfl g19 ?_
    refine kl_lss rfl rfl ?_
    refine kl_orF rfl rfl g19 ?_
    exact J20 _ (pc 28 rfl (pc 2 rfl (pc 3 rfl (pc 4 rfl (pc 5 rfl (pc 25 rfl pn))))))
  refine kl_nil (kq_code ?_)
  refine kc_cond rfl (fun c21 => ?_) (fun c21 => ?_)
  ·skip
   have c21r := c21
   try simp only [Bool.not_eq_true', Bool.not_eq_false', Bool.not_true, Bool.not_false, decide_eq_true_eq, decide_eq_false_iff_not, Bool.and_eq_true, Bool.or_eq_false_iff] at c21
   refine kc_seq (kc_region ?_)
   refine kl_mv rfl ?_
   refine kl_ldW rfl rfl ?_
   refine kl_mv rfl ?_
   refine kl_callP rfl rfl (cwSpc_ok z9 z14 (by assumption) (by assumption) (by assumption)) ?_
   refine kl_eql rfl rfl ?_
   refine kl_as rfl ?_
   refine kl_nil (kq_code ?_)
   refine kc_ret ?_
   refine kq_retP rfl rfl (congrArg Value.bool ?_)
   first | rfl | (simp; done) | exact cw_nil hlo
  ·skip
   have c21r := c21
   try simp only [Bool.not_eq_true', Bool.not_eq_false', Bool.not_true, Bool.not_false, decide_eq_true_eq, decide_eq_false_iff_not, Bool.and_eq_true, Bool.or_eq_false_iff] at c21
   have hlo := cw_ge c21r
   have hM : MOk _ := ⟨(litsB_iff.1 hlo).1⟩
   refine kc_skipQ ?_
   refine kq_code ?_
   refine kc_seq ?_
   refine kc_seq (kc_region ?_)
   refine kl_as rfl ?_
   refine kl_nil (kq_code ?_)
   refine kc_block ?_
   refine kc_loop0 (A := Nat) (fun zz => (zz ≤ z14.length)) (fun zz => z14.length - zz) (fun zz => [(6, .int .i64 (zz : Int))]) (0) (pc 3 rfl (pc 4 rfl (pc 5 rfl pn))) (pc 6 rfl pn) (Nat.zero_le _) ?_
   rintro k hJ24
   have hk22 : (k ≤ z14.length) := hJ24
   change KC _ _ (_) _ _ ([(6, .int .i64 (k : Int))] ++ _)
   refine kc_seq ?_
   refine kc_seq (kc_region ?_)
   refine kl_mv rfl ?_
   refine kl_mv rfl ?_
   refine kl_len rfl (by assumption) (fun l25 => ?_)
   refine kl_lss rfl rfl ?_
   refine kl_nil (kq_code ?_)
   refine kc_if rfl (fun c26 => ?_) (fun c26 => ?_)
   ·skip
    have hcs := cw_sum hlo (i := k) (by omega)
    have hco := cw_one hlo (i := k) (by omega)
    have hcp := cw_pre hlo (i := k) (by omega)
    refine kc_skipQ ?_
    refine kq_code ?_
    refine kc_seq ?_
    refine kc_block ?_
    refine kc_seq ?_
    refine kc_tree (fun i => ([6] : List Nat).contains i) [sing b17 (.cells [u10, u11].toArray 32 (0, 0))] (by kernel_rfl) ?_
    refine kt_q 0 (.cons_cons _ (List.nil_sublist _)) rfl (by kernel_rfl) ?_
    refine kl_ldS rfl (at_box (T := 32) (cs := [u10, u11]) (off := 0) (fz := (0, 0))) rfl ?_
    refine kl_nil (kq_q ?_)
    refine kt_q 1 (.cons_cons _ (List.nil_sublist _)) rfl (by kernel_rfl) ?_
    refine kl_mv rfl ?_
    refine kl_nil (kq_q ?_)
    refine kt_q 2 (.cons_cons _ (List.nil_sublist _)) rfl (by kernel_rfl) ?_
    refine kl_mv rfl ?_
    refine kl_nil (kq_q ?_)
    refine kt_q 3 (.cons_cons _ (List.nil_sublist _)) rfl (by kernel_rfl) ?_
    refine kl_mv rfl ?_
    refine kl_nil (kq_q ?_)
    refine kt_q 4 (.cons_cons _ (List.nil_sublist _)) rfl (by kernel_rfl) ?_
    refine kl_inc rfl rfl (by omega) ?_
    refine kl_nil (kq_q ?_)
    refine kt_q 5 (.cons_cons _ (List.nil_sublist _)) rfl (by kernel_rfl) ?_
    refine kl_slSub (i := k) (j := (k + 1)) rfl rfl rfl (by assumption) (by omega) (by omega) (fun u27 h28 => ?_)
    refine kl_nil (kq_q ?_)
    refine kt_a 6 rfl (by kernel_rfl) ?_
    refine kl_callP rfl rfl (cwImp_ok z9 ((z14.take (k + 1)).drop k) (by assumption) (by assumption) (by assumption)) ?_
    refine kl_nil (kq_x rfl ?_)
    refine kt_q 7 (.cons_cons _ (List.nil_sublist _)) rfl (by kernel_rfl) ?_
    refine kl_as rfl ?_
    refine kl_nil (kq_q ?_)
    refine kt_end (by kernel_rfl) ?_
    refine kq_code ?_
    refine kc_seq ?_
    refine kc_tree (fun i => ([19] : List Nat).contains i) [sing b17 (.cells [u10, u11].toArray 32 (0, 0))] (by kernel_rfl) ?_
    refine kt_q 0 (.cons_cons _ (List.nil_sublist _)) rfl (by kernel_rfl) ?_
    refine kl_ldS rfl (at_box (T := 32) (cs := [u10, u11]) (off := 0) (fz := (0, 0))) rfl ?_
    refine kl_nil (kq_q ?_)
    refine kt_q 1 (.cons_cons _ (List.nil_sublist _)) rfl (by kernel_rfl) ?_
    refine kl_mv rfl ?_
    refine kl_nil (kq_q ?_)
    refine kt_q 2 (.cons_cons _ (List.nil_sublist _)) rfl (by kernel_rfl) ?_
    refine kl_mv rfl ?_
    refine kl_nil (kq_q ?_)
    refine kt_q 3 (.cons_cons _ (List.nil_sublist _)) rfl (by kernel_rfl) ?_
    refine kl_inQ rfl rfl (by assumption) (by omega) (fun p29 a30 => ?_)
    refine kl_nil (kq_q ?_)
    refine kt_q 4 (.cons_cons _ (List.nil_sublist _)) rfl (by kernel_rfl) ?_
    refine kl_fd rfl (by assumption) (fun p31 a32 => ?_)
    refine kl_nil (kq_q ?_)
    refine kt_q 5 (.cons_cons _ (List.nil_sublist _)) rfl (by kernel_rfl) ?_
    refine kl_ld rfl (by assumption) ?_
    refine kl_nil (kq_q ?_)
    refine kt_q 6 (.cons_cons _ (List.nil_sublist _)) rfl (by kernel_rfl) ?_
    refine kl_mv rfl ?_
    refine kl_nil (kq_q ?_)
    refine kt_q 7 (.cons_cons _ (List.nil_sublist _)) rfl (by kernel_rfl) ?_
    refine kl_mv rfl ?_
    refine kl_nil (kq_q ?_)
    refine kt_q 8 (.cons_cons _ (List.nil_sublist _)) rfl (by kernel_rfl) ?_
    refine kl_inQ rfl rfl (by assumption) (by omega) (fun p33 a34 => ?_)
    refine kl_nil (kq_q ?_)
    refine kt_q 9 (.cons_cons _ (List.nil_sublist _)) rfl (by kernel_rfl) ?_
    refine kl_fd rfl (by assumption) (fun p35 a36 => ?_)
    refine kl_nil (kq_q ?_)
    refine kt_q 10 (.cons_cons _ (List.nil_sublist _)) rfl (by kernel_rfl) ?_
    refine kl_ld rfl (by assumption) ?_
    refine kl_nil (kq_q ?_)
    refine kt_q 11 (.cons_cons _ (List.nil_sublist _)) rfl (by kernel_rfl) ?_
    refine kl_mv rfl ?_
    refine kl_nil (kq_q ?_)
    refine kt_q 12 (.cons_cons _ (List.nil_sublist _)) rfl (by kernel_rfl) ?_
    refine kl_mv rfl ?_
    refine kl_nil (kq_q ?_)
    refine kt_q 13 (.cons_cons _ (List.nil_sublist _)) rfl (by kernel_rfl) ?_
    refine kl_inQ rfl rfl (by assumption) (by omega) (fun p37 a38 => ?_)
    refine kl_nil (kq_q ?_)
    refine kt_q 14 (.cons_cons _ (List.nil_sublist _)) rfl (by kernel_rfl) ?_
    refine kl_fd rfl (by assumption) (fun p39 a40 => ?_)
    refine kl_nil (kq_q ?_)
    refine kt_q 15 (.cons_cons _ (List.nil_sublist _)) rfl (by kernel_rfl) ?_
    refine kl_ld rfl (by assumption) ?_
    refine kl_nil (kq_q ?_)
    refine kt_q 16 (.cons_cons _ (List.nil_sublist _)) rfl (by kernel_rfl) ?_
    refine kl_not rfl ?_
    refine kl_nil (kq_q ?_)
    refine kt_a 17 rfl (by kernel_rfl) ?_
    refine kl_bd rfl (cp rfl (cp rfl (cp rfl cp_nil))) rfl ?_
    refine kl_nil (kq_a (.cons_cons _ (List.nil_sublist _)) ?_)
    refine kt_a 18 rfl (by kernel_rfl) ?_
    refine kl_bsQ rfl (fun v41 H42 f43 r44 h45 => ?_)
    refine kl_nil (kq_a (.cons_cons _ (List.nil_sublist _)) ?_)
    refine kt_a 19 rfl (by kernel_rfl) ?_
    refine kl_callP rfl rfl (cwImp_ok z9 ([(⟨(z14.getD k nilLit).var, (z14.getD k nilLit).val, !((z14.getD k nilLit).neg)⟩ : Lit)]) (by assumption) (by assumption) (by assumption)) ?_
    refine kl_nil (kq_x rfl ?_)
    refine kt_q 20 (.cons_cons _ (List.nil_sublist _)) rfl (by kernel_rfl) ?_
    refine kl_as rfl ?_
    refine kl_nil (kq_q ?_)
    refine kt_end (by kernel_rfl) ?_
    refine kq_code ?_
    refine kc_seq ?_
    refine kc_draw 20 [true, true, true, true, false, true, true, true, true, true, true, true, true, true, true, true, true, false, true, true] (by kernel_rfl) (by kernel_rfl) ?_
    refine kl_mv rfl ?_
    refine kl_mv rfl ?_
    refine kl_add rfl rfl (by (first | omega | exact cw_add hM _ _)) ?_
    refine kl_ldW rfl rfl ?_
    refine kl_callP rfl rfl (countSols_ok z9 (by assumption) (by assumption)) ?_
    refine kl_neq rfl rfl ?_
    refine kl_mv rfl ?_
    refine kl_join 4 77 (.bool (decide (((cwI z9 ((z14.take (k + 1)).drop k)) + (cwI z9 ([(⟨(z14.getD k nilLit).var, (z14.getD k nilLit).val, !((z14.getD k nilLit).neg)⟩ : Lit)]))) ≠ (cntI z9)) || decide ((cwI z9 ((z14.take (k + 1)).drop k)) < (cwI z9 z14)))) (pc 3 rfl (pc 4 rfl (pc 5 rfl (pc 6 rfl (pc 7 rfl (pc 8 rfl (pc 34 rfl (pc 35 rfl (pc 36 rfl (pc 37 rfl (pc 40 rfl (pc 41 rfl (pc 42 rfl (pc 43 rfl (pc 44 rfl (pc 45 rfl (pc 46 rfl (pc 47 rfl (pc 48 rfl (pc 49 rfl (pc 50 rfl (pc 51 rfl (pc 52 rfl (pc 53 rfl (pc 54 rfl (pc 55 rfl (pc 56 rfl (pc 57 rfl (pc 58 rfl (pc 59 rfl (pc 60 rfl (pc 61 rfl (pc 62 rfl (pc 63 rfl (pc 64 rfl (pc 65 rfl (pc 66 rfl (pc 67 rfl (pc 68 rfl (pc 69 rfl (pc 70 rfl (pc 71 rfl (pc 72 rfl (pc 73 rfl pn)))))))))))))))))))))))))))))))))))))))))))) (fun J47 => ?_) ?_
    ·rcases Bool.eq_false_or_eq_true (decide (((cwI z9 ((z14.take (k + 1)).drop k)) + (cwI z9 ([(⟨(z14.getD k nilLit).var, (z14.getD k nilLit).val, !((z14.getD k nilLit).neg)⟩ : Lit)]))) ≠ (cntI z9))) with g46 | g46
     ·skip
      refine kl_gF rfl rfl g46 ?_
      refine kl_gF rfl rfl g46 ?_
      refine kl_gF rfl rfl g46 ?_
      refine kl_orT (decide ((cwI z9 ((z14.take (k + 1)).drop k)) < (cwI z9 z14))) rfl rfl g46 ?_
      exact J47 _ (pc 77 rfl (pc 3 rfl (pc 4 rfl (pc 5 rfl (pc 6 rfl (pc 7 rfl (pc 8 rfl (pc 34 rfl (pc 35 rfl (pc 36 rfl (pc 37 rfl (pc 40 rfl (pc 41 rfl (pc 42 rfl (pc 43 rfl (pc 44 rfl (pc 45 rfl (pc 46 rfl (pc 47 rfl (pc 48 rfl (pc 49 rfl (pc 50 rfl (pc 51 rfl (pc 52 rfl (pc 53 rfl (pc 54 rfl (pc 55 rfl (pc 56 rfl (pc 57 rfl (pc 58 rfl (pc 59 rfl (pc 60 rfl (pc 61 rfl (pc 62 rfl (pc 63 rfl (pc 64 rfl (pc 65 rfl (pc 66 rfl (pc 67 rfl (pc 68 rfl (pc 69 rfl (pc 70 rfl (pc 71 rfl (pc 72 rfl (pc 73 rfl pn)))))))))))))))))))))))))))))))))))))))))))))
     ·skip
      have g46p := of_decide_eq_false g46
      refine kl_gT rfl rfl g46 ?_
      refine kl_mv rfl ?_
      refine kl_gT rfl rfl g46 ?_
      refine kl_mv rfl ?_
      refine kl_gT rfl rfl g46 ?_
      refine kl_gtr rfl rfl ?_
      refine kl_orF rfl rfl g46 ?_
      exact J47 _ (pc 77 rfl (pc 3 rfl (pc 4 rfl (pc 5 rfl (pc 6 rfl (pc 7 rfl (pc 8 rfl (pc 34 rfl (pc 35 rfl (pc 36 rfl (pc 37 rfl (pc 40 rfl (pc 41 rfl (pc 42 rfl (pc 43 rfl (pc 44 rfl (pc 45 rfl (pc 46 rfl (pc 47 rfl (pc 48 rfl (pc 49 rfl (pc 50 rfl (pc 51 rfl (pc 52 rfl (pc 53 rfl (pc 54 rfl (pc 55 rfl (pc 56 rfl (pc 57 rfl (pc 58 rfl (pc 59 rfl (pc 60 rfl (pc 61 rfl (pc 62 rfl (pc 63 rfl (pc 64 rfl (pc 65 rfl (pc 66 rfl (pc 67 rfl (pc 68 rfl (pc 69 rfl (pc 70 rfl (pc 71 rfl (pc 72 rfl (pc 73 rfl pn)))))))))))))))))))))))))))))))))))))))))))))
    refine kl_mv rfl ?_
    refine kl_join 8 86 (.bool ((decide (((cwI z9 ((z14.take (k + 1)).drop k)) + (cwI z9 ([(⟨(z14.getD k nilLit).var, (z14.getD k nilLit).val, !((z14.getD k nilLit).neg)⟩ : Lit)]))) ≠ (cntI z9)) || decide ((cwI z9 ((z14.take (k + 1)).drop k)) < (cwI z9 z14))) || decide ((cwI z9 (z14.take k)) < (cwI z9 z14)))) (pc 3 rfl (pc 4 rfl (pc 5 rfl (pc 6 rfl (pc 7 rfl (pc 8 rfl (pc 34 rfl (pc 35 rfl (pc 36 rfl (pc 37 rfl (pc 40 rfl (pc 41 rfl (pc 42 rfl (pc 43 rfl (pc 44 rfl (pc 45 rfl (pc 46 rfl (pc 47 rfl (pc 48 rfl (pc 49 rfl (pc 50 rfl (pc 51 rfl (pc 52 rfl (pc 53 rfl (pc 54 rfl (pc 55 rfl (pc 56 rfl (pc 57 rfl (pc 58 rfl (pc 59 rfl (pc 60 rfl (pc 61 rfl (pc 62 rfl (pc 63 rfl (pc 64 rfl (pc 65 rfl (pc 66 rfl (pc 67 rfl (pc 68 rfl (pc 69 rfl (pc 70 rfl (pc 71 rfl (pc 72 rfl (pc 73 rfl (pc 77 rfl (pc 78 rfl pn)))))))))))))))))))))))))))))))))))))))))))))) (fun J51 => ?_) ?_
    ·rcases Bool.eq_false_or_eq_true (decide (((cwI z9 ((z14.take (k + 1)).drop k)) + (cwI z9 ([(⟨(z14.getD k nilLit).var, (z14.getD k nilLit).val, !((z14.getD k nilLit).neg)⟩ : Lit)]))) ≠ (cntI z9)) || decide ((cwI z9 ((z14.take (k + 1)).drop k)) < (cwI z9 z14))) with g48 | g48
     ·skip
      refine kl_gF rfl rfl g48 ?_
      refine kl_gF rfl rfl g48 ?_
      refine kl_gF rfl rfl g48 ?_
      refine kl_gF rfl rfl g48 ?_
      refine kl_gF rfl rfl g48 ?_
      refine kl_gF rfl rfl g48 ?_
      refine kl_gF rfl rfl g48 ?_
      refine kl_orT (decide ((cwI z9 (z14.take k)) < (cwI z9 z14))) rfl rfl g48 ?_
      exact J51 _ (pc 86 rfl (pc 3 rfl (pc 4 rfl (pc 5 rfl (pc 6 rfl (pc 7 rfl (pc 8 rfl (pc 34 rfl (pc 35 rfl (pc 36 rfl (pc 37 rfl (pc 40 rfl (pc 41 rfl (pc 42 rfl (pc 43 rfl (pc 44 rfl (pc 45 rfl (pc 46 rfl (pc 47 rfl (pc 48 rfl (pc 49 rfl (pc 50 rfl (pc 51 rfl (pc 52 rfl (pc 53 rfl (pc 54 rfl (pc 55 rfl (pc 56 rfl (pc 57 rfl (pc 58 rfl (pc 59 rfl (pc 60 rfl (pc 61 rfl (pc 62 rfl (pc 63 rfl (pc 64 rfl (pc 65 rfl (pc 66 rfl (pc 67 rfl (pc 68 rfl (pc 69 rfl (pc 70 rfl (pc 71 rfl (pc 72 rfl (pc 73 rfl (pc 77 rfl (pc 78 rfl pn)))))))))))))))))))))))))))))))))))))))))))))))
     ·skip
      have g48p := g48
      try simp only [Bool.not_eq_true', Bool.not_eq_false', decide_eq_true_eq, decide_eq_false_iff_not, Bool.and_eq_true, Bool.or_eq_false_iff, withinB_iff] at g48p
      refine kl_gT rfl rfl g48 ?_
      refine kl_mv rfl ?_
      refine kl_gT rfl rfl g48 ?_
      refine kl_ldW rfl rfl ?_
      refine kl_gT rfl rfl g48 ?_
      refine kl_mv rfl ?_
      refine kl_gT rfl rfl g48 ?_
      refine kl_mv rfl ?_
      refine kl_gT rfl rfl g48 ?_
      refine kl_slTake rfl rfl (by assumption) (by omega) (fun u49 h50 => ?_)
      refine kl_gT rfl rfl g48 ?_
      refine kl_callP rfl rfl (cwImp_ok z9 (z14.take k) (by assumption) (by assumption) (by assumption)) ?_
      refine kl_gT rfl rfl g48 ?_
      refine kl_gtr rfl rfl ?_
      refine kl_orF rfl rfl g48 ?_
      exact J51 _ (pc 86 rfl (pc 3 rfl (pc 4 rfl (pc 5 rfl (pc 6 rfl (pc 7 rfl (pc 8 rfl (pc 34 rfl (pc 35 rfl (pc 36 rfl (pc 37 rfl (pc 40 rfl (pc 41 rfl (pc 42 rfl (pc 43 rfl (pc 44 rfl (pc 45 rfl (pc 46 rfl (pc 47 rfl (pc 48 rfl (pc 49 rfl (pc 50 rfl (pc 51 rfl (pc 52 rfl (pc 53 rfl (pc 54 rfl (pc 55 rfl (pc 56 rfl (pc 57 rfl (pc 58 rfl (pc 59 rfl (pc 60 rfl (pc 61 rfl (pc 62 rfl (pc 63 rfl (pc 64 rfl (pc 65 rfl (pc 66 rfl (pc 67 rfl (pc 68 rfl (pc 69 rfl (pc 70 rfl (pc 71 rfl (pc 72 rfl (pc 73 rfl (pc 77 rfl (pc 78 rfl pn)))))))))))))))))))))))))))))))))))))))))))))))
    refine kl_nil (kq_code ?_)
    refine kc_cond rfl (fun c52 => ?_) (fun c52 => ?_)
    ·skip
     have c52r := c52
     try simp only [Bool.not_eq_true', Bool.not_eq_false', Bool.not_true, Bool.not_false, decide_eq_true_eq, decide_eq_false_iff_not, Bool.and_eq_true, Bool.or_eq_false_iff] at c52
     exact absurd c52r (by rw [cw_go hcs hco hcp]; simp)
    ·skip
     have c52r := c52
     try simp only [Bool.not_eq_true', Bool.not_eq_false', Bool.not_true, Bool.not_false, decide_eq_true_eq, decide_eq_false_iff_not, Bool.and_eq_true, Bool.or_eq_false_iff] at c52
     refine kc_skipQ ?_
     refine kq_code ?_
     refine kc_region ?_
     refine kl_mv rfl ?_
     refine kl_inc rfl rfl (by omega) ?_
     refine kl_as rfl ?_
     refine kl_nil ?_
     refine kq_round0 ((k + 1)) (by omega) (by omega) (pc 6 rfl pn) (pc 3 rfl (pc 4 rfl (pc 5 rfl pn))) (List.Sublist.refl _)
   ·skip
    refine kc_exit ?_
    refine kq_code ?_
    refine kc_seq ?_
    refine kc_tree (fun i => ([4] : List Nat).contains i) [sing b17 (.cells [u10, u11].toArray 32 (0, 0))] (by kernel_rfl) ?_
    refine kt_q 0 (.cons_cons _ (List.nil_sublist _)) rfl (by kernel_rfl) ?_
    refine kl_ldS rfl (at_box (T := 32) (cs := [u10, u11]) (off := 0) (fz := (0, 0))) rfl ?_
    refine kl_nil (kq_q ?_)
    refine kt_q 3 (.cons_cons _ (List.nil_sublist _)) rfl (by kernel_rfl) ?_
    refine kl_ldS rfl (at_box (T := 32) (cs := [u10, u11]) (off := 0) (fz := (0, 0))) rfl ?_
    refine kl_nil (kq_q ?_)
    refine kt_a 1 rfl (by kernel_rfl) ?_
    refine kl_bs0k (K := noHp) LitV rfl (fun v53 H54 f55 o56 => ?_)
    refine kl_nil (kq_a (.cons _ (.cons_cons _ (List.nil_sublist _))) ?_)
    refine kt_a 2 rfl (by kernel_rfl) ?_
    refine kl_callP rfl rfl (cwImp_ok z9 ([]) (by assumption) (by assumption) (OwnL.lits o56)) ?_
    refine kl_nil (kq_a (.cons _ (.cons_cons _ (List.nil_sublist _))) ?_)
    refine kt_a 4 rfl (by kernel_rfl) ?_
    refine kl_callP rfl rfl (countSols_ok z9 (by assumption) (by assumption)) ?_
    refine kl_nil (kq_x rfl ?_)
    refine kt_q 5 (.cons _ (.cons_cons _ (List.nil_sublist _))) rfl (by kernel_rfl) ?_
    refine kl_eql rfl rfl ?_
    refine kl_nil (kq_q ?_)
    refine kt_q 6 (.cons _ (.cons_cons _ (List.nil_sublist _))) rfl (by kernel_rfl) ?_
    refine kl_as rfl ?_
    refine kl_nil (kq_q ?_)
    refine kt_end (by kernel_rfl) ?_
    refine kq_code ?_
    refine kc_ret ?_
    refine kq_retP rfl rfl (congrArg Value.bool ?_)
    first | rfl | (simp; done) | exact cw_nil hlo
end Go.Proofs.YtbbphbihgikmdaaGreat
