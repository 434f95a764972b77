/- Walks of functions of the program: each returns what the plain function gives. Conditions: those that each statement names. -/
import Derived.Test.YtndggikpobghkaaGreatWcpc
namespace Go.Proofs.YtndggikpobghkaaGreat
open Go
set_option linter.unusedSimpArgs false
set_option linter.unusedVariables false
theorem twoModels_ok {br : Nat} {vbr : Value} {Hr : Hp} {bsr : List Int} (pr : Nat) (hp : pr + (1300) ≤ 1000000) (hr : Bytes Hr vbr bsr) : SpecT Tryz.prog 36 [.pointer (some ⟨br, 0, none⟩)] [sing br (.cells [vbr, .int .i64 (pr : Int)].toArray 83 (0, 0))] [Hr] (fun vq L1 Ln Kq => ∃ q : Nat, q ≤ pr + (1300) ∧ L1 = [sing br (.cells [vbr, .int .i64 (q : Int)].toArray 83 (0, 0))] ∧ Ln = [] ∧ ∃ (mq : Mod) (nq : Mod) (uq0a uq0b uq1a uq1b : Value), vq = .tuple #[.agg #[uq0a, uq0b], .agg #[uq1a, uq1b]] ∧ Ints Kq uq0a mq.doms ∧ Cons Kq uq0b mq.cons ∧ Ints Kq uq1a nq.doms ∧ Cons Kq uq1b nq.cons ∧ ModSm 100 mq ∧ ModSm 100 nq) := by
 refine specT_of Tryz.func36 rfl rfl rfl (fun B => ?_)
 refine kc_seq (kc_region ?_)
 refine kl_alloc (cs := [.slice none 0 0, .slice none 0 0]) rfl (fun b1 hb2 => ?_)
 refine kl_alloc (cs := [.slice none 0 0, .slice none 0 0]) rfl (fun b3 hb4 => ?_)
 refine kl_nil (kq_code (kc_seq (kc_region ?_)))
 refine kl_mv rfl ?_
 refine kl_callT rfl rfl (anyModel_ok pr (by omega) hr) (fun v5 L1 Ln K9 h6 f7 f8 => ?_)
 obtain ⟨q10, h11, rfl, H14, M16, v17, v18, z12, rfl, rfl, o15, o19, h13⟩ := h6
 have f20 := f7 _ (.head _)
 have f21 := f7 _ (.tail _ (.head _))
 have hd1 := h13.d1
 have hd4 := h13.d
 have hc1 := h13.c
 have hcc := h13.cc
 refine kl_norm ?_
 refine kl_frz H14 ?_
 have h22 := OwnL.ints o15
 refine kl_frz M16 ?_
 refine kl_cmp M16 K9 (fun c23 => ?_)
 have h24 := OwnL.consK o19 c23
 refine kl_alloc (cs := [.slice none 0 0, .slice none 0 0]) rfl (fun b25 hb26 => ?_)
 refine kl_stW (us := [v17, v18]) rfl rfl rfl rfl (oc (Sl.oneCell (by assumption)) (oc (Sl.oneCell (by assumption)) oc_nil)) rfl ?_
 refine kl_chg [sing b25 (.cells [v17, v18].toArray 26 (0, 0)), sing br (.cells [vbr, .int .i64 (q10 : Int)].toArray 83 (0, 0)), sing b3 (.cells [.slice none 0 0, .slice none 0 0].toArray 26 (0, 0)), sing b1 (.cells [.slice none 0 0, .slice none 0 0].toArray 26 (0, 0))] rfl ?_
 refine kl_nil (kq_code ?_)
 refine kc_seq ?_
 refine kc_seq (kc_region ?_)
 refine kl_mv rfl ?_
 refine kl_callT rfl rfl (pick_ok q10 (4 : Int) (by omega) hr) (fun v27 L1 Ln K31 h28 f29 f30 => ?_)
 obtain ⟨q32, h33, rfl, rfl, z34, rfl, h35⟩ := h28
 refine kl_norm ?_
 refine kl_nil (kq_code ?_)
 refine kc_block ?_
 refine kc_seq (kc_region ?_)
 refine kl_eql rfl rfl ?_
 refine kl_as rfl ?_
 refine kl_nil (kq_code ?_)
 refine kc_if rfl (fun c38 => ?_) (fun c38 => ?_)
 ·skip
  refine kc_seq ?_
  refine kc_tree (fun i => ([3] : List Nat).contains i) [sing b25 (.cells [v17, v18].toArray 26 (0, 0))] (by kernel_rfl) ?_
  refine kt_q 0 (.cons _ (.cons_cons _ (List.nil_sublist _))) rfl (by kernel_rfl) ?_
  refine kl_ldS rfl (at_box (T := 26) (cs := [v17, v18]) (off := 0) (fz := (0, 0))) rfl ?_
  refine kl_nil (kq_q ?_)
  refine kt_q 1 (.cons _ (.cons_cons _ (List.nil_sublist _))) rfl (by kernel_rfl) ?_
  refine kl_ldS rfl (at_box (T := 26) (cs := [v17, v18]) (off := 0) (fz := (0, 0))) rfl ?_
  refine kl_nil (kq_q ?_)
  refine kt_a 2 rfl (by kernel_rfl) ?_
  refine kl_stW (us := [v17, v18]) rfl rfl rfl rfl (oc (Sl.oneCell (by assumption)) (oc (Sl.oneCell (by assumption)) oc_nil)) rfl ?_
  refine kl_chg [sing br (.cells [vbr, .int .i64 (q32 : Int)].toArray 83 (0, 0)), sing b25 (.cells [v17, v18].toArray 26 (0, 0)), sing b3 (.cells [.slice none 0 0, .slice none 0 0].toArray 26 (0, 0)), sing b1 (.cells [v17, v18].toArray 26 (0, 0))] rfl ?_
  refine kl_nil (kq_a (.cons _ (.cons_cons _ (List.nil_sublist _))) ?_)
  refine kt_a 3 rfl (by kernel_rfl) ?_
  refine kl_stW (us := [v17, v18]) rfl rfl rfl rfl (oc (Sl.oneCell (by assumption)) (oc (Sl.oneCell (by assumption)) oc_nil)) rfl ?_
  refine kl_chg [sing br (.cells [vbr, .int .i64 (q32 : Int)].toArray 83 (0, 0)), sing b25 (.cells [v17, v18].toArray 26 (0, 0)), sing b3 (.cells [v17, v18].toArray 26 (0, 0)), sing b1 (.cells [v17, v18].toArray 26 (0, 0))] rfl ?_
  refine kl_nil (kq_x rfl ?_)
  refine kt_end (by kernel_rfl) ?_
  refine kq_code ?_
  refine kc_ret ?_
  refine kq_cmp H14 (orHp M16 K9) (fun c39 => ?_)
  refine kq_cmp (orHp M16 K9) (orHp H14 (orHp M16 K9)) (fun c40 => ?_)
  refine kq_cmp H14 (orHp (orHp M16 K9) (orHp H14 (orHp M16 K9))) (fun c41 => ?_)
  exact kq_retTR (rss2 rfl (rs_agg rfl rfl) (rs_agg rfl rfl)) [sing br (.cells [vbr, .int .i64 (q32 : Int)].toArray 83 (0, 0))] [] (orHp H14 (orHp (orHp M16 K9) (orHp H14 (orHp M16 K9)))) frn (fr_or f20 (fr_or (fr_or f21 f8) (fr_or f20 (fr_or f21 f8)))) ⟨q32, by omega, rfl, rfl, (⟨z12.doms, z12.cons⟩ : Mod), (⟨z12.doms, z12.cons⟩ : Mod), _, _, _, _, rfl, (Sl.mono (by assumption) (fun b o h => orL b o h) (fun _ _ h => h)), (Cons.mono' (by assumption) (fun b o h => orC c41 b o (orL b o h))), (Sl.mono (by assumption) (fun b o h => orC c41 b o (orC c40 b o (orL b o h))) (fun _ _ h => h)), (Cons.mono' (by assumption) (fun b o h => orC c41 b o (orC c40 b o (orC c39 b o h)))), by exact ⟨by assumption, by assumption⟩⟩
 ·skip
  refine kc_seq (kc_region ?_)
  refine kl_eql rfl rfl ?_
  refine kl_as rfl ?_
  refine kl_nil (kq_code ?_)
  refine kc_if rfl (fun c42 => ?_) (fun c42 => ?_)
  ·skip
   refine kc_seq (kc_region ?_)
   refine kl_ldW rfl rfl ?_
   refine kl_callP rfl rfl (svalidMod_ok z12 (by assumption) (by assumption)) ?_
   refine kl_mv rfl ?_
   refine kl_join 5 22 (.bool ((validModB z12) && decide ((0 : Int) < (z12.cons.length : Int)))) (pc 0 rfl (pc 2 rfl (pc 3 rfl (pc 4 rfl (pc 17 rfl pn))))) (fun J45 => ?_) ?_
   ·rcases Bool.eq_false_or_eq_true (validModB z12) with g43 | g43
    ·skip
     have g43p := g43
     try simp only [Bool.not_eq_true', Bool.not_eq_false', decide_eq_true_eq, decide_eq_false_iff_not, Bool.and_eq_true, Bool.or_eq_false_iff, withinB_iff] at g43p
     refine kl_gT rfl rfl g43 ?_
     refine kl_fdV rfl ?_
     refine kl_gT rfl rfl g43 ?_
     refine kl_ldB rfl rfl ?_
     refine kl_gT rfl rfl g43 ?_
     refine kl_len rfl (by assumption) (fun l44 => ?_)
     refine kl_gT rfl rfl g43 ?_
     refine kl_gtr rfl rfl ?_
     refine kl_andT rfl rfl g43 ?_
     exact J45 _ (pc 22 rfl (pc 0 rfl (pc 2 rfl (pc 3 rfl (pc 4 rfl (pc 17 rfl pn))))))
    ·skip
     refine kl_gF rfl rfl g43 ?_
     refine kl_gF rfl rfl g43 ?_
     refine kl_gF rfl rfl g43 ?_
     refine kl_gF rfl rfl g43 ?_
     refine kl_andF (decide ((0 : Int) < (z12.cons.length : Int))) rfl rfl g43 ?_
     exact J45 _ (pc 22 rfl (pc 0 rfl (pc 2 rfl (pc 3 rfl (pc 4 rfl (pc 17 rfl pn))))))
   refine kl_nil (kq_code ?_)
   refine kc_cond rfl (fun c46 => ?_) (fun c46 => ?_)
   ·skip
    have c46r := c46
    try simp only [Bool.not_eq_true', Bool.not_eq_false', Bool.not_true, Bool.not_false, decide_eq_true_eq, decide_eq_false_iff_not, Bool.and_eq_true, Bool.or_eq_false_iff] at c46
    refine kc_seq ?_
    refine kc_tree (fun i => ([8, 9] : List Nat).contains i) [sing b25 (.cells [v17, v18].toArray 26 (0, 0))] (by kernel_rfl) ?_
    refine kt_q 0 (.cons _ (.cons_cons _ (List.nil_sublist _))) rfl (by kernel_rfl) ?_
    refine kl_ldS rfl (at_box (T := 26) (cs := [v17, v18]) (off := 0) (fz := (0, 0))) rfl ?_
    refine kl_nil (kq_q ?_)
    refine kt_q 1 (.cons _ (.cons_cons _ (List.nil_sublist _))) rfl (by kernel_rfl) ?_
    refine kl_ldS rfl (at_box (T := 26) (cs := [v17, v18]) (off := 0) (fz := (0, 0))) rfl ?_
    refine kl_nil (kq_q ?_)
    refine kt_q 2 (.cons _ (.cons_cons _ (List.nil_sublist _))) rfl (by kernel_rfl) ?_
    refine kl_mv rfl ?_
    refine kl_nil (kq_q ?_)
    refine kt_q 3 (.cons _ (.cons_cons _ (List.nil_sublist _))) rfl (by kernel_rfl) ?_
    refine kl_fdV rfl ?_
    refine kl_nil (kq_q ?_)
    refine kt_q 4 (.cons _ (.cons_cons _ (List.nil_sublist _))) rfl (by kernel_rfl) ?_
    refine kl_ld rfl (at_box (T := 26) (cs := [v17, v18]) (off := 1) (fz := (0, 0))) ?_
    refine kl_nil (kq_q ?_)
    refine kt_q 5 (.cons _ (.cons_cons _ (List.nil_sublist _))) rfl (by kernel_rfl) ?_
    refine kl_len rfl (by assumption) (fun l47 => ?_)
    refine kl_nil (kq_q ?_)
    refine kt_a 6 rfl (by kernel_rfl) ?_
    refine kl_callT rfl rfl (pick_ok q32 (z12.cons.length : Int) (by omega) hr) (fun v48 L1 Ln K52 h49 f50 f51 => ?_)
    obtain ⟨q53, h54, rfl, rfl, z55, rfl, h56⟩ := h49
    refine kl_norm ?_
    refine kl_nil (kq_a (.cons _ (.cons_cons _ (List.nil_sublist _))) ?_)
    refine kt_a 7 rfl (by kernel_rfl) ?_
    refine kl_call rfl rfl (dropCon_ok z12 z55 (by assumption) (by assumption) (by assumption)) (fun v59 H60 f61 h62 => ?_)
    obtain ⟨z63, ⟨u65, u66, rfl, h67, h68⟩, h64⟩ := h62
    refine kl_nil (kq_a (.cons _ (.cons_cons _ (List.nil_sublist _))) ?_)
    refine kt_a 8 rfl (by kernel_rfl) ?_
    refine kl_stW (us := [v17, v18]) rfl rfl rfl rfl (oc (Sl.oneCell (by assumption)) (oc (Sl.oneCell (by assumption)) oc_nil)) rfl ?_
    refine kl_chg [sing br (.cells [vbr, .int .i64 (q53 : Int)].toArray 83 (0, 0)), sing b25 (.cells [v17, v18].toArray 26 (0, 0)), sing b3 (.cells [.slice none 0 0, .slice none 0 0].toArray 26 (0, 0)), sing b1 (.cells [v17, v18].toArray 26 (0, 0))] rfl ?_
    refine kl_nil (kq_x rfl ?_)
    refine kt_a 9 rfl (by kernel_rfl) ?_
    refine kl_stW (us := [u65, u66]) rfl rfl rfl rfl (oc (Sl.oneCell (by assumption)) (oc (Sl.oneCell (by assumption)) oc_nil)) rfl ?_
    refine kl_chg [sing br (.cells [vbr, .int .i64 (q53 : Int)].toArray 83 (0, 0)), sing b25 (.cells [v17, v18].toArray 26 (0, 0)), sing b3 (.cells [u65, u66].toArray 26 (0, 0)), sing b1 (.cells [v17, v18].toArray 26 (0, 0))] rfl ?_
    refine kl_nil (kq_x rfl ?_)
    refine kt_end (by kernel_rfl) ?_
    refine kq_code ?_
    refine kc_ret ?_
    refine kq_cmp H60 H60 (fun c69 => ?_)
    refine kq_cmp (orHp M16 K9) (orHp H60 H60) (fun c70 => ?_)
    refine kq_cmp H14 (orHp (orHp M16 K9) (orHp H60 H60)) (fun c71 => ?_)
    exact kq_retTR (rss2 rfl (rs_agg rfl rfl) (rs_agg rfl rfl)) [sing br (.cells [vbr, .int .i64 (q53 : Int)].toArray 83 (0, 0))] [] (orHp H14 (orHp (orHp M16 K9) (orHp H60 H60))) frn (fr_or f20 (fr_or (fr_or f21 f8) (fr_or f61 f61))) ⟨q53, by omega, rfl, rfl, (⟨z12.doms, z12.cons⟩ : Mod), (⟨z63.doms, z63.cons⟩ : Mod), _, _, _, _, rfl, (Sl.mono (by assumption) (fun b o h => orL b o h) (fun _ _ h => h)), (Cons.mono' (by assumption) (fun b o h => orC c71 b o (orL b o h))), (Sl.mono (by assumption) (fun b o h => orC c71 b o (orC c70 b o (orL b o h))) (fun _ _ h => h)), (Cons.mono' (by assumption) (fun b o h => orC c71 b o (orC c70 b o (orC c69 b o h)))), by exact ⟨by assumption, by assumption⟩⟩
   ·skip
    have c46r := c46
    try simp only [Bool.not_eq_true', Bool.not_eq_false', Bool.not_true, Bool.not_false, decide_eq_true_eq, decide_eq_false_iff_not, Bool.and_eq_true, Bool.or_eq_false_iff] at c46
    refine kc_skipQ ?_
    refine kq_code ?_
    refine kc_seq ?_
    refine kc_tree (fun i => ([3, 4] : List Nat).contains i) [sing b25 (.cells [v17, v18].toArray 26 (0, 0))] (by kernel_rfl) ?_
    refine kt_q 0 (.cons _ (.cons_cons _ (List.nil_sublist _))) rfl (by kernel_rfl) ?_
    refine kl_ldS rfl (at_box (T := 26) (cs := [v17, v18]) (off := 0) (fz := (0, 0))) rfl ?_
    refine kl_nil (kq_q ?_)
    refine kt_q 1 (.cons _ (.cons_cons _ (List.nil_sublist _))) rfl (by kernel_rfl) ?_
    refine kl_mv rfl ?_
    refine kl_nil (kq_q ?_)
    refine kt_a 2 rfl (by kernel_rfl) ?_
    refine kl_callT rfl rfl (anyModel_ok q32 (by omega) hr) (fun v72 L1 Ln K76 h73 f74 f75 => ?_)
    obtain ⟨q77, h78, rfl, H81, M83, v84, v85, z79, rfl, rfl, o82, o86, h80⟩ := h73
    have f87 := f74 _ (.head _)
    have f88 := f74 _ (.tail _ (.head _))
    have hd1 := h80.d1
    have hd4 := h80.d
    have hc1 := h80.c
    have hcc := h80.cc
    refine kl_norm ?_
    refine kl_nil (kq_a (.cons _ (.cons _ (.cons _ (.cons_cons _ (List.nil_sublist _))))) ?_)
    refine kt_a 3 rfl (by kernel_rfl) ?_
    refine kl_stW (us := [v17, v18]) rfl rfl rfl rfl (oc (Sl.oneCell (by assumption)) (oc (Sl.oneCell (by assumption)) oc_nil)) rfl ?_
    refine kl_chg [sing br (.cells [vbr, .int .i64 (q77 : Int)].toArray 83 (0, 0)), H81, M83, sing b25 (.cells [v17, v18].toArray 26 (0, 0)), sing b3 (.cells [.slice none 0 0, .slice none 0 0].toArray 26 (0, 0)), sing b1 (.cells [v17, v18].toArray 26 (0, 0))] rfl ?_
    refine kl_nil (kq_x rfl ?_)
    refine kt_a 4 rfl (by kernel_rfl) ?_
    refine kl_stW (us := [v84, v85]) rfl rfl rfl rfl (oc (OwnL.oneCell (by assumption)) (oc (OwnL.oneCell (by assumption)) oc_nil)) rfl ?_
    refine kl_chg [sing br (.cells [vbr, .int .i64 (q77 : Int)].toArray 83 (0, 0)), H81, M83, sing b25 (.cells [v17, v18].toArray 26 (0, 0)), sing b3 (.cells [v84, v85].toArray 26 (0, 0)), sing b1 (.cells [v17, v18].toArray 26 (0, 0))] rfl ?_
    refine kl_nil (kq_x rfl ?_)
    refine kt_end (by kernel_rfl) ?_
    refine kq_code ?_
    refine kc_ret ?_
    refine kq_frz H81 ?_
    refine kq_frz M83 ?_
    refine kq_cmp M83 K76 (fun c89 => ?_)
    refine kq_cmp H81 (orHp M83 K76) (fun c90 => ?_)
    refine kq_cmp (orHp M16 K9) (orHp H81 (orHp M83 K76)) (fun c91 => ?_)
    refine kq_cmp H14 (orHp (orHp M16 K9) (orHp H81 (orHp M83 K76))) (fun c92 => ?_)
    exact kq_retTR (rss2 rfl (rs_agg rfl rfl) (rs_agg rfl rfl)) [sing br (.cells [vbr, .int .i64 (q77 : Int)].toArray 83 (0, 0))] [] (orHp H14 (orHp (orHp M16 K9) (orHp H81 (orHp M83 K76)))) frn (fr_or f20 (fr_or (fr_or f21 f8) (fr_or f87 (fr_or f88 f75)))) ⟨q77, by omega, rfl, rfl, (⟨z12.doms, z12.cons⟩ : Mod), (⟨z79.doms, z79.cons⟩ : Mod), _, _, _, _, rfl, (Sl.mono (by assumption) (fun b o h => orL b o h) (fun _ _ h => h)), (Cons.mono' (by assumption) (fun b o h => orC c92 b o (orL b o h))), (Sl.mono (OwnL.ints o82) (fun b o h => orC c92 b o (orC c91 b o (orL b o h))) (fun _ _ h => h)), (Cons.mono' (OwnL.consK o86 c89) (fun b o h => orC c92 b o (orC c91 b o (orC c90 b o h)))), by exact ⟨by assumption, by assumption⟩⟩
  ·skip
   refine kc_seq (kc_region ?_)
   refine kl_eql rfl rfl ?_
   refine kl_as rfl ?_
   refine kl_nil (kq_code ?_)
   refine kc_if rfl (fun c93 => ?_) (fun c93 => ?_)
   ·skip
    refine kc_seq (kc_region ?_)
    refine kl_ldW rfl rfl ?_
    refine kl_callP rfl rfl (svalidMod_ok z12 (by assumption) (by assumption)) ?_
    refine kl_mv rfl ?_
    refine kl_join 5 40 (.bool ((validModB z12) && decide ((0 : Int) < (z12.cons.length : Int)))) (pc 0 rfl (pc 2 rfl (pc 3 rfl (pc 4 rfl (pc 35 rfl pn))))) (fun J96 => ?_) ?_
    ·rcases Bool.eq_false_or_eq_true (validModB z12) with g94 | g94
     ·skip
      have g94p := g94
      try simp only [Bool.not_eq_true', Bool.not_eq_false', decide_eq_true_eq, decide_eq_false_iff_not, Bool.and_eq_true, Bool.or_eq_false_iff, withinB_iff] at g94p
      refine kl_gT rfl rfl g94 ?_
      refine kl_fdV rfl ?_
      refine kl_gT rfl rfl g94 ?_
      refine kl_ldB rfl rfl ?_
      refine kl_gT rfl rfl g94 ?_
      refine kl_len rfl (by assumption) (fun l95 => ?_)
      refine kl_gT rfl rfl g94 ?_
      refine kl_gtr rfl rfl ?_
      refine kl_andT rfl rfl g94 ?_
      exact J96 _ (pc 40 rfl (pc 0 rfl (pc 2 rfl (pc 3 rfl (pc 4 rfl (pc 35 rfl pn))))))
     ·skip
      refine kl_gF rfl rfl g94 ?_
      refine kl_gF rfl rfl g94 ?_
      refine kl_gF rfl rfl g94 ?_
      refine kl_gF rfl rfl g94 ?_
      refine kl_andF (decide ((0 : Int) < (z12.cons.length : Int))) rfl rfl g94 ?_
      exact J96 _ (pc 40 rfl (pc 0 rfl (pc 2 rfl (pc 3 rfl (pc 4 rfl (pc 35 rfl pn))))))
    refine kl_nil (kq_code ?_)
    refine kc_cond rfl (fun c97 => ?_) (fun c97 => ?_)
    ·skip
     have c97r := c97
     try simp only [Bool.not_eq_true', Bool.not_eq_false', Bool.not_true, Bool.not_false, decide_eq_true_eq, decide_eq_false_iff_not, Bool.and_eq_true, Bool.or_eq_false_iff] at c97
     refine kc_seq ?_
     refine kc_tree (fun i => ([9] : List Nat).contains i) [sing b25 (.cells [v17, v18].toArray 26 (0, 0))] (by kernel_rfl) ?_
     refine kt_q 0 (.cons _ (.cons_cons _ (List.nil_sublist _))) rfl (by kernel_rfl) ?_
     refine kl_ldS rfl (at_box (T := 26) (cs := [v17, v18]) (off := 0) (fz := (0, 0))) rfl ?_
     refine kl_nil (kq_q ?_)
     refine kt_q 1 (.cons _ (.cons_cons _ (List.nil_sublist _))) rfl (by kernel_rfl) ?_
     refine kl_mv rfl ?_
     refine kl_nil (kq_q ?_)
     refine kt_q 2 (.cons _ (.cons_cons _ (List.nil_sublist _))) rfl (by kernel_rfl) ?_
     refine kl_fdV rfl ?_
     refine kl_nil (kq_q ?_)
     refine kt_q 3 (.cons _ (.cons_cons _ (List.nil_sublist _))) rfl (by kernel_rfl) ?_
     refine kl_ld rfl (at_box (T := 26) (cs := [v17, v18]) (off := 1) (fz := (0, 0))) ?_
     refine kl_nil (kq_q ?_)
     refine kt_q 4 (.cons _ (.cons_cons _ (List.nil_sublist _))) rfl (by kernel_rfl) ?_
     refine kl_len rfl (by assumption) (fun l98 => ?_)
     refine kl_nil (kq_q ?_)
     refine kt_q 7 (.cons _ (.cons_cons _ (List.nil_sublist _))) rfl (by kernel_rfl) ?_
     refine kl_ldS rfl (at_box (T := 26) (cs := [v17, v18]) (off := 0) (fz := (0, 0))) rfl ?_
     refine kl_nil (kq_q ?_)
     refine kt_a 5 rfl (by kernel_rfl) ?_
     refine kl_callT rfl rfl (pick_ok q32 (z12.cons.length : Int) (by omega) hr) (fun v99 L1 Ln K103 h100 f101 f102 => ?_)
     obtain ⟨q104, h105, rfl, rfl, z106, rfl, h107⟩ := h100
     refine kl_norm ?_
     refine kl_nil (kq_a (.cons _ (.cons_cons _ (List.nil_sublist _))) ?_)
     refine kt_a 6 rfl (by kernel_rfl) ?_
     refine kl_call rfl rfl (dropCon_ok z12 z106 (by assumption) (by assumption) (by assumption)) (fun v110 H111 f112 h113 => ?_)
     obtain ⟨z114, ⟨u116, u117, rfl, h118, h119⟩, h115⟩ := h113
     refine kl_nil (kq_a (.cons _ (.cons_cons _ (List.nil_sublist _))) ?_)
     refine kt_a 8 rfl (by kernel_rfl) ?_
     refine kl_stW (us := [u116, u117]) rfl rfl rfl rfl (oc (Sl.oneCell (by assumption)) (oc (Sl.oneCell (by assumption)) oc_nil)) rfl ?_
     refine kl_chg [sing br (.cells [vbr, .int .i64 (q104 : Int)].toArray 83 (0, 0)), sing b25 (.cells [v17, v18].toArray 26 (0, 0)), sing b3 (.cells [.slice none 0 0, .slice none 0 0].toArray 26 (0, 0)), sing b1 (.cells [u116, u117].toArray 26 (0, 0))] rfl ?_
     refine kl_nil (kq_a (.cons _ (.cons_cons _ (List.nil_sublist _))) ?_)
     refine kt_a 9 rfl (by kernel_rfl) ?_
     refine kl_stW (us := [v17, v18]) rfl rfl rfl rfl (oc (Sl.oneCell (by assumption)) (oc (Sl.oneCell (by assumption)) oc_nil)) rfl ?_
     refine kl_chg [sing br (.cells [vbr, .int .i64 (q104 : Int)].toArray 83 (0, 0)), sing b25 (.cells [v17, v18].toArray 26 (0, 0)), sing b3 (.cells [v17, v18].toArray 26 (0, 0)), sing b1 (.cells [u116, u117].toArray 26 (0, 0))] rfl ?_
     refine kl_nil (kq_x rfl ?_)
     refine kt_end (by kernel_rfl) ?_
     refine kq_code ?_
     refine kc_ret ?_
     refine kq_cmp H14 (orHp M16 K9) (fun c120 => ?_)
     refine kq_cmp H111 (orHp H14 (orHp M16 K9)) (fun c121 => ?_)
     refine kq_cmp H111 (orHp H111 (orHp H14 (orHp M16 K9))) (fun c122 => ?_)
     exact kq_retTR (rss2 rfl (rs_agg rfl rfl) (rs_agg rfl rfl)) [sing br (.cells [vbr, .int .i64 (q104 : Int)].toArray 83 (0, 0))] [] (orHp H111 (orHp H111 (orHp H14 (orHp M16 K9)))) frn (fr_or f112 (fr_or f112 (fr_or f20 (fr_or f21 f8)))) ⟨q104, by omega, rfl, rfl, (⟨z114.doms, z114.cons⟩ : Mod), (⟨z12.doms, z12.cons⟩ : Mod), _, _, _, _, rfl, (Sl.mono (by assumption) (fun b o h => orL b o h) (fun _ _ h => h)), (Cons.mono' (by assumption) (fun b o h => orC c122 b o (orL b o h))), (Sl.mono (by assumption) (fun b o h => orC c122 b o (orC c121 b o (orL b o h))) (fun _ _ h => h)), (Cons.mono' (by assumption) (fun b o h => orC c122 b o (orC c121 b o (orC c120 b o h)))), by exact ⟨by assumption, by assumption⟩⟩
    ·skip
     have c97r := c97
     try simp only [Bool.not_eq_true', Bool.not_eq_false', Bool.not_true, Bool.not_false, decide_eq_true_eq, decide_eq_false_iff_not, Bool.and_eq_true, Bool.or_eq_false_iff] at c97
     refine kc_skipQ ?_
     refine kq_code ?_
     refine kc_seq ?_
     refine kc_tree (fun i => ([3, 4] : List Nat).contains i) [sing b25 (.cells [v17, v18].toArray 26 (0, 0))] (by kernel_rfl) ?_
     refine kt_q 0 (.cons _ (.cons_cons _ (List.nil_sublist _))) rfl (by kernel_rfl) ?_
     refine kl_ldS rfl (at_box (T := 26) (cs := [v17, v18]) (off := 0) (fz := (0, 0))) rfl ?_
     refine kl_nil (kq_q ?_)
     refine kt_q 1 (.cons _ (.cons_cons _ (List.nil_sublist _))) rfl (by kernel_rfl) ?_
     refine kl_mv rfl ?_
     refine kl_nil (kq_q ?_)
     refine kt_a 2 rfl (by kernel_rfl) ?_
     refine kl_callT rfl rfl (anyModel_ok q32 (by omega) hr) (fun v123 L1 Ln K127 h124 f125 f126 => ?_)
     obtain ⟨q128, h129, rfl, H132, M134, v135, v136, z130, rfl, rfl, o133, o137, h131⟩ := h124
     have f138 := f125 _ (.head _)
     have f139 := f125 _ (.tail _ (.head _))
     have hd1 := h131.d1
     have hd4 := h131.d
     have hc1 := h131.c
     have hcc := h131.cc
     refine kl_norm ?_
     refine kl_nil (kq_a (.cons _ (.cons _ (.cons _ (.cons_cons _ (List.nil_sublist _))))) ?_)
     refine kt_a 3 rfl (by kernel_rfl) ?_
     refine kl_stW (us := [v17, v18]) rfl rfl rfl rfl (oc (Sl.oneCell (by assumption)) (oc (Sl.oneCell (by assumption)) oc_nil)) rfl ?_
     refine kl_chg [sing br (.cells [vbr, .int .i64 (q128 : Int)].toArray 83 (0, 0)), H132, M134, sing b25 (.cells [v17, v18].toArray 26 (0, 0)), sing b3 (.cells [.slice none 0 0, .slice none 0 0].toArray 26 (0, 0)), sing b1 (.cells [v17, v18].toArray 26 (0, 0))] rfl ?_
     refine kl_nil (kq_x rfl ?_)
     refine kt_a 4 rfl (by kernel_rfl) ?_
     refine kl_stW (us := [v135, v136]) rfl rfl rfl rfl (oc (OwnL.oneCell (by assumption)) (oc (OwnL.oneCell (by assumption)) oc_nil)) rfl ?_
     refine kl_chg [sing br (.cells [vbr, .int .i64 (q128 : Int)].toArray 83 (0, 0)), H132, M134, sing b25 (.cells [v17, v18].toArray 26 (0, 0)), sing b3 (.cells [v135, v136].toArray 26 (0, 0)), sing b1 (.cells [v17, v18].toArray 26 (0, 0))] rfl ?_
     refine kl_nil (kq_x rfl ?_)
     refine kt_end (by kernel_rfl) ?_
     refine kq_code ?_
     refine kc_ret ?_
     refine kq_frz H132 ?_
     refine kq_frz M134 ?_
     refine kq_cmp M134 K127 (fun c140 => ?_)
     refine kq_cmp H132 (orHp M134 K127) (fun c141 => ?_)
     refine kq_cmp (orHp M16 K9) (orHp H132 (orHp M134 K127)) (fun c142 => ?_)
     refine kq_cmp H14 (orHp (orHp M16 K9) (orHp H132 (orHp M134 K127))) (fun c143 => ?_)
     exact kq_retTR (rss2 rfl (rs_agg rfl rfl) (rs_agg rfl rfl)) [sing br (.cells [vbr, .int .i64 (q128 : Int)].toArray 83 (0, 0))] [] (orHp H14 (orHp (orHp M16 K9) (orHp H132 (orHp M134 K127)))) frn (fr_or f20 (fr_or (fr_or f21 f8) (fr_or f138 (fr_or f139 f126)))) ⟨q128, by omega, rfl, rfl, (⟨z12.doms, z12.cons⟩ : Mod), (⟨z130.doms, z130.cons⟩ : Mod), _, _, _, _, rfl, (Sl.mono (by assumption) (fun b o h => orL b o h) (fun _ _ h => h)), (Cons.mono' (by assumption) (fun b o h => orC c143 b o (orL b o h))), (Sl.mono (OwnL.ints o133) (fun b o h => orC c143 b o (orC c142 b o (orL b o h))) (fun _ _ h => h)), (Cons.mono' (OwnL.consK o137 c140) (fun b o h => orC c143 b o (orC c142 b o (orC c141 b o h)))), by exact ⟨by assumption, by assumption⟩⟩
   ·skip
    refine kc_skipQ ?_
    refine kq_code ?_
    refine kc_seq ?_
    refine kc_tree (fun i => ([3, 4] : List Nat).contains i) [sing b25 (.cells [v17, v18].toArray 26 (0, 0))] (by kernel_rfl) ?_
    refine kt_q 0 (.cons _ (.cons_cons _ (List.nil_sublist _))) rfl (by kernel_rfl) ?_
    refine kl_ldS rfl (at_box (T := 26) (cs := [v17, v18]) (off := 0) (fz := (0, 0))) rfl ?_
    refine kl_nil (kq_q ?_)
    refine kt_q 1 (.cons _ (.cons_cons _ (List.nil_sublist _))) rfl (by kernel_rfl) ?_
    refine kl_mv rfl ?_
    refine kl_nil (kq_q ?_)
    refine kt_a 2 rfl (by kernel_rfl) ?_
    refine kl_callT rfl rfl (anyModel_ok q32 (by omega) hr) (fun v144 L1 Ln K148 h145 f146 f147 => ?_)
    obtain ⟨q149, h150, rfl, H153, M155, v156, v157, z151, rfl, rfl, o154, o158, h152⟩ := h145
    have f159 := f146 _ (.head _)
    have f160 := f146 _ (.tail _ (.head _))
    have hd1 := h152.d1
    have hd4 := h152.d
    have hc1 := h152.c
    have hcc := h152.cc
    refine kl_norm ?_
    refine kl_nil (kq_a (.cons _ (.cons _ (.cons _ (.cons_cons _ (List.nil_sublist _))))) ?_)
    refine kt_a 3 rfl (by kernel_rfl) ?_
    refine kl_stW (us := [v17, v18]) rfl rfl rfl rfl (oc (Sl.oneCell (by assumption)) (oc (Sl.oneCell (by assumption)) oc_nil)) rfl ?_
    refine kl_chg [sing br (.cells [vbr, .int .i64 (q149 : Int)].toArray 83 (0, 0)), H153, M155, sing b25 (.cells [v17, v18].toArray 26 (0, 0)), sing b3 (.cells [.slice none 0 0, .slice none 0 0].toArray 26 (0, 0)), sing b1 (.cells [v17, v18].toArray 26 (0, 0))] rfl ?_
    refine kl_nil (kq_x rfl ?_)
    refine kt_a 4 rfl (by kernel_rfl) ?_
    refine kl_stW (us := [v156, v157]) rfl rfl rfl rfl (oc (OwnL.oneCell (by assumption)) (oc (OwnL.oneCell (by assumption)) oc_nil)) rfl ?_
    refine kl_chg [sing br (.cells [vbr, .int .i64 (q149 : Int)].toArray 83 (0, 0)), H153, M155, sing b25 (.cells [v17, v18].toArray 26 (0, 0)), sing b3 (.cells [v156, v157].toArray 26 (0, 0)), sing b1 (.cells [v17, v18].toArray 26 (0, 0))] rfl ?_
    refine kl_nil (kq_x rfl ?_)
    refine kt_end (by kernel_rfl) ?_
    refine kq_code ?_
    refine kc_ret ?_
    refine kq_frz H153 ?_
    refine kq_frz M155 ?_
    refine kq_cmp M155 K148 (fun c161 => ?_)
    refine kq_cmp H153 (orHp M155 K148) (fun c162 => ?_)
    refine kq_cmp (orHp M16 K9) (orHp H153 (orHp M155 K148)) (fun c163 => ?_)
    refine kq_cmp H14 (orHp (orHp M16 K9) (orHp H153 (orHp M155 K148))) (fun c164 => ?_)
    exact kq_retTR (rss2 rfl (rs_agg rfl rfl) (rs_agg rfl rfl)) [sing br (.cells [vbr, .int .i64 (q149 : Int)].toArray 83 (0, 0))] [] (orHp H14 (orHp (orHp M16 K9) (orHp H153 (orHp M155 K148)))) frn (fr_or f20 (fr_or (fr_or f21 f8) (fr_or f159 (fr_or f160 f147)))) ⟨q149, by omega, rfl, rfl, (⟨z12.doms, z12.cons⟩ : Mod), (⟨z151.doms, z151.cons⟩ : Mod), _, _, _, _, rfl, (Sl.mono (by assumption) (fun b o h => orL b o h) (fun _ _ h => h)), (Cons.mono' (by assumption) (fun b o h => orC c164 b o (orL b o h))), (Sl.mono (OwnL.ints o154) (fun b o h => orC c164 b o (orC c163 b o (orL b o h))) (fun _ _ h => h)), (Cons.mono' (OwnL.consK o158 c161) (fun b o h => orC c164 b o (orC c163 b o (orC c162 b o h)))), by exact ⟨by assumption, by assumption⟩⟩
theorem drawEnt_ok {Hcode : Hp} {vcode : Value} (code : List Int) (hcode : Bytes Hcode vcode code) : Spec Tryz.prog 14 [vcode] [Hcode] (fun Hq vq => ∃ (mq : Mod) (nq : Mod) (uq0a uq0b uq1a uq1b : Value), vq = .tuple #[.agg #[uq0a, uq0b], .agg #[uq1a, uq1b]] ∧ Ints Hq uq0a mq.doms ∧ Cons Hq uq0b mq.cons ∧ Ints Hq uq1a nq.doms ∧ Cons Hq uq1b nq.cons ∧ ModSm 100 mq ∧ ModSm 100 nq) := by
 refine spec_ofR Tryz.func14 rfl rfl rfl (fun B => ?_)
 refine kc_seq (kc_region ?_)
 refine kl_alloc (cs := [.slice none 0 0, .slice none 0 0]) rfl (fun b1 hb2 => ?_)
 refine kl_alloc (cs := [.slice none 0 0, .slice none 0 0]) rfl (fun b3 hb4 => ?_)
 refine kl_nil (kq_code (kc_seq (kc_region ?_)))
 refine kl_mv rfl ?_
 refine kl_callT rfl rfl (newReader_ok code hcode) (fun v5 L1 Ln K9 h6 f7 f8 => ?_)
 obtain ⟨rfl, b10, v11, x12, rfl, rfl, h13⟩ := h6
 refine kl_norm ?_
 refine kl_callT rfl rfl (twoModels_ok 0 (by omega) h13) (fun v14 L1 Ln K18 h15 f16 f17 => ?_)
 obtain ⟨q19, h20, rfl, rfl, z25, z30, u26, u27, u31, u32, rfl, h28, h29, h33, h34, h22⟩ := h15
 refine kl_norm ?_
 refine kl_xt rfl rfl ?_
 refine kl_xt rfl rfl ?_
 refine kl_stW (us := [u26, u27]) rfl rfl rfl rfl (oc (Sl.oneCell (by assumption)) (oc (Sl.oneCell (by assumption)) oc_nil)) rfl ?_
 refine kl_chg [sing b10 (.cells [v11, .int .i64 (q19 : Int)].toArray 83 (0, 0)), sing b3 (.cells [.slice none 0 0, .slice none 0 0].toArray 26 (0, 0)), sing b1 (.cells [u26, u27].toArray 26 (0, 0))] rfl ?_
 refine kl_stW (us := [u31, u32]) rfl rfl rfl rfl (oc (Sl.oneCell (by assumption)) (oc (Sl.oneCell (by assumption)) oc_nil)) rfl ?_
 refine kl_chg [sing b10 (.cells [v11, .int .i64 (q19 : Int)].toArray 83 (0, 0)), sing b3 (.cells [u31, u32].toArray 26 (0, 0)), sing b1 (.cells [u26, u27].toArray 26 (0, 0))] rfl ?_
 refine kl_nil (kq_code ?_)
 refine kc_ret ?_
 refine kq_cmp K18 K18 (fun c35 => ?_)
 refine kq_cmp K18 (orHp K18 K18) (fun c36 => ?_)
 refine kq_cmp K18 (orHp K18 (orHp K18 K18)) (fun c37 => ?_)
 exact kq_retR (rss2 rfl (rs_agg rfl rfl) (rs_agg rfl rfl)) (orHp K18 (orHp K18 (orHp K18 K18))) (fr_or f17 (fr_or f17 (fr_or f17 f17))) ⟨(⟨z25.doms, z25.cons⟩ : Mod), (⟨z30.doms, z30.cons⟩ : Mod), _, _, _, _, rfl, (Sl.mono (by assumption) (fun b o h => orL b o h) (fun _ _ h => h)), (Cons.mono' (by assumption) (fun b o h => orC c37 b o (orL b o h))), (Sl.mono (by assumption) (fun b o h => orC c37 b o (orC c36 b o (orL b o h))) (fun _ _ h => h)), (Cons.mono' (by assumption) (fun b o h => orC c37 b o (orC c36 b o (orC c35 b o h)))), by assumption⟩ .none
end Go.Proofs.YtndggikpobghkaaGreat
