/- Walks of functions of the program: each returns what the plain function gives. Conditions: those that each statement names. -/
import Derived.Test.YtaidejjdmkghoaaGreatWnh
import Derived.Test.YtaidejjdmkghoaaGreatWeqm
import Derived.Test.YtaidejjdmkghoaaGreatWvs
import Derived.Test.YtaidejjdmkghoaaGreatWas
import Derived.Test.YtaidejjdmkghoaaGreatWsa
import Derived.Test.YtaidejjdmkghoaaGreatWis
import Derived.Test.YtaidejjdmkghoaaGreatWent
namespace Go.Proofs.YtaidejjdmkghoaaGreat
open Go
set_option linter.unusedSimpArgs false
set_option linter.unusedVariables false
theorem drawNh_ok {Hcode : Hp} {vcode : Value} (code : List Int) (hcode : Bytes Hcode vcode code) : Spec Tryz.prog 7 [vcode] [Hcode] (fun Hq vq => ∃ (mq : Mod) (xq : List Int) (sq : List Int) (uq0a uq0b uq1 uq2 : Value), vq = .tuple #[.agg #[uq0a, uq0b], uq1, uq2] ∧ Ints Hq uq0a mq.doms ∧ Cons Hq uq0b mq.cons ∧ Ints Hq uq1 xq ∧ Ints Hq uq2 sq ∧ ModSm 100 mq ∧ xq.length ≤ 5 ∧ sq.length ≤ 5) := by
 refine spec_ofR Tryz.func7 rfl rfl rfl (fun B => ?_)
 refine kc_seq (kc_region ?_)
 refine kl_alloc (cs := [.slice none 0 0, .slice none 0 0]) rfl (fun b1 hb2 => ?_)
 refine kl_as rfl ?_
 refine kl_as rfl ?_
 refine kl_nil (kq_code (kc_seq (kc_region ?_)))
 refine kl_mv rfl ?_
 refine kl_callT rfl rfl (newReader_ok code hcode) (fun v3 L1 Ln K7 h4 f5 f6 => ?_)
 obtain ⟨rfl, b8, v9, x10, rfl, rfl, h11⟩ := h4
 refine kl_norm ?_
 refine kl_as rfl ?_
 refine kl_nil (kq_code (kc_seq (kc_region ?_)))
 refine kl_mv rfl ?_
 refine kl_callT rfl rfl (anyModel_ok 0 (by omega) h11) (fun v12 L1 Ln K16 h13 f14 f15 => ?_)
 obtain ⟨q17, h18, rfl, H21, M23, v24, v25, z19, rfl, rfl, o22, o26, h20⟩ := h13
 have f27 := f14 _ (.head _)
 have f28 := f14 _ (.tail _ (.head _))
 have hd1 := h20.d1
 have hd4 := h20.d
 have hc1 := h20.c
 have hcc := h20.cc
 refine kl_norm ?_
 refine kl_frz H21 ?_
 have h29 := OwnL.ints o22
 refine kl_frz M23 ?_
 refine kl_cmp M23 K16 (fun c30 => ?_)
 have h31 := OwnL.consK o26 c30
 refine kl_alloc (cs := [.slice none 0 0, .slice none 0 0]) rfl (fun b32 hb33 => ?_)
 refine kl_stW (us := [v24, v25]) rfl rfl rfl rfl (oc (Sl.oneCell (by assumption)) (oc (Sl.oneCell (by assumption)) oc_nil)) rfl ?_
 refine kl_chg [sing b32 (.cells [v24, v25].toArray 26 (0, 0)), sing b8 (.cells [v9, .int .i64 (q17 : Int)].toArray 97 (0, 0)), sing b1 (.cells [.slice none 0 0, .slice none 0 0].toArray 26 (0, 0))] rfl ?_
 refine kl_nil (kq_code (kc_seq (kc_region ?_)))
 refine kl_mv rfl ?_
 refine kl_ldW rfl rfl ?_
 refine kl_callT rfl rfl (assignment_ok q17 z19 hd1 hd4 (by omega) h11 (by assumption) (by assumption)) (fun v34 L1 Ln K38 h35 f36 f37 => ?_)
 obtain ⟨q39, h40, rfl, H43, z41, rfl, o44, h42⟩ := h35
 have f45 := f36 _ (.head _)
 have ha9 := h42
 refine kl_norm ?_
 refine kl_as rfl ?_
 refine kl_nil (kq_code ?_)
 refine kc_seq ?_
 refine kc_tree (fun i => ([] : List Nat).contains i) [sing b32 (.cells [v24, v25].toArray 26 (0, 0))] (by kernel_rfl) ?_
 refine kt_q 0 (.cons _ (.cons _ (.cons_cons _ (List.nil_sublist _)))) rfl (by kernel_rfl) ?_
 refine kl_ldS rfl (at_box (T := 26) (cs := [v24, v25]) (off := 0) (fz := (0, 0))) rfl ?_
 refine kl_nil (kq_q ?_)
 refine kt_q 1 (.cons _ (.cons _ (.cons_cons _ (List.nil_sublist _)))) rfl (by kernel_rfl) ?_
 refine kl_mv rfl ?_
 refine kl_nil (kq_q ?_)
 refine kt_q 2 (.cons _ (.cons _ (.cons_cons _ (List.nil_sublist _)))) rfl (by kernel_rfl) ?_
 refine kl_mv rfl ?_
 refine kl_nil (kq_q ?_)
 refine kt_q 3 (.cons _ (.cons _ (.cons_cons _ (List.nil_sublist _)))) rfl (by kernel_rfl) ?_
 refine kl_fdV rfl ?_
 refine kl_nil (kq_q ?_)
 refine kt_q 4 (.cons _ (.cons _ (.cons_cons _ (List.nil_sublist _)))) rfl (by kernel_rfl) ?_
 refine kl_ld rfl (at_box (T := 26) (cs := [v24, v25]) (off := 0) (fz := (0, 0))) ?_
 refine kl_nil (kq_q ?_)
 refine kt_q 5 (.cons _ (.cons _ (.cons_cons _ (List.nil_sublist _)))) rfl (by kernel_rfl) ?_
 refine kl_len rfl (by assumption) (fun l46 => ?_)
 refine kl_nil (kq_q ?_)
 refine kt_a 6 rfl (by kernel_rfl) ?_
 refine kl_callT rfl rfl (varSet_ok q39 (z19.doms.length : Int) (by first | assumption | omega) (by omega) h11) (fun v47 L1 Ln K51 h48 f49 f50 => ?_)
 obtain ⟨q52, h53, rfl, H56, z54, rfl, o57, h55⟩ := h48
 have f58 := f49 _ (.head _)
 have hv9 := h55
 refine kl_norm ?_
 refine kl_nil (kq_a (.cons _ (.cons _ (.cons _ (.cons_cons _ (List.nil_sublist _))))) ?_)
 refine kt_a 7 rfl (by kernel_rfl) ?_
 refine kl_stW (us := [v24, v25]) rfl rfl rfl rfl (oc (Sl.oneCell (by assumption)) (oc (Sl.oneCell (by assumption)) oc_nil)) rfl ?_
 refine kl_chg [sing b8 (.cells [v9, .int .i64 (q52 : Int)].toArray 97 (0, 0)), H56, H43, sing b32 (.cells [v24, v25].toArray 26 (0, 0)), sing b1 (.cells [v24, v25].toArray 26 (0, 0))] rfl ?_
 refine kl_nil (kq_a (.cons _ (.cons _ (.cons _ (.cons_cons _ (List.nil_sublist _))))) ?_)
 refine kt_q 8 (.cons _ (.cons _ (.cons _ (.cons_cons _ (List.nil_sublist _))))) rfl (by kernel_rfl) ?_
 refine kl_as rfl ?_
 refine kl_nil (kq_q ?_)
 refine kt_q 9 (.cons _ (.cons _ (.cons _ (.cons_cons _ (List.nil_sublist _))))) rfl (by kernel_rfl) ?_
 refine kl_as rfl ?_
 refine kl_nil (kq_q ?_)
 refine kt_end (by kernel_rfl) ?_
 refine kq_code ?_
 refine kc_ret ?_
 refine kq_frz H43 ?_
 refine kq_frz H56 ?_
 refine kq_cmp H43 H56 (fun c59 => ?_)
 refine kq_cmp (orHp M23 K16) (orHp H43 H56) (fun c60 => ?_)
 refine kq_cmp H21 (orHp (orHp M23 K16) (orHp H43 H56)) (fun c61 => ?_)
 exact kq_retR (rss3 rfl (rs_agg rfl rfl) (rs_tmp rfl) (rs_tmp rfl)) (orHp H21 (orHp (orHp M23 K16) (orHp H43 H56))) (fr_or f27 (fr_or (fr_or f28 f15) (fr_or f45 f58))) ⟨(⟨z19.doms, z19.cons⟩ : Mod), z41, z54, _, _, _, _, rfl, (Sl.mono (by assumption) (fun b o h => orL b o h) (fun _ _ h => h)), (Cons.mono' (by assumption) (fun b o h => orC c61 b o (orL b o h))), (Sl.mono (OwnL.ints o44) (fun b o h => orC c61 b o (orC c60 b o (orL b o h))) (fun _ _ h => h)), (Sl.mono (OwnL.ints o57) (fun b o h => orC c61 b o (orC c60 b o (orC c59 b o h))) (fun _ _ h => h)), by exact ⟨by assumption, ha9, hv9⟩⟩ .none
theorem lawFnNh_ok {Hcode : Hp} {vcode : Value} (code : List Int) (hcode : Bytes Hcode vcode code) : SpecP Tryz.prog 3 [vcode] [Hcode] (.bool true) := by
 refine spec_of Tryz.func3 rfl rfl rfl (fun B => ?_)
 refine kc_seq (kc_region ?_)
 refine kl_as rfl ?_
 refine kl_nil (kq_code ?_)
 refine kc_seq ?_
 refine kc_seq (kc_region ?_)
 refine kl_mv rfl ?_
 refine kl_len rfl (by assumption) (fun l1 => ?_)
 refine kl_gtr rfl rfl ?_
 refine kl_nil (kq_code ?_)
 refine kc_if rfl (fun c2 => ?_) (fun c2 => ?_)
 ·skip
  refine kc_seq (kc_region ?_)
  refine kl_as rfl ?_
  refine kl_nil (kq_code ?_)
  refine kc_ret ?_
  refine kq_retP rfl rfl (congrArg Value.bool ?_)
  first | rfl | (simp; done) | exact nh_ret hn1 hn2 | exact nh_fin hgo
 ·skip
  refine kc_skipQ ?_
  refine kq_code ?_
  refine kc_seq (kc_region ?_)
  refine kl_mv rfl ?_
  refine kl_call rfl rfl (drawNh_ok code hcode) (fun v3 H4 f5 h6 => ?_)
  obtain ⟨z9, z14, z17, u10, u11, u15, u18, rfl, h12, h13, h16, h19, h8⟩ := h6
  have hsm := h8.1
  have hxl := h8.2.1
  have hfl := h8.2.2
  refine kl_mv rfl ?_
  refine kl_xt rfl rfl ?_
  refine kl_xt rfl rfl ?_
  refine kl_xt rfl rfl ?_
  refine kl_alloc (cs := [.slice none 0 0, .slice none 0 0]) rfl (fun b20 hb21 => ?_)
  refine kl_stW (us := [u10, u11]) rfl rfl rfl rfl (oc (Sl.oneCell (by assumption)) (oc (Sl.oneCell (by assumption)) oc_nil)) rfl ?_
  refine kl_chg [sing b20 (.cells [u10, u11].toArray 26 (0, 0))] rfl ?_
  refine kl_as rfl ?_
  refine kl_as rfl ?_
  refine kl_nil (kq_code (kc_seq (kc_region ?_)))
  refine kl_ldW rfl rfl ?_
  refine kl_mv rfl ?_
  refine kl_mv rfl ?_
  refine kl_call rfl rfl (nhoodI_ok z9 z14 z17 hsm (by assumption) (by assumption) (by assumption) (by assumption)) (fun v22 H23 f24 h25 => ?_)
  obtain ⟨z28, z33, u29, u30, rfl, h31, h32, h27⟩ := h25
  have hn1 := h27
  refine kl_mv rfl ?_
  refine kl_xt rfl rfl ?_
  refine kl_xt rfl rfl ?_
  refine kl_alloc (cs := [.slice none 0 0, .slice none 0 0]) rfl (fun b34 hb35 => ?_)
  refine kl_stW (us := [u29, u30]) rfl rfl rfl rfl (oc (Sl.oneCell (by assumption)) (oc (Sl.oneCell (by assumption)) oc_nil)) rfl ?_
  refine kl_chg [sing b34 (.cells [u29, u30].toArray 26 (0, 0)), sing b20 (.cells [u10, u11].toArray 26 (0, 0))] rfl ?_
  refine kl_as rfl ?_
  refine kl_nil (kq_code (kc_seq (kc_region ?_)))
  refine kl_ldW rfl rfl ?_
  refine kl_mv rfl ?_
  refine kl_mv rfl ?_
  refine kl_call rfl rfl (nhoodS_ok z9 z14 z17 hsm (by assumption) (by assumption) (by assumption) (by assumption)) (fun v36 H37 f38 h39 => ?_)
  obtain ⟨z42, z47, u43, u44, rfl, h45, h46, h41⟩ := h39
  have hn2 := h41
  refine kl_mv rfl ?_
  refine kl_xt rfl rfl ?_
  refine kl_xt rfl rfl ?_
  refine kl_alloc (cs := [.slice none 0 0, .slice none 0 0]) rfl (fun b48 hb49 => ?_)
  refine kl_stW (us := [u43, u44]) rfl rfl rfl rfl (oc (Sl.oneCell (by assumption)) (oc (Sl.oneCell (by assumption)) oc_nil)) rfl ?_
  refine kl_chg [sing b48 (.cells [u43, u44].toArray 26 (0, 0)), sing b34 (.cells [u29, u30].toArray 26 (0, 0)), sing b20 (.cells [u10, u11].toArray 26 (0, 0))] rfl ?_
  refine kl_as rfl ?_
  refine kl_nil (kq_code ?_)
  refine kc_seq ?_
  refine kc_seq (kc_region ?_)
  refine kl_mv rfl ?_
  refine kl_mv rfl ?_
  refine kl_bne rfl rfl ?_
  refine kl_mv rfl ?_
  refine kl_join 5 45 (.bool ((z33 != z47) || !(decide (z28 = z42)))) (pc 2 rfl (pc 3 rfl (pc 4 rfl (pc 5 rfl (pc 6 rfl (pc 7 rfl (pc 8 rfl (pc 9 rfl (pc 40 rfl pn))))))))) (fun J51 => ?_) ?_
  ·rcases Bool.eq_false_or_eq_true (z33 != z47) with g50 | g50
   ·skip
    refine kl_gF rfl rfl g50 ?_
    refine kl_gF rfl rfl g50 ?_
    refine kl_gF rfl rfl g50 ?_
    refine kl_gF rfl rfl g50 ?_
    refine kl_orT (!(decide (z28 = z42))) rfl rfl g50 ?_
    exact J51 _ (pc 45 rfl (pc 2 rfl (pc 3 rfl (pc 4 rfl (pc 5 rfl (pc 6 rfl (pc 7 rfl (pc 8 rfl (pc 9 rfl (pc 40 rfl pn))))))))))
   ·skip
    have g50p := g50
    try simp only [Bool.not_eq_true', Bool.not_eq_false', decide_eq_true_eq, decide_eq_false_iff_not, Bool.and_eq_true, Bool.or_eq_false_iff, withinB_iff] at g50p
    refine kl_gT rfl rfl g50 ?_
    refine kl_ldW rfl rfl ?_
    refine kl_gT rfl rfl g50 ?_
    refine kl_ldW rfl rfl ?_
    refine kl_gT rfl rfl g50 ?_
    refine kl_callP rfl rfl (equalMod_ok z28 z42 (by assumption) (by assumption) (by assumption) (by assumption)) ?_
    refine kl_gT rfl rfl g50 ?_
    refine kl_not rfl ?_
    refine kl_orF rfl rfl g50 ?_
    exact J51 _ (pc 45 rfl (pc 2 rfl (pc 3 rfl (pc 4 rfl (pc 5 rfl (pc 6 rfl (pc 7 rfl (pc 8 rfl (pc 9 rfl (pc 40 rfl pn))))))))))
  refine kl_mv rfl ?_
  refine kl_join 3 49 (.bool (((z33 != z47) || !(decide (z28 = z42))) || !z33)) (pc 2 rfl (pc 3 rfl (pc 4 rfl (pc 5 rfl (pc 6 rfl (pc 7 rfl (pc 8 rfl (pc 9 rfl (pc 46 rfl pn))))))))) (fun J53 => ?_) ?_
  ·rcases Bool.eq_false_or_eq_true ((z33 != z47) || !(decide (z28 = z42))) with g52 | g52
   ·skip
    refine kl_gF rfl rfl g52 ?_
    refine kl_gF rfl rfl g52 ?_
    refine kl_orT (!z33) rfl rfl g52 ?_
    exact J53 _ (pc 49 rfl (pc 2 rfl (pc 3 rfl (pc 4 rfl (pc 5 rfl (pc 6 rfl (pc 7 rfl (pc 8 rfl (pc 9 rfl (pc 46 rfl pn))))))))))
   ·skip
    have g52p := g52
    try simp only [Bool.not_eq_true', Bool.not_eq_false', decide_eq_true_eq, decide_eq_false_iff_not, Bool.and_eq_true, Bool.or_eq_false_iff, withinB_iff] at g52p
    refine kl_gT rfl rfl g52 ?_
    refine kl_mv rfl ?_
    refine kl_gT rfl rfl g52 ?_
    refine kl_not rfl ?_
    refine kl_orF rfl rfl g52 ?_
    exact J53 _ (pc 49 rfl (pc 2 rfl (pc 3 rfl (pc 4 rfl (pc 5 rfl (pc 6 rfl (pc 7 rfl (pc 8 rfl (pc 9 rfl (pc 46 rfl pn))))))))))
  refine kl_nil (kq_code ?_)
  refine kc_cond rfl (fun c54 => ?_) (fun c54 => ?_)
  ·skip
   have c54r := c54
   try simp only [Bool.not_eq_true', Bool.not_eq_false', Bool.not_true, Bool.not_false, decide_eq_true_eq, decide_eq_false_iff_not, Bool.and_eq_true, Bool.or_eq_false_iff] at c54
   refine kc_seq (kc_region ?_)
   refine kl_mv rfl ?_
   refine kl_mv rfl ?_
   refine kl_beq rfl rfl ?_
   refine kl_mv rfl ?_
   refine kl_join 4 57 (.bool ((z33 == z47) && (decide (z28 = z42)))) (pc 2 rfl (pc 3 rfl (pc 4 rfl (pc 5 rfl (pc 6 rfl (pc 53 rfl pn)))))) (fun J56 => ?_) ?_
   ·rcases Bool.eq_false_or_eq_true (z33 == z47) with g55 | g55
    ·skip
     have g55p := g55
     try simp only [Bool.not_eq_true', Bool.not_eq_false', decide_eq_true_eq, decide_eq_false_iff_not, Bool.and_eq_true, Bool.or_eq_false_iff, withinB_iff] at g55p
     refine kl_gT rfl rfl g55 ?_
     refine kl_ldW rfl rfl ?_
     refine kl_gT rfl rfl g55 ?_
     refine kl_ldW rfl rfl ?_
     refine kl_gT rfl rfl g55 ?_
     refine kl_callP rfl rfl (equalMod_ok z28 z42 (by assumption) (by assumption) (by assumption) (by assumption)) ?_
     refine kl_andT rfl rfl g55 ?_
     exact J56 _ (pc 57 rfl (pc 2 rfl (pc 3 rfl (pc 4 rfl (pc 5 rfl (pc 6 rfl (pc 53 rfl pn)))))))
    ·skip
     refine kl_gF rfl rfl g55 ?_
     refine kl_gF rfl rfl g55 ?_
     refine kl_gF rfl rfl g55 ?_
     refine kl_andF (decide (z28 = z42)) rfl rfl g55 ?_
     exact J56 _ (pc 57 rfl (pc 2 rfl (pc 3 rfl (pc 4 rfl (pc 5 rfl (pc 6 rfl (pc 53 rfl pn)))))))
   refine kl_as rfl ?_
   refine kl_nil (kq_code ?_)
   refine kc_ret ?_
   refine kq_retP rfl rfl (congrArg Value.bool ?_)
   first | rfl | (simp; done) | exact nh_ret hn1 hn2 | exact nh_fin hgo
  ·skip
   have c54r := c54
   try simp only [Bool.not_eq_true', Bool.not_eq_false', Bool.not_true, Bool.not_false, decide_eq_true_eq, decide_eq_false_iff_not, Bool.and_eq_true, Bool.or_eq_false_iff] at c54
   have hgo := nh_go hn1 hn2 c54r
   have hxe := hgo.1.hl
   refine kc_skipQ ?_
   refine kq_code ?_
   refine kc_seq (kc_region ?_)
   refine kl_ldW rfl rfl ?_
   refine kl_call rfl rfl (solveAll_ok z9 (by assumption) (by assumption)) (fun v57 H58 f59 h60 => ?_)
   refine kl_as rfl ?_
   refine kl_nil (kq_code ?_)
   refine kc_seq ?_
   refine kc_seq (kc_region ?_)
   refine kl_as rfl ?_
   refine kl_nil (kq_code ?_)
   refine kc_block ?_
   refine kc_loop0 (A := Nat) (fun zz => (zz ≤ (solL z9).length)) (fun zz => (solL z9).length - zz) (fun zz => [(11, .int .i64 (zz : Int))]) (0) (pc 3 rfl (pc 4 rfl (pc 5 rfl (pc 6 rfl (pc 10 rfl pn))))) (pc 11 rfl pn) (Nat.zero_le _) ?_
   rintro k hJ63
   have hk61 : (k ≤ (solL z9).length) := hJ63
   change KC _ _ (_) _ _ ([(11, .int .i64 (k : Int))] ++ _)
   refine kc_seq ?_
   refine kc_seq (kc_region ?_)
   refine kl_mv rfl ?_
   refine kl_mv rfl ?_
   refine kl_len rfl (by assumption) (fun l64 => ?_)
   refine kl_lss rfl rfl ?_
   refine kl_nil (kq_code ?_)
   refine kc_if rfl (fun c65 => ?_) (fun c65 => ?_)
   ·skip
    have hyl := solLk_len c65
    refine kc_skipQ ?_
    refine kq_code ?_
    refine kc_seq ?_
    refine kc_block ?_
    refine kc_seq (kc_region ?_)
    refine kl_as rfl ?_
    refine kl_nil (kq_code ?_)
    refine kc_seq ?_
    refine kc_seq (kc_region ?_)
    refine kl_as rfl ?_
    refine kl_nil (kq_code ?_)
    refine kc_block ?_
    refine kc_loop0 (A := Nat × Bool) (fun zz => (zz.1 ≤ z14.length) ∧ (zz.2 = samI z17 z14 ((solL z9).getD k []) zz.1)) (fun zz => z14.length - zz.1) (fun zz => [(13, .int .i64 (zz.1 : Int)), (12, .bool zz.2)]) (0, true) (pc 3 rfl (pc 4 rfl (pc 5 rfl (pc 6 rfl (pc 10 rfl (pc 11 rfl (pc 60 rfl (pc 61 rfl (pc 62 rfl (pc 63 rfl pn)))))))))) (pc 13 rfl (pc 12 rfl pn)) ⟨Nat.zero_le _, rfl⟩ ?_
    rintro ⟨k2, sm⟩ hJ68
    obtain ⟨hk66, hi67⟩ : (k2 ≤ z14.length) ∧ (sm = samI z17 z14 ((solL z9).getD k []) k2) := hJ68
    change KC _ _ (_) _ _ ([(13, .int .i64 (k2 : Int)), (12, .bool sm)] ++ _)
    refine kc_seq ?_
    refine kc_seq (kc_region ?_)
    refine kl_mv rfl ?_
    refine kl_mv rfl ?_
    refine kl_len rfl (by assumption) (fun l69 => ?_)
    refine kl_lss rfl rfl ?_
    refine kl_nil (kq_code ?_)
    refine kc_if rfl (fun c70 => ?_) (fun c70 => ?_)
    ·skip
     refine kc_skipQ ?_
     refine kq_code ?_
     refine kc_seq ?_
     refine kc_block ?_
     refine kc_draw 21 [true, true, true, true, false, true, true, true, true, true, true, true, true, true, true, true, true, true, true, true, true] (by kernel_rfl) (by kernel_rfl) ?_
     refine kl_mv rfl ?_
     refine kl_mv rfl ?_
     refine kl_join 18 91 (.bool (sm && ((z17.contains (k2 : Int)) || decide ((((solL z9).getD k []).getD k2 0) = (z14.getD k2 0))))) (pc 3 rfl (pc 4 rfl (pc 5 rfl (pc 6 rfl (pc 10 rfl (pc 11 rfl (pc 12 rfl (pc 13 rfl (pc 60 rfl (pc 61 rfl (pc 62 rfl (pc 63 rfl (pc 66 rfl (pc 67 rfl (pc 68 rfl (pc 69 rfl (pc 72 rfl (pc 73 rfl pn)))))))))))))))))) (fun J82 => ?_) ?_
     ·rcases Bool.eq_false_or_eq_true sm with g71 | g71
      ·skip
       have g71p := g71
       try simp only [Bool.not_eq_true', Bool.not_eq_false', decide_eq_true_eq, decide_eq_false_iff_not, Bool.and_eq_true, Bool.or_eq_false_iff, withinB_iff] at g71p
       refine kl_gT rfl rfl g71 ?_
       refine kl_mv rfl ?_
       refine kl_gT rfl rfl g71 ?_
       refine kl_mv rfl ?_
       refine kl_gT rfl rfl g71 ?_
       refine kl_callP rfl rfl (lcontains_ok z17 (k2 : Int) (by assumption)) ?_
       refine kl_gT rfl rfl g71 ?_
       refine kl_mv rfl ?_
       refine kl_join 13 90 (.bool ((z17.contains (k2 : Int)) || decide ((((solL z9).getD k []).getD k2 0) = (z14.getD k2 0)))) (pc 3 rfl (pc 4 rfl (pc 5 rfl (pc 6 rfl (pc 10 rfl (pc 11 rfl (pc 12 rfl (pc 13 rfl (pc 60 rfl (pc 61 rfl (pc 62 rfl (pc 63 rfl (pc 66 rfl (pc 67 rfl (pc 68 rfl (pc 69 rfl (pc 72 rfl (pc 73 rfl (pc 74 rfl (pc 75 rfl (pc 76 rfl (pc 77 rfl pn)))))))))))))))))))))) (fun J81 => ?_) ?_
       ·rcases Bool.eq_false_or_eq_true (z17.contains (k2 : Int)) with g72 | g72
        ·skip
         refine kl_gF rfl rfl g72 ?_
         refine kl_gF rfl rfl g72 ?_
         refine kl_gF rfl rfl g72 ?_
         refine kl_gF rfl rfl g72 ?_
         refine kl_gF rfl rfl g72 ?_
         refine kl_gF rfl rfl g72 ?_
         refine kl_gF rfl rfl g72 ?_
         refine kl_gF rfl rfl g72 ?_
         refine kl_gF rfl rfl g72 ?_
         refine kl_gF rfl rfl g72 ?_
         refine kl_gF rfl rfl g72 ?_
         refine kl_gF rfl rfl g72 ?_
         refine kl_gT rfl rfl g71 ?_
         refine kl_orT (decide ((((solL z9).getD k []).getD k2 0) = (z14.getD k2 0))) rfl rfl g72 ?_
         exact J81 _ (pc 90 rfl (pc 3 rfl (pc 4 rfl (pc 5 rfl (pc 6 rfl (pc 10 rfl (pc 11 rfl (pc 12 rfl (pc 13 rfl (pc 60 rfl (pc 61 rfl (pc 62 rfl (pc 63 rfl (pc 66 rfl (pc 67 rfl (pc 68 rfl (pc 69 rfl (pc 72 rfl (pc 73 rfl (pc 74 rfl (pc 75 rfl (pc 76 rfl (pc 77 rfl pn)))))))))))))))))))))))
        ·skip
         have g72p := g72
         try simp only [Bool.not_eq_true', Bool.not_eq_false', decide_eq_true_eq, decide_eq_false_iff_not, Bool.and_eq_true, Bool.or_eq_false_iff, withinB_iff] at g72p
         refine kl_gT rfl rfl g72 ?_
         refine kl_mv rfl ?_
         refine kl_gT rfl rfl g72 ?_
         refine kl_mv rfl ?_
         refine kl_gT rfl rfl g72 ?_
         refine kl_inS rfl rfl (by assumption) (by omega) (fun p73 u75 h76 a74 => ?_)
         refine kl_gT rfl rfl g72 ?_
         refine kl_ld rfl (by assumption) ?_
         refine kl_gT rfl rfl g72 ?_
         refine kl_mv rfl ?_
         refine kl_gT rfl rfl g72 ?_
         refine kl_inI rfl rfl (by assumption) (by omega) (fun p77 a78 => ?_)
         refine kl_gT rfl rfl g72 ?_
         refine kl_ld rfl (by assumption) ?_
         refine kl_gT rfl rfl g72 ?_
         refine kl_mv rfl ?_
         refine kl_gT rfl rfl g72 ?_
         refine kl_mv rfl ?_
         refine kl_gT rfl rfl g72 ?_
         refine kl_inI rfl rfl (by assumption) (by omega) (fun p79 a80 => ?_)
         refine kl_gT rfl rfl g72 ?_
         refine kl_ld rfl (by assumption) ?_
         refine kl_gT rfl rfl g72 ?_
         refine kl_eql rfl rfl ?_
         refine kl_gT rfl rfl g71 ?_
         refine kl_orF rfl rfl g72 ?_
         exact J81 _ (pc 90 rfl (pc 3 rfl (pc 4 rfl (pc 5 rfl (pc 6 rfl (pc 10 rfl (pc 11 rfl (pc 12 rfl (pc 13 rfl (pc 60 rfl (pc 61 rfl (pc 62 rfl (pc 63 rfl (pc 66 rfl (pc 67 rfl (pc 68 rfl (pc 69 rfl (pc 72 rfl (pc 73 rfl (pc 74 rfl (pc 75 rfl (pc 76 rfl (pc 77 rfl pn)))))))))))))))))))))))
       refine kl_andT rfl rfl g71 ?_
       exact J82 _ (pc 91 rfl (pc 3 rfl (pc 4 rfl (pc 5 rfl (pc 6 rfl (pc 10 rfl (pc 11 rfl (pc 12 rfl (pc 13 rfl (pc 60 rfl (pc 61 rfl (pc 62 rfl (pc 63 rfl (pc 66 rfl (pc 67 rfl (pc 68 rfl (pc 69 rfl (pc 72 rfl (pc 73 rfl pn)))))))))))))))))))
      ·skip
       refine kl_gF rfl rfl g71 ?_
       refine kl_gF rfl rfl g71 ?_
       refine kl_gF rfl rfl g71 ?_
       refine kl_gF rfl rfl g71 ?_
       refine kl_gU rfl rfl ?_
       refine kl_gU rfl rfl ?_
       refine kl_gU rfl rfl ?_
       refine kl_gU rfl rfl ?_
       refine kl_gU rfl rfl ?_
       refine kl_gU rfl rfl ?_
       refine kl_gU rfl rfl ?_
       refine kl_gU rfl rfl ?_
       refine kl_gU rfl rfl ?_
       refine kl_gU rfl rfl ?_
       refine kl_gU rfl rfl ?_
       refine kl_gU rfl rfl ?_
       refine kl_gF rfl rfl g71 ?_
       refine kl_andF ((z17.contains (k2 : Int)) || decide ((((solL z9).getD k []).getD k2 0) = (z14.getD k2 0))) rfl rfl g71 ?_
       exact J82 _ (pc 91 rfl (pc 3 rfl (pc 4 rfl (pc 5 rfl (pc 6 rfl (pc 10 rfl (pc 11 rfl (pc 12 rfl (pc 13 rfl (pc 60 rfl (pc 61 rfl (pc 62 rfl (pc 63 rfl (pc 66 rfl (pc 67 rfl (pc 68 rfl (pc 69 rfl (pc 72 rfl (pc 73 rfl pn)))))))))))))))))))
     refine kl_as rfl ?_
     refine kl_nil (kq_code ?_)
     refine kc_region ?_
     refine kl_mv rfl ?_
     refine kl_inc rfl rfl (by omega) ?_
     refine kl_as rfl ?_
     refine kl_nil ?_
     refine kq_round0 ((k2 + 1), (sm && ((z17.contains (k2 : Int)) || decide ((((solL z9).getD k []).getD k2 0) = (z14.getD k2 0))))) (by omega) (⟨by omega, (by exact sam_step hi67)⟩) (pc 13 rfl (pc 12 rfl pn)) (pc 3 rfl (pc 4 rfl (pc 5 rfl (pc 6 rfl (pc 10 rfl (pc 11 rfl (pc 60 rfl (pc 61 rfl (pc 62 rfl (pc 63 rfl pn)))))))))) (List.Sublist.refl _)
    ·skip
     refine kc_exit ?_
     refine kq_code ?_
     refine kc_seq ?_
     refine kc_tree (fun i => ([] : List Nat).contains i) [sing b34 (.cells [u29, u30].toArray 26 (0, 0))] (by kernel_rfl) ?_
     refine kt_q 0 (.cons _ (.cons_cons _ (List.nil_sublist _))) rfl (by kernel_rfl) ?_
     refine kl_ldS rfl (at_box (T := 26) (cs := [u29, u30]) (off := 0) (fz := (0, 0))) rfl ?_
     refine kl_nil (kq_q ?_)
     refine kt_q 1 (.cons _ (.cons_cons _ (List.nil_sublist _))) rfl (by kernel_rfl) ?_
     refine kl_mv rfl ?_
     refine kl_nil (kq_q ?_)
     refine kt_q 2 (.cons _ (.cons_cons _ (List.nil_sublist _))) rfl (by kernel_rfl) ?_
     refine kl_mv rfl ?_
     refine kl_nil (kq_q ?_)
     refine kt_q 3 (.cons _ (.cons_cons _ (List.nil_sublist _))) rfl (by kernel_rfl) ?_
     refine kl_inS rfl rfl (by assumption) (by omega) (fun p83 u85 h86 a84 => ?_)
     refine kl_nil (kq_q ?_)
     refine kt_q 4 (.cons _ (.cons_cons _ (List.nil_sublist _))) rfl (by kernel_rfl) ?_
     refine kl_ld rfl (by assumption) ?_
     refine kl_nil (kq_q ?_)
     refine kt_q 6 (.cons _ (.cons_cons _ (List.nil_sublist _))) rfl (by kernel_rfl) ?_
     refine kl_mv rfl ?_
     refine kl_nil (kq_q ?_)
     refine kt_a 5 rfl (by kernel_rfl) ?_
     refine kl_callP rfl rfl (isSolI_ok z28 ((solL z9).getD k []) (by assumption) (by assumption) (by assumption)) ?_
     refine kl_nil (kq_a (.cons _ (.cons_cons _ (List.nil_sublist _))) ?_)
     refine kt_q 7 (.cons _ (.cons_cons _ (List.nil_sublist _))) rfl (by kernel_rfl) ?_
     refine kl_bne rfl rfl ?_
     refine kl_nil (kq_q ?_)
     refine kt_end (by kernel_rfl) ?_
     refine kq_code ?_
     refine kc_cond rfl (fun c87 => ?_) (fun c87 => ?_)
     ·skip
      have c87r := c87
      try simp only [Bool.not_eq_true', Bool.not_eq_false', Bool.not_true, Bool.not_false, decide_eq_true_eq, decide_eq_false_iff_not, Bool.and_eq_true, Bool.or_eq_false_iff] at c87
      exact absurd c87r (by rw [nh_at hgo (solL_mem (getD_mem (by omega))) (by omega) hi67]; simp)
     ·skip
      have c87r := c87
      try simp only [Bool.not_eq_true', Bool.not_eq_false', Bool.not_true, Bool.not_false, decide_eq_true_eq, decide_eq_false_iff_not, Bool.and_eq_true, Bool.or_eq_false_iff] at c87
      refine kc_skipQ ?_
      refine kq_code ?_
      refine kc_region ?_
      refine kl_mv rfl ?_
      refine kl_inc rfl rfl (by omega) ?_
      refine kl_as rfl ?_
      refine kl_nil ?_
      refine kq_round0 ((k + 1)) (by omega) (by omega) (pc 11 rfl pn) (pc 3 rfl (pc 4 rfl (pc 5 rfl (pc 6 rfl (pc 10 rfl pn))))) (List.Sublist.refl _)
   ·skip
    refine kc_exit ?_
    refine kq_code ?_
    refine kc_seq (kc_region ?_)
    refine kl_ldW rfl rfl ?_
    refine kl_ldW rfl rfl ?_
    refine kl_callP rfl rfl (entI_ok z28 z9 (by assumption) (by assumption) (by assumption) (by assumption)) ?_
    refine kl_mv rfl ?_
    refine kl_join 11 114 (.bool ((entB z28 z9) && (decide ((z17.length : Int) < (z14.length : Int)) || (decide (z28 = z9))))) (pc 103 rfl pn) (fun J93 => ?_) ?_
    ·rcases Bool.eq_false_or_eq_true (entB z28 z9) with g88 | g88
     ·skip
      have g88p := g88
      try simp only [Bool.not_eq_true', Bool.not_eq_false', decide_eq_true_eq, decide_eq_false_iff_not, Bool.and_eq_true, Bool.or_eq_false_iff, withinB_iff] at g88p
      refine kl_gT rfl rfl g88 ?_
      refine kl_mv rfl ?_
      refine kl_gT rfl rfl g88 ?_
      refine kl_len rfl (by assumption) (fun l89 => ?_)
      refine kl_gT rfl rfl g88 ?_
      refine kl_mv rfl ?_
      refine kl_gT rfl rfl g88 ?_
      refine kl_len rfl (by assumption) (fun l90 => ?_)
      refine kl_gT rfl rfl g88 ?_
      refine kl_lss rfl rfl ?_
      refine kl_gT rfl rfl g88 ?_
      refine kl_mv rfl ?_
      refine kl_join 4 113 (.bool (decide ((z17.length : Int) < (z14.length : Int)) || (decide (z28 = z9)))) (pc 103 rfl (pc 109 rfl pn)) (fun J92 => ?_) ?_
      ·rcases Bool.eq_false_or_eq_true (decide ((z17.length : Int) < (z14.length : Int))) with g91 | g91
       ·skip
        refine kl_gF rfl rfl g91 ?_
        refine kl_gF rfl rfl g91 ?_
        refine kl_gF rfl rfl g91 ?_
        refine kl_gT rfl rfl g88 ?_
        refine kl_orT (decide (z28 = z9)) rfl rfl g91 ?_
        exact J92 _ (pc 113 rfl (pc 103 rfl (pc 109 rfl pn)))
       ·skip
        have g91p := of_decide_eq_false g91
        refine kl_gT rfl rfl g91 ?_
        refine kl_ldW rfl rfl ?_
        refine kl_gT rfl rfl g91 ?_
        refine kl_ldW rfl rfl ?_
        refine kl_gT rfl rfl g91 ?_
        refine kl_callP rfl rfl (equalMod_ok z28 z9 (by assumption) (by assumption) (by assumption) (by assumption)) ?_
        refine kl_gT rfl rfl g88 ?_
        refine kl_orF rfl rfl g91 ?_
        exact J92 _ (pc 113 rfl (pc 103 rfl (pc 109 rfl pn)))
      refine kl_andT rfl rfl g88 ?_
      exact J93 _ (pc 114 rfl (pc 103 rfl pn))
     ·skip
      refine kl_gF rfl rfl g88 ?_
      refine kl_gF rfl rfl g88 ?_
      refine kl_gF rfl rfl g88 ?_
      refine kl_gF rfl rfl g88 ?_
      refine kl_gF rfl rfl g88 ?_
      refine kl_gF rfl rfl g88 ?_
      refine kl_gU rfl rfl ?_
      refine kl_gU rfl rfl ?_
      refine kl_gU rfl rfl ?_
      refine kl_gF rfl rfl g88 ?_
      refine kl_andF (decide ((z17.length : Int) < (z14.length : Int)) || (decide (z28 = z9))) rfl rfl g88 ?_
      exact J93 _ (pc 114 rfl (pc 103 rfl pn))
    refine kl_as rfl ?_
    refine kl_nil (kq_code ?_)
    refine kc_ret ?_
    refine kq_retP rfl rfl (congrArg Value.bool ?_)
    first | rfl | (simp; done) | exact nh_ret hn1 hn2 | exact nh_fin hgo
end Go.Proofs.YtaidejjdmkghoaaGreat
