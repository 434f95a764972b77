/- Walks of functions of the program: each returns what the plain function gives. Conditions: those that each statement names. -/
import Derived.Test.YtpnkinblekmjlaaGreatDoorWog
import Derived.Test.YtpnkinblekmjlaaGreatDoorWas
import Derived.Test.YtpnkinblekmjlaaGreatDoorWmin
import Derived.Test.YtpnkinblekmjlaaGreatDoorWobj
namespace Go.Proofs.YtpnkinblekmjlaaGreatDoor
open Go
set_option linter.unusedSimpArgs false
set_option linter.unusedVariables false
theorem drawOg_ok {Hcode : Hp} {vcode : Value} (code : List Int) (hcode : Bytes Hcode vcode code) : Spec Tryz.prog 13 [vcode] [Hcode] (fun Hq vq => ∃ (mq : Mod) (oq : List Int) (xq : List Int) (uq0a uq0b uq1 uq2 : Value), vq = .tuple #[.agg #[uq0a, uq0b], uq1, uq2] ∧ Ints Hq uq0a mq.doms ∧ Cons Hq uq0b mq.cons ∧ Ints Hq uq1 oq ∧ Ints Hq uq2 xq ∧ ModSm 100 mq) := by
 refine spec_ofR Tryz.func13 rfl rfl rfl (fun B => ?_)
 refine kc_seq (kc_region ?_)
 refine kl_alloc (cs := [.slice none 0 0, .slice none 0 0]) rfl (fun b1 hb2 => ?_)
 refine kl_as rfl ?_
 refine kl_as rfl ?_
 refine kl_nil (kq_code (kc_seq (kc_region ?_)))
 refine kl_mv rfl ?_
 refine kl_callT rfl rfl (newReader_ok code hcode) (fun v3 L1 Ln K7 h4 f5 f6 => ?_)
 obtain ⟨rfl, b8, v9, x10, rfl, rfl, h11⟩ := h4
 refine kl_norm ?_
 refine kl_as rfl ?_
 refine kl_nil (kq_code (kc_seq (kc_region ?_)))
 refine kl_mv rfl ?_
 refine kl_callT rfl rfl (anyModel_ok 0 (by omega) h11) (fun v12 L1 Ln K16 h13 f14 f15 => ?_)
 obtain ⟨q17, h18, rfl, H21, M23, v24, v25, z19, rfl, rfl, o22, o26, h20⟩ := h13
 have f27 := f14 _ (.head _)
 have f28 := f14 _ (.tail _ (.head _))
 have hd1 := h20.d1
 have hd4 := h20.d
 have hc1 := h20.c
 have hcc := h20.cc
 refine kl_norm ?_
 refine kl_frz H21 ?_
 have h29 := OwnL.ints o22
 refine kl_frz M23 ?_
 refine kl_cmp M23 K16 (fun c30 => ?_)
 have h31 := OwnL.consK o26 c30
 refine kl_alloc (cs := [.slice none 0 0, .slice none 0 0]) rfl (fun b32 hb33 => ?_)
 refine kl_stW (us := [v24, v25]) rfl rfl rfl rfl (oc (Sl.oneCell (by assumption)) (oc (Sl.oneCell (by assumption)) oc_nil)) rfl ?_
 refine kl_chg [sing b32 (.cells [v24, v25].toArray 31 (0, 0)), sing b8 (.cells [v9, .int .i64 (q17 : Int)].toArray 85 (0, 0)), sing b1 (.cells [.slice none 0 0, .slice none 0 0].toArray 31 (0, 0))] rfl ?_
 refine kl_nil (kq_code (kc_seq (kc_region ?_)))
 refine kl_mv rfl ?_
 refine kl_fdV rfl ?_
 refine kl_ldB rfl rfl ?_
 refine kl_len rfl (by assumption) (fun l34 => ?_)
 refine kl_callT rfl rfl (objective_ok q17 (z19.doms.length : Int) (by first | assumption | omega) (by omega) h11) (fun v35 L1 Ln K39 h36 f37 f38 => ?_)
 obtain ⟨q40, h41, rfl, H44, z42, rfl, o45, h43⟩ := h36
 have f46 := f37 _ (.head _)
 have hj9 := h43
 refine kl_norm ?_
 refine kl_as rfl ?_
 refine kl_nil (kq_code ?_)
 refine kc_seq ?_
 refine kc_tree (fun i => ([] : List Nat).contains i) [sing b32 (.cells [v24, v25].toArray 31 (0, 0))] (by kernel_rfl) ?_
 refine kt_q 0 (.cons _ (.cons _ (.cons_cons _ (List.nil_sublist _)))) rfl (by kernel_rfl) ?_
 refine kl_ldS rfl (at_box (T := 31) (cs := [v24, v25]) (off := 0) (fz := (0, 0))) rfl ?_
 refine kl_nil (kq_q ?_)
 refine kt_q 1 (.cons _ (.cons _ (.cons_cons _ (List.nil_sublist _)))) rfl (by kernel_rfl) ?_
 refine kl_mv rfl ?_
 refine kl_nil (kq_q ?_)
 refine kt_q 2 (.cons _ (.cons _ (.cons_cons _ (List.nil_sublist _)))) rfl (by kernel_rfl) ?_
 refine kl_mv rfl ?_
 refine kl_nil (kq_q ?_)
 refine kt_q 3 (.cons _ (.cons _ (.cons_cons _ (List.nil_sublist _)))) rfl (by kernel_rfl) ?_
 refine kl_ldS rfl (at_box (T := 31) (cs := [v24, v25]) (off := 0) (fz := (0, 0))) rfl ?_
 refine kl_nil (kq_q ?_)
 refine kt_a 4 rfl (by kernel_rfl) ?_
 refine kl_callT rfl rfl (assignment_ok q40 z19 hd1 hd4 (by omega) h11 (by assumption) (by assumption)) (fun v47 L1 Ln K51 h48 f49 f50 => ?_)
 obtain ⟨q52, h53, rfl, H56, z54, rfl, o57, h55⟩ := h48
 have f58 := f49 _ (.head _)
 have ha9 := h55
 refine kl_norm ?_
 refine kl_nil (kq_a (.cons _ (.cons _ (.cons _ (.cons_cons _ (List.nil_sublist _))))) ?_)
 refine kt_a 5 rfl (by kernel_rfl) ?_
 refine kl_stW (us := [v24, v25]) rfl rfl rfl rfl (oc (Sl.oneCell (by assumption)) (oc (Sl.oneCell (by assumption)) oc_nil)) rfl ?_
 refine kl_chg [sing b8 (.cells [v9, .int .i64 (q52 : Int)].toArray 85 (0, 0)), H56, H44, sing b32 (.cells [v24, v25].toArray 31 (0, 0)), sing b1 (.cells [v24, v25].toArray 31 (0, 0))] rfl ?_
 refine kl_nil (kq_a (.cons _ (.cons _ (.cons _ (.cons_cons _ (List.nil_sublist _))))) ?_)
 refine kt_q 6 (.cons _ (.cons _ (.cons _ (.cons_cons _ (List.nil_sublist _))))) rfl (by kernel_rfl) ?_
 refine kl_as rfl ?_
 refine kl_nil (kq_q ?_)
 refine kt_q 7 (.cons _ (.cons _ (.cons _ (.cons_cons _ (List.nil_sublist _))))) rfl (by kernel_rfl) ?_
 refine kl_as rfl ?_
 refine kl_nil (kq_q ?_)
 refine kt_end (by kernel_rfl) ?_
 refine kq_code ?_
 refine kc_ret ?_
 refine kq_frz H44 ?_
 refine kq_frz H56 ?_
 refine kq_cmp H44 H56 (fun c59 => ?_)
 refine kq_cmp (orHp M23 K16) (orHp H44 H56) (fun c60 => ?_)
 refine kq_cmp H21 (orHp (orHp M23 K16) (orHp H44 H56)) (fun c61 => ?_)
 exact kq_retR (rss3 rfl (rs_agg rfl rfl) (rs_tmp rfl) (rs_tmp rfl)) (orHp H21 (orHp (orHp M23 K16) (orHp H44 H56))) (fr_or f27 (fr_or (fr_or f28 f15) (fr_or f46 f58))) ⟨(⟨z19.doms, z19.cons⟩ : Mod), z42, z54, _, _, _, _, rfl, (Sl.mono (by assumption) (fun b o h => orL b o h) (fun _ _ h => h)), (Cons.mono' (by assumption) (fun b o h => orC c61 b o (orL b o h))), (Sl.mono (OwnL.ints o45) (fun b o h => orC c61 b o (orC c60 b o (orL b o h))) (fun _ _ h => h)), (Sl.mono (OwnL.ints o57) (fun b o h => orC c61 b o (orC c60 b o (orC c59 b o h))) (fun _ _ h => h)), by assumption⟩ .none
theorem lawFnOg_ok {Hcode : Hp} {vcode : Value} {Ht : Hp} (code : List Int) (hcode : Bytes Hcode vcode code) (htab : At Ht (.pointer (some ⟨1, 0, none⟩)) tabV) : SpecP Tryz.prog 4 [vcode] [Hcode, Ht] (.bool true) := by
 refine spec_of Tryz.func4 rfl rfl rfl (fun B => ?_)
 refine kc_seq (kc_region ?_)
 refine kl_as rfl ?_
 refine kl_nil (kq_code ?_)
 refine kc_seq ?_
 refine kc_seq (kc_region ?_)
 refine kl_mv rfl ?_
 refine kl_len rfl (by assumption) (fun l1 => ?_)
 refine kl_gtr rfl rfl ?_
 refine kl_nil (kq_code ?_)
 refine kc_if rfl (fun c2 => ?_) (fun c2 => ?_)
 ·skip
  refine kc_seq (kc_region ?_)
  refine kl_as rfl ?_
  refine kl_nil (kq_code ?_)
  refine kc_ret ?_
  refine kq_retP rfl rfl (congrArg Value.bool ?_)
  first | rfl | (simp; done) | exact gap_fin hgl
 ·skip
  refine kc_skipQ ?_
  refine kq_code ?_
  refine kc_seq (kc_region ?_)
  refine kl_mv rfl ?_
  refine kl_call rfl rfl (drawOg_ok code hcode) (fun v3 H4 f5 h6 => ?_)
  obtain ⟨z9, z14, z17, u10, u11, u15, u18, rfl, h12, h13, h16, h19, h8⟩ := h6
  refine kl_mv rfl ?_
  refine kl_xt rfl rfl ?_
  refine kl_xt rfl rfl ?_
  refine kl_xt rfl rfl ?_
  refine kl_alloc (cs := [.slice none 0 0, .slice none 0 0]) rfl (fun b20 hb21 => ?_)
  refine kl_stW (us := [u10, u11]) rfl rfl rfl rfl (oc (Sl.oneCell (by assumption)) (oc (Sl.oneCell (by assumption)) oc_nil)) rfl ?_
  refine kl_chg [sing b20 (.cells [u10, u11].toArray 31 (0, 0))] rfl ?_
  refine kl_as rfl ?_
  refine kl_as rfl ?_
  refine kl_nil (kq_code (kc_seq (kc_region ?_)))
  refine kl_ldW rfl rfl ?_
  refine kl_mv rfl ?_
  refine kl_mv rfl ?_
  refine kl_callP rfl rfl (gapImp_ok z9 z14 z17 (by assumption) (by assumption) (by assumption) (by assumption) htab) ?_
  refine kl_mv rfl ?_
  refine kl_xt rfl rfl ?_
  refine kl_xt rfl rfl ?_
  refine kl_as rfl ?_
  refine kl_as rfl ?_
  refine kl_nil (kq_code (kc_seq (kc_region ?_)))
  refine kl_ldW rfl rfl ?_
  refine kl_mv rfl ?_
  refine kl_mv rfl ?_
  refine kl_callP rfl rfl (gapRef_ok z9 z14 z17 (by assumption) (by assumption) (by assumption) (by assumption)) ?_
  refine kl_mv rfl ?_
  refine kl_xt rfl rfl ?_
  refine kl_xt rfl rfl ?_
  refine kl_as rfl ?_
  refine kl_as rfl ?_
  refine kl_nil (kq_code ?_)
  refine kc_seq ?_
  refine kc_seq (kc_region ?_)
  refine kl_mv rfl ?_
  refine kl_mv rfl ?_
  refine kl_bne rfl rfl ?_
  refine kl_mv rfl ?_
  refine kl_join 4 43 (.bool ((((gapI z9 z14 z17).2) != ((gapI z9 z14 z17).2)) || decide (((gapI z9 z14 z17).1) ≠ ((gapI z9 z14 z17).1)))) (pc 2 rfl (pc 3 rfl (pc 4 rfl (pc 5 rfl (pc 6 rfl (pc 7 rfl (pc 8 rfl (pc 9 rfl (pc 39 rfl pn))))))))) (fun J23 => ?_) ?_
  ·rcases Bool.eq_false_or_eq_true (((gapI z9 z14 z17).2) != ((gapI z9 z14 z17).2)) with g22 | g22
   ·skip
    refine kl_gF rfl rfl g22 ?_
    refine kl_gF rfl rfl g22 ?_
    refine kl_gF rfl rfl g22 ?_
    refine kl_orT (decide (((gapI z9 z14 z17).1) ≠ ((gapI z9 z14 z17).1))) rfl rfl g22 ?_
    exact J23 _ (pc 43 rfl (pc 2 rfl (pc 3 rfl (pc 4 rfl (pc 5 rfl (pc 6 rfl (pc 7 rfl (pc 8 rfl (pc 9 rfl (pc 39 rfl pn))))))))))
   ·skip
    have g22p := g22
    try simp only [Bool.not_eq_true', Bool.not_eq_false', decide_eq_true_eq, decide_eq_false_iff_not, Bool.and_eq_true, Bool.or_eq_false_iff, withinB_iff] at g22p
    refine kl_gT rfl rfl g22 ?_
    refine kl_mv rfl ?_
    refine kl_gT rfl rfl g22 ?_
    refine kl_mv rfl ?_
    refine kl_gT rfl rfl g22 ?_
    refine kl_neq rfl rfl ?_
    refine kl_orF rfl rfl g22 ?_
    exact J23 _ (pc 43 rfl (pc 2 rfl (pc 3 rfl (pc 4 rfl (pc 5 rfl (pc 6 rfl (pc 7 rfl (pc 8 rfl (pc 9 rfl (pc 39 rfl pn))))))))))
  refine kl_mv rfl ?_
  refine kl_join 3 47 (.bool (((((gapI z9 z14 z17).2) != ((gapI z9 z14 z17).2)) || decide (((gapI z9 z14 z17).1) ≠ ((gapI z9 z14 z17).1))) || !((gapI z9 z14 z17).2))) (pc 2 rfl (pc 3 rfl (pc 4 rfl (pc 5 rfl (pc 6 rfl (pc 7 rfl (pc 8 rfl (pc 9 rfl (pc 44 rfl pn))))))))) (fun J25 => ?_) ?_
  ·rcases Bool.eq_false_or_eq_true ((((gapI z9 z14 z17).2) != ((gapI z9 z14 z17).2)) || decide (((gapI z9 z14 z17).1) ≠ ((gapI z9 z14 z17).1))) with g24 | g24
   ·skip
    refine kl_gF rfl rfl g24 ?_
    refine kl_gF rfl rfl g24 ?_
    refine kl_orT (!((gapI z9 z14 z17).2)) rfl rfl g24 ?_
    exact J25 _ (pc 47 rfl (pc 2 rfl (pc 3 rfl (pc 4 rfl (pc 5 rfl (pc 6 rfl (pc 7 rfl (pc 8 rfl (pc 9 rfl (pc 44 rfl pn))))))))))
   ·skip
    have g24p := g24
    try simp only [Bool.not_eq_true', Bool.not_eq_false', decide_eq_true_eq, decide_eq_false_iff_not, Bool.and_eq_true, Bool.or_eq_false_iff, withinB_iff] at g24p
    refine kl_gT rfl rfl g24 ?_
    refine kl_mv rfl ?_
    refine kl_gT rfl rfl g24 ?_
    refine kl_not rfl ?_
    refine kl_orF rfl rfl g24 ?_
    exact J25 _ (pc 47 rfl (pc 2 rfl (pc 3 rfl (pc 4 rfl (pc 5 rfl (pc 6 rfl (pc 7 rfl (pc 8 rfl (pc 9 rfl (pc 44 rfl pn))))))))))
  refine kl_nil (kq_code ?_)
  refine kc_cond rfl (fun c26 => ?_) (fun c26 => ?_)
  ·skip
   have c26r := c26
   try simp only [Bool.not_eq_true', Bool.not_eq_false', Bool.not_true, Bool.not_false, decide_eq_true_eq, decide_eq_false_iff_not, Bool.and_eq_true, Bool.or_eq_false_iff] at c26
   refine kc_seq (kc_region ?_)
   refine kl_mv rfl ?_
   refine kl_mv rfl ?_
   refine kl_beq rfl rfl ?_
   refine kl_mv rfl ?_
   refine kl_join 4 55 (.bool ((((gapI z9 z14 z17).2) == ((gapI z9 z14 z17).2)) && decide (((gapI z9 z14 z17).1) = ((gapI z9 z14 z17).1)))) (pc 2 rfl (pc 3 rfl (pc 4 rfl (pc 5 rfl (pc 6 rfl (pc 51 rfl pn)))))) (fun J28 => ?_) ?_
   ·rcases Bool.eq_false_or_eq_true (((gapI z9 z14 z17).2) == ((gapI z9 z14 z17).2)) with g27 | g27
    ·skip
     have g27p := g27
     try simp only [Bool.not_eq_true', Bool.not_eq_false', decide_eq_true_eq, decide_eq_false_iff_not, Bool.and_eq_true, Bool.or_eq_false_iff, withinB_iff] at g27p
     refine kl_gT rfl rfl g27 ?_
     refine kl_mv rfl ?_
     refine kl_gT rfl rfl g27 ?_
     refine kl_mv rfl ?_
     refine kl_gT rfl rfl g27 ?_
     refine kl_eql rfl rfl ?_
     refine kl_andT rfl rfl g27 ?_
     exact J28 _ (pc 55 rfl (pc 2 rfl (pc 3 rfl (pc 4 rfl (pc 5 rfl (pc 6 rfl (pc 51 rfl pn)))))))
    ·skip
     refine kl_gF rfl rfl g27 ?_
     refine kl_gF rfl rfl g27 ?_
     refine kl_gF rfl rfl g27 ?_
     refine kl_andF (decide (((gapI z9 z14 z17).1) = ((gapI z9 z14 z17).1))) rfl rfl g27 ?_
     exact J28 _ (pc 55 rfl (pc 2 rfl (pc 3 rfl (pc 4 rfl (pc 5 rfl (pc 6 rfl (pc 51 rfl pn)))))))
   refine kl_as rfl ?_
   refine kl_nil (kq_code ?_)
   refine kc_ret ?_
   refine kq_retP rfl rfl (congrArg Value.bool ?_)
   first | rfl | (simp; done) | exact gap_fin hgl
  ·skip
   have c26r := c26
   try simp only [Bool.not_eq_true', Bool.not_eq_false', Bool.not_true, Bool.not_false, decide_eq_true_eq, decide_eq_false_iff_not, Bool.and_eq_true, Bool.or_eq_false_iff] at c26
   have hgl := gap_law (gap_f c26r)
   have hob := objVal_in (gap_f c26r)
   refine kc_skipQ ?_
   refine kq_code ?_
   refine kc_seq (kc_region ?_)
   refine kl_ldW rfl rfl ?_
   refine kl_mv rfl ?_
   refine kl_call rfl rfl (minI_ok z9 z14 (by assumption) (by assumption) (by assumption)) (fun v29 H30 f31 h32 => ?_)
   obtain ⟨u33, rfl, h34⟩ := h32
   refine kl_mv rfl ?_
   refine kl_xt rfl rfl ?_
   refine kl_xt rfl rfl ?_
   refine kl_as rfl ?_
   refine kl_as rfl ?_
   refine kl_nil (kq_code (kc_seq (kc_region ?_)))
   refine kl_mv rfl ?_
   refine kl_mv rfl ?_
   refine kl_callP rfl rfl (objValI_ok z14 z17 (by assumption) (by assumption)) ?_
   refine kl_mv rfl ?_
   refine kl_mv rfl ?_
   refine kl_callP rfl rfl (objValI_ok z14 ((minI z9 z14).1) (by assumption) (by assumption)) ?_
   refine kl_sub rfl rfl (by omega) ?_
   refine kl_as rfl ?_
   refine kl_nil (kq_code (kc_seq (kc_region ?_)))
   refine kl_mv rfl ?_
   refine kl_geq rfl rfl ?_
   refine kl_mv rfl ?_
   refine kl_join 2 73 (.bool (decide ((0 : Int) ≤ ((gapI z9 z14 z17).1)) && ((minI z9 z14).2))) (pc 2 rfl (pc 6 rfl (pc 12 rfl (pc 71 rfl pn)))) (fun J36 => ?_) ?_
   ·rcases Bool.eq_false_or_eq_true (decide ((0 : Int) ≤ ((gapI z9 z14 z17).1))) with g35 | g35
    ·skip
     have g35p := of_decide_eq_true g35
     refine kl_gT rfl rfl g35 ?_
     refine kl_mv rfl ?_
     refine kl_andT rfl rfl g35 ?_
     exact J36 _ (pc 73 rfl (pc 2 rfl (pc 6 rfl (pc 12 rfl (pc 71 rfl pn)))))
    ·skip
     refine kl_gF rfl rfl g35 ?_
     refine kl_andF ((minI z9 z14).2) rfl rfl g35 ?_
     exact J36 _ (pc 73 rfl (pc 2 rfl (pc 6 rfl (pc 12 rfl (pc 71 rfl pn)))))
   refine kl_mv rfl ?_
   refine kl_join 3 77 (.bool ((decide ((0 : Int) ≤ ((gapI z9 z14 z17).1)) && ((minI z9 z14).2)) && decide ((0 : Int) ≤ ((objVal z14 z17) - (objVal z14 ((minI z9 z14).1)))))) (pc 2 rfl (pc 6 rfl (pc 12 rfl (pc 74 rfl pn)))) (fun J38 => ?_) ?_
   ·rcases Bool.eq_false_or_eq_true (decide ((0 : Int) ≤ ((gapI z9 z14 z17).1)) && ((minI z9 z14).2)) with g37 | g37
    ·skip
     have g37p := g37
     try simp only [Bool.not_eq_true', Bool.not_eq_false', decide_eq_true_eq, decide_eq_false_iff_not, Bool.and_eq_true, Bool.or_eq_false_iff, withinB_iff] at g37p
     refine kl_gT rfl rfl g37 ?_
     refine kl_mv rfl ?_
     refine kl_gT rfl rfl g37 ?_
     refine kl_geq rfl rfl ?_
     refine kl_andT rfl rfl g37 ?_
     exact J38 _ (pc 77 rfl (pc 2 rfl (pc 6 rfl (pc 12 rfl (pc 74 rfl pn)))))
    ·skip
     refine kl_gF rfl rfl g37 ?_
     refine kl_gF rfl rfl g37 ?_
     refine kl_andF (decide ((0 : Int) ≤ ((objVal z14 z17) - (objVal z14 ((minI z9 z14).1))))) rfl rfl g37 ?_
     exact J38 _ (pc 77 rfl (pc 2 rfl (pc 6 rfl (pc 12 rfl (pc 74 rfl pn)))))
   refine kl_mv rfl ?_
   refine kl_join 4 82 (.bool (((decide ((0 : Int) ≤ ((gapI z9 z14 z17).1)) && ((minI z9 z14).2)) && decide ((0 : Int) ≤ ((objVal z14 z17) - (objVal z14 ((minI z9 z14).1))))) && decide (((objVal z14 z17) - (objVal z14 ((minI z9 z14).1))) ≤ ((gapI z9 z14 z17).1)))) (pc 2 rfl (pc 78 rfl pn)) (fun J40 => ?_) ?_
   ·rcases Bool.eq_false_or_eq_true ((decide ((0 : Int) ≤ ((gapI z9 z14 z17).1)) && ((minI z9 z14).2)) && decide ((0 : Int) ≤ ((objVal z14 z17) - (objVal z14 ((minI z9 z14).1))))) with g39 | g39
    ·skip
     have g39p := g39
     try simp only [Bool.not_eq_true', Bool.not_eq_false', decide_eq_true_eq, decide_eq_false_iff_not, Bool.and_eq_true, Bool.or_eq_false_iff, withinB_iff] at g39p
     refine kl_gT rfl rfl g39 ?_
     refine kl_mv rfl ?_
     refine kl_gT rfl rfl g39 ?_
     refine kl_mv rfl ?_
     refine kl_gT rfl rfl g39 ?_
     refine kl_leq rfl rfl ?_
     refine kl_andT rfl rfl g39 ?_
     exact J40 _ (pc 82 rfl (pc 2 rfl (pc 78 rfl pn)))
    ·skip
     refine kl_gF rfl rfl g39 ?_
     refine kl_gF rfl rfl g39 ?_
     refine kl_gF rfl rfl g39 ?_
     refine kl_andF (decide (((objVal z14 z17) - (objVal z14 ((minI z9 z14).1))) ≤ ((gapI z9 z14 z17).1))) rfl rfl g39 ?_
     exact J40 _ (pc 82 rfl (pc 2 rfl (pc 78 rfl pn)))
   refine kl_as rfl ?_
   refine kl_nil (kq_code ?_)
   refine kc_ret ?_
   refine kq_retP rfl rfl (congrArg Value.bool ?_)
   first | rfl | (simp; done) | exact gap_fin hgl
end Go.Proofs.YtpnkinblekmjlaaGreatDoor
