/- Walks of functions of the program: each returns what the plain function gives. Conditions: those that each statement names. -/
import Derived.Test.YtndggikpobghkaaGreatWas
import Derived.Test.YtndggikpobghkaaGreatWfar
import Derived.Test.YtndggikpobghkaaGreatWsa
import Derived.Test.YtndggikpobghkaaGreatWis
import Derived.Test.YtndggikpobghkaaGreatWirl
import Derived.Test.YtndggikpobghkaaGreatWfl
namespace Go.Proofs.YtndggikpobghkaaGreat
open Go
set_option linter.unusedSimpArgs false
set_option linter.unusedVariables false
theorem drawFf_ok {Hcode : Hp} {vcode : Value} (code : List Int) (hcode : Bytes Hcode vcode code) : Spec Tryz.prog 5 [vcode] [Hcode] (fun Hq vq => ∃ (mq : Mod) (xq : List Int) (uq0a uq0b uq1 : Value), vq = .tuple #[.agg #[uq0a, uq0b], uq1] ∧ Ints Hq uq0a mq.doms ∧ Cons Hq uq0b mq.cons ∧ Ints Hq uq1 xq ∧ ModSm 100 mq ∧ xq.length ≤ 5) := by
 refine spec_ofR Tryz.func5 rfl rfl rfl (fun B => ?_)
 refine kc_seq (kc_region ?_)
 refine kl_alloc (cs := [.slice none 0 0, .slice none 0 0]) rfl (fun b1 hb2 => ?_)
 refine kl_as rfl ?_
 refine kl_nil (kq_code (kc_seq (kc_region ?_)))
 refine kl_mv rfl ?_
 refine kl_call rfl rfl (drawIs_ok code hcode) (fun v3 H4 f5 h6 => ?_)
 obtain ⟨z9, z14, u10, u11, u15, rfl, h12, h13, h16, h8⟩ := h6
 refine kl_xt rfl rfl ?_
 refine kl_xt rfl rfl ?_
 refine kl_stW (us := [u10, u11]) rfl rfl rfl rfl (oc (Sl.oneCell (by assumption)) (oc (Sl.oneCell (by assumption)) oc_nil)) rfl ?_
 refine kl_chg [sing b1 (.cells [u10, u11].toArray 26 (0, 0))] rfl ?_
 refine kl_as rfl ?_
 refine kl_nil (kq_code ?_)
 refine kc_ret ?_
 refine kq_cmp H4 H4 (fun c17 => ?_)
 refine kq_cmp H4 (orHp H4 H4) (fun c18 => ?_)
 exact kq_retR (rss2 rfl (rs_agg rfl rfl) (rs_tmp rfl)) (orHp H4 (orHp H4 H4)) (fr_or f5 (fr_or f5 f5)) ⟨(⟨z9.doms, z9.cons⟩ : Mod), z14, _, _, _, rfl, (Sl.mono (by assumption) (fun b o h => orL b o h) (fun _ _ h => h)), (Cons.mono' (by assumption) (fun b o h => orC c18 b o (orL b o h))), (Sl.mono (by assumption) (fun b o h => orC c18 b o (orC c17 b o h)) (fun _ _ h => h)), by assumption⟩ .none
theorem lawFnFf_ok {Hcode : Hp} {vcode : Value} (code : List Int) (hcode : Bytes Hcode vcode code) : SpecP Tryz.prog 3 [vcode] [Hcode] (.bool true) := by
 refine spec_of Tryz.func3 rfl rfl rfl (fun B => ?_)
 refine kc_seq (kc_region ?_)
 refine kl_as rfl ?_
 refine kl_nil (kq_code ?_)
 refine kc_seq ?_
 refine kc_seq (kc_region ?_)
 refine kl_mv rfl ?_
 refine kl_len rfl (by assumption) (fun l1 => ?_)
 refine kl_gtr rfl rfl ?_
 refine kl_nil (kq_code ?_)
 refine kc_if rfl (fun c2 => ?_) (fun c2 => ?_)
 ·skip
  refine kc_seq (kc_region ?_)
  refine kl_as rfl ?_
  refine kl_nil (kq_code ?_)
  refine kc_ret ?_
  refine kq_retP rfl rfl (congrArg Value.bool ?_)
  first | rfl | (simp; done) | exact far_empty hc (by assumption) | exact far_sol hc hf
 ·skip
  refine kc_skipQ ?_
  refine kq_code ?_
  refine kc_seq (kc_region ?_)
  refine kl_mv rfl ?_
  refine kl_call rfl rfl (drawFf_ok code hcode) (fun v3 H4 f5 h6 => ?_)
  obtain ⟨z9, z14, u10, u11, u15, rfl, h12, h13, h16, h8⟩ := h6
  refine kl_mv rfl ?_
  refine kl_xt rfl rfl ?_
  refine kl_xt rfl rfl ?_
  refine kl_alloc (cs := [.slice none 0 0, .slice none 0 0]) rfl (fun b17 hb18 => ?_)
  refine kl_stW (us := [u10, u11]) rfl rfl rfl rfl (oc (Sl.oneCell (by assumption)) (oc (Sl.oneCell (by assumption)) oc_nil)) rfl ?_
  refine kl_chg [sing b17 (.cells [u10, u11].toArray 26 (0, 0))] rfl ?_
  refine kl_as rfl ?_
  refine kl_nil (kq_code (kc_seq (kc_region ?_)))
  refine kl_ldW rfl rfl ?_
  refine kl_mv rfl ?_
  refine kl_call rfl rfl (farI_ok z9 z14 (by assumption) (by assumption) (by assumption)) (fun v19 H20 f21 h22 => ?_)
  obtain ⟨u23, rfl, h24⟩ := h22
  refine kl_mv rfl ?_
  refine kl_xt rfl rfl ?_
  refine kl_xt rfl rfl ?_
  refine kl_as rfl ?_
  refine kl_as rfl ?_
  refine kl_nil (kq_code (kc_seq (kc_region ?_)))
  refine kl_ldW rfl rfl ?_
  refine kl_mv rfl ?_
  refine kl_call rfl rfl (farS_ok z9 z14 (by assumption) (by assumption) (by assumption)) (fun v25 H26 f27 h28 => ?_)
  obtain ⟨u29, rfl, h30⟩ := h28
  refine kl_mv rfl ?_
  refine kl_xt rfl rfl ?_
  refine kl_xt rfl rfl ?_
  refine kl_as rfl ?_
  refine kl_as rfl ?_
  refine kl_nil (kq_code ?_)
  refine kc_seq ?_
  refine kc_seq (kc_region ?_)
  refine kl_mv rfl ?_
  refine kl_mv rfl ?_
  refine kl_bne rfl rfl ?_
  refine kl_mv rfl ?_
  refine kl_join 5 39 (.bool ((((farI z9 z14).2) != ((farI z9 z14).2)) || !(decide (((farI z9 z14).1) = ((farI z9 z14).1))))) (pc 2 rfl (pc 3 rfl (pc 4 rfl (pc 5 rfl (pc 6 rfl (pc 7 rfl (pc 8 rfl (pc 34 rfl pn)))))))) (fun J32 => ?_) ?_
  ·rcases Bool.eq_false_or_eq_true (((farI z9 z14).2) != ((farI z9 z14).2)) with g31 | g31
   ·skip
    refine kl_gF rfl rfl g31 ?_
    refine kl_gF rfl rfl g31 ?_
    refine kl_gF rfl rfl g31 ?_
    refine kl_gF rfl rfl g31 ?_
    refine kl_orT (!(decide (((farI z9 z14).1) = ((farI z9 z14).1)))) rfl rfl g31 ?_
    exact J32 _ (pc 39 rfl (pc 2 rfl (pc 3 rfl (pc 4 rfl (pc 5 rfl (pc 6 rfl (pc 7 rfl (pc 8 rfl (pc 34 rfl pn)))))))))
   ·skip
    have g31p := g31
    try simp only [Bool.not_eq_true', Bool.not_eq_false', decide_eq_true_eq, decide_eq_false_iff_not, Bool.and_eq_true, Bool.or_eq_false_iff, withinB_iff] at g31p
    refine kl_gT rfl rfl g31 ?_
    refine kl_mv rfl ?_
    refine kl_gT rfl rfl g31 ?_
    refine kl_mv rfl ?_
    refine kl_gT rfl rfl g31 ?_
    refine kl_callP rfl rfl (equalInts_ok ((farI z9 z14).1) ((farI z9 z14).1) (by assumption) (by assumption)) ?_
    refine kl_gT rfl rfl g31 ?_
    refine kl_not rfl ?_
    refine kl_orF rfl rfl g31 ?_
    exact J32 _ (pc 39 rfl (pc 2 rfl (pc 3 rfl (pc 4 rfl (pc 5 rfl (pc 6 rfl (pc 7 rfl (pc 8 rfl (pc 34 rfl pn)))))))))
  refine kl_mv rfl ?_
  refine kl_join 4 44 (.bool (((((farI z9 z14).2) != ((farI z9 z14).2)) || !(decide (((farI z9 z14).1) = ((farI z9 z14).1)))) || !(validModB z9))) (pc 2 rfl (pc 3 rfl (pc 4 rfl (pc 5 rfl (pc 6 rfl (pc 7 rfl (pc 8 rfl (pc 40 rfl pn)))))))) (fun J34 => ?_) ?_
  ·rcases Bool.eq_false_or_eq_true ((((farI z9 z14).2) != ((farI z9 z14).2)) || !(decide (((farI z9 z14).1) = ((farI z9 z14).1)))) with g33 | g33
   ·skip
    refine kl_gF rfl rfl g33 ?_
    refine kl_gF rfl rfl g33 ?_
    refine kl_gF rfl rfl g33 ?_
    refine kl_orT (!(validModB z9)) rfl rfl g33 ?_
    exact J34 _ (pc 44 rfl (pc 2 rfl (pc 3 rfl (pc 4 rfl (pc 5 rfl (pc 6 rfl (pc 7 rfl (pc 8 rfl (pc 40 rfl pn)))))))))
   ·skip
    have g33p := g33
    try simp only [Bool.not_eq_true', Bool.not_eq_false', decide_eq_true_eq, decide_eq_false_iff_not, Bool.and_eq_true, Bool.or_eq_false_iff, withinB_iff] at g33p
    refine kl_gT rfl rfl g33 ?_
    refine kl_ldW rfl rfl ?_
    refine kl_gT rfl rfl g33 ?_
    refine kl_callP rfl rfl (validMod_ok z9 (by assumption) (by assumption)) ?_
    refine kl_gT rfl rfl g33 ?_
    refine kl_not rfl ?_
    refine kl_orF rfl rfl g33 ?_
    exact J34 _ (pc 44 rfl (pc 2 rfl (pc 3 rfl (pc 4 rfl (pc 5 rfl (pc 6 rfl (pc 7 rfl (pc 8 rfl (pc 40 rfl pn)))))))))
  refine kl_mv rfl ?_
  refine kl_join 7 52 (.bool ((((((farI z9 z14).2) != ((farI z9 z14).2)) || !(decide (((farI z9 z14).1) = ((farI z9 z14).1)))) || !(validModB z9)) || decide ((z14.length : Int) ≠ (z9.doms.length : Int)))) (pc 2 rfl (pc 3 rfl (pc 4 rfl (pc 5 rfl (pc 6 rfl (pc 7 rfl (pc 8 rfl (pc 45 rfl pn)))))))) (fun J38 => ?_) ?_
  ·rcases Bool.eq_false_or_eq_true (((((farI z9 z14).2) != ((farI z9 z14).2)) || !(decide (((farI z9 z14).1) = ((farI z9 z14).1)))) || !(validModB z9)) with g35 | g35
   ·skip
    refine kl_gF rfl rfl g35 ?_
    refine kl_gF rfl rfl g35 ?_
    refine kl_gF rfl rfl g35 ?_
    refine kl_gF rfl rfl g35 ?_
    refine kl_gF rfl rfl g35 ?_
    refine kl_gF rfl rfl g35 ?_
    refine kl_orT (decide ((z14.length : Int) ≠ (z9.doms.length : Int))) rfl rfl g35 ?_
    exact J38 _ (pc 52 rfl (pc 2 rfl (pc 3 rfl (pc 4 rfl (pc 5 rfl (pc 6 rfl (pc 7 rfl (pc 8 rfl (pc 45 rfl pn)))))))))
   ·skip
    have g35p := g35
    try simp only [Bool.not_eq_true', Bool.not_eq_false', decide_eq_true_eq, decide_eq_false_iff_not, Bool.and_eq_true, Bool.or_eq_false_iff, withinB_iff] at g35p
    refine kl_gT rfl rfl g35 ?_
    refine kl_mv rfl ?_
    refine kl_gT rfl rfl g35 ?_
    refine kl_len rfl (by assumption) (fun l36 => ?_)
    refine kl_gT rfl rfl g35 ?_
    refine kl_fdV rfl ?_
    refine kl_gT rfl rfl g35 ?_
    refine kl_ldB rfl rfl ?_
    refine kl_gT rfl rfl g35 ?_
    refine kl_len rfl (by assumption) (fun l37 => ?_)
    refine kl_gT rfl rfl g35 ?_
    refine kl_neq rfl rfl ?_
    refine kl_orF rfl rfl g35 ?_
    exact J38 _ (pc 52 rfl (pc 2 rfl (pc 3 rfl (pc 4 rfl (pc 5 rfl (pc 6 rfl (pc 7 rfl (pc 8 rfl (pc 45 rfl pn)))))))))
  refine kl_mv rfl ?_
  refine kl_join 4 57 (.bool (((((((farI z9 z14).2) != ((farI z9 z14).2)) || !(decide (((farI z9 z14).1) = ((farI z9 z14).1)))) || !(validModB z9)) || decide ((z14.length : Int) ≠ (z9.doms.length : Int))) || !(allInB z14 0 5))) (pc 2 rfl (pc 3 rfl (pc 4 rfl (pc 5 rfl (pc 6 rfl (pc 7 rfl (pc 8 rfl (pc 53 rfl pn)))))))) (fun J40 => ?_) ?_
  ·rcases Bool.eq_false_or_eq_true ((((((farI z9 z14).2) != ((farI z9 z14).2)) || !(decide (((farI z9 z14).1) = ((farI z9 z14).1)))) || !(validModB z9)) || decide ((z14.length : Int) ≠ (z9.doms.length : Int))) with g39 | g39
   ·skip
    refine kl_gF rfl rfl g39 ?_
    refine kl_gF rfl rfl g39 ?_
    refine kl_gF rfl rfl g39 ?_
    refine kl_orT (!(allInB z14 0 5)) rfl rfl g39 ?_
    exact J40 _ (pc 57 rfl (pc 2 rfl (pc 3 rfl (pc 4 rfl (pc 5 rfl (pc 6 rfl (pc 7 rfl (pc 8 rfl (pc 53 rfl pn)))))))))
   ·skip
    have g39p := g39
    try simp only [Bool.not_eq_true', Bool.not_eq_false', decide_eq_true_eq, decide_eq_false_iff_not, Bool.and_eq_true, Bool.or_eq_false_iff, withinB_iff] at g39p
    refine kl_gT rfl rfl g39 ?_
    refine kl_mv rfl ?_
    refine kl_gT rfl rfl g39 ?_
    refine kl_callP rfl rfl (inRangeL_ok z14 (by assumption)) ?_
    refine kl_gT rfl rfl g39 ?_
    refine kl_not rfl ?_
    refine kl_orF rfl rfl g39 ?_
    exact J40 _ (pc 57 rfl (pc 2 rfl (pc 3 rfl (pc 4 rfl (pc 5 rfl (pc 6 rfl (pc 7 rfl (pc 8 rfl (pc 53 rfl pn)))))))))
  refine kl_nil (kq_code ?_)
  refine kc_cond rfl (fun c41 => ?_) (fun c41 => ?_)
  ·skip
   have c41r := c41
   try simp only [Bool.not_eq_true', Bool.not_eq_false', Bool.not_true, Bool.not_false, decide_eq_true_eq, decide_eq_false_iff_not, Bool.and_eq_true, Bool.or_eq_false_iff] at c41
   refine kc_seq (kc_region ?_)
   refine kl_mv rfl ?_
   refine kl_mv rfl ?_
   refine kl_beq rfl rfl ?_
   refine kl_mv rfl ?_
   refine kl_join 4 65 (.bool ((((farI z9 z14).2) == ((farI z9 z14).2)) && (decide (((farI z9 z14).1) = ((farI z9 z14).1))))) (pc 2 rfl (pc 3 rfl (pc 4 rfl (pc 5 rfl (pc 6 rfl (pc 61 rfl pn)))))) (fun J43 => ?_) ?_
   ·rcases Bool.eq_false_or_eq_true (((farI z9 z14).2) == ((farI z9 z14).2)) with g42 | g42
    ·skip
     have g42p := g42
     try simp only [Bool.not_eq_true', Bool.not_eq_false', decide_eq_true_eq, decide_eq_false_iff_not, Bool.and_eq_true, Bool.or_eq_false_iff, withinB_iff] at g42p
     refine kl_gT rfl rfl g42 ?_
     refine kl_mv rfl ?_
     refine kl_gT rfl rfl g42 ?_
     refine kl_mv rfl ?_
     refine kl_gT rfl rfl g42 ?_
     refine kl_callP rfl rfl (equalInts_ok ((farI z9 z14).1) ((farI z9 z14).1) (by assumption) (by assumption)) ?_
     refine kl_andT rfl rfl g42 ?_
     exact J43 _ (pc 65 rfl (pc 2 rfl (pc 3 rfl (pc 4 rfl (pc 5 rfl (pc 6 rfl (pc 61 rfl pn)))))))
    ·skip
     refine kl_gF rfl rfl g42 ?_
     refine kl_gF rfl rfl g42 ?_
     refine kl_gF rfl rfl g42 ?_
     refine kl_andF (decide (((farI z9 z14).1) = ((farI z9 z14).1))) rfl rfl g42 ?_
     exact J43 _ (pc 65 rfl (pc 2 rfl (pc 3 rfl (pc 4 rfl (pc 5 rfl (pc 6 rfl (pc 61 rfl pn)))))))
   refine kl_as rfl ?_
   refine kl_nil (kq_code ?_)
   refine kc_ret ?_
   refine kq_retP rfl rfl (congrArg Value.bool ?_)
   first | rfl | (simp; done) | exact far_empty hc (by assumption) | exact far_sol hc hf
  ·skip
   have c41r := c41
   try simp only [Bool.not_eq_true', Bool.not_eq_false', Bool.not_true, Bool.not_false, decide_eq_true_eq, decide_eq_false_iff_not, Bool.and_eq_true, Bool.or_eq_false_iff] at c41
   have hc := far_cond c41r
   have hco := far_ok hc
   have hn := hco.1.n
   refine kc_skipQ ?_
   refine kq_code ?_
   refine kc_seq (kc_region ?_)
   refine kl_ldW rfl rfl ?_
   refine kl_call rfl rfl (solveAll_ok z9 (by assumption) (by assumption)) (fun v44 H45 f46 h47 => ?_)
   refine kl_as rfl ?_
   refine kl_nil (kq_code ?_)
   refine kc_seq ?_
   refine kc_seq (kc_region ?_)
   refine kl_mv rfl ?_
   refine kl_not rfl ?_
   refine kl_nil (kq_code ?_)
   refine kc_cond rfl (fun c48 => ?_) (fun c48 => ?_)
   ·skip
    have c48r := c48
    try simp only [Bool.not_eq_true', Bool.not_eq_false', Bool.not_true, Bool.not_false, decide_eq_true_eq, decide_eq_false_iff_not, Bool.and_eq_true, Bool.or_eq_false_iff] at c48
    refine kc_seq (kc_region ?_)
    refine kl_mv rfl ?_
    refine kl_len rfl (by assumption) (fun l49 => ?_)
    refine kl_eql rfl rfl ?_
    refine kl_as rfl ?_
    refine kl_nil (kq_code ?_)
    refine kc_ret ?_
    refine kq_retP rfl rfl (congrArg Value.bool ?_)
    first | rfl | (simp; done) | exact far_empty hc (by assumption) | exact far_sol hc hf
   ·skip
    have c48r := c48
    try simp only [Bool.not_eq_true', Bool.not_eq_false', Bool.not_true, Bool.not_false, decide_eq_true_eq, decide_eq_false_iff_not, Bool.and_eq_true, Bool.or_eq_false_iff] at c48
    have hf := c48r
    have hfi := sols_len (far_in hc hf).1
    refine kc_skipQ ?_
    refine kq_code ?_
    refine kc_seq ?_
    refine kc_seq (kc_region ?_)
    refine kl_as rfl ?_
    refine kl_nil (kq_code ?_)
    refine kc_block ?_
    refine kc_loop0 (A := Nat) (fun zz => (zz ≤ (solL z9).length)) (fun zz => (solL z9).length - zz) (fun zz => [(10, .int .i64 (zz : Int))]) (0) (pc 3 rfl (pc 4 rfl (pc 5 rfl (pc 9 rfl pn)))) (pc 10 rfl pn) (Nat.zero_le _) ?_
    rintro k hJ52
    have hk50 : (k ≤ (solL z9).length) := hJ52
    change KC _ _ (_) _ _ ([(10, .int .i64 (k : Int))] ++ _)
    refine kc_seq ?_
    refine kc_seq (kc_region ?_)
    refine kl_mv rfl ?_
    refine kl_mv rfl ?_
    refine kl_len rfl (by assumption) (fun l53 => ?_)
    refine kl_lss rfl rfl ?_
    refine kl_nil (kq_code ?_)
    refine kc_if rfl (fun c54 => ?_) (fun c54 => ?_)
    ·skip
     have hl1 := solLk_len c54
     refine kc_skipQ ?_
     refine kq_code ?_
     refine kc_seq ?_
     refine kc_block ?_
     refine kc_seq (kc_region ?_)
     refine kl_mv rfl ?_
     refine kl_mv rfl ?_
     refine kl_mv rfl ?_
     refine kl_inS rfl rfl (by assumption) (by omega) (fun p55 u57 h58 a56 => ?_)
     refine kl_ld rfl (by assumption) ?_
     refine kl_callP rfl rfl (dist_ok z14 ((solL z9).getD k []) (by omega) (by omega) (by assumption) (by assumption)) ?_
     refine kl_mv rfl ?_
     refine kl_mv rfl ?_
     refine kl_callP rfl rfl (dist_ok z14 ((farI z9 z14).1) (by omega) (by omega) (by assumption) (by assumption)) ?_
     refine kl_gtr rfl rfl ?_
     refine kl_nil (kq_code ?_)
     refine kc_if rfl (fun c59 => ?_) (fun c59 => ?_)
     ·skip
      exact absurd c59 (far_max hc hf (by omega))
     ·skip
      refine kc_skipQ ?_
      refine kq_code ?_
      refine kc_region ?_
      refine kl_mv rfl ?_
      refine kl_inc rfl rfl (by omega) ?_
      refine kl_as rfl ?_
      refine kl_nil ?_
      refine kq_round0 ((k + 1)) (by omega) (by omega) (pc 10 rfl pn) (pc 3 rfl (pc 4 rfl (pc 5 rfl (pc 9 rfl pn)))) (List.Sublist.refl _)
    ·skip
     refine kc_exit ?_
     refine kq_code ?_
     refine kc_seq (kc_region ?_)
     refine kl_ldW rfl rfl ?_
     refine kl_mv rfl ?_
     refine kl_callP rfl rfl (isSolI_ok z9 ((farI z9 z14).1) (by assumption) (by assumption) (by assumption)) ?_
     refine kl_as rfl ?_
     refine kl_nil (kq_code ?_)
     refine kc_ret ?_
     refine kq_retP rfl rfl (congrArg Value.bool ?_)
     first | rfl | (simp; done) | exact far_empty hc (by assumption) | exact far_sol hc hf
end Go.Proofs.YtndggikpobghkaaGreat
