/- Walks of functions of the program: each returns what the plain function gives. Conditions: those that each statement names. -/
import Derived.Test.YtigngogjgohfgaaGreatWas
import Derived.Test.YtigngogjgohfgaaGreatWnx
import Derived.Test.YtigngogjgohfgaaGreatWrk
import Derived.Test.YtigngogjgohfgaaGreatWcnt
import Derived.Test.YtigngogjgohfgaaGreatWfl
namespace Go.Proofs.YtigngogjgohfgaaGreat
open Go
set_option linter.unusedSimpArgs false
set_option linter.unusedVariables false
theorem lawFnRo_ok {Hcode : Hp} {vcode : Value} (code : List Int) (hcode : Bytes Hcode vcode code) : SpecP Tryz.prog 6 [vcode] [Hcode] (.bool true) := by
 refine spec_of Tryz.func6 rfl rfl rfl (fun B => ?_)
 refine kc_seq (kc_region ?_)
 refine kl_as rfl ?_
 refine kl_nil (kq_code ?_)
 refine kc_seq ?_
 refine kc_seq (kc_region ?_)
 refine kl_mv rfl ?_
 refine kl_len rfl (by assumption) (fun l1 => ?_)
 refine kl_gtr rfl rfl ?_
 refine kl_nil (kq_code ?_)
 refine kc_if rfl (fun c2 => ?_) (fun c2 => ?_)
 ·skip
  refine kc_seq (kc_region ?_)
  refine kl_as rfl ?_
  refine kl_nil (kq_code ?_)
  refine kc_ret ?_
  refine kq_retP rfl rfl (congrArg Value.bool ?_)
  first | rfl | exact ro_neg (by assumption) | exact ro_law (by assumption)
 ·skip
  refine kc_skipQ ?_
  refine kq_code ?_
  refine kc_seq (kc_region ?_)
  refine kl_mv rfl ?_
  refine kl_call rfl rfl (drawRk_ok code hcode) (fun v3 H4 f5 h6 => ?_)
  obtain ⟨z9, z14, u10, u11, u15, rfl, h12, h13, h16, h8⟩ := h6
  refine kl_mv rfl ?_
  refine kl_xt rfl rfl ?_
  refine kl_xt rfl rfl ?_
  refine kl_alloc (cs := [.slice none 0 0, .slice none 0 0]) rfl (fun b17 hb18 => ?_)
  refine kl_stW (us := [u10, u11]) rfl rfl rfl rfl (oc (Sl.oneCell (by assumption)) (oc (Sl.oneCell (by assumption)) oc_nil)) rfl ?_
  refine kl_chg [sing b17 (.cells [u10, u11].toArray 26 (0, 0))] rfl ?_
  refine kl_as rfl ?_
  refine kl_nil (kq_code (kc_seq (kc_region ?_)))
  refine kl_ldW rfl rfl ?_
  refine kl_mv rfl ?_
  refine kl_callP rfl rfl (rankI_ok z9 z14 (by assumption) (by assumption) (by assumption)) ?_
  refine kl_as rfl ?_
  refine kl_nil (kq_code ?_)
  refine kc_seq ?_
  refine kc_seq (kc_region ?_)
  refine kl_mv rfl ?_
  refine kl_ldW rfl rfl ?_
  refine kl_mv rfl ?_
  refine kl_callP rfl rfl (rankS_ok z9 z14 (by assumption) (by assumption) (by assumption)) ?_
  refine kl_neq rfl rfl ?_
  refine kl_nil (kq_code ?_)
  refine kc_if rfl (fun c19 => ?_) (fun c19 => ?_)
  ·skip
   exact absurd (rank_eq _ _) c19
  ·skip
   try have hro := ro_le c19
   refine kc_skipQ ?_
   refine kq_code ?_
   refine kc_seq ?_
   refine kc_seq (kc_region ?_)
   refine kl_mv rfl ?_
   refine kl_lss rfl rfl ?_
   refine kl_nil (kq_code ?_)
   refine kc_if rfl (fun c20 => ?_) (fun c20 => ?_)
   ·skip
    refine kc_seq (kc_region ?_)
    refine kl_ldW rfl rfl ?_
    refine kl_mv rfl ?_
    refine kl_callP rfl rfl (isSolI_ok z9 z14 (by assumption) (by assumption) (by assumption)) ?_
    refine kl_not rfl ?_
    refine kl_as rfl ?_
    refine kl_nil (kq_code ?_)
    refine kc_ret ?_
    refine kq_retP rfl rfl (congrArg Value.bool ?_)
    first | rfl | exact ro_neg (by assumption) | exact ro_law (by assumption)
   ·skip
    try have hro := ro_le c20
    refine kc_skipQ ?_
    refine kq_code ?_
    refine kc_seq (kc_region ?_)
    refine kl_ldW rfl rfl ?_
    refine kl_mv rfl ?_
    refine kl_call rfl rfl (solAtI_ok z9 (rankI z9 z14) (by assumption) (by assumption)) (fun v21 H22 f23 h24 => ?_)
    obtain ⟨u25, rfl, h26⟩ := h24
    refine kl_mv rfl ?_
    refine kl_xt rfl rfl ?_
    refine kl_xt rfl rfl ?_
    refine kl_as rfl ?_
    refine kl_as rfl ?_
    refine kl_nil (kq_code (kc_seq (kc_region ?_)))
    refine kl_ldW rfl rfl ?_
    refine kl_mv rfl ?_
    refine kl_call rfl rfl (nextS_ok z9 z14 (by assumption) (by assumption) (by assumption)) (fun v27 H28 f29 h30 => ?_)
    obtain ⟨u31, rfl, h32⟩ := h30
    refine kl_mv rfl ?_
    refine kl_xt rfl rfl ?_
    refine kl_xt rfl rfl ?_
    refine kl_as rfl ?_
    refine kl_as rfl ?_
    refine kl_nil (kq_code (kc_seq (kc_region ?_)))
    refine kl_ldW rfl rfl ?_
    refine kl_mv rfl ?_
    refine kl_callP rfl rfl (isSolI_ok z9 z14 (by assumption) (by assumption) (by assumption)) ?_
    refine kl_mv rfl ?_
    refine kl_join 2 49 (.bool ((isSolT z9 z14) && ((solAt z9 (rankI z9 z14)).2))) (pc 2 rfl (pc 3 rfl (pc 4 rfl (pc 5 rfl (pc 6 rfl (pc 8 rfl (pc 9 rfl (pc 47 rfl pn)))))))) (fun J34 => ?_) ?_
    ·rcases Bool.eq_false_or_eq_true (isSolT z9 z14) with g33 | g33
     ·skip
      have g33p := g33
      try simp only [Bool.not_eq_true', Bool.not_eq_false', decide_eq_true_eq, decide_eq_false_iff_not, Bool.and_eq_true, Bool.or_eq_false_iff, withinB_iff] at g33p
      refine kl_gT rfl rfl g33 ?_
      refine kl_mv rfl ?_
      refine kl_andT rfl rfl g33 ?_
      exact J34 _ (pc 49 rfl (pc 2 rfl (pc 3 rfl (pc 4 rfl (pc 5 rfl (pc 6 rfl (pc 8 rfl (pc 9 rfl (pc 47 rfl pn)))))))))
     ·skip
      refine kl_gF rfl rfl g33 ?_
      refine kl_andF ((solAt z9 (rankI z9 z14)).2) rfl rfl g33 ?_
      exact J34 _ (pc 49 rfl (pc 2 rfl (pc 3 rfl (pc 4 rfl (pc 5 rfl (pc 6 rfl (pc 8 rfl (pc 9 rfl (pc 47 rfl pn)))))))))
    refine kl_mv rfl ?_
    refine kl_join 4 54 (.bool (((isSolT z9 z14) && ((solAt z9 (rankI z9 z14)).2)) && (decide (z14 = ((solAt z9 (rankI z9 z14)).1))))) (pc 2 rfl (pc 3 rfl (pc 5 rfl (pc 8 rfl (pc 9 rfl (pc 50 rfl pn)))))) (fun J36 => ?_) ?_
    ·rcases Bool.eq_false_or_eq_true ((isSolT z9 z14) && ((solAt z9 (rankI z9 z14)).2)) with g35 | g35
     ·skip
      have g35p := g35
      try simp only [Bool.not_eq_true', Bool.not_eq_false', decide_eq_true_eq, decide_eq_false_iff_not, Bool.and_eq_true, Bool.or_eq_false_iff, withinB_iff] at g35p
      refine kl_gT rfl rfl g35 ?_
      refine kl_mv rfl ?_
      refine kl_gT rfl rfl g35 ?_
      refine kl_mv rfl ?_
      refine kl_gT rfl rfl g35 ?_
      refine kl_callP rfl rfl (equalInts_ok z14 ((solAt z9 (rankI z9 z14)).1) (by assumption) (by assumption)) ?_
      refine kl_andT rfl rfl g35 ?_
      exact J36 _ (pc 54 rfl (pc 2 rfl (pc 3 rfl (pc 5 rfl (pc 8 rfl (pc 9 rfl (pc 50 rfl pn)))))))
     ·skip
      refine kl_gF rfl rfl g35 ?_
      refine kl_gF rfl rfl g35 ?_
      refine kl_gF rfl rfl g35 ?_
      refine kl_andF (decide (z14 = ((solAt z9 (rankI z9 z14)).1))) rfl rfl g35 ?_
      exact J36 _ (pc 54 rfl (pc 2 rfl (pc 3 rfl (pc 5 rfl (pc 8 rfl (pc 9 rfl (pc 50 rfl pn)))))))
    refine kl_mv rfl ?_
    refine kl_join 8 63 (.bool ((((isSolT z9 z14) && ((solAt z9 (rankI z9 z14)).2)) && (decide (z14 = ((solAt z9 (rankI z9 z14)).1)))) && (((nextI z9 z14).2) == decide (((rankI z9 z14) + (1 : Int)) < (cntI z9))))) (pc 2 rfl (pc 3 rfl (pc 5 rfl (pc 8 rfl (pc 9 rfl (pc 55 rfl pn)))))) (fun J38 => ?_) ?_
    ·rcases Bool.eq_false_or_eq_true (((isSolT z9 z14) && ((solAt z9 (rankI z9 z14)).2)) && (decide (z14 = ((solAt z9 (rankI z9 z14)).1)))) with g37 | g37
     ·skip
      have g37p := g37
      try simp only [Bool.not_eq_true', Bool.not_eq_false', decide_eq_true_eq, decide_eq_false_iff_not, Bool.and_eq_true, Bool.or_eq_false_iff, withinB_iff] at g37p
      refine kl_gT rfl rfl g37 ?_
      refine kl_mv rfl ?_
      refine kl_gT rfl rfl g37 ?_
      refine kl_mv rfl ?_
      refine kl_gT rfl rfl g37 ?_
      refine kl_add rfl rfl (by omega) ?_
      refine kl_gT rfl rfl g37 ?_
      refine kl_ldW rfl rfl ?_
      refine kl_gT rfl rfl g37 ?_
      refine kl_callP rfl rfl (countSols_ok z9 (by assumption) (by assumption)) ?_
      refine kl_gT rfl rfl g37 ?_
      refine kl_lss rfl rfl ?_
      refine kl_gT rfl rfl g37 ?_
      refine kl_beq rfl rfl ?_
      refine kl_andT rfl rfl g37 ?_
      exact J38 _ (pc 63 rfl (pc 2 rfl (pc 3 rfl (pc 5 rfl (pc 8 rfl (pc 9 rfl (pc 55 rfl pn)))))))
     ·skip
      refine kl_gF rfl rfl g37 ?_
      refine kl_gF rfl rfl g37 ?_
      refine kl_gF rfl rfl g37 ?_
      refine kl_gF rfl rfl g37 ?_
      refine kl_gF rfl rfl g37 ?_
      refine kl_gF rfl rfl g37 ?_
      refine kl_gF rfl rfl g37 ?_
      refine kl_andF (((nextI z9 z14).2) == decide (((rankI z9 z14) + (1 : Int)) < (cntI z9))) rfl rfl g37 ?_
      exact J38 _ (pc 63 rfl (pc 2 rfl (pc 3 rfl (pc 5 rfl (pc 8 rfl (pc 9 rfl (pc 55 rfl pn)))))))
    refine kl_mv rfl ?_
    refine kl_join 11 75 (.bool (((((isSolT z9 z14) && ((solAt z9 (rankI z9 z14)).2)) && (decide (z14 = ((solAt z9 (rankI z9 z14)).1)))) && (((nextI z9 z14).2) == decide (((rankI z9 z14) + (1 : Int)) < (cntI z9)))) && (!((nextI z9 z14).2) || decide ((rankI z9 ((nextI z9 z14).1)) = ((rankI z9 z14) + (1 : Int)))))) (pc 2 rfl (pc 64 rfl pn)) (fun J42 => ?_) ?_
    ·rcases Bool.eq_false_or_eq_true ((((isSolT z9 z14) && ((solAt z9 (rankI z9 z14)).2)) && (decide (z14 = ((solAt z9 (rankI z9 z14)).1)))) && (((nextI z9 z14).2) == decide (((rankI z9 z14) + (1 : Int)) < (cntI z9)))) with g39 | g39
     ·skip
      have g39p := g39
      try simp only [Bool.not_eq_true', Bool.not_eq_false', decide_eq_true_eq, decide_eq_false_iff_not, Bool.and_eq_true, Bool.or_eq_false_iff, withinB_iff] at g39p
      refine kl_gT rfl rfl g39 ?_
      refine kl_mv rfl ?_
      refine kl_gT rfl rfl g39 ?_
      refine kl_not rfl ?_
      refine kl_gT rfl rfl g39 ?_
      refine kl_mv rfl ?_
      refine kl_join 7 74 (.bool (!((nextI z9 z14).2) || decide ((rankI z9 ((nextI z9 z14).1)) = ((rankI z9 z14) + (1 : Int))))) (pc 2 rfl (pc 64 rfl (pc 67 rfl pn))) (fun J41 => ?_) ?_
      ·rcases Bool.eq_false_or_eq_true (!((nextI z9 z14).2)) with g40 | g40
       ·skip
        refine kl_gF rfl rfl g40 ?_
        refine kl_gF rfl rfl g40 ?_
        refine kl_gF rfl rfl g40 ?_
        refine kl_gF rfl rfl g40 ?_
        refine kl_gF rfl rfl g40 ?_
        refine kl_gF rfl rfl g40 ?_
        refine kl_gT rfl rfl g39 ?_
        refine kl_orT (decide ((rankI z9 ((nextI z9 z14).1)) = ((rankI z9 z14) + (1 : Int)))) rfl rfl g40 ?_
        exact J41 _ (pc 74 rfl (pc 2 rfl (pc 64 rfl (pc 67 rfl pn))))
       ·skip
        have g40p := g40
        try simp only [Bool.not_eq_true', Bool.not_eq_false', decide_eq_true_eq, decide_eq_false_iff_not, Bool.and_eq_true, Bool.or_eq_false_iff, withinB_iff] at g40p
        refine kl_gT rfl rfl g40 ?_
        refine kl_ldW rfl rfl ?_
        refine kl_gT rfl rfl g40 ?_
        refine kl_mv rfl ?_
        refine kl_gT rfl rfl g40 ?_
        refine kl_callP rfl rfl (rankI_ok z9 ((nextI z9 z14).1) (by assumption) (by assumption) (by assumption)) ?_
        refine kl_gT rfl rfl g40 ?_
        refine kl_mv rfl ?_
        refine kl_gT rfl rfl g40 ?_
        refine kl_add rfl rfl (by omega) ?_
        refine kl_gT rfl rfl g40 ?_
        refine kl_eql rfl rfl ?_
        refine kl_gT rfl rfl g39 ?_
        refine kl_orF rfl rfl g40 ?_
        exact J41 _ (pc 74 rfl (pc 2 rfl (pc 64 rfl (pc 67 rfl pn))))
      refine kl_andT rfl rfl g39 ?_
      exact J42 _ (pc 75 rfl (pc 2 rfl (pc 64 rfl pn)))
     ·skip
      refine kl_gF rfl rfl g39 ?_
      refine kl_gF rfl rfl g39 ?_
      refine kl_gF rfl rfl g39 ?_
      refine kl_gU rfl rfl ?_
      refine kl_gU rfl rfl ?_
      refine kl_gU rfl rfl ?_
      refine kl_gU rfl rfl ?_
      refine kl_gU rfl rfl ?_
      refine kl_gU rfl rfl ?_
      refine kl_gF rfl rfl g39 ?_
      refine kl_andF (!((nextI z9 z14).2) || decide ((rankI z9 ((nextI z9 z14).1)) = ((rankI z9 z14) + (1 : Int)))) rfl rfl g39 ?_
      exact J42 _ (pc 75 rfl (pc 2 rfl (pc 64 rfl pn)))
    refine kl_as rfl ?_
    refine kl_nil (kq_code ?_)
    refine kc_ret ?_
    refine kq_retP rfl rfl (congrArg Value.bool ?_)
    first | rfl | exact ro_neg (by assumption) | exact ro_law (by assumption)
end Go.Proofs.YtigngogjgohfgaaGreat
