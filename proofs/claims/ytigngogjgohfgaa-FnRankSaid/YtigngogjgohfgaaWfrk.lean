/- Walks of functions of the program: each returns what the plain function gives. Conditions: those that each statement names. -/
import Derived.Test.YtigngogjgohfgaaWdsa
import Derived.Test.YtigngogjgohfgaaWcnt
import Derived.Test.YtigngogjgohfgaaWfl
namespace Go.Proofs.Ytigngogjgohfgaa
open Go
set_option linter.unusedSimpArgs false
set_option linter.unusedVariables false
theorem lawFnRk_ok {Hcode : Hp} {vcode : Value} (code : List Int) (hcode : Bytes Hcode vcode code) : SpecP Try.prog 3 [vcode] [Hcode] (.bool true) := by
  refine spec_of Try.func3 rfl rfl rfl (fun B => ?_)
  refine kc_seq ?_
  refine kc_region ?_
  refine kl_as rfl ?_
  refine kl_nil ?_
  refine kq_code ?_
  refine kc_seq ?_
  refine kc_seq ?_
  refine kc_region ?_
  refine kl_mv rfl ?_
  refine kl_len rfl (by assumption) (fun l1 => ?_)
  refine kl_gtr rfl rfl ?_
  refine kl_nil ?_
  refine kq_code ?_
  refine kc_if rfl (fun c2 => ?_) (fun c2 => ?_)
  · skip
    refine kc_seq ?_
    refine kc_region ?_
    refine kl_as rfl ?_
    refine kl_nil ?_
    refine kq_code ?_
    refine kc_ret ?_
    refine kq_retP rfl rfl (congrArg Value.bool ?_)
    first | rfl | (simp; done) | exact rank_law (by assumption)
  · skip
    refine kc_skipQ ?_
    refine kq_code ?_
    refine kc_seq ?_
    refine kc_region ?_
    refine kl_mv rfl ?_
    refine kl_call rfl rfl (drawSa_ok code hcode) (fun v3 H4 f5 h6 => ?_)
    obtain ⟨z9, z14, u10, u11, rfl, h12, h13, h8⟩ := h6
    have hd1 := h8.d1
    have hd4 := h8.d
    refine kl_mv rfl ?_
    refine kl_xt rfl rfl ?_
    refine kl_xt rfl rfl ?_
    refine kl_alloc (cs := [.slice none 0 0, .slice none 0 0]) rfl (fun b15 hb16 => ?_)
    refine kl_stW (us := [u10, u11]) rfl rfl rfl rfl (oc (Sl.oneCell (by assumption)) (oc (Sl.oneCell (by assumption)) oc_nil)) rfl ?_
    refine kl_chg [sing b15 (.cells [u10, u11].toArray 26 (0, 0))] rfl ?_
    refine kl_as rfl ?_
    refine kl_nil ?_
    refine kq_code ?_
    refine kc_seq ?_
    refine kc_region ?_
    refine kl_ldW rfl rfl ?_
    refine kl_mv rfl ?_
    refine kl_call rfl rfl (solAtI_ok z9 z14 (by assumption) (by assumption)) (fun v17 H18 f19 h20 => ?_)
    obtain ⟨u21, rfl, h22⟩ := h20
    refine kl_mv rfl ?_
    refine kl_xt rfl rfl ?_
    refine kl_xt rfl rfl ?_
    refine kl_as rfl ?_
    refine kl_as rfl ?_
    refine kl_nil ?_
    refine kq_code ?_
    refine kc_seq ?_
    refine kc_region ?_
    refine kl_ldW rfl rfl ?_
    refine kl_mv rfl ?_
    refine kl_call rfl rfl (solAtS_ok z9 z14 (by assumption) (by assumption)) (fun v23 H24 f25 h26 => ?_)
    obtain ⟨u27, rfl, h28⟩ := h26
    refine kl_mv rfl ?_
    refine kl_xt rfl rfl ?_
    refine kl_xt rfl rfl ?_
    refine kl_as rfl ?_
    refine kl_as rfl ?_
    refine kl_nil ?_
    refine kq_code ?_
    refine kc_seq ?_
    refine kc_seq ?_
    refine kc_region ?_
    refine kl_mv rfl ?_
    refine kl_mv rfl ?_
    refine kl_bne rfl rfl ?_
    refine kl_mv rfl ?_
    refine kl_join 5 38 (.bool ((((solAt z9 z14).2) != ((solAt z9 z14).2)) || !(decide (((solAt z9 z14).1) = ((solAt z9 z14).1))))) (pc 2 rfl (pc 3 rfl (pc 4 rfl (pc 5 rfl (pc 6 rfl (pc 7 rfl (pc 8 rfl (pc 33 rfl pn)))))))) (fun J30 => ?_) ?_
    · rcases Bool.eq_false_or_eq_true (((solAt z9 z14).2) != ((solAt z9 z14).2)) with g29 | g29
      · skip
        refine kl_gF rfl rfl g29 ?_
        refine kl_gF rfl rfl g29 ?_
        refine kl_gF rfl rfl g29 ?_
        refine kl_gF rfl rfl g29 ?_
        refine kl_orT (!(decide (((solAt z9 z14).1) = ((solAt z9 z14).1)))) rfl rfl g29 ?_
        exact J30 _ (pc 38 rfl (pc 2 rfl (pc 3 rfl (pc 4 rfl (pc 5 rfl (pc 6 rfl (pc 7 rfl (pc 8 rfl (pc 33 rfl pn)))))))))
      · skip
        have g29p := g29
        try simp only [Bool.not_eq_true', Bool.not_eq_false', decide_eq_true_eq, decide_eq_false_iff_not, Bool.and_eq_true, Bool.or_eq_false_iff, withinB_iff] at g29p
        refine kl_gT rfl rfl g29 ?_
        refine kl_mv rfl ?_
        refine kl_gT rfl rfl g29 ?_
        refine kl_mv rfl ?_
        refine kl_gT rfl rfl g29 ?_
        refine kl_callP rfl rfl (equalInts_ok ((solAt z9 z14).1) ((solAt z9 z14).1) (by assumption) (by assumption)) ?_
        refine kl_gT rfl rfl g29 ?_
        refine kl_not rfl ?_
        refine kl_orF rfl rfl g29 ?_
        exact J30 _ (pc 38 rfl (pc 2 rfl (pc 3 rfl (pc 4 rfl (pc 5 rfl (pc 6 rfl (pc 7 rfl (pc 8 rfl (pc 33 rfl pn)))))))))
    refine kl_mv rfl ?_
    refine kl_join 4 43 (.bool (((((solAt z9 z14).2) != ((solAt z9 z14).2)) || !(decide (((solAt z9 z14).1) = ((solAt z9 z14).1)))) || !(validModB z9))) (pc 2 rfl (pc 3 rfl (pc 4 rfl (pc 5 rfl (pc 6 rfl (pc 7 rfl (pc 8 rfl (pc 39 rfl pn)))))))) (fun J32 => ?_) ?_
    · rcases Bool.eq_false_or_eq_true ((((solAt z9 z14).2) != ((solAt z9 z14).2)) || !(decide (((solAt z9 z14).1) = ((solAt z9 z14).1)))) with g31 | g31
      · skip
        refine kl_gF rfl rfl g31 ?_
        refine kl_gF rfl rfl g31 ?_
        refine kl_gF rfl rfl g31 ?_
        refine kl_orT (!(validModB z9)) rfl rfl g31 ?_
        exact J32 _ (pc 43 rfl (pc 2 rfl (pc 3 rfl (pc 4 rfl (pc 5 rfl (pc 6 rfl (pc 7 rfl (pc 8 rfl (pc 39 rfl pn)))))))))
      · skip
        have g31p := g31
        try simp only [Bool.not_eq_true', Bool.not_eq_false', decide_eq_true_eq, decide_eq_false_iff_not, Bool.and_eq_true, Bool.or_eq_false_iff, withinB_iff] at g31p
        refine kl_gT rfl rfl g31 ?_
        refine kl_ldW rfl rfl ?_
        refine kl_gT rfl rfl g31 ?_
        refine kl_callP rfl rfl (validMod_ok z9 (by assumption) (by assumption)) ?_
        refine kl_gT rfl rfl g31 ?_
        refine kl_not rfl ?_
        refine kl_orF rfl rfl g31 ?_
        exact J32 _ (pc 43 rfl (pc 2 rfl (pc 3 rfl (pc 4 rfl (pc 5 rfl (pc 6 rfl (pc 7 rfl (pc 8 rfl (pc 39 rfl pn)))))))))
    refine kl_nil ?_
    refine kq_code ?_
    refine kc_cond rfl (fun c33 => ?_) (fun c33 => ?_)
    · skip
      have c33r := c33
      try simp only [Bool.not_eq_true', Bool.not_eq_false', Bool.not_true, Bool.not_false, decide_eq_true_eq, decide_eq_false_iff_not, Bool.and_eq_true, Bool.or_eq_false_iff] at c33
      refine kc_seq ?_
      refine kc_region ?_
      refine kl_mv rfl ?_
      refine kl_mv rfl ?_
      refine kl_beq rfl rfl ?_
      refine kl_mv rfl ?_
      refine kl_join 4 51 (.bool ((((solAt z9 z14).2) == ((solAt z9 z14).2)) && (decide (((solAt z9 z14).1) = ((solAt z9 z14).1))))) (pc 2 rfl (pc 3 rfl (pc 4 rfl (pc 5 rfl (pc 6 rfl (pc 47 rfl pn)))))) (fun J35 => ?_) ?_
      · rcases Bool.eq_false_or_eq_true (((solAt z9 z14).2) == ((solAt z9 z14).2)) with g34 | g34
        · skip
          have g34p := g34
          try simp only [Bool.not_eq_true', Bool.not_eq_false', decide_eq_true_eq, decide_eq_false_iff_not, Bool.and_eq_true, Bool.or_eq_false_iff, withinB_iff] at g34p
          refine kl_gT rfl rfl g34 ?_
          refine kl_mv rfl ?_
          refine kl_gT rfl rfl g34 ?_
          refine kl_mv rfl ?_
          refine kl_gT rfl rfl g34 ?_
          refine kl_callP rfl rfl (equalInts_ok ((solAt z9 z14).1) ((solAt z9 z14).1) (by assumption) (by assumption)) ?_
          refine kl_andT rfl rfl g34 ?_
          exact J35 _ (pc 51 rfl (pc 2 rfl (pc 3 rfl (pc 4 rfl (pc 5 rfl (pc 6 rfl (pc 47 rfl pn)))))))
        · skip
          refine kl_gF rfl rfl g34 ?_
          refine kl_gF rfl rfl g34 ?_
          refine kl_gF rfl rfl g34 ?_
          refine kl_andF (decide (((solAt z9 z14).1) = ((solAt z9 z14).1))) rfl rfl g34 ?_
          exact J35 _ (pc 51 rfl (pc 2 rfl (pc 3 rfl (pc 4 rfl (pc 5 rfl (pc 6 rfl (pc 47 rfl pn)))))))
      refine kl_as rfl ?_
      refine kl_nil ?_
      refine kq_code ?_
      refine kc_ret ?_
      refine kq_retP rfl rfl (congrArg Value.bool ?_)
      first | rfl | (simp; done) | exact rank_law (by assumption)
    · skip
      have c33r := c33
      try simp only [Bool.not_eq_true', Bool.not_eq_false', Bool.not_true, Bool.not_false, decide_eq_true_eq, decide_eq_false_iff_not, Bool.and_eq_true, Bool.or_eq_false_iff] at c33
      refine kc_skipQ ?_
      refine kq_code ?_
      refine kc_seq ?_
      refine kc_region ?_
      refine kl_ldW rfl rfl ?_
      refine kl_callP rfl rfl (countSols_ok z9 (by assumption) (by assumption)) ?_
      refine kl_as rfl ?_
      refine kl_nil ?_
      refine kq_code ?_
      refine kc_seq ?_
      refine kc_region ?_
      refine kl_mv rfl ?_
      refine kl_mv rfl ?_
      refine kl_geq rfl rfl ?_
      refine kl_mv rfl ?_
      refine kl_join 4 61 (.bool (decide ((0 : Int) ≤ z14) && decide (z14 < (cntI z9)))) (pc 2 rfl (pc 3 rfl (pc 4 rfl (pc 5 rfl (pc 6 rfl (pc 54 rfl (pc 57 rfl pn))))))) (fun J37 => ?_) ?_
      · rcases Bool.eq_false_or_eq_true (decide ((0 : Int) ≤ z14)) with g36 | g36
        · skip
          have g36p := of_decide_eq_true g36
          refine kl_gT rfl rfl g36 ?_
          refine kl_mv rfl ?_
          refine kl_gT rfl rfl g36 ?_
          refine kl_mv rfl ?_
          refine kl_gT rfl rfl g36 ?_
          refine kl_lss rfl rfl ?_
          refine kl_andT rfl rfl g36 ?_
          exact J37 _ (pc 61 rfl (pc 2 rfl (pc 3 rfl (pc 4 rfl (pc 5 rfl (pc 6 rfl (pc 54 rfl (pc 57 rfl pn))))))))
        · skip
          refine kl_gF rfl rfl g36 ?_
          refine kl_gF rfl rfl g36 ?_
          refine kl_gF rfl rfl g36 ?_
          refine kl_andF (decide (z14 < (cntI z9))) rfl rfl g36 ?_
          exact J37 _ (pc 61 rfl (pc 2 rfl (pc 3 rfl (pc 4 rfl (pc 5 rfl (pc 6 rfl (pc 54 rfl (pc 57 rfl pn))))))))
      refine kl_beq rfl rfl ?_
      refine kl_mv rfl ?_
      refine kl_join 10 73 (.bool ((((solAt z9 z14).2) == (decide ((0 : Int) ≤ z14) && decide (z14 < (cntI z9)))) && (!((solAt z9 z14).2) || decide ((rankI z9 ((solAt z9 z14).1)) = z14)))) (pc 2 rfl (pc 63 rfl pn)) (fun J41 => ?_) ?_
      · rcases Bool.eq_false_or_eq_true (((solAt z9 z14).2) == (decide ((0 : Int) ≤ z14) && decide (z14 < (cntI z9)))) with g38 | g38
        · skip
          have g38p := g38
          try simp only [Bool.not_eq_true', Bool.not_eq_false', decide_eq_true_eq, decide_eq_false_iff_not, Bool.and_eq_true, Bool.or_eq_false_iff, withinB_iff] at g38p
          refine kl_gT rfl rfl g38 ?_
          refine kl_mv rfl ?_
          refine kl_gT rfl rfl g38 ?_
          refine kl_not rfl ?_
          refine kl_gT rfl rfl g38 ?_
          refine kl_mv rfl ?_
          refine kl_join 6 72 (.bool (!((solAt z9 z14).2) || decide ((rankI z9 ((solAt z9 z14).1)) = z14))) (pc 2 rfl (pc 63 rfl (pc 66 rfl pn))) (fun J40 => ?_) ?_
          · rcases Bool.eq_false_or_eq_true (!((solAt z9 z14).2)) with g39 | g39
            · skip
              refine kl_gF rfl rfl g39 ?_
              refine kl_gF rfl rfl g39 ?_
              refine kl_gF rfl rfl g39 ?_
              refine kl_gF rfl rfl g39 ?_
              refine kl_gF rfl rfl g39 ?_
              refine kl_gT rfl rfl g38 ?_
              refine kl_orT (decide ((rankI z9 ((solAt z9 z14).1)) = z14)) rfl rfl g39 ?_
              exact J40 _ (pc 72 rfl (pc 2 rfl (pc 63 rfl (pc 66 rfl pn))))
            · skip
              have g39p := g39
              try simp only [Bool.not_eq_true', Bool.not_eq_false', decide_eq_true_eq, decide_eq_false_iff_not, Bool.and_eq_true, Bool.or_eq_false_iff, withinB_iff] at g39p
              refine kl_gT rfl rfl g39 ?_
              refine kl_ldW rfl rfl ?_
              refine kl_gT rfl rfl g39 ?_
              refine kl_mv rfl ?_
              refine kl_gT rfl rfl g39 ?_
              refine kl_callP rfl rfl (rankI_ok z9 ((solAt z9 z14).1) (by assumption) (by assumption) (by assumption)) ?_
              refine kl_gT rfl rfl g39 ?_
              refine kl_mv rfl ?_
              refine kl_gT rfl rfl g39 ?_
              refine kl_eql rfl rfl ?_
              refine kl_gT rfl rfl g38 ?_
              refine kl_orF rfl rfl g39 ?_
              exact J40 _ (pc 72 rfl (pc 2 rfl (pc 63 rfl (pc 66 rfl pn))))
          refine kl_andT rfl rfl g38 ?_
          exact J41 _ (pc 73 rfl (pc 2 rfl (pc 63 rfl pn)))
        · skip
          refine kl_gF rfl rfl g38 ?_
          refine kl_gF rfl rfl g38 ?_
          refine kl_gF rfl rfl g38 ?_
          refine kl_gU rfl rfl ?_
          refine kl_gU rfl rfl ?_
          refine kl_gU rfl rfl ?_
          refine kl_gU rfl rfl ?_
          refine kl_gU rfl rfl ?_
          refine kl_gF rfl rfl g38 ?_
          refine kl_andF (!((solAt z9 z14).2) || decide ((rankI z9 ((solAt z9 z14).1)) = z14)) rfl rfl g38 ?_
          exact J41 _ (pc 73 rfl (pc 2 rfl (pc 63 rfl pn)))
      refine kl_as rfl ?_
      refine kl_nil ?_
      refine kq_code ?_
      refine kc_ret ?_
      refine kq_retP rfl rfl (congrArg Value.bool ?_)
      first | rfl | (simp; done) | exact rank_law (by assumption)
end Go.Proofs.Ytigngogjgohfgaa
