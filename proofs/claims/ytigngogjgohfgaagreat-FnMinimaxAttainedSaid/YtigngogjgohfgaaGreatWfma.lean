/- Walks of functions of the program: each returns what the plain function gives. Conditions: those that each statement names. -/
import Derived.Test.YtigngogjgohfgaaGreatWdmm
import Derived.Test.YtigngogjgohfgaaGreatWmin
import Derived.Test.YtigngogjgohfgaaGreatWgame
import Derived.Test.YtigngogjgohfgaaGreatWsgame
import Derived.Test.YtigngogjgohfgaaGreatWsa
import Derived.Test.YtigngogjgohfgaaGreatWcnt
namespace Go.Proofs.YtigngogjgohfgaaGreat
open Go
set_option linter.unusedSimpArgs false
set_option linter.unusedVariables false
theorem lawFnMa_ok {Hcode : Hp} {vcode : Value} (code : List Int) (hcode : Bytes Hcode vcode code) : SpecP Tryz.prog 4 [vcode] [Hcode] (.bool true) := by
  refine spec_of Tryz.func4 rfl rfl rfl (fun B => ?_)
  refine kc_seq ?_
  refine kc_region ?_
  refine kl_as rfl ?_
  refine kl_nil ?_
  refine kq_code ?_
  refine kc_seq ?_
  refine kc_seq ?_
  refine kc_region ?_
  refine kl_mv rfl ?_
  refine kl_len rfl (by assumption) (fun l1 => ?_)
  refine kl_gtr rfl rfl ?_
  refine kl_nil ?_
  refine kq_code ?_
  refine kc_if rfl (fun c2 => ?_) (fun c2 => ?_)
  · skip
    refine kc_seq ?_
    refine kc_region ?_
    refine kl_as rfl ?_
    refine kl_nil ?_
    refine kq_code ?_
    refine kc_ret ?_
    refine kq_retP rfl rfl (congrArg Value.bool ?_)
    first | rfl | (simp; done) | exact att_fin (by assumption) hnone
  · skip
    refine kc_skipQ ?_
    refine kq_code ?_
    refine kc_seq ?_
    refine kc_region ?_
    refine kl_mv rfl ?_
    refine kl_call rfl rfl (drawMm_ok code hcode) (fun v3 H4 f5 h6 => ?_)
    obtain ⟨z9, z14, z17, u10, u11, u15, u18, rfl, h12, h13, h16, h19, h8⟩ := h6
    have hd1 := h8.1.d1
    have hd4 := h8.1.d
    have hco := h8.2.1
    refine kl_mv rfl ?_
    refine kl_xt rfl rfl ?_
    refine kl_xt rfl rfl ?_
    refine kl_xt rfl rfl ?_
    refine kl_alloc (cs := [.slice none 0 0, .slice none 0 0]) rfl (fun b20 hb21 => ?_)
    refine kl_stW (us := [u10, u11]) rfl rfl rfl rfl (oc (Sl.oneCell (by assumption)) (oc (Sl.oneCell (by assumption)) oc_nil)) rfl ?_
    refine kl_chg [sing b20 (.cells [u10, u11].toArray 26 (0, 0))] rfl ?_
    refine kl_as rfl ?_
    refine kl_as rfl ?_
    refine kl_nil ?_
    refine kq_code ?_
    refine kc_seq ?_
    refine kc_region ?_
    refine kl_ldW rfl rfl ?_
    refine kl_mv rfl ?_
    refine kl_mv rfl ?_
    refine kl_callP rfl rfl (iminimax_ok z9 z14 z17 (by assumption) (by assumption) (by assumption) (by assumption)) ?_
    refine kl_mv rfl ?_
    refine kl_xt rfl rfl ?_
    refine kl_xt rfl rfl ?_
    refine kl_as rfl ?_
    refine kl_as rfl ?_
    refine kl_nil ?_
    refine kq_code ?_
    refine kc_seq ?_
    refine kc_region ?_
    refine kl_ldW rfl rfl ?_
    refine kl_mv rfl ?_
    refine kl_mv rfl ?_
    refine kl_callP rfl rfl (sminimax_ok z9 z14 z17 (by assumption) (by assumption) (by assumption) (by assumption)) ?_
    refine kl_mv rfl ?_
    refine kl_xt rfl rfl ?_
    refine kl_xt rfl rfl ?_
    refine kl_as rfl ?_
    refine kl_as rfl ?_
    refine kl_nil ?_
    refine kq_code ?_
    refine kc_seq ?_
    refine kc_seq ?_
    refine kc_region ?_
    refine kl_mv rfl ?_
    refine kl_mv rfl ?_
    refine kl_bne rfl rfl ?_
    refine kl_mv rfl ?_
    refine kl_join 4 45 (.bool ((((minimaxB z9 z14 z17).2) != ((minimaxB z9 z14 z17).2)) || decide (((minimaxB z9 z14 z17).1) ≠ ((minimaxB z9 z14 z17).1)))) (pc 2 rfl (pc 3 rfl (pc 4 rfl (pc 5 rfl (pc 6 rfl (pc 7 rfl (pc 41 rfl pn))))))) (fun J23 => ?_) ?_
    · rcases Bool.eq_false_or_eq_true (((minimaxB z9 z14 z17).2) != ((minimaxB z9 z14 z17).2)) with g22 | g22
      · skip
        refine kl_gF rfl rfl g22 ?_
        refine kl_gF rfl rfl g22 ?_
        refine kl_gF rfl rfl g22 ?_
        refine kl_orT (decide (((minimaxB z9 z14 z17).1) ≠ ((minimaxB z9 z14 z17).1))) rfl rfl g22 ?_
        exact J23 _ (pc 45 rfl (pc 2 rfl (pc 3 rfl (pc 4 rfl (pc 5 rfl (pc 6 rfl (pc 7 rfl (pc 41 rfl pn))))))))
      · skip
        have g22p := g22
        try simp only [Bool.not_eq_true', Bool.not_eq_false', decide_eq_true_eq, decide_eq_false_iff_not, Bool.and_eq_true, Bool.or_eq_false_iff, withinB_iff] at g22p
        refine kl_gT rfl rfl g22 ?_
        refine kl_mv rfl ?_
        refine kl_gT rfl rfl g22 ?_
        refine kl_mv rfl ?_
        refine kl_gT rfl rfl g22 ?_
        refine kl_neq rfl rfl ?_
        refine kl_orF rfl rfl g22 ?_
        exact J23 _ (pc 45 rfl (pc 2 rfl (pc 3 rfl (pc 4 rfl (pc 5 rfl (pc 6 rfl (pc 7 rfl (pc 41 rfl pn))))))))
    refine kl_nil ?_
    refine kq_code ?_
    refine kc_cond rfl (fun c24 => ?_) (fun c24 => ?_)
    · skip
      have c24r := c24
      try simp only [Bool.not_eq_true', Bool.not_eq_false', Bool.not_true, Bool.not_false, decide_eq_true_eq, decide_eq_false_iff_not, Bool.and_eq_true, Bool.or_eq_false_iff] at c24
      exfalso; simp at c24r
    · skip
      have c24r := c24
      try simp only [Bool.not_eq_true', Bool.not_eq_false', Bool.not_true, Bool.not_false, decide_eq_true_eq, decide_eq_false_iff_not, Bool.and_eq_true, Bool.or_eq_false_iff] at c24
      refine kc_skipQ ?_
      refine kq_code ?_
      refine kc_seq ?_
      refine kc_region ?_
      refine kl_ldW rfl rfl ?_
      refine kl_callP rfl rfl (validMod_ok z9 (by assumption) (by assumption)) ?_
      refine kl_as rfl ?_
      refine kl_nil ?_
      refine kq_code ?_
      refine kc_seq ?_
      refine kc_seq ?_
      refine kc_region ?_
      refine kl_as rfl ?_
      refine kl_nil ?_
      refine kq_code ?_
      refine kc_block ?_
      refine kc_loop0 (A := Nat × Bool) (fun zz => (zz.1 ≤ z9.doms.length) ∧ (zz.2 = (validModB z9 && !((z9.doms.take zz.1).contains 0)))) (fun zz => z9.doms.length - zz.1) (fun zz => [(11, .int .i64 (zz.1 : Int)), (10, .bool zz.2)]) (0, (validModB z9)) (pc 2 rfl (pc 3 rfl (pc 4 rfl (pc 5 rfl (pc 6 rfl (pc 7 rfl pn)))))) (pc 11 rfl (pc 10 rfl pn)) ⟨Nat.zero_le _, (by simp)⟩ ?_
      rintro ⟨k, fu⟩ hJ27
      obtain ⟨hk25, hi26⟩ : (k ≤ z9.doms.length) ∧ (fu = (validModB z9 && !((z9.doms.take k).contains 0))) := hJ27
      change KC _ _ (_) _ _ ([(11, .int .i64 (k : Int)), (10, .bool fu)] ++ _)
      refine kc_seq ?_
      refine kc_seq ?_
      refine kc_region ?_
      refine kl_mv rfl ?_
      refine kl_fdV rfl ?_
      refine kl_ldB rfl rfl ?_
      refine kl_len rfl (by assumption) (fun l28 => ?_)
      refine kl_lss rfl rfl ?_
      refine kl_nil ?_
      refine kq_code ?_
      refine kc_if rfl (fun c29 => ?_) (fun c29 => ?_)
      · skip
        refine kc_skipQ ?_
        refine kq_code ?_
        refine kc_seq ?_
        refine kc_block ?_
        refine kc_region ?_
        refine kl_mv rfl ?_
        refine kl_mv rfl ?_
        refine kl_join 7 63 (.bool (fu && decide ((z9.doms.getD k 0) ≠ (0 : Int)))) (pc 2 rfl (pc 3 rfl (pc 4 rfl (pc 5 rfl (pc 6 rfl (pc 7 rfl (pc 10 rfl (pc 11 rfl (pc 48 rfl (pc 49 rfl (pc 50 rfl (pc 51 rfl (pc 52 rfl (pc 55 rfl (pc 56 rfl pn))))))))))))))) (fun J33 => ?_) ?_
        · rcases Bool.eq_false_or_eq_true fu with g30 | g30
          · skip
            have g30p := g30
            try simp only [Bool.not_eq_true', Bool.not_eq_false', decide_eq_true_eq, decide_eq_false_iff_not, Bool.and_eq_true, Bool.or_eq_false_iff, withinB_iff] at g30p
            refine kl_gT rfl rfl g30 ?_
            refine kl_fdV rfl ?_
            refine kl_gT rfl rfl g30 ?_
            refine kl_ldB rfl rfl ?_
            refine kl_gT rfl rfl g30 ?_
            refine kl_mv rfl ?_
            refine kl_gT rfl rfl g30 ?_
            refine kl_inI rfl rfl (by assumption) (by omega) (fun p31 a32 => ?_)
            refine kl_gT rfl rfl g30 ?_
            refine kl_ld rfl (by assumption) ?_
            refine kl_gT rfl rfl g30 ?_
            refine kl_neq rfl rfl ?_
            refine kl_andT rfl rfl g30 ?_
            exact J33 _ (pc 63 rfl (pc 2 rfl (pc 3 rfl (pc 4 rfl (pc 5 rfl (pc 6 rfl (pc 7 rfl (pc 10 rfl (pc 11 rfl (pc 48 rfl (pc 49 rfl (pc 50 rfl (pc 51 rfl (pc 52 rfl (pc 55 rfl (pc 56 rfl pn))))))))))))))))
          · skip
            refine kl_gF rfl rfl g30 ?_
            refine kl_gF rfl rfl g30 ?_
            refine kl_gF rfl rfl g30 ?_
            refine kl_gF rfl rfl g30 ?_
            refine kl_gF rfl rfl g30 ?_
            refine kl_gF rfl rfl g30 ?_
            refine kl_andF (decide ((z9.doms.getD k 0) ≠ (0 : Int))) rfl rfl g30 ?_
            exact J33 _ (pc 63 rfl (pc 2 rfl (pc 3 rfl (pc 4 rfl (pc 5 rfl (pc 6 rfl (pc 7 rfl (pc 10 rfl (pc 11 rfl (pc 48 rfl (pc 49 rfl (pc 50 rfl (pc 51 rfl (pc 52 rfl (pc 55 rfl (pc 56 rfl pn))))))))))))))))
        refine kl_as rfl ?_
        refine kl_nil ?_
        refine kq_code ?_
        refine kc_region ?_
        refine kl_mv rfl ?_
        refine kl_inc rfl rfl (by omega) ?_
        refine kl_as rfl ?_
        refine kl_nil ?_
        refine kq_round0 ((k + 1), (fu && decide ((z9.doms.getD k 0) ≠ (0 : Int)))) (by omega) (⟨by omega, (by rw [hi26]; exact full_step (by omega))⟩) (pc 11 rfl (pc 10 rfl pn)) (pc 2 rfl (pc 3 rfl (pc 4 rfl (pc 5 rfl (pc 6 rfl (pc 7 rfl pn)))))) (List.Sublist.refl _)
      · skip
        refine kc_exit ?_
        refine kq_code ?_
        refine kc_seq ?_
        refine kc_seq ?_
        refine kc_region ?_
        refine kl_mv rfl ?_
        refine kl_mv rfl ?_
        refine kl_join 7 72 (.bool (fu && decide ((z14.length : Int) = (z9.doms.length : Int)))) (pc 2 rfl (pc 3 rfl (pc 4 rfl (pc 5 rfl (pc 6 rfl (pc 7 rfl (pc 65 rfl pn))))))) (fun J37 => ?_) ?_
        · rcases Bool.eq_false_or_eq_true fu with g34 | g34
          · skip
            have g34p := g34
            try simp only [Bool.not_eq_true', Bool.not_eq_false', decide_eq_true_eq, decide_eq_false_iff_not, Bool.and_eq_true, Bool.or_eq_false_iff, withinB_iff] at g34p
            refine kl_gT rfl rfl g34 ?_
            refine kl_mv rfl ?_
            refine kl_gT rfl rfl g34 ?_
            refine kl_len rfl (by assumption) (fun l35 => ?_)
            refine kl_gT rfl rfl g34 ?_
            refine kl_fdV rfl ?_
            refine kl_gT rfl rfl g34 ?_
            refine kl_ldB rfl rfl ?_
            refine kl_gT rfl rfl g34 ?_
            refine kl_len rfl (by assumption) (fun l36 => ?_)
            refine kl_gT rfl rfl g34 ?_
            refine kl_eql rfl rfl ?_
            refine kl_andT rfl rfl g34 ?_
            exact J37 _ (pc 72 rfl (pc 2 rfl (pc 3 rfl (pc 4 rfl (pc 5 rfl (pc 6 rfl (pc 7 rfl (pc 65 rfl pn))))))))
          · skip
            refine kl_gF rfl rfl g34 ?_
            refine kl_gF rfl rfl g34 ?_
            refine kl_gF rfl rfl g34 ?_
            refine kl_gF rfl rfl g34 ?_
            refine kl_gF rfl rfl g34 ?_
            refine kl_gF rfl rfl g34 ?_
            refine kl_andF (decide ((z14.length : Int) = (z9.doms.length : Int))) rfl rfl g34 ?_
            exact J37 _ (pc 72 rfl (pc 2 rfl (pc 3 rfl (pc 4 rfl (pc 5 rfl (pc 6 rfl (pc 7 rfl (pc 65 rfl pn))))))))
        refine kl_mv rfl ?_
        refine kl_join 6 79 (.bool ((fu && decide ((z14.length : Int) = (z9.doms.length : Int))) && ((qtrueB z9 z17) != ((minimaxB z9 z14 z17).2)))) (pc 2 rfl (pc 3 rfl (pc 4 rfl (pc 6 rfl (pc 7 rfl (pc 73 rfl pn)))))) (fun J39 => ?_) ?_
        · rcases Bool.eq_false_or_eq_true (fu && decide ((z14.length : Int) = (z9.doms.length : Int))) with g38 | g38
          · skip
            have g38p := g38
            try simp only [Bool.not_eq_true', Bool.not_eq_false', decide_eq_true_eq, decide_eq_false_iff_not, Bool.and_eq_true, Bool.or_eq_false_iff, withinB_iff] at g38p
            refine kl_gT rfl rfl g38 ?_
            refine kl_ldW rfl rfl ?_
            refine kl_gT rfl rfl g38 ?_
            refine kl_mv rfl ?_
            refine kl_gT rfl rfl g38 ?_
            refine kl_callP rfl rfl (iqt_ok z9 z17 (by assumption) (by assumption) (by assumption)) ?_
            refine kl_gT rfl rfl g38 ?_
            refine kl_mv rfl ?_
            refine kl_gT rfl rfl g38 ?_
            refine kl_bne rfl rfl ?_
            refine kl_andT rfl rfl g38 ?_
            exact J39 _ (pc 79 rfl (pc 2 rfl (pc 3 rfl (pc 4 rfl (pc 6 rfl (pc 7 rfl (pc 73 rfl pn)))))))
          · skip
            refine kl_gF rfl rfl g38 ?_
            refine kl_gF rfl rfl g38 ?_
            refine kl_gF rfl rfl g38 ?_
            refine kl_gF rfl rfl g38 ?_
            refine kl_gF rfl rfl g38 ?_
            refine kl_andF ((qtrueB z9 z17) != ((minimaxB z9 z14 z17).2)) rfl rfl g38 ?_
            exact J39 _ (pc 79 rfl (pc 2 rfl (pc 3 rfl (pc 4 rfl (pc 6 rfl (pc 7 rfl (pc 73 rfl pn)))))))
        refine kl_nil ?_
        refine kq_code ?_
        refine kc_cond rfl (fun c40 => ?_) (fun c40 => ?_)
        · skip
          have c40r := c40
          try simp only [Bool.not_eq_true', Bool.not_eq_false', Bool.not_true, Bool.not_false, decide_eq_true_eq, decide_eq_false_iff_not, Bool.and_eq_true, Bool.or_eq_false_iff] at c40
          exact (att_abs c40r hi26 (by omega) hco).elim
        · skip
          have c40r := c40
          try simp only [Bool.not_eq_true', Bool.not_eq_false', Bool.not_true, Bool.not_false, decide_eq_true_eq, decide_eq_false_iff_not, Bool.and_eq_true, Bool.or_eq_false_iff] at c40
          refine kc_skipQ ?_
          refine kq_code ?_
          refine kc_seq ?_
          refine kc_region ?_
          refine kl_ldW rfl rfl ?_
          refine kl_call rfl rfl (solveAll_ok z9 (by assumption) (by assumption)) (fun v41 H42 f43 h44 => ?_)
          refine kl_as rfl ?_
          refine kl_nil ?_
          refine kq_code ?_
          refine kc_seq ?_
          refine kc_region ?_
          refine kl_ldW rfl rfl ?_
          refine kl_callP rfl rfl (countSols_ok z9 (by assumption) (by assumption)) ?_
          refine kl_gtr rfl rfl ?_
          refine kl_as rfl ?_
          refine kl_nil ?_
          refine kq_code ?_
          refine kc_seq ?_
          refine kc_seq ?_
          refine kc_region ?_
          refine kl_as rfl ?_
          refine kl_nil ?_
          refine kq_code ?_
          refine kc_block ?_
          refine kc_loop0 (A := Nat × Bool) (fun zz => (zz.1 ≤ (solL z9).length) ∧ (zz.2 = (decide ((20 : Int) < cntI z9) || ((solL z9).take zz.1).any (fun x => decide (objVal z14 x = ((minimaxB z9 z14 z17).1)))))) (fun zz => (solL z9).length - zz.1) (fun zz => [(14, .int .i64 (zz.1 : Int)), (13, .bool zz.2)]) (0, (decide ((20 : Int) < (cntI z9)))) (pc 2 rfl (pc 4 rfl (pc 6 rfl (pc 7 rfl (pc 12 rfl pn))))) (pc 14 rfl (pc 13 rfl pn)) ⟨Nat.zero_le _, (by simp)⟩ ?_
          rintro ⟨k2, iz⟩ hJ47
          obtain ⟨hk45, hi46⟩ : (k2 ≤ (solL z9).length) ∧ (iz = (decide ((20 : Int) < cntI z9) || ((solL z9).take k2).any (fun x => decide (objVal z14 x = ((minimaxB z9 z14 z17).1))))) := hJ47
          change KC _ _ (_) _ _ ([(14, .int .i64 (k2 : Int)), (13, .bool iz)] ++ _)
          refine kc_seq ?_
          refine kc_seq ?_
          refine kc_region ?_
          refine kl_mv rfl ?_
          refine kl_mv rfl ?_
          refine kl_len rfl (by assumption) (fun l48 => ?_)
          refine kl_lss rfl rfl ?_
          refine kl_mv rfl ?_
          refine kl_join 2 91 (.bool (decide ((k2 : Int) < ((solL z9).length : Int)) && ((minimaxB z9 z14 z17).2))) (pc 2 rfl (pc 4 rfl (pc 6 rfl (pc 7 rfl (pc 12 rfl (pc 13 rfl (pc 14 rfl (pc 85 rfl (pc 86 rfl (pc 87 rfl (pc 88 rfl (pc 89 rfl pn)))))))))))) (fun J50 => ?_) ?_
          · rcases Bool.eq_false_or_eq_true (decide ((k2 : Int) < ((solL z9).length : Int))) with g49 | g49
            · skip
              have g49p := of_decide_eq_true g49
              refine kl_gT rfl rfl g49 ?_
              refine kl_mv rfl ?_
              refine kl_andT rfl rfl g49 ?_
              exact J50 _ (pc 91 rfl (pc 2 rfl (pc 4 rfl (pc 6 rfl (pc 7 rfl (pc 12 rfl (pc 13 rfl (pc 14 rfl (pc 85 rfl (pc 86 rfl (pc 87 rfl (pc 88 rfl (pc 89 rfl pn)))))))))))))
            · skip
              refine kl_gF rfl rfl g49 ?_
              refine kl_andF ((minimaxB z9 z14 z17).2) rfl rfl g49 ?_
              exact J50 _ (pc 91 rfl (pc 2 rfl (pc 4 rfl (pc 6 rfl (pc 7 rfl (pc 12 rfl (pc 13 rfl (pc 14 rfl (pc 85 rfl (pc 86 rfl (pc 87 rfl (pc 88 rfl (pc 89 rfl pn)))))))))))))
          refine kl_nil ?_
          refine kq_code ?_
          refine kc_cond rfl (fun c51 => ?_) (fun c51 => ?_)
          · skip
            have c51r := c51
            try simp only [Bool.not_eq_true', Bool.not_eq_false', Bool.not_true, Bool.not_false, decide_eq_true_eq, decide_eq_false_iff_not, Bool.and_eq_true, Bool.or_eq_false_iff] at c51
            have hk9 : k2 < _ := Int.ofNat_lt.1 (of_decide_eq_true (Bool.and_eq_true_iff.1 c51r).1)
            refine kc_skipQ ?_
            refine kq_code ?_
            refine kc_seq ?_
            refine kc_block ?_
            refine kc_region ?_
            refine kl_mv rfl ?_
            refine kl_mv rfl ?_
            refine kl_join 9 104 (.bool (iz || decide ((objVal z14 ((solL z9).getD k2 [])) = ((minimaxB z9 z14 z17).1)))) (pc 2 rfl (pc 4 rfl (pc 6 rfl (pc 7 rfl (pc 12 rfl (pc 13 rfl (pc 14 rfl (pc 85 rfl (pc 86 rfl (pc 87 rfl (pc 88 rfl (pc 89 rfl (pc 91 rfl (pc 94 rfl (pc 95 rfl pn))))))))))))))) (fun J57 => ?_) ?_
            · rcases Bool.eq_false_or_eq_true iz with g52 | g52
              · skip
                refine kl_gF rfl rfl g52 ?_
                refine kl_gF rfl rfl g52 ?_
                refine kl_gF rfl rfl g52 ?_
                refine kl_gF rfl rfl g52 ?_
                refine kl_gF rfl rfl g52 ?_
                refine kl_gF rfl rfl g52 ?_
                refine kl_gF rfl rfl g52 ?_
                refine kl_gF rfl rfl g52 ?_
                refine kl_orT (decide ((objVal z14 ((solL z9).getD k2 [])) = ((minimaxB z9 z14 z17).1))) rfl rfl g52 ?_
                exact J57 _ (pc 104 rfl (pc 2 rfl (pc 4 rfl (pc 6 rfl (pc 7 rfl (pc 12 rfl (pc 13 rfl (pc 14 rfl (pc 85 rfl (pc 86 rfl (pc 87 rfl (pc 88 rfl (pc 89 rfl (pc 91 rfl (pc 94 rfl (pc 95 rfl pn))))))))))))))))
              · skip
                have g52p := g52
                try simp only [Bool.not_eq_true', Bool.not_eq_false', decide_eq_true_eq, decide_eq_false_iff_not, Bool.and_eq_true, Bool.or_eq_false_iff, withinB_iff] at g52p
                refine kl_gT rfl rfl g52 ?_
                refine kl_mv rfl ?_
                refine kl_gT rfl rfl g52 ?_
                refine kl_mv rfl ?_
                refine kl_gT rfl rfl g52 ?_
                refine kl_mv rfl ?_
                refine kl_gT rfl rfl g52 ?_
                refine kl_inS rfl rfl (by assumption) (by omega) (fun p53 u55 h56 a54 => ?_)
                refine kl_gT rfl rfl g52 ?_
                refine kl_ld rfl (by assumption) ?_
                refine kl_gT rfl rfl g52 ?_
                refine kl_callP rfl rfl (objValI_ok z14 ((solL z9).getD k2 []) (by assumption) (by assumption)) ?_
                refine kl_gT rfl rfl g52 ?_
                refine kl_mv rfl ?_
                refine kl_gT rfl rfl g52 ?_
                refine kl_eql rfl rfl ?_
                refine kl_orF rfl rfl g52 ?_
                exact J57 _ (pc 104 rfl (pc 2 rfl (pc 4 rfl (pc 6 rfl (pc 7 rfl (pc 12 rfl (pc 13 rfl (pc 14 rfl (pc 85 rfl (pc 86 rfl (pc 87 rfl (pc 88 rfl (pc 89 rfl (pc 91 rfl (pc 94 rfl (pc 95 rfl pn))))))))))))))))
            refine kl_as rfl ?_
            refine kl_nil ?_
            refine kq_code ?_
            refine kc_region ?_
            refine kl_mv rfl ?_
            refine kl_inc rfl rfl (by omega) ?_
            refine kl_as rfl ?_
            refine kl_nil ?_
            refine kq_round0 ((k2 + 1), (iz || decide ((objVal z14 ((solL z9).getD k2 [])) = ((minimaxB z9 z14 z17).1)))) (by omega) (⟨by omega, (by rw [hi46]; exact att_step hk9)⟩) (pc 14 rfl (pc 13 rfl pn)) (pc 2 rfl (pc 4 rfl (pc 6 rfl (pc 7 rfl (pc 12 rfl pn))))) (List.Sublist.refl _)
          · skip
            have c51r := c51
            try simp only [Bool.not_eq_true', Bool.not_eq_false', Bool.not_true, Bool.not_false, decide_eq_true_eq, decide_eq_false_iff_not, Bool.and_eq_true, Bool.or_eq_false_iff] at c51
            refine kc_exit ?_
            refine kq_code ?_
            refine kc_seq ?_
            refine kc_region ?_
            refine kl_mv rfl ?_
            refine kl_not rfl ?_
            refine kl_mv rfl ?_
            refine kl_join 2 109 (.bool (!((minimaxB z9 z14 z17).2) || iz)) (pc 2 rfl (pc 107 rfl pn)) (fun J59 => ?_) ?_
            · rcases Bool.eq_false_or_eq_true (!((minimaxB z9 z14 z17).2)) with g58 | g58
              · skip
                refine kl_gF rfl rfl g58 ?_
                refine kl_orT iz rfl rfl g58 ?_
                exact J59 _ (pc 109 rfl (pc 2 rfl (pc 107 rfl pn)))
              · skip
                have g58p := g58
                try simp only [Bool.not_eq_true', Bool.not_eq_false', decide_eq_true_eq, decide_eq_false_iff_not, Bool.and_eq_true, Bool.or_eq_false_iff, withinB_iff] at g58p
                refine kl_gT rfl rfl g58 ?_
                refine kl_mv rfl ?_
                refine kl_orF rfl rfl g58 ?_
                exact J59 _ (pc 109 rfl (pc 2 rfl (pc 107 rfl pn)))
            refine kl_as rfl ?_
            refine kl_nil ?_
            refine kq_code ?_
            refine kc_ret ?_
            refine kq_retP rfl rfl (congrArg Value.bool ?_)
            first | rfl | (simp; done) | exact att_fin (by assumption) hi46
end Go.Proofs.YtigngogjgohfgaaGreat
