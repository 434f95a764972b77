/- Walks of functions of the program: each returns what the plain function gives. Conditions: those that each statement names. -/
import Derived.Test.YtigngogjgohfgaaWdmd
import Derived.Test.YtigngogjgohfgaaWmed
import Derived.Test.YtigngogjgohfgaaWsa
import Derived.Test.YtigngogjgohfgaaWcnt
import Derived.Test.YtigngogjgohfgaaWfl
namespace Go.Proofs.Ytigngogjgohfgaa
open Go
set_option linter.unusedSimpArgs false
set_option linter.unusedVariables false
theorem lawFnMed_ok {Hcode : Hp} {vcode : Value} (code : List Int) (hcode : Bytes Hcode vcode code) : SpecP Try.prog 6 [vcode] [Hcode] (.bool true) := by
  refine spec_of Try.func6 rfl rfl rfl (fun B => ?_)
  refine kc_seq ?_
  refine kc_region ?_
  refine kl_as rfl ?_
  refine kl_nil ?_
  refine kq_code ?_
  refine kc_seq ?_
  refine kc_seq ?_
  refine kc_region ?_
  refine kl_mv rfl ?_
  refine kl_len rfl (by assumption) (fun l1 => ?_)
  refine kl_gtr rfl rfl ?_
  refine kl_nil ?_
  refine kq_code ?_
  refine kc_if rfl (fun c2 => ?_) (fun c2 => ?_)
  · skip
    refine kc_seq ?_
    refine kc_region ?_
    refine kl_as rfl ?_
    refine kl_nil ?_
    refine kq_code ?_
    refine kc_ret ?_
    refine kq_retP rfl rfl (congrArg Value.bool ?_)
    first | rfl | (simp; done) | exact med_isSol (by assumption)
  · skip
    refine kc_skipQ ?_
    refine kq_code ?_
    refine kc_seq ?_
    refine kc_region ?_
    refine kl_mv rfl ?_
    refine kl_call rfl rfl (drawMed_ok code hcode) (fun v3 H4 f5 h6 => ?_)
    obtain ⟨z7, ⟨u9, u10, rfl, h11, h12⟩, h8⟩ := h6
    have hd1 := h8.d1
    have hd4 := h8.d
    refine kl_alloc (cs := [.slice none 0 0, .slice none 0 0]) rfl (fun b13 hb14 => ?_)
    refine kl_stW (us := [u9, u10]) rfl rfl rfl rfl (oc (Sl.oneCell (by assumption)) (oc (Sl.oneCell (by assumption)) oc_nil)) rfl ?_
    refine kl_chg [sing b13 (.cells [u9, u10].toArray 26 (0, 0))] rfl ?_
    refine kl_nil ?_
    refine kq_code ?_
    refine kc_seq ?_
    refine kc_region ?_
    refine kl_ldW rfl rfl ?_
    refine kl_call rfl rfl (medI_ok z7 (by assumption) (by assumption)) (fun v15 H16 f17 h18 => ?_)
    obtain ⟨u19, rfl, h20⟩ := h18
    refine kl_mv rfl ?_
    refine kl_xt rfl rfl ?_
    refine kl_xt rfl rfl ?_
    refine kl_as rfl ?_
    refine kl_as rfl ?_
    refine kl_nil ?_
    refine kq_code ?_
    refine kc_seq ?_
    refine kc_region ?_
    refine kl_ldW rfl rfl ?_
    refine kl_call rfl rfl (medS_ok z7 (by assumption) (by assumption)) (fun v21 H22 f23 h24 => ?_)
    obtain ⟨u25, rfl, h26⟩ := h24
    refine kl_mv rfl ?_
    refine kl_xt rfl rfl ?_
    refine kl_xt rfl rfl ?_
    refine kl_as rfl ?_
    refine kl_as rfl ?_
    refine kl_nil ?_
    refine kq_code ?_
    refine kc_seq ?_
    refine kc_seq ?_
    refine kc_region ?_
    refine kl_mv rfl ?_
    refine kl_mv rfl ?_
    refine kl_bne rfl rfl ?_
    refine kl_mv rfl ?_
    refine kl_join 5 35 (.bool ((((medL z7).2) != ((medL z7).2)) || !(decide (((medL z7).1) = ((medL z7).1))))) (pc 2 rfl (pc 3 rfl (pc 4 rfl (pc 5 rfl (pc 6 rfl (pc 7 rfl (pc 30 rfl pn))))))) (fun J28 => ?_) ?_
    · rcases Bool.eq_false_or_eq_true (((medL z7).2) != ((medL z7).2)) with g27 | g27
      · skip
        refine kl_gF rfl rfl g27 ?_
        refine kl_gF rfl rfl g27 ?_
        refine kl_gF rfl rfl g27 ?_
        refine kl_gF rfl rfl g27 ?_
        refine kl_orT (!(decide (((medL z7).1) = ((medL z7).1)))) rfl rfl g27 ?_
        exact J28 _ (pc 35 rfl (pc 2 rfl (pc 3 rfl (pc 4 rfl (pc 5 rfl (pc 6 rfl (pc 7 rfl (pc 30 rfl pn))))))))
      · skip
        have g27p := g27
        try simp only [Bool.not_eq_true', Bool.not_eq_false', decide_eq_true_eq, decide_eq_false_iff_not, Bool.and_eq_true, Bool.or_eq_false_iff, withinB_iff] at g27p
        refine kl_gT rfl rfl g27 ?_
        refine kl_mv rfl ?_
        refine kl_gT rfl rfl g27 ?_
        refine kl_mv rfl ?_
        refine kl_gT rfl rfl g27 ?_
        refine kl_callP rfl rfl (equalInts_ok ((medL z7).1) ((medL z7).1) (by assumption) (by assumption)) ?_
        refine kl_gT rfl rfl g27 ?_
        refine kl_not rfl ?_
        refine kl_orF rfl rfl g27 ?_
        exact J28 _ (pc 35 rfl (pc 2 rfl (pc 3 rfl (pc 4 rfl (pc 5 rfl (pc 6 rfl (pc 7 rfl (pc 30 rfl pn))))))))
    refine kl_mv rfl ?_
    refine kl_join 3 39 (.bool (((((medL z7).2) != ((medL z7).2)) || !(decide (((medL z7).1) = ((medL z7).1)))) || !((medL z7).2))) (pc 2 rfl (pc 3 rfl (pc 4 rfl (pc 5 rfl (pc 6 rfl (pc 7 rfl (pc 36 rfl pn))))))) (fun J30 => ?_) ?_
    · rcases Bool.eq_false_or_eq_true ((((medL z7).2) != ((medL z7).2)) || !(decide (((medL z7).1) = ((medL z7).1)))) with g29 | g29
      · skip
        refine kl_gF rfl rfl g29 ?_
        refine kl_gF rfl rfl g29 ?_
        refine kl_orT (!((medL z7).2)) rfl rfl g29 ?_
        exact J30 _ (pc 39 rfl (pc 2 rfl (pc 3 rfl (pc 4 rfl (pc 5 rfl (pc 6 rfl (pc 7 rfl (pc 36 rfl pn))))))))
      · skip
        have g29p := g29
        try simp only [Bool.not_eq_true', Bool.not_eq_false', decide_eq_true_eq, decide_eq_false_iff_not, Bool.and_eq_true, Bool.or_eq_false_iff, withinB_iff] at g29p
        refine kl_gT rfl rfl g29 ?_
        refine kl_mv rfl ?_
        refine kl_gT rfl rfl g29 ?_
        refine kl_not rfl ?_
        refine kl_orF rfl rfl g29 ?_
        exact J30 _ (pc 39 rfl (pc 2 rfl (pc 3 rfl (pc 4 rfl (pc 5 rfl (pc 6 rfl (pc 7 rfl (pc 36 rfl pn))))))))
    refine kl_nil ?_
    refine kq_code ?_
    refine kc_cond rfl (fun c31 => ?_) (fun c31 => ?_)
    · skip
      have c31r := c31
      try simp only [Bool.not_eq_true', Bool.not_eq_false', Bool.not_true, Bool.not_false, decide_eq_true_eq, decide_eq_false_iff_not, Bool.and_eq_true, Bool.or_eq_false_iff] at c31
      refine kc_seq ?_
      refine kc_region ?_
      refine kl_mv rfl ?_
      refine kl_mv rfl ?_
      refine kl_beq rfl rfl ?_
      refine kl_mv rfl ?_
      refine kl_join 4 47 (.bool ((((medL z7).2) == ((medL z7).2)) && (decide (((medL z7).1) = ((medL z7).1))))) (pc 2 rfl (pc 3 rfl (pc 4 rfl (pc 43 rfl pn)))) (fun J33 => ?_) ?_
      · rcases Bool.eq_false_or_eq_true (((medL z7).2) == ((medL z7).2)) with g32 | g32
        · skip
          have g32p := g32
          try simp only [Bool.not_eq_true', Bool.not_eq_false', decide_eq_true_eq, decide_eq_false_iff_not, Bool.and_eq_true, Bool.or_eq_false_iff, withinB_iff] at g32p
          refine kl_gT rfl rfl g32 ?_
          refine kl_mv rfl ?_
          refine kl_gT rfl rfl g32 ?_
          refine kl_mv rfl ?_
          refine kl_gT rfl rfl g32 ?_
          refine kl_callP rfl rfl (equalInts_ok ((medL z7).1) ((medL z7).1) (by assumption) (by assumption)) ?_
          refine kl_andT rfl rfl g32 ?_
          exact J33 _ (pc 47 rfl (pc 2 rfl (pc 3 rfl (pc 4 rfl (pc 43 rfl pn)))))
        · skip
          refine kl_gF rfl rfl g32 ?_
          refine kl_gF rfl rfl g32 ?_
          refine kl_gF rfl rfl g32 ?_
          refine kl_andF (decide (((medL z7).1) = ((medL z7).1))) rfl rfl g32 ?_
          exact J33 _ (pc 47 rfl (pc 2 rfl (pc 3 rfl (pc 4 rfl (pc 43 rfl pn)))))
      refine kl_as rfl ?_
      refine kl_nil ?_
      refine kq_code ?_
      refine kc_ret ?_
      refine kq_retP rfl rfl (congrArg Value.bool ?_)
      first | rfl | (simp; done) | exact med_isSol (by assumption)
    · skip
      have c31r := c31
      try simp only [Bool.not_eq_true', Bool.not_eq_false', Bool.not_true, Bool.not_false, decide_eq_true_eq, decide_eq_false_iff_not, Bool.and_eq_true, Bool.or_eq_false_iff] at c31
      have hme := med_g c31r
      have hM := medL_ok hme
      have hn := hM.n
      have hl0 := sols_len (med_in hme).1
      refine kc_skipQ ?_
      refine kq_code ?_
      refine kc_seq ?_
      refine kc_region ?_
      refine kl_ldW rfl rfl ?_
      refine kl_call rfl rfl (solveAll_ok z7 (by assumption) (by assumption)) (fun v34 H35 f36 h37 => ?_)
      refine kl_as rfl ?_
      refine kl_nil ?_
      refine kq_code ?_
      refine kc_seq ?_
      refine kc_seq ?_
      refine kc_region ?_
      refine kl_as rfl ?_
      refine kl_nil ?_
      refine kq_code ?_
      refine kc_block ?_
      refine kc_loop0 (A := Nat) (fun zz => (zz ≤ (solL z7).length)) (fun zz => (solL z7).length - zz) (fun zz => [(9, .int .i64 (zz : Int))]) (0) (pc 3 rfl (pc 4 rfl (pc 8 rfl pn))) (pc 9 rfl pn) (Nat.zero_le _) ?_
      rintro k hJ40
      have hk38 : (k ≤ (solL z7).length) := hJ40
      change KC _ _ (_) _ _ ([(9, .int .i64 (k : Int))] ++ _)
      refine kc_seq ?_
      refine kc_seq ?_
      refine kc_region ?_
      refine kl_mv rfl ?_
      refine kl_mv rfl ?_
      refine kl_len rfl (by assumption) (fun l41 => ?_)
      refine kl_lss rfl rfl ?_
      refine kl_mv rfl ?_
      refine kl_join 4 58 (.bool (decide ((k : Int) < ((solL z7).length : Int)) && decide ((cntI z7) ≤ (20 : Int)))) (pc 3 rfl (pc 4 rfl (pc 8 rfl (pc 9 rfl (pc 50 rfl (pc 51 rfl (pc 52 rfl (pc 53 rfl (pc 54 rfl pn))))))))) (fun J43 => ?_) ?_
      · rcases Bool.eq_false_or_eq_true (decide ((k : Int) < ((solL z7).length : Int))) with g42 | g42
        · skip
          have g42p := of_decide_eq_true g42
          refine kl_gT rfl rfl g42 ?_
          refine kl_ldW rfl rfl ?_
          refine kl_gT rfl rfl g42 ?_
          refine kl_callP rfl rfl (countSols_ok z7 (by assumption) (by assumption)) ?_
          refine kl_gT rfl rfl g42 ?_
          refine kl_leq rfl rfl ?_
          refine kl_andT rfl rfl g42 ?_
          exact J43 _ (pc 58 rfl (pc 3 rfl (pc 4 rfl (pc 8 rfl (pc 9 rfl (pc 50 rfl (pc 51 rfl (pc 52 rfl (pc 53 rfl (pc 54 rfl pn))))))))))
        · skip
          refine kl_gF rfl rfl g42 ?_
          refine kl_gF rfl rfl g42 ?_
          refine kl_gF rfl rfl g42 ?_
          refine kl_andF (decide ((cntI z7) ≤ (20 : Int))) rfl rfl g42 ?_
          exact J43 _ (pc 58 rfl (pc 3 rfl (pc 4 rfl (pc 8 rfl (pc 9 rfl (pc 50 rfl (pc 51 rfl (pc 52 rfl (pc 53 rfl (pc 54 rfl pn))))))))))
      refine kl_nil ?_
      refine kq_code ?_
      refine kc_cond rfl (fun c44 => ?_) (fun c44 => ?_)
      · skip
        have c44r := c44
        try simp only [Bool.not_eq_true', Bool.not_eq_false', Bool.not_true, Bool.not_false, decide_eq_true_eq, decide_eq_false_iff_not, Bool.and_eq_true, Bool.or_eq_false_iff] at c44
        have hk9 := med_c c44r
        have hl1 := sol_len (Int.ofNat_lt.2 hk9.1)
        refine kc_skipQ ?_
        refine kq_code ?_
        refine kc_seq ?_
        refine kc_block ?_
        refine kc_seq ?_
        refine kc_region ?_
        refine kl_as rfl ?_
        refine kl_nil ?_
        refine kq_code ?_
        refine kc_seq ?_
        refine kc_seq ?_
        refine kc_region ?_
        refine kl_as rfl ?_
        refine kl_nil ?_
        refine kq_code ?_
        refine kc_block ?_
        refine kc_loop0 (A := Nat × Int) (fun zz => (zz.1 ≤ (solL z7).length) ∧ (zz.2 = sumI (fun y => distI (((solL z7)).getD k []) y) (((solL z7)).take zz.1) - sumI (fun y => distI ((medL z7).1) y) (((solL z7)).take zz.1))) (fun zz => (solL z7).length - zz.1) (fun zz => [(11, .int .i64 (zz.1 : Int)), (10, .int .i64 zz.2)]) (0, (0 : Int)) (pc 3 rfl (pc 4 rfl (pc 8 rfl (pc 9 rfl (pc 50 rfl (pc 51 rfl (pc 52 rfl (pc 53 rfl (pc 54 rfl (pc 58 rfl pn)))))))))) (pc 11 rfl (pc 10 rfl pn)) ⟨Nat.zero_le _, rfl⟩ ?_
        rintro ⟨k2, g⟩ hJ47
        obtain ⟨hk45, hi46⟩ : (k2 ≤ (solL z7).length) ∧ (g = sumI (fun y => distI (((solL z7)).getD k []) y) (((solL z7)).take k2) - sumI (fun y => distI ((medL z7).1) y) (((solL z7)).take k2)) := hJ47
        change KC _ _ (_) _ _ ([(11, .int .i64 (k2 : Int)), (10, .int .i64 g)] ++ _)
        refine kc_seq ?_
        refine kc_seq ?_
        refine kc_region ?_
        refine kl_mv rfl ?_
        refine kl_mv rfl ?_
        refine kl_len rfl (by assumption) (fun l48 => ?_)
        refine kl_lss rfl rfl ?_
        refine kl_nil ?_
        refine kq_code ?_
        refine kc_if rfl (fun c49 => ?_) (fun c49 => ?_)
        · skip
          have hl2 := sol_len c49
          have hgi := gain_in hme hk9.1 c49 hi46
          refine kc_skipQ ?_
          refine kq_code ?_
          refine kc_seq ?_
          refine kc_block ?_
          refine kc_tree (fun i => ([] : List Nat).contains i) [] (by kernel_rfl) ?_
          refine kt_q 0 (List.nil_sublist _) rfl (by kernel_rfl) ?_
          refine kl_mv rfl ?_
          refine kl_nil (kq_q ?_)
          refine kt_q 1 (List.nil_sublist _) rfl (by kernel_rfl) ?_
          refine kl_mv rfl ?_
          refine kl_nil (kq_q ?_)
          refine kt_q 2 (List.nil_sublist _) rfl (by kernel_rfl) ?_
          refine kl_mv rfl ?_
          refine kl_nil (kq_q ?_)
          refine kt_q 3 (List.nil_sublist _) rfl (by kernel_rfl) ?_
          refine kl_inS rfl rfl (by assumption) (by omega) (fun p50 u52 h53 a51 => ?_)
          refine kl_nil (kq_q ?_)
          refine kt_q 4 (List.nil_sublist _) rfl (by kernel_rfl) ?_
          refine kl_ld rfl (by assumption) ?_
          refine kl_nil (kq_q ?_)
          refine kt_q 5 (List.nil_sublist _) rfl (by kernel_rfl) ?_
          refine kl_mv rfl ?_
          refine kl_nil (kq_q ?_)
          refine kt_q 6 (List.nil_sublist _) rfl (by kernel_rfl) ?_
          refine kl_mv rfl ?_
          refine kl_nil (kq_q ?_)
          refine kt_q 7 (List.nil_sublist _) rfl (by kernel_rfl) ?_
          refine kl_inS rfl rfl (by assumption) (by omega) (fun p54 u56 h57 a55 => ?_)
          refine kl_nil (kq_q ?_)
          refine kt_q 8 (List.nil_sublist _) rfl (by kernel_rfl) ?_
          refine kl_ld rfl (by assumption) ?_
          refine kl_nil (kq_q ?_)
          refine kt_q 11 (List.nil_sublist _) rfl (by kernel_rfl) ?_
          refine kl_mv rfl ?_
          refine kl_nil (kq_q ?_)
          refine kt_q 12 (List.nil_sublist _) rfl (by kernel_rfl) ?_
          refine kl_mv rfl ?_
          refine kl_nil (kq_q ?_)
          refine kt_q 13 (List.nil_sublist _) rfl (by kernel_rfl) ?_
          refine kl_mv rfl ?_
          refine kl_nil (kq_q ?_)
          refine kt_q 14 (List.nil_sublist _) rfl (by kernel_rfl) ?_
          refine kl_inS rfl rfl (by assumption) (by omega) (fun p58 u60 h61 a59 => ?_)
          refine kl_nil (kq_q ?_)
          refine kt_q 15 (List.nil_sublist _) rfl (by kernel_rfl) ?_
          refine kl_ld rfl (by assumption) ?_
          refine kl_nil (kq_q ?_)
          refine kt_a 9 rfl (by kernel_rfl) ?_
          refine kl_callP rfl rfl (dist_ok ((solL z7).getD k []) ((solL z7).getD k2 []) (by omega) (by omega) (by assumption) (by assumption)) ?_
          refine kl_nil (kq_a (List.nil_sublist _) ?_)
          refine kt_q 10 (List.nil_sublist _) rfl (by kernel_rfl) ?_
          refine kl_add rfl rfl (by omega) ?_
          refine kl_nil (kq_q ?_)
          refine kt_a 16 rfl (by kernel_rfl) ?_
          refine kl_callP rfl rfl (dist_ok ((medL z7).1) ((solL z7).getD k2 []) (by omega) (by omega) (by assumption) (by assumption)) ?_
          refine kl_nil (kq_a (List.nil_sublist _) ?_)
          refine kt_q 17 (List.nil_sublist _) rfl (by kernel_rfl) ?_
          refine kl_sub rfl rfl (by omega) ?_
          refine kl_nil (kq_q ?_)
          refine kt_q 18 (List.nil_sublist _) rfl (by kernel_rfl) ?_
          refine kl_as rfl ?_
          refine kl_nil (kq_q ?_)
          refine kt_end (by kernel_rfl) ?_
          refine kq_code ?_
          refine kc_region ?_
          refine kl_mv rfl ?_
          refine kl_inc rfl rfl (by omega) ?_
          refine kl_as rfl ?_
          refine kl_nil ?_
          refine kq_round0 ((k2 + 1), ((g + (distI ((solL z7).getD k []) ((solL z7).getD k2 []))) - (distI ((medL z7).1) ((solL z7).getD k2 [])))) (by omega) (⟨by omega, (gain_step (by omega) hi46)⟩) (pc 11 rfl (pc 10 rfl pn)) (pc 3 rfl (pc 4 rfl (pc 8 rfl (pc 9 rfl (pc 50 rfl (pc 51 rfl (pc 52 rfl (pc 53 rfl (pc 54 rfl (pc 58 rfl pn)))))))))) (List.Sublist.refl _)
        · skip
          refine kc_exit ?_
          refine kq_code ?_
          refine kc_seq ?_
          refine kc_region ?_
          refine kl_mv rfl ?_
          refine kl_lss rfl rfl ?_
          refine kl_nil ?_
          refine kq_code ?_
          refine kc_if rfl (fun c62 => ?_) (fun c62 => ?_)
          · skip
            exact absurd c62 (med_gain hme hk9.1 hk9.2 (by omega) hi46)
          · skip
            refine kc_skipQ ?_
            refine kq_code ?_
            refine kc_region ?_
            refine kl_mv rfl ?_
            refine kl_inc rfl rfl (by omega) ?_
            refine kl_as rfl ?_
            refine kl_nil ?_
            refine kq_round0 ((k + 1)) (by omega) (by omega) (pc 9 rfl pn) (pc 3 rfl (pc 4 rfl (pc 8 rfl pn))) (List.Sublist.refl _)
      · skip
        have c44r := c44
        try simp only [Bool.not_eq_true', Bool.not_eq_false', Bool.not_true, Bool.not_false, decide_eq_true_eq, decide_eq_false_iff_not, Bool.and_eq_true, Bool.or_eq_false_iff] at c44
        refine kc_exit ?_
        refine kq_code ?_
        refine kc_seq ?_
        refine kc_region ?_
        refine kl_ldW rfl rfl ?_
        refine kl_mv rfl ?_
        refine kl_callP rfl rfl (isSolI_ok z7 ((medL z7).1) (by assumption) (by assumption) (by assumption)) ?_
        refine kl_as rfl ?_
        refine kl_nil ?_
        refine kq_code ?_
        refine kc_ret ?_
        refine kq_retP rfl rfl (congrArg Value.bool ?_)
        first | rfl | (simp; done) | exact med_isSol (by assumption)
end Go.Proofs.Ytigngogjgohfgaa
