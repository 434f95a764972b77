/- Walks of functions of the program: each returns what the plain function gives. Conditions: those that each statement names. -/
import Derived.Test.YtooiagkfhhfojaaWdq
import Derived.Test.YtooiagkfhhfojaaWwin
import Derived.Test.YtooiagkfhhfojaaWswin
import Derived.Test.YtooiagkfhhfojaaPureN
import Derived.Test.YtooiagkfhhfojaaWdv
import Derived.Test.YtooiagkfhhfojaaWwd
namespace Go.Proofs.Ytooiagkfhhfojaa
open Go
set_option linter.unusedSimpArgs false
set_option linter.unusedVariables false
theorem lawFnWr_ok {Hcode : Hp} {vcode : Value} (code : List Int) (hcode : Bytes Hcode vcode code) : SpecP Try.prog 6 [vcode] [Hcode] (.bool true) := by
  refine spec_of Try.func6 rfl rfl rfl (fun B => ?_)
  refine kc_seq ?_
  refine kc_region ?_
  refine kl_as rfl ?_
  refine kl_nil ?_
  refine kq_code ?_
  refine kc_seq ?_
  refine kc_seq ?_
  refine kc_region ?_
  refine kl_mv rfl ?_
  refine kl_len rfl (by assumption) (fun l1 => ?_)
  refine kl_gtr rfl rfl ?_
  refine kl_nil ?_
  refine kq_code ?_
  refine kc_if rfl (fun c2 => ?_) (fun c2 => ?_)
  · skip
    refine kc_seq ?_
    refine kc_region ?_
    refine kl_as rfl ?_
    refine kl_nil ?_
    refine kq_code ?_
    refine kc_ret ?_
    refine kq_retP rfl rfl (congrArg Value.bool ?_)
    first | rfl | (rw [wval_eq]; simp; done)
  · skip
    refine kc_skipQ ?_
    refine kq_code ?_
    refine kc_seq ?_
    refine kc_region ?_
    refine kl_mv rfl ?_
    refine kl_call rfl rfl (drawWv_ok code hcode) (fun v3 H4 f5 h6 => ?_)
    obtain ⟨z9, z14, u10, u11, u15, rfl, h12, h13, h16, h8⟩ := h6
    have hd1 := h8.1.d1
    have hd4 := h8.1.d
    refine kl_mv rfl ?_
    refine kl_xt rfl rfl ?_
    refine kl_xt rfl rfl ?_
    refine kl_alloc (cs := [.slice none 0 0, .slice none 0 0]) rfl (fun b17 hb18 => ?_)
    refine kl_stW (us := [u10, u11]) rfl rfl rfl rfl (oc (Sl.oneCell (by assumption)) (oc (Sl.oneCell (by assumption)) oc_nil)) rfl ?_
    refine kl_chg [sing b17 (.cells [u10, u11].toArray 26 (0, 0))] rfl ?_
    refine kl_as rfl ?_
    refine kl_nil ?_
    refine kq_code ?_
    refine kc_seq ?_
    refine kc_region ?_
    refine kl_ldW rfl rfl ?_
    refine kl_mv rfl ?_
    refine kl_callP rfl rfl (iwv_ok z9 z14 (by assumption) (by assumption) (by assumption)) ?_
    refine kl_as rfl ?_
    refine kl_nil ?_
    refine kq_code ?_
    refine kc_seq ?_
    refine kc_seq ?_
    refine kc_region ?_
    refine kl_mv rfl ?_
    refine kl_ldW rfl rfl ?_
    refine kl_mv rfl ?_
    refine kl_callP rfl rfl (swv_ok z9 z14 (by assumption) (by assumption) (by assumption)) ?_
    refine kl_neq rfl rfl ?_
    refine kl_mv rfl ?_
    refine kl_join 4 29 (.bool (decide ((wvalI z9 z14) ≠ (wvalS z9 z14)) || !(validModB z9))) (pc 2 rfl (pc 3 rfl (pc 4 rfl (pc 5 rfl (pc 25 rfl pn))))) (fun J20 => ?_) ?_
    · rcases Bool.eq_false_or_eq_true (decide ((wvalI z9 z14) ≠ (wvalS z9 z14))) with g19 | g19
      · skip
        refine kl_gF rfl rfl g19 ?_
        refine kl_gF rfl rfl g19 ?_
        refine kl_gF rfl rfl g19 ?_
        refine kl_orT (!(validModB z9)) rfl rfl g19 ?_
        exact J20 _ (pc 29 rfl (pc 2 rfl (pc 3 rfl (pc 4 rfl (pc 5 rfl (pc 25 rfl pn))))))
      · skip
        have g19p := of_decide_eq_false g19
        refine kl_gT rfl rfl g19 ?_
        refine kl_ldW rfl rfl ?_
        refine kl_gT rfl rfl g19 ?_
        refine kl_callP rfl rfl (validMod_ok z9 (by assumption) (by assumption)) ?_
        refine kl_gT rfl rfl g19 ?_
        refine kl_not rfl ?_
        refine kl_orF rfl rfl g19 ?_
        exact J20 _ (pc 29 rfl (pc 2 rfl (pc 3 rfl (pc 4 rfl (pc 5 rfl (pc 25 rfl pn))))))
    refine kl_mv rfl ?_
    refine kl_join 7 37 (.bool ((decide ((wvalI z9 z14) ≠ (wvalS z9 z14)) || !(validModB z9)) || decide ((z14.length : Int) ≠ (z9.doms.length : Int)))) (pc 2 rfl (pc 3 rfl (pc 4 rfl (pc 5 rfl (pc 30 rfl pn))))) (fun J24 => ?_) ?_
    · rcases Bool.eq_false_or_eq_true (decide ((wvalI z9 z14) ≠ (wvalS z9 z14)) || !(validModB z9)) with g21 | g21
      · skip
        refine kl_gF rfl rfl g21 ?_
        refine kl_gF rfl rfl g21 ?_
        refine kl_gF rfl rfl g21 ?_
        refine kl_gF rfl rfl g21 ?_
        refine kl_gF rfl rfl g21 ?_
        refine kl_gF rfl rfl g21 ?_
        refine kl_orT (decide ((z14.length : Int) ≠ (z9.doms.length : Int))) rfl rfl g21 ?_
        exact J24 _ (pc 37 rfl (pc 2 rfl (pc 3 rfl (pc 4 rfl (pc 5 rfl (pc 30 rfl pn))))))
      · skip
        have g21p := g21
        try simp only [Bool.not_eq_true', Bool.not_eq_false', decide_eq_true_eq, decide_eq_false_iff_not, Bool.and_eq_true, Bool.or_eq_false_iff, withinB_iff] at g21p
        refine kl_gT rfl rfl g21 ?_
        refine kl_mv rfl ?_
        refine kl_gT rfl rfl g21 ?_
        refine kl_len rfl (by assumption) (fun l22 => ?_)
        refine kl_gT rfl rfl g21 ?_
        refine kl_fdV rfl ?_
        refine kl_gT rfl rfl g21 ?_
        refine kl_ldB rfl rfl ?_
        refine kl_gT rfl rfl g21 ?_
        refine kl_len rfl (by assumption) (fun l23 => ?_)
        refine kl_gT rfl rfl g21 ?_
        refine kl_neq rfl rfl ?_
        refine kl_orF rfl rfl g21 ?_
        exact J24 _ (pc 37 rfl (pc 2 rfl (pc 3 rfl (pc 4 rfl (pc 5 rfl (pc 30 rfl pn))))))
    refine kl_nil ?_
    refine kq_code ?_
    refine kc_cond rfl (fun c25 => ?_) (fun c25 => ?_)
    · skip
      have c25r := c25
      try simp only [Bool.not_eq_true', Bool.not_eq_false', Bool.not_true, Bool.not_false, decide_eq_true_eq, decide_eq_false_iff_not, Bool.and_eq_true, Bool.or_eq_false_iff] at c25
      refine kc_seq ?_
      refine kc_region ?_
      refine kl_mv rfl ?_
      refine kl_ldW rfl rfl ?_
      refine kl_mv rfl ?_
      refine kl_callP rfl rfl (swv_ok z9 z14 (by assumption) (by assumption) (by assumption)) ?_
      refine kl_eql rfl rfl ?_
      refine kl_as rfl ?_
      refine kl_nil ?_
      refine kq_code ?_
      refine kc_ret ?_
      refine kq_retP rfl rfl (congrArg Value.bool ?_)
      first | rfl | (rw [wval_eq]; simp; done)
    · skip
      have c25r := c25
      try simp only [Bool.not_eq_true', Bool.not_eq_false', Bool.not_true, Bool.not_false, decide_eq_true_eq, decide_eq_false_iff_not, Bool.and_eq_true, Bool.or_eq_false_iff] at c25
      have hg := grd3 c25r; have hf := fok_of hg.1 hg.2; have hg2 := hg.2
      refine kc_skipQ ?_
      refine kq_code ?_
      refine kc_seq ?_
      refine kc_region ?_
      refine kl_fdV rfl ?_
      refine kl_ldB rfl rfl ?_
      refine kl_inI (i := 0) rfl rfl (by assumption) (by first | omega | (simp; omega)) (fun p26 a27 => ?_)
      refine kl_ld rfl (by assumption) ?_
      refine kl_call rfl rfl (domainVals_ok (z9.doms.getD 0 0)) (fun v28 H29 f30 h31 => ?_)
      refine kl_as rfl ?_
      refine kl_nil ?_
      refine kq_code ?_
      refine kc_seq ?_
      refine kc_seq ?_
      refine kc_region ?_
      refine kl_as rfl ?_
      refine kl_nil ?_
      refine kq_code ?_
      refine kc_block ?_
      refine kc_loop0 (A := Nat) (fun zz => (zz ≤ (domVI (z9.doms.getD 0 0)).length)) (fun zz => (domVI (z9.doms.getD 0 0)).length - zz) (fun zz => [(7, .int .i64 (zz : Int))]) (0) (pc 3 rfl (pc 4 rfl (pc 5 rfl (pc 6 rfl pn)))) (pc 7 rfl pn) (Nat.zero_le _) ?_
      rintro k hJ34
      have hk32 : (k ≤ (domVI (z9.doms.getD 0 0)).length) := hJ34
      change KC _ _ (_) _ _ ([(7, .int .i64 (k : Int))] ++ _)
      refine kc_seq ?_
      refine kc_seq ?_
      refine kc_region ?_
      refine kl_mv rfl ?_
      refine kl_mv rfl ?_
      refine kl_len rfl (by assumption) (fun l35 => ?_)
      refine kl_lss rfl rfl ?_
      refine kl_nil ?_
      refine kq_code ?_
      refine kc_if rfl (fun c36 => ?_) (fun c36 => ?_)
      · skip
        have hv := domVI_at c36
        refine kc_skipQ ?_
        refine kq_code ?_
        refine kc_seq ?_
        refine kc_block ?_
        refine kc_seq ?_
        refine kc_region ?_
        refine kl_bsI [] rfl rfl rfl (by decide) (fun v37 H38 f39 o40 => ?_)
        refine kl_fdV rfl ?_
        refine kl_ldB rfl rfl ?_
        refine kl_apS rfl rfl o40 (by assumption) (fun _ _ h => h) (by (simp; omega)) (by decide) (fun v41 H42 o43 f44 => ?_)
        have f45 := f44 B f39 (Nat.le_refl _)
        refine kl_as rfl ?_
        refine kl_nil ?_
        refine kq_code ?_
        refine kc_seq ?_
        refine kc_region ?_
        refine kl_mv rfl ?_
        refine kl_mv rfl ?_
        refine kl_mv rfl ?_
        refine kl_inI rfl rfl (by assumption) (by first | omega | (simp; omega)) (fun p46 a47 => ?_)
        refine kl_ld rfl (by assumption) ?_
        refine kl_shl rfl rfl (by omega) ?_
        refine kl_ixLn (i := 0) rfl rfl (by assumption) (by first | omega | (simp; omega)) (fun p48 q49 => ?_)
        refine kl_stL (ishl (1 : Int) ((domVI (z9.doms.getD 0 0)).getD k 0)) rfl rfl (by assumption) o43 (by first | omega | (simp; omega)) rfl rfl rfl (fun H50 o51 f52 => ?_)
        have f53 := f52 _ f45
        refine kl_chg [H50, sing b17 (.cells [u10, u11].toArray 26 (0, 0))] rfl ?_
        refine kl_nil ?_
        refine kq_code ?_
        refine kc_seq ?_
        refine kc_tree (fun i => ([10] : List Nat).contains i) [sing b17 (.cells [u10, u11].toArray 26 (0, 0))] (by kernel_rfl) ?_
        refine kt_q 0 (.cons _ (.cons_cons _ (List.nil_sublist _))) rfl (by kernel_rfl) ?_
        refine kl_ldS rfl (at_box (T := 26) (cs := [u10, u11]) (off := 0) (fz := (0, 0))) rfl ?_
        refine kl_nil (kq_q ?_)
        refine kt_q 1 (.cons _ (.cons_cons _ (List.nil_sublist _))) rfl (by kernel_rfl) ?_
        refine kl_mv rfl ?_
        refine kl_nil (kq_q ?_)
        refine kt_q 3 (.cons _ (.cons_cons _ (List.nil_sublist _))) rfl (by kernel_rfl) ?_
        refine kl_mv rfl ?_
        refine kl_nil (kq_q ?_)
        refine kt_q 5 (.cons _ (.cons_cons _ (List.nil_sublist _))) rfl (by kernel_rfl) ?_
        refine kl_mv rfl ?_
        refine kl_nil (kq_q ?_)
        refine kt_q 6 (.cons _ (.cons_cons _ (List.nil_sublist _))) rfl (by kernel_rfl) ?_
        refine kl_mv rfl ?_
        refine kl_nil (kq_q ?_)
        refine kt_q 7 (.cons _ (.cons_cons _ (List.nil_sublist _))) rfl (by kernel_rfl) ?_
        refine kl_mv rfl ?_
        refine kl_nil (kq_q ?_)
        refine kt_q 8 (.cons _ (.cons_cons _ (List.nil_sublist _))) rfl (by kernel_rfl) ?_
        refine kl_inI rfl rfl (by assumption) (by first | omega | (simp; omega)) (fun p54 a55 => ?_)
        refine kl_nil (kq_q ?_)
        refine kt_q 9 (.cons _ (.cons_cons _ (List.nil_sublist _))) rfl (by kernel_rfl) ?_
        refine kl_ld rfl (by assumption) ?_
        refine kl_nil (kq_q ?_)
        refine kt_a 2 rfl (by kernel_rfl) ?_
        refine kl_call rfl rfl (withDomains_ok z9 (([] ++ z9.doms).set 0 (ishl (1 : Int) ((domVI (z9.doms.getD 0 0)).getD k 0))) (by simp; omega) (by assumption) (by assumption) (OwnL.ints o51)) (fun v56 H57 f58 h59 => ?_)
        obtain ⟨u60, rfl, h61⟩ := h59
        refine kl_nil (kq_a (.cons _ (.cons_cons _ (List.nil_sublist _))) ?_)
        refine kt_a 4 rfl (by kernel_rfl) ?_
        refine kl_callP rfl rfl (iqt_ok ⟨(([] ++ z9.doms).set 0 (ishl (1 : Int) ((domVI (z9.doms.getD 0 0)).getD k 0))), z9.cons⟩ z14 (by assumption) (by assumption) (by assumption)) ?_
        refine kl_nil (kq_a (.cons _ (.cons_cons _ (List.nil_sublist _))) ?_)
        refine kt_a 10 rfl (by kernel_rfl) ?_
        refine kl_callP rfl rfl (domainHasI_ok (wvalI z9 z14) ((domVI (z9.doms.getD 0 0)).getD k 0)) ?_
        refine kl_nil (kq_x rfl ?_)
        refine kt_q 11 (.cons _ (.cons_cons _ (List.nil_sublist _))) rfl (by kernel_rfl) ?_
        refine kl_bne rfl rfl ?_
        refine kl_nil (kq_q ?_)
        refine kt_end (by kernel_rfl) ?_
        refine kq_code ?_
        refine kc_cond rfl (fun c62 => ?_) (fun c62 => ?_)
        · skip
          have c62r := c62
          try simp only [Bool.not_eq_true', Bool.not_eq_false', Bool.not_true, Bool.not_false, decide_eq_true_eq, decide_eq_false_iff_not, Bool.and_eq_true, Bool.or_eq_false_iff] at c62
          exfalso; rw [wr_law hf (by omega) rfl (by rfl)] at c62r; cases c62r
        · skip
          have c62r := c62
          try simp only [Bool.not_eq_true', Bool.not_eq_false', Bool.not_true, Bool.not_false, decide_eq_true_eq, decide_eq_false_iff_not, Bool.and_eq_true, Bool.or_eq_false_iff] at c62
          refine kc_skipQ ?_
          refine kq_code ?_
          refine kc_region ?_
          refine kl_mv rfl ?_
          refine kl_inc rfl rfl (by omega) ?_
          refine kl_as rfl ?_
          refine kl_nil ?_
          refine kq_round0 ((k + 1)) (by omega) (by omega) (pc 7 rfl pn) (pc 3 rfl (pc 4 rfl (pc 5 rfl (pc 6 rfl pn)))) (.cons _ (List.Sublist.refl _))
      · skip
        refine kc_exit ?_
        refine kq_code ?_
        refine kc_seq ?_
        refine kc_region ?_
        refine kl_as rfl ?_
        refine kl_nil ?_
        refine kq_code ?_
        refine kc_ret ?_
        refine kq_retP rfl rfl (congrArg Value.bool ?_)
        first | rfl | (rw [wval_eq]; simp; done)
end Go.Proofs.Ytooiagkfhhfojaa
