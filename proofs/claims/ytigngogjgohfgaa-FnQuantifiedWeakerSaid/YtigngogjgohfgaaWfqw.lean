/- Walks of functions of the program: each returns what the plain function gives. Conditions: those that each statement names. -/
import Derived.Test.YtigngogjgohfgaaWwo
import Derived.Test.YtigngogjgohfgaaWdq
import Derived.Test.YtigngogjgohfgaaWwin
import Derived.Test.YtigngogjgohfgaaWswin
import Derived.Test.YtigngogjgohfgaaWfl
namespace Go.Proofs.Ytigngogjgohfgaa
open Go
set_option linter.unusedSimpArgs false
set_option linter.unusedVariables false
theorem lawFnQw_ok {Hcode : Hp} {vcode : Value} (code : List Int) (hcode : Bytes Hcode vcode code) : SpecP Try.prog 10 [vcode] [Hcode] (.bool true) := by
 refine spec_of Try.func10 rfl rfl rfl (fun B => ?_)
 refine kc_seq (kc_region ?_)
 refine kl_as rfl ?_
 refine kl_nil (kq_code ?_)
 refine kc_seq ?_
 refine kc_seq (kc_region ?_)
 refine kl_mv rfl ?_
 refine kl_len rfl (by assumption) (fun l1 => ?_)
 refine kl_gtr rfl rfl ?_
 refine kl_nil (kq_code ?_)
 refine kc_if rfl (fun c2 => ?_) (fun c2 => ?_)
 ·skip
  refine kc_seq (kc_region ?_)
  refine kl_as rfl ?_
  refine kl_nil (kq_code ?_)
  refine kc_ret ?_
  refine kq_retP rfl rfl (congrArg Value.bool ?_)
  first | rfl | (simp; done) | exact qw_fin hq hwo
 ·skip
  refine kc_skipQ ?_
  refine kq_code ?_
  refine kc_seq (kc_region ?_)
  refine kl_mv rfl ?_
  refine kl_call rfl rfl (drawQt_ok code hcode) (fun v3 H4 f5 h6 => ?_)
  obtain ⟨z9, z14, u10, u11, u15, rfl, h12, h13, h16, h8⟩ := h6
  have hd1 := h8.1.d1
  have hd4 := h8.1.d
  have hsm := h8.1
  have hfl := h8.2
  refine kl_mv rfl ?_
  refine kl_xt rfl rfl ?_
  refine kl_xt rfl rfl ?_
  refine kl_alloc (cs := [.slice none 0 0, .slice none 0 0]) rfl (fun b17 hb18 => ?_)
  refine kl_stW (us := [u10, u11]) rfl rfl rfl rfl (oc (Sl.oneCell (by assumption)) (oc (Sl.oneCell (by assumption)) oc_nil)) rfl ?_
  refine kl_chg [sing b17 (.cells [u10, u11].toArray 26 (0, 0))] rfl ?_
  refine kl_as rfl ?_
  refine kl_nil (kq_code (kc_seq (kc_region ?_)))
  refine kl_ldW rfl rfl ?_
  refine kl_mv rfl ?_
  refine kl_callP rfl rfl (iqt_ok z9 z14 (by assumption) (by assumption) (by assumption)) ?_
  refine kl_as rfl ?_
  refine kl_nil (kq_code ?_)
  refine kc_seq ?_
  refine kc_seq (kc_region ?_)
  refine kl_mv rfl ?_
  refine kl_ldW rfl rfl ?_
  refine kl_mv rfl ?_
  refine kl_callP rfl rfl (siqt_ok z9 z14 (by assumption) (by assumption) (by assumption)) ?_
  refine kl_bne rfl rfl ?_
  refine kl_mv rfl ?_
  refine kl_join 3 30 (.bool (((qtrueB z9 z14) != (qtrueB z9 z14)) || !(qtrueB z9 z14))) (pc 2 rfl (pc 3 rfl (pc 4 rfl (pc 5 rfl (pc 27 rfl pn))))) (fun J20 => ?_) ?_
  ·rcases Bool.eq_false_or_eq_true ((qtrueB z9 z14) != (qtrueB z9 z14)) with g19 | g19
   ·skip
    refine kl_gF rfl rfl g19 ?_
    refine kl_gF rfl rfl g19 ?_
    refine kl_orT (!(qtrueB z9 z14)) rfl rfl g19 ?_
    exact J20 _ (pc 30 rfl (pc 2 rfl (pc 3 rfl (pc 4 rfl (pc 5 rfl (pc 27 rfl pn))))))
   ·skip
    have g19p := g19
    try simp only [Bool.not_eq_true', Bool.not_eq_false', decide_eq_true_eq, decide_eq_false_iff_not, Bool.and_eq_true, Bool.or_eq_false_iff, withinB_iff] at g19p
    refine kl_gT rfl rfl g19 ?_
    refine kl_mv rfl ?_
    refine kl_gT rfl rfl g19 ?_
    refine kl_not rfl ?_
    refine kl_orF rfl rfl g19 ?_
    exact J20 _ (pc 30 rfl (pc 2 rfl (pc 3 rfl (pc 4 rfl (pc 5 rfl (pc 27 rfl pn))))))
  refine kl_nil (kq_code ?_)
  refine kc_cond rfl (fun c21 => ?_) (fun c21 => ?_)
  ·skip
   have c21r := c21
   try simp only [Bool.not_eq_true', Bool.not_eq_false', Bool.not_true, Bool.not_false, decide_eq_true_eq, decide_eq_false_iff_not, Bool.and_eq_true, Bool.or_eq_false_iff] at c21
   refine kc_seq (kc_region ?_)
   refine kl_mv rfl ?_
   refine kl_ldW rfl rfl ?_
   refine kl_mv rfl ?_
   refine kl_callP rfl rfl (siqt_ok z9 z14 (by assumption) (by assumption) (by assumption)) ?_
   refine kl_beq rfl rfl ?_
   refine kl_as rfl ?_
   refine kl_nil (kq_code ?_)
   refine kc_ret ?_
   refine kq_retP rfl rfl (congrArg Value.bool ?_)
   first | rfl | (simp; done) | exact qw_fin hq hwo
  ·skip
   have c21r := c21
   try simp only [Bool.not_eq_true', Bool.not_eq_false', Bool.not_true, Bool.not_false, decide_eq_true_eq, decide_eq_false_iff_not, Bool.and_eq_true, Bool.or_eq_false_iff] at c21
   have hq := qw_g c21r
   have hqo := qw_ok hq
   refine kc_skipQ ?_
   refine kq_code ?_
   refine kc_seq ?_
   refine kc_seq (kc_region ?_)
   refine kl_as rfl ?_
   refine kl_nil (kq_code ?_)
   refine kc_block ?_
   refine kc_loop0 (A := Nat) (fun zz => (zz ≤ z9.doms.length) ∧ ((z9.doms.take zz).all (fun d => decide (d ≠ 0)) = true)) (fun zz => z9.doms.length - zz) (fun zz => [(6, .int .i64 (zz : Int))]) (0) (pc 3 rfl (pc 4 rfl pn)) (pc 6 rfl pn) ⟨Nat.zero_le _, by simp⟩ ?_
   rintro k hJ24
   obtain ⟨hk22, hi23⟩ : (k ≤ z9.doms.length) ∧ ((z9.doms.take k).all (fun d => decide (d ≠ 0)) = true) := hJ24
   change KC _ _ (_) _ _ ([(6, .int .i64 (k : Int))] ++ _)
   refine kc_seq ?_
   refine kc_seq (kc_region ?_)
   refine kl_mv rfl ?_
   refine kl_fdV rfl ?_
   refine kl_ldB rfl rfl ?_
   refine kl_len rfl (by assumption) (fun l25 => ?_)
   refine kl_lss rfl rfl ?_
   refine kl_nil (kq_code ?_)
   refine kc_if rfl (fun c26 => ?_) (fun c26 => ?_)
   ·skip
    refine kc_skipQ ?_
    refine kq_code ?_
    refine kc_seq ?_
    refine kc_block ?_
    refine kc_seq (kc_region ?_)
    refine kl_fdV rfl ?_
    refine kl_ldB rfl rfl ?_
    refine kl_mv rfl ?_
    refine kl_inI rfl rfl (by assumption) (by first | omega | (simp; omega)) (fun p27 a28 => ?_)
    refine kl_ld rfl (by assumption) ?_
    refine kl_eql rfl rfl ?_
    refine kl_nil (kq_code ?_)
    refine kc_if rfl (fun c29 => ?_) (fun c29 => ?_)
    ·skip
     refine kc_seq (kc_region ?_)
     refine kl_as rfl ?_
     refine kl_nil (kq_code ?_)
     refine kc_ret ?_
     refine kq_retP rfl rfl (congrArg Value.bool ?_)
     first | rfl | (simp; done) | exact qw_fin hq hwo
    ·skip
     refine kc_skipQ ?_
     refine kq_code ?_
     refine kc_region ?_
     refine kl_mv rfl ?_
     refine kl_inc rfl rfl (by omega) ?_
     refine kl_as rfl ?_
     refine kl_nil ?_
     refine kq_round0 ((k + 1)) (by omega) (⟨by omega, qw_step (by omega) hi23 (by assumption)⟩) (pc 6 rfl pn) (pc 3 rfl (pc 4 rfl pn)) (List.Sublist.refl _)
   ·skip
    refine kc_exit ?_
    refine kq_code ?_
    refine kc_seq ?_
    refine kc_seq (kc_region ?_)
    refine kl_as rfl ?_
    refine kl_nil (kq_code ?_)
    refine kc_block ?_
    refine kc_loop0 (A := Nat) (fun zz => (zz ≤ z14.length)) (fun zz => z14.length - zz) (fun zz => [(7, .int .i64 (zz : Int))]) (0) (pc 3 rfl (pc 4 rfl pn)) (pc 7 rfl pn) (Nat.zero_le _) ?_
    rintro k2 hJ32
    have hk30 : (k2 ≤ z14.length) := hJ32
    change KC _ _ (_) _ _ ([(7, .int .i64 (k2 : Int))] ++ _)
    refine kc_seq ?_
    refine kc_seq (kc_region ?_)
    refine kl_mv rfl ?_
    refine kl_mv rfl ?_
    refine kl_len rfl (by assumption) (fun l33 => ?_)
    refine kl_lss rfl rfl ?_
    refine kl_nil (kq_code ?_)
    refine kc_if rfl (fun c34 => ?_) (fun c34 => ?_)
    ·skip
     refine kc_skipQ ?_
     refine kq_code ?_
     refine kc_seq ?_
     refine kc_block ?_
     refine kc_seq (kc_region ?_)
     refine kl_bs0 BoolV rfl (fun v35 H36 f37 o38 => ?_)
     refine kl_mv rfl ?_
     refine kl_apS rfl rfl o38 (by assumption) (fun _ _ h => h) (by (simp; omega)) (by decide) (fun v39 H40 o41 f42 => ?_)
     have f43 := f42 B f37 (Nat.le_refl _)
     refine kl_as rfl ?_
     refine kl_nil (kq_code (kc_seq (kc_region ?_)))
     refine kl_mv rfl ?_
     refine kl_mv rfl ?_
     refine kl_ixLn rfl rfl (by assumption) (by first | omega | (simp; omega)) (fun p44 q45 => ?_)
     refine kl_stL false rfl rfl (by assumption) o41 (by first | omega | (simp; omega)) rfl rfl rfl (fun H46 o47 f48 => ?_)
     have f49 := f48 _ f43
     refine kl_chg [H46, sing b17 (.cells [u10, u11].toArray 26 (0, 0))] rfl ?_
     refine kl_nil (kq_code (kc_seq (kc_region ?_)))
     refine kl_ldW rfl rfl ?_
     refine kl_mv rfl ?_
     refine kl_callP rfl rfl (iqt_ok z9 (([] ++ z14).set k2 false) (by assumption) (by assumption) (OwnL.bools o47)) ?_
     refine kl_not rfl ?_
     refine kl_nil (kq_code ?_)
     refine kc_cond rfl (fun c50 => ?_) (fun c50 => ?_)
     ·skip
      have c50r := c50
      try simp only [Bool.not_eq_true', Bool.not_eq_false', Bool.not_true, Bool.not_false, decide_eq_true_eq, decide_eq_false_iff_not, Bool.and_eq_true, Bool.or_eq_false_iff] at c50
      exfalso; have h8 := qw_set (i := k2) hq hi23 (by omega); simp [h8] at c50r
     ·skip
      have c50r := c50
      try simp only [Bool.not_eq_true', Bool.not_eq_false', Bool.not_true, Bool.not_false, decide_eq_true_eq, decide_eq_false_iff_not, Bool.and_eq_true, Bool.or_eq_false_iff] at c50
      refine kc_skipQ ?_
      refine kq_code ?_
      refine kc_region ?_
      refine kl_mv rfl ?_
      refine kl_inc rfl rfl (by omega) ?_
      refine kl_as rfl ?_
      refine kl_nil ?_
      refine kq_round0 ((k2 + 1)) (by omega) (by omega) (pc 7 rfl pn) (pc 3 rfl (pc 4 rfl pn)) (.cons _ (List.Sublist.refl _))
    ·skip
     refine kc_exit ?_
     refine kq_code ?_
     refine kc_seq (kc_region ?_)
     refine kl_ldW rfl rfl ?_
     refine kl_call rfl rfl (without_ok z9 hsm (by assumption) (by assumption)) (fun v51 H52 f53 h54 => ?_)
     obtain ⟨z57, z62, u58, u59, rfl, h60, h61, h56⟩ := h54
     have hwo := h56
     refine kl_mv rfl ?_
     refine kl_xt rfl rfl ?_
     refine kl_xt rfl rfl ?_
     refine kl_alloc (cs := [.slice none 0 0, .slice none 0 0]) rfl (fun b63 hb64 => ?_)
     refine kl_stW (us := [u58, u59]) rfl rfl rfl rfl (oc (Sl.oneCell (by assumption)) (oc (Sl.oneCell (by assumption)) oc_nil)) rfl ?_
     refine kl_chg [sing b63 (.cells [u58, u59].toArray 26 (0, 0)), sing b17 (.cells [u10, u11].toArray 26 (0, 0))] rfl ?_
     refine kl_as rfl ?_
     refine kl_nil (kq_code (kc_seq (kc_region ?_)))
     refine kl_mv rfl ?_
     refine kl_not rfl ?_
     refine kl_mv rfl ?_
     refine kl_join 4 76 (.bool (!z62 || (qtrueB z57 z14))) (pc 72 rfl pn) (fun J66 => ?_) ?_
     ·rcases Bool.eq_false_or_eq_true (!z62) with g65 | g65
      ·skip
       refine kl_gF rfl rfl g65 ?_
       refine kl_gF rfl rfl g65 ?_
       refine kl_gF rfl rfl g65 ?_
       refine kl_orT (qtrueB z57 z14) rfl rfl g65 ?_
       exact J66 _ (pc 76 rfl (pc 72 rfl pn))
      ·skip
       have g65p := g65
       try simp only [Bool.not_eq_true', Bool.not_eq_false', decide_eq_true_eq, decide_eq_false_iff_not, Bool.and_eq_true, Bool.or_eq_false_iff, withinB_iff] at g65p
       refine kl_gT rfl rfl g65 ?_
       refine kl_ldW rfl rfl ?_
       refine kl_gT rfl rfl g65 ?_
       refine kl_mv rfl ?_
       refine kl_gT rfl rfl g65 ?_
       refine kl_callP rfl rfl (iqt_ok z57 z14 (by assumption) (by assumption) (by assumption)) ?_
       refine kl_orF rfl rfl g65 ?_
       exact J66 _ (pc 76 rfl (pc 72 rfl pn))
     refine kl_as rfl ?_
     refine kl_nil (kq_code ?_)
     refine kc_ret ?_
     refine kq_retP rfl rfl (congrArg Value.bool ?_)
     first | rfl | (simp; done) | exact qw_fin hq hwo
end Go.Proofs.Ytigngogjgohfgaa
