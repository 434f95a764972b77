/- Walks of functions of the program: each returns what the plain function gives. Conditions: those that each statement names. -/
import Derived.Test.YtndggikpobghkaaGreatWwo
import Derived.Test.YtndggikpobghkaaGreatWtwo
import Derived.Test.YtndggikpobghkaaGreatWent
import Derived.Test.YtndggikpobghkaaGreatWsa
import Derived.Test.YtndggikpobghkaaGreatWcnt
import Derived.Test.YtndggikpobghkaaGreatWis
import Derived.Test.YtndggikpobghkaaGreatWfl
namespace Go.Proofs.YtndggikpobghkaaGreat
open Go
set_option linter.unusedSimpArgs false
set_option linter.unusedVariables false
theorem lawFnEn_ok {Hcode : Hp} {vcode : Value} (code : List Int) (hcode : Bytes Hcode vcode code) : SpecP Tryz.prog 4 [vcode] [Hcode] (.bool true) := by
 refine spec_of Tryz.func4 rfl rfl rfl (fun B => ?_)
 refine kc_seq (kc_region ?_)
 refine kl_as rfl ?_
 refine kl_nil (kq_code ?_)
 refine kc_seq ?_
 refine kc_seq (kc_region ?_)
 refine kl_mv rfl ?_
 refine kl_len rfl (by assumption) (fun l1 => ?_)
 refine kl_gtr rfl rfl ?_
 refine kl_nil (kq_code ?_)
 refine kc_if rfl (fun c2 => ?_) (fun c2 => ?_)
 ·skip
  refine kc_seq (kc_region ?_)
  refine kl_as rfl ?_
  refine kl_nil (kq_code ?_)
  refine kc_ret ?_
  refine kq_retP rfl rfl (congrArg Value.bool ?_)
  first | rfl | (simp; done) | exact ent_fin | exact ent_cntD (by assumption)
 ·skip
  refine kc_skipQ ?_
  refine kq_code ?_
  refine kc_seq (kc_region ?_)
  refine kl_mv rfl ?_
  refine kl_call rfl rfl (drawEnt_ok code hcode) (fun v3 H4 f5 h6 => ?_)
  obtain ⟨z9, z14, u10, u11, u15, u16, rfl, h12, h13, h17, h18, h8⟩ := h6
  have hsm := h8.1
  refine kl_mv rfl ?_
  refine kl_xt rfl rfl ?_
  refine kl_xt rfl rfl ?_
  refine kl_alloc (cs := [.slice none 0 0, .slice none 0 0]) rfl (fun b19 hb20 => ?_)
  refine kl_alloc (cs := [.slice none 0 0, .slice none 0 0]) rfl (fun b21 hb22 => ?_)
  refine kl_stW (us := [u10, u11]) rfl rfl rfl rfl (oc (Sl.oneCell (by assumption)) (oc (Sl.oneCell (by assumption)) oc_nil)) rfl ?_
  refine kl_chg [sing b21 (.cells [.slice none 0 0, .slice none 0 0].toArray 26 (0, 0)), sing b19 (.cells [u10, u11].toArray 26 (0, 0))] rfl ?_
  refine kl_stW (us := [u15, u16]) rfl rfl rfl rfl (oc (Sl.oneCell (by assumption)) (oc (Sl.oneCell (by assumption)) oc_nil)) rfl ?_
  refine kl_chg [sing b21 (.cells [u15, u16].toArray 26 (0, 0)), sing b19 (.cells [u10, u11].toArray 26 (0, 0))] rfl ?_
  refine kl_nil (kq_code (kc_seq (kc_region ?_)))
  refine kl_ldW rfl rfl ?_
  refine kl_ldW rfl rfl ?_
  refine kl_callP rfl rfl (entI_ok z9 z14 (by assumption) (by assumption) (by assumption) (by assumption)) ?_
  refine kl_as rfl ?_
  refine kl_nil (kq_code ?_)
  refine kc_seq ?_
  refine kc_seq (kc_region ?_)
  refine kl_mv rfl ?_
  refine kl_ldW rfl rfl ?_
  refine kl_ldW rfl rfl ?_
  refine kl_callP rfl rfl (entS_ok z9 z14 (by assumption) (by assumption) (by assumption) (by assumption)) ?_
  refine kl_bne rfl rfl ?_
  refine kl_mv rfl ?_
  refine kl_join 4 30 (.bool (((entB z9 z14) != (entB z9 z14)) || !(validModB z9))) (pc 2 rfl (pc 3 rfl (pc 4 rfl (pc 5 rfl (pc 26 rfl pn))))) (fun J24 => ?_) ?_
  ·rcases Bool.eq_false_or_eq_true ((entB z9 z14) != (entB z9 z14)) with g23 | g23
   ·skip
    refine kl_gF rfl rfl g23 ?_
    refine kl_gF rfl rfl g23 ?_
    refine kl_gF rfl rfl g23 ?_
    refine kl_orT (!(validModB z9)) rfl rfl g23 ?_
    exact J24 _ (pc 30 rfl (pc 2 rfl (pc 3 rfl (pc 4 rfl (pc 5 rfl (pc 26 rfl pn))))))
   ·skip
    have g23p := g23
    try simp only [Bool.not_eq_true', Bool.not_eq_false', decide_eq_true_eq, decide_eq_false_iff_not, Bool.and_eq_true, Bool.or_eq_false_iff, withinB_iff] at g23p
    refine kl_gT rfl rfl g23 ?_
    refine kl_ldW rfl rfl ?_
    refine kl_gT rfl rfl g23 ?_
    refine kl_callP rfl rfl (validMod_ok z9 (by assumption) (by assumption)) ?_
    refine kl_gT rfl rfl g23 ?_
    refine kl_not rfl ?_
    refine kl_orF rfl rfl g23 ?_
    exact J24 _ (pc 30 rfl (pc 2 rfl (pc 3 rfl (pc 4 rfl (pc 5 rfl (pc 26 rfl pn))))))
  refine kl_nil (kq_code ?_)
  refine kc_cond rfl (fun c25 => ?_) (fun c25 => ?_)
  ·skip
   have c25r := c25
   try simp only [Bool.not_eq_true', Bool.not_eq_false', Bool.not_true, Bool.not_false, decide_eq_true_eq, decide_eq_false_iff_not, Bool.and_eq_true, Bool.or_eq_false_iff] at c25
   refine kc_seq (kc_region ?_)
   refine kl_mv rfl ?_
   refine kl_ldW rfl rfl ?_
   refine kl_ldW rfl rfl ?_
   refine kl_callP rfl rfl (entS_ok z9 z14 (by assumption) (by assumption) (by assumption) (by assumption)) ?_
   refine kl_beq rfl rfl ?_
   refine kl_as rfl ?_
   refine kl_nil (kq_code ?_)
   refine kc_ret ?_
   refine kq_retP rfl rfl (congrArg Value.bool ?_)
   first | rfl | (simp; done) | exact ent_fin | exact ent_cntD (by assumption)
  ·skip
   have c25r := c25
   try simp only [Bool.not_eq_true', Bool.not_eq_false', Bool.not_true, Bool.not_false, decide_eq_true_eq, decide_eq_false_iff_not, Bool.and_eq_true, Bool.or_eq_false_iff] at c25
   have hM := entp_and c25r
   refine kc_skipQ ?_
   refine kq_code ?_
   refine kc_seq (kc_region ?_)
   refine kl_ldW rfl rfl ?_
   refine kl_call rfl rfl (without_ok z9 hsm (by assumption) (by assumption)) (fun v26 H27 f28 h29 => ?_)
   obtain ⟨z32, z37, u33, u34, rfl, h35, h36, h31⟩ := h29
   have hwo := h31
   refine kl_mv rfl ?_
   refine kl_xt rfl rfl ?_
   refine kl_xt rfl rfl ?_
   refine kl_alloc (cs := [.slice none 0 0, .slice none 0 0]) rfl (fun b38 hb39 => ?_)
   refine kl_stW (us := [u33, u34]) rfl rfl rfl rfl (oc (Sl.oneCell (by assumption)) (oc (Sl.oneCell (by assumption)) oc_nil)) rfl ?_
   refine kl_chg [sing b38 (.cells [u33, u34].toArray 26 (0, 0)), sing b21 (.cells [u15, u16].toArray 26 (0, 0)), sing b19 (.cells [u10, u11].toArray 26 (0, 0))] rfl ?_
   refine kl_as rfl ?_
   refine kl_nil (kq_code ?_)
   refine kc_seq ?_
   refine kc_seq (kc_region ?_)
   refine kl_ldW rfl rfl ?_
   refine kl_ldW rfl rfl ?_
   refine kl_callP rfl rfl (entI_ok z9 z9 (by assumption) (by assumption) (by assumption) (by assumption)) ?_
   refine kl_not rfl ?_
   refine kl_mv rfl ?_
   refine kl_join 8 53 (.bool (!(entB z9 z9) || (z37 && !(entB z9 z32)))) (pc 2 rfl (pc 3 rfl (pc 4 rfl (pc 5 rfl (pc 45 rfl pn))))) (fun J43 => ?_) ?_
   ·rcases Bool.eq_false_or_eq_true (!(entB z9 z9)) with g40 | g40
    ·skip
     refine kl_gF rfl rfl g40 ?_
     refine kl_gF rfl rfl g40 ?_
     refine kl_gU rfl rfl ?_
     refine kl_gU rfl rfl ?_
     refine kl_gU rfl rfl ?_
     refine kl_gU rfl rfl ?_
     refine kl_gF rfl rfl g40 ?_
     refine kl_orT (z37 && !(entB z9 z32)) rfl rfl g40 ?_
     exact J43 _ (pc 53 rfl (pc 2 rfl (pc 3 rfl (pc 4 rfl (pc 5 rfl (pc 45 rfl pn))))))
    ·skip
     have g40p := g40
     try simp only [Bool.not_eq_true', Bool.not_eq_false', decide_eq_true_eq, decide_eq_false_iff_not, Bool.and_eq_true, Bool.or_eq_false_iff, withinB_iff] at g40p
     refine kl_gT rfl rfl g40 ?_
     refine kl_mv rfl ?_
     refine kl_gT rfl rfl g40 ?_
     refine kl_mv rfl ?_
     refine kl_join 5 52 (.bool (z37 && !(entB z9 z32))) (pc 2 rfl (pc 3 rfl (pc 4 rfl (pc 5 rfl (pc 45 rfl (pc 47 rfl pn)))))) (fun J42 => ?_) ?_
     ·rcases Bool.eq_false_or_eq_true z37 with g41 | g41
      ·skip
       have g41p := g41
       try simp only [Bool.not_eq_true', Bool.not_eq_false', decide_eq_true_eq, decide_eq_false_iff_not, Bool.and_eq_true, Bool.or_eq_false_iff, withinB_iff] at g41p
       refine kl_gT rfl rfl g41 ?_
       refine kl_ldW rfl rfl ?_
       refine kl_gT rfl rfl g41 ?_
       refine kl_ldW rfl rfl ?_
       refine kl_gT rfl rfl g41 ?_
       refine kl_callP rfl rfl (entI_ok z9 z32 (by assumption) (by assumption) (by assumption) (by assumption)) ?_
       refine kl_gT rfl rfl g41 ?_
       refine kl_not rfl ?_
       refine kl_gT rfl rfl g40 ?_
       refine kl_andT rfl rfl g41 ?_
       exact J42 _ (pc 52 rfl (pc 2 rfl (pc 3 rfl (pc 4 rfl (pc 5 rfl (pc 45 rfl (pc 47 rfl pn)))))))
      ·skip
       refine kl_gF rfl rfl g41 ?_
       refine kl_gF rfl rfl g41 ?_
       refine kl_gF rfl rfl g41 ?_
       refine kl_gF rfl rfl g41 ?_
       refine kl_gT rfl rfl g40 ?_
       refine kl_andF (!(entB z9 z32)) rfl rfl g41 ?_
       exact J42 _ (pc 52 rfl (pc 2 rfl (pc 3 rfl (pc 4 rfl (pc 5 rfl (pc 45 rfl (pc 47 rfl pn)))))))
     refine kl_orF rfl rfl g40 ?_
     exact J43 _ (pc 53 rfl (pc 2 rfl (pc 3 rfl (pc 4 rfl (pc 5 rfl (pc 45 rfl pn))))))
   refine kl_nil (kq_code ?_)
   refine kc_cond rfl (fun c44 => ?_) (fun c44 => ?_)
   ·skip
    have c44r := c44
    try simp only [Bool.not_eq_true', Bool.not_eq_false', Bool.not_true, Bool.not_false, decide_eq_true_eq, decide_eq_false_iff_not, Bool.and_eq_true, Bool.or_eq_false_iff] at c44
    exfalso; have h8 := ent_two hM hwo; rw [h8] at c44r; cases c44r
   ·skip
    have c44r := c44
    try simp only [Bool.not_eq_true', Bool.not_eq_false', Bool.not_true, Bool.not_false, decide_eq_true_eq, decide_eq_false_iff_not, Bool.and_eq_true, Bool.or_eq_false_iff] at c44
    refine kc_skipQ ?_
    refine kq_code ?_
    refine kc_seq (kc_region ?_)
    refine kl_ldW rfl rfl ?_
    refine kl_call rfl rfl (solveAll_ok z9 (by assumption) (by assumption)) (fun v45 H46 f47 h48 => ?_)
    refine kl_as rfl ?_
    refine kl_nil (kq_code ?_)
    refine kc_seq ?_
    refine kc_seq (kc_region ?_)
    refine kl_as rfl ?_
    refine kl_nil (kq_code ?_)
    refine kc_block ?_
    refine kc_loop0 (A := Nat) (fun zz => (zz ≤ (solL z9).length)) (fun zz => (solL z9).length - zz) (fun zz => [(9, .int .i64 (zz : Int))]) (0) (pc 3 rfl (pc 4 rfl (pc 5 rfl (pc 8 rfl pn)))) (pc 9 rfl pn) (Nat.zero_le _) ?_
    rintro k hJ51
    have hk49 : (k ≤ (solL z9).length) := hJ51
    change KC _ _ (_) _ _ ([(9, .int .i64 (k : Int))] ++ _)
    refine kc_seq ?_
    refine kc_seq (kc_region ?_)
    refine kl_mv rfl ?_
    refine kl_mv rfl ?_
    refine kl_len rfl (by assumption) (fun l52 => ?_)
    refine kl_lss rfl rfl ?_
    refine kl_mv rfl ?_
    refine kl_join 2 62 (.bool (decide ((k : Int) < ((solL z9).length : Int)) && (entB z9 z14))) (pc 3 rfl (pc 4 rfl (pc 5 rfl (pc 8 rfl (pc 9 rfl (pc 56 rfl (pc 57 rfl (pc 58 rfl (pc 59 rfl (pc 60 rfl pn)))))))))) (fun J54 => ?_) ?_
    ·rcases Bool.eq_false_or_eq_true (decide ((k : Int) < ((solL z9).length : Int))) with g53 | g53
     ·skip
      have g53p := of_decide_eq_true g53
      refine kl_gT rfl rfl g53 ?_
      refine kl_mv rfl ?_
      refine kl_andT rfl rfl g53 ?_
      exact J54 _ (pc 62 rfl (pc 3 rfl (pc 4 rfl (pc 5 rfl (pc 8 rfl (pc 9 rfl (pc 56 rfl (pc 57 rfl (pc 58 rfl (pc 59 rfl (pc 60 rfl pn)))))))))))
     ·skip
      refine kl_gF rfl rfl g53 ?_
      refine kl_andF (entB z9 z14) rfl rfl g53 ?_
      exact J54 _ (pc 62 rfl (pc 3 rfl (pc 4 rfl (pc 5 rfl (pc 8 rfl (pc 9 rfl (pc 56 rfl (pc 57 rfl (pc 58 rfl (pc 59 rfl (pc 60 rfl pn)))))))))))
    refine kl_nil (kq_code ?_)
    refine kc_cond rfl (fun c55 => ?_) (fun c55 => ?_)
    ·skip
     have c55r := c55
     try simp only [Bool.not_eq_true', Bool.not_eq_false', Bool.not_true, Bool.not_false, decide_eq_true_eq, decide_eq_false_iff_not, Bool.and_eq_true, Bool.or_eq_false_iff] at c55
     have hk9 := c55r
     refine kc_skipQ ?_
     refine kq_code ?_
     refine kc_seq ?_
     refine kc_block ?_
     refine kc_seq ?_
     refine kc_tree (fun i => ([5] : List Nat).contains i) [sing b21 (.cells [u15, u16].toArray 26 (0, 0))] (by kernel_rfl) ?_
     refine kt_q 0 (.cons _ (.cons_cons _ (List.nil_sublist _))) rfl (by kernel_rfl) ?_
     refine kl_ldS rfl (at_box (T := 26) (cs := [u15, u16]) (off := 0) (fz := (0, 0))) rfl ?_
     refine kl_nil (kq_q ?_)
     refine kt_q 1 (.cons _ (.cons_cons _ (List.nil_sublist _))) rfl (by kernel_rfl) ?_
     refine kl_mv rfl ?_
     refine kl_nil (kq_q ?_)
     refine kt_q 2 (.cons _ (.cons_cons _ (List.nil_sublist _))) rfl (by kernel_rfl) ?_
     refine kl_mv rfl ?_
     refine kl_nil (kq_q ?_)
     refine kt_q 3 (.cons _ (.cons_cons _ (List.nil_sublist _))) rfl (by kernel_rfl) ?_
     refine kl_inS rfl rfl (by assumption) (by omega) (fun p56 u58 h59 a57 => ?_)
     refine kl_nil (kq_q ?_)
     refine kt_q 4 (.cons _ (.cons_cons _ (List.nil_sublist _))) rfl (by kernel_rfl) ?_
     refine kl_ld rfl (by assumption) ?_
     refine kl_nil (kq_q ?_)
     refine kt_a 5 rfl (by kernel_rfl) ?_
     refine kl_callP rfl rfl (isSolI_ok z14 ((solL z9).getD k []) (by assumption) (by assumption) (by assumption)) ?_
     refine kl_nil (kq_x rfl ?_)
     refine kt_q 6 (.cons _ (.cons_cons _ (List.nil_sublist _))) rfl (by kernel_rfl) ?_
     refine kl_not rfl ?_
     refine kl_nil (kq_q ?_)
     refine kt_end (by kernel_rfl) ?_
     refine kq_code ?_
     refine kc_cond rfl (fun c60 => ?_) (fun c60 => ?_)
     ·skip
      have c60r := c60
      try simp only [Bool.not_eq_true', Bool.not_eq_false', Bool.not_true, Bool.not_false, decide_eq_true_eq, decide_eq_false_iff_not, Bool.and_eq_true, Bool.or_eq_false_iff] at c60
      exfalso; have h8 := ent_isSol (Bool.and_eq_true_iff.1 hk9).2 (of_decide_eq_true (Bool.and_eq_true_iff.1 hk9).1); rw [h8] at c60r; cases c60r
     ·skip
      have c60r := c60
      try simp only [Bool.not_eq_true', Bool.not_eq_false', Bool.not_true, Bool.not_false, decide_eq_true_eq, decide_eq_false_iff_not, Bool.and_eq_true, Bool.or_eq_false_iff] at c60
      refine kc_skipQ ?_
      refine kq_code ?_
      refine kc_region ?_
      refine kl_mv rfl ?_
      refine kl_inc rfl rfl (by omega) ?_
      refine kl_as rfl ?_
      refine kl_nil ?_
      refine kq_round0 ((k + 1)) (by omega) (by omega) (pc 9 rfl pn) (pc 3 rfl (pc 4 rfl (pc 5 rfl (pc 8 rfl pn)))) (List.Sublist.refl _)
    ·skip
     have c55r := c55
     try simp only [Bool.not_eq_true', Bool.not_eq_false', Bool.not_true, Bool.not_false, decide_eq_true_eq, decide_eq_false_iff_not, Bool.and_eq_true, Bool.or_eq_false_iff] at c55
     refine kc_exit ?_
     refine kq_code ?_
     refine kc_seq ?_
     refine kc_tree (fun i => ([6] : List Nat).contains i) [sing b21 (.cells [u15, u16].toArray 26 (0, 0)), sing b19 (.cells [u10, u11].toArray 26 (0, 0))] (by kernel_rfl) ?_
     refine kt_q 0 (.cons _ (.cons_cons _ (.cons_cons _ (List.nil_sublist _)))) rfl (by kernel_rfl) ?_
     refine kl_mv rfl ?_
     refine kl_nil (kq_q ?_)
     refine kt_q 1 (.cons _ (.cons_cons _ (.cons_cons _ (List.nil_sublist _)))) rfl (by kernel_rfl) ?_
     refine kl_not rfl ?_
     refine kl_nil (kq_q ?_)
     refine kt_q 2 (.cons _ (.cons_cons _ (.cons_cons _ (List.nil_sublist _)))) rfl (by kernel_rfl) ?_
     refine kl_mv rfl ?_
     refine kl_nil (kq_q ?_)
     rcases Bool.eq_false_or_eq_true (!(entB z9 z14)) with g61 | g61
     ·skip
      have g61p := g61
      refine kt_q 3 (.cons _ (.cons_cons _ (.cons_cons _ (List.nil_sublist _)))) rfl (by kernel_rfl) ?_
      refine kl_gF rfl rfl g61 ?_
      refine kl_nil (kq_q ?_)
      refine kt_q 5 (.cons _ (.cons_cons _ (.cons_cons _ (List.nil_sublist _)))) rfl (by kernel_rfl) ?_
      refine kl_gF rfl rfl g61 ?_
      refine kl_nil (kq_q ?_)
      refine kt_a 4 rfl (by kernel_rfl) ?_
      refine kl_gF rfl rfl g61 ?_
      refine kl_nil (kq_a (.cons _ (.cons_cons _ (.cons_cons _ (List.nil_sublist _)))) ?_)
      refine kt_a 6 rfl (by kernel_rfl) ?_
      refine kl_gF rfl rfl g61 ?_
      refine kl_nil (kq_x rfl ?_)
      refine kt_q 7 (.cons _ (.cons_cons _ (.cons_cons _ (List.nil_sublist _)))) rfl (by kernel_rfl) ?_
      refine kl_gF rfl rfl g61 ?_
      refine kl_nil (kq_q ?_)
      refine kt_q 8 (.cons _ (.cons_cons _ (.cons_cons _ (List.nil_sublist _)))) rfl (by kernel_rfl) ?_
      refine kl_pickT rfl g61 rfl ?_
      refine kl_nil (kq_q ?_)
      refine kt_q 9 (.cons _ (.cons_cons _ (.cons_cons _ (List.nil_sublist _)))) rfl (by kernel_rfl) ?_
      refine kl_as rfl ?_
      refine kl_nil (kq_q ?_)
      refine kt_end (by kernel_rfl) ?_
      refine kq_code ?_
      refine kc_ret ?_
      refine kq_retP rfl rfl (congrArg Value.bool ?_)
      first | rfl | (simp; done) | exact ent_fin | exact ent_cntD (by assumption)
     ·skip
      have g61p := g61
      refine kt_q 3 (.cons _ (.cons_cons _ (.cons_cons _ (List.nil_sublist _)))) rfl (by kernel_rfl) ?_
      refine kl_gT rfl rfl g61 ?_
      refine kl_ldS rfl (at_box (T := 26) (cs := [u10, u11]) (off := 0) (fz := (0, 0))) rfl ?_
      refine kl_nil (kq_q ?_)
      refine kt_q 5 (.cons _ (.cons_cons _ (.cons_cons _ (List.nil_sublist _)))) rfl (by kernel_rfl) ?_
      refine kl_gT rfl rfl g61 ?_
      refine kl_ldS rfl (at_box (T := 26) (cs := [u15, u16]) (off := 0) (fz := (0, 0))) rfl ?_
      refine kl_nil (kq_q ?_)
      refine kt_a 4 rfl (by kernel_rfl) ?_
      refine kl_gT rfl rfl g61 ?_
      refine kl_callP rfl rfl (countSols_ok z9 (by assumption) (by assumption)) ?_
      refine kl_nil (kq_a (.cons _ (.cons_cons _ (.cons_cons _ (List.nil_sublist _)))) ?_)
      refine kt_a 6 rfl (by kernel_rfl) ?_
      refine kl_gT rfl rfl g61 ?_
      refine kl_callP rfl rfl (countSols_ok z14 (by assumption) (by assumption)) ?_
      refine kl_nil (kq_x rfl ?_)
      refine kt_q 7 (.cons _ (.cons_cons _ (.cons_cons _ (List.nil_sublist _)))) rfl (by kernel_rfl) ?_
      refine kl_gT rfl rfl g61 ?_
      refine kl_leq rfl rfl ?_
      refine kl_nil (kq_q ?_)
      refine kt_q 8 (.cons _ (.cons_cons _ (.cons_cons _ (List.nil_sublist _)))) rfl (by kernel_rfl) ?_
      refine kl_pickF rfl g61 rfl ?_
      refine kl_nil (kq_q ?_)
      refine kt_q 9 (.cons _ (.cons_cons _ (.cons_cons _ (List.nil_sublist _)))) rfl (by kernel_rfl) ?_
      refine kl_as rfl ?_
      refine kl_nil (kq_q ?_)
      refine kt_end (by kernel_rfl) ?_
      refine kq_code ?_
      refine kc_ret ?_
      refine kq_retP rfl rfl (congrArg Value.bool ?_)
      first | rfl | (simp; done) | exact ent_fin | exact ent_cntD (by assumption)
end Go.Proofs.YtndggikpobghkaaGreat
