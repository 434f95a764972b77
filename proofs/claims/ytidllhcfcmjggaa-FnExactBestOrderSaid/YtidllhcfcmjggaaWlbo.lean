/- Walks of functions of the program: each returns what the plain function gives. Conditions: those that each statement names. -/
import Derived.Test.YtidllhcfcmjggaaWior
import Derived.Test.YtidllhcfcmjggaaWsor
import Derived.Test.YtidllhcfcmjggaaWsz
import Derived.Test.YtidllhcfcmjggaaWto
import Derived.Test.YtidllhcfcmjggaaWeq
import Derived.Test.YtidllhcfcmjggaaWmark
namespace Go.Proofs.Ytidllhcfcmjggaa
open Go
set_option linter.unusedSimpArgs false
set_option linter.unusedVariables false
theorem lawBo_ok {Hmd : Hp} {vmd : Value} {Hmc : Hp} {vmc : Value} (m : Mod) (hmd : Ints Hmd vmd m.doms) (hmc : Cons Hmc vmc m.cons) : SpecP Try.prog 5 [.agg #[vmd, vmc]] [Hmd, Hmc] (.bool true) := by
 have hlen := bo_len (m := m)
 refine spec_of Try.func5 rfl rfl rfl (fun B => ?_)
 refine kc_seq (kc_region ?_)
 refine kl_box rfl rfl (fun p1 H2 f3 a4 => ?_)
 refine kl_as rfl ?_
 refine kl_nil (kq_code (kc_seq (kc_region ?_)))
 refine kl_as rfl ?_
 refine kl_nil (kq_code (kc_seq (kc_region ?_)))
 refine kl_ldS rfl (by assumption) rfl ?_
 refine kl_mv rfl ?_
 refine kl_callP rfl rfl (szModel_ok m (1048576 : Int) (by omega) (by assumption) (by assumption)) ?_
 refine kl_as rfl ?_
 refine kl_nil (kq_code ?_)
 refine kc_seq ?_
 refine kc_seq (kc_region ?_)
 refine kl_mv rfl ?_
 refine kl_lss rfl rfl ?_
 refine kl_nil (kq_code ?_)
 refine kc_if rfl (fun c5 => ?_) (fun c5 => ?_)
 ·skip
  refine kc_seq (kc_region ?_)
  refine kl_as rfl ?_
  refine kl_nil (kq_code ?_)
  refine kc_ret ?_
  refine kq_retP rfl rfl (congrArg Value.bool ?_)
  first | rfl | (exfalso; simp only [held_mark, markL_len] at *; first | omega | (simp at *; done) | (simp at *; omega) | simp_all)
 ·skip
  have hs := small_of (szB_ok c5)
  have hmk := hs.marks
  refine kc_skipQ ?_
  refine kq_code ?_
  refine kc_seq (kc_region ?_)
  refine kl_ldS rfl (by assumption) rfl ?_
  refine kl_call rfl rfl (toModel_ok m hs (by assumption) (by assumption)) (fun v6 H7 f8 h9 => ?_)
  obtain ⟨u10, u11, rfl, h12, h13⟩ := h9
  refine kl_call rfl rfl (sorder_ok m (by assumption) (by assumption)) (fun v14 H15 f16 h17 => ?_)
  obtain ⟨u18, rfl, h19⟩ := h17
  refine kl_mv rfl ?_
  refine kl_xt rfl rfl ?_
  refine kl_xt rfl rfl ?_
  refine kl_as rfl ?_
  refine kl_as rfl ?_
  refine kl_nil (kq_code (kc_seq (kc_region ?_)))
  refine kl_ldS rfl (by assumption) rfl ?_
  refine kl_callL rfl rfl (toModel_ok m hs (by assumption) (by assumption)) (fun v20 H21 f22 h23 => ?_)
  obtain ⟨u24, u25, rfl, h26, h27⟩ := h23
  refine kl_alloc (cs := [.slice none 0 0, .slice none 0 0]) rfl (fun b28 hb29 => ?_)
  refine kl_stW (us := [u24, u25]) rfl rfl rfl rfl (oc (Sl.oneCell (by assumption)) (oc (Sl.oneCell (by assumption)) oc_nil)) rfl ?_
  refine kl_nil (kq_code (kc_seq (kc_region ?_)))
  refine kl_ldW rfl rfl ?_
  refine kl_callL rfl rfl (iorder_ok m (by assumption) (by assumption)) (fun v30 H31 f32 h33 => ?_)
  obtain ⟨u34, rfl, h35⟩ := h33
  refine kl_mv rfl ?_
  refine kl_xt rfl rfl ?_
  refine kl_xt rfl rfl ?_
  refine kl_as rfl ?_
  refine kl_as rfl ?_
  refine kl_nil (kq_code ?_)
  refine kc_seq ?_
  refine kc_seq (kc_region ?_)
  refine kl_mv rfl ?_
  refine kl_mv rfl ?_
  refine kl_callP rfl rfl (eqIntS_ok ((bestOrd m).1) ((bestOrd m).1) (by assumption) (by assumption)) ?_
  refine kl_not rfl ?_
  refine kl_mv rfl ?_
  refine kl_join 4 40 (.bool (!(decide (((bestOrd m).1) = ((bestOrd m).1))) || decide (((bestOrd m).2) ≠ ((bestOrd m).2)))) (pc 1 rfl (pc 2 rfl (pc 4 rfl (pc 5 rfl (pc 6 rfl (pc 7 rfl (pc 8 rfl (pc 36 rfl pn)))))))) (fun J37 => ?_) ?_
  ·rcases Bool.eq_false_or_eq_true (!(decide (((bestOrd m).1) = ((bestOrd m).1)))) with g36 | g36
   ·skip
    refine kl_gF rfl rfl g36 ?_
    refine kl_gF rfl rfl g36 ?_
    refine kl_gF rfl rfl g36 ?_
    refine kl_orT (decide (((bestOrd m).2) ≠ ((bestOrd m).2))) rfl rfl g36 ?_
    exact J37 _ (pc 40 rfl (pc 1 rfl (pc 2 rfl (pc 4 rfl (pc 5 rfl (pc 6 rfl (pc 7 rfl (pc 8 rfl (pc 36 rfl pn)))))))))
   ·skip
    have g36p := g36
    try simp only [Bool.not_eq_true', Bool.not_eq_false', decide_eq_true_eq, decide_eq_false_iff_not, Bool.and_eq_true, Bool.or_eq_false_iff, withinB_iff] at g36p
    refine kl_gT rfl rfl g36 ?_
    refine kl_mv rfl ?_
    refine kl_gT rfl rfl g36 ?_
    refine kl_mv rfl ?_
    refine kl_gT rfl rfl g36 ?_
    refine kl_neq rfl rfl ?_
    refine kl_orF rfl rfl g36 ?_
    exact J37 _ (pc 40 rfl (pc 1 rfl (pc 2 rfl (pc 4 rfl (pc 5 rfl (pc 6 rfl (pc 7 rfl (pc 8 rfl (pc 36 rfl pn)))))))))
  refine kl_nil (kq_code ?_)
  refine kc_cond rfl (fun c38 => ?_) (fun c38 => ?_)
  ·skip
   have c38r := c38
   try simp only [Bool.not_eq_true', Bool.not_eq_false', Bool.not_true, Bool.not_false, decide_eq_true_eq, decide_eq_false_iff_not, Bool.and_eq_true, Bool.or_eq_false_iff] at c38
   refine kc_seq (kc_region ?_)
   refine kl_as rfl ?_
   refine kl_nil (kq_code ?_)
   refine kc_ret ?_
   refine kq_retP rfl rfl (congrArg Value.bool ?_)
   first | rfl | (exfalso; simp only [held_mark, markL_len] at *; first | omega | (simp at *; done) | (simp at *; omega) | simp_all)
  ·skip
   have c38r := c38
   try simp only [Bool.not_eq_true', Bool.not_eq_false', Bool.not_true, Bool.not_false, decide_eq_true_eq, decide_eq_false_iff_not, Bool.and_eq_true, Bool.or_eq_false_iff] at c38
   refine kc_skipQ ?_
   refine kq_code ?_
   refine kc_seq ?_
   refine kc_seq ?_
   refine kc_draw 5 [true, true, false, false, true] (by kernel_rfl) (by kernel_rfl) ?_
   refine kl_ldW rfl rfl ?_
   refine kl_ldS rfl (by assumption) rfl ?_
   refine kl_call rfl rfl (toModel_ok m hs (by assumption) (by assumption)) (fun v39 H40 f41 h42 => ?_)
   obtain ⟨u43, u44, rfl, h45, h46⟩ := h42
   refine kl_callP rfl rfl (eqModel_ok m m (by assumption) (by assumption) (by assumption) (by assumption)) ?_
   refine kl_not rfl ?_
   refine kl_nil (kq_code ?_)
   refine kc_cond rfl (fun c47 => ?_) (fun c47 => ?_)
   ·skip
    have c47r := c47
    try simp only [Bool.not_eq_true', Bool.not_eq_false', Bool.not_true, Bool.not_false, decide_eq_true_eq, decide_eq_false_iff_not, Bool.and_eq_true, Bool.or_eq_false_iff] at c47
    refine kc_seq (kc_region ?_)
    refine kl_as rfl ?_
    refine kl_nil (kq_code ?_)
    refine kc_ret ?_
    refine kq_retP rfl rfl (congrArg Value.bool ?_)
    first | rfl | (exfalso; simp only [held_mark, markL_len] at *; first | omega | (simp at *; done) | (simp at *; omega) | simp_all)
   ·skip
    have c47r := c47
    try simp only [Bool.not_eq_true', Bool.not_eq_false', Bool.not_true, Bool.not_false, decide_eq_true_eq, decide_eq_false_iff_not, Bool.and_eq_true, Bool.or_eq_false_iff] at c47
    refine kc_skipQ ?_
    refine kq_code ?_
    refine kc_seq (kc_region ?_)
    refine kl_as rfl ?_
    refine kl_nil (kq_code (kc_seq (kc_region ?_)))
    refine kl_ldW rfl rfl ?_
    refine kl_mv rfl ?_
    refine kl_callM rfl rfl (markModel_ok m (1 : Int) (by omega) (by assumption) (by assumption) f22.2) (fun v48 H49 K50 f51 h52 d53 => ?_)
    obtain ⟨m54, rfl⟩ := h52
    have f56 := Mk.fr m54 f22
    refine kl_as rfl ?_
    refine kl_nil (kq_code ?_)
    refine kc_seq ?_
    refine kc_seq (kc_region ?_)
    refine kl_mv rfl ?_
    refine kl_lss rfl rfl ?_
    refine kl_mv rfl ?_
    refine kl_join 5 56 (.bool (decide (((1 : Int) + m.doms.length + (msum m.cons : Nat)) < (0 : Int)) || !(decide (((bestOrd m).1) = ((bestOrd m).1))))) (pc 1 rfl (pc 2 rfl (pc 4 rfl (pc 5 rfl (pc 7 rfl (pc 8 rfl (pc 51 rfl pn))))))) (fun J58 => ?_) ?_
    ·rcases Bool.eq_false_or_eq_true (decide (((1 : Int) + m.doms.length + (msum m.cons : Nat)) < (0 : Int))) with g57 | g57
     ·skip
      refine kl_gF rfl rfl g57 ?_
      refine kl_gF rfl rfl g57 ?_
      refine kl_gF rfl rfl g57 ?_
      refine kl_gF rfl rfl g57 ?_
      refine kl_orT (!(decide (((bestOrd m).1) = ((bestOrd m).1)))) rfl rfl g57 ?_
      exact J58 _ (pc 56 rfl (pc 1 rfl (pc 2 rfl (pc 4 rfl (pc 5 rfl (pc 7 rfl (pc 8 rfl (pc 51 rfl pn))))))))
     ·skip
      have g57p := of_decide_eq_false g57
      refine kl_gT rfl rfl g57 ?_
      refine kl_mv rfl ?_
      refine kl_gT rfl rfl g57 ?_
      refine kl_mv rfl ?_
      refine kl_gT rfl rfl g57 ?_
      refine kl_callP rfl rfl (eqIntS_ok ((bestOrd m).1) ((bestOrd m).1) (by assumption) (by assumption)) ?_
      refine kl_gT rfl rfl g57 ?_
      refine kl_not rfl ?_
      refine kl_orF rfl rfl g57 ?_
      exact J58 _ (pc 56 rfl (pc 1 rfl (pc 2 rfl (pc 4 rfl (pc 5 rfl (pc 7 rfl (pc 8 rfl (pc 51 rfl pn))))))))
    refine kl_mv rfl ?_
    refine kl_join 4 61 (.bool ((decide (((1 : Int) + m.doms.length + (msum m.cons : Nat)) < (0 : Int)) || !(decide (((bestOrd m).1) = ((bestOrd m).1)))) || decide (((bestOrd m).2) ≠ ((bestOrd m).2)))) (pc 1 rfl (pc 2 rfl (pc 4 rfl (pc 5 rfl (pc 7 rfl (pc 57 rfl pn)))))) (fun J60 => ?_) ?_
    ·rcases Bool.eq_false_or_eq_true (decide (((1 : Int) + m.doms.length + (msum m.cons : Nat)) < (0 : Int)) || !(decide (((bestOrd m).1) = ((bestOrd m).1)))) with g59 | g59
     ·skip
      refine kl_gF rfl rfl g59 ?_
      refine kl_gF rfl rfl g59 ?_
      refine kl_gF rfl rfl g59 ?_
      refine kl_orT (decide (((bestOrd m).2) ≠ ((bestOrd m).2))) rfl rfl g59 ?_
      exact J60 _ (pc 61 rfl (pc 1 rfl (pc 2 rfl (pc 4 rfl (pc 5 rfl (pc 7 rfl (pc 57 rfl pn)))))))
     ·skip
      have g59p := g59
      try simp only [Bool.not_eq_true', Bool.not_eq_false', decide_eq_true_eq, decide_eq_false_iff_not, Bool.and_eq_true, Bool.or_eq_false_iff, withinB_iff] at g59p
      refine kl_gT rfl rfl g59 ?_
      refine kl_mv rfl ?_
      refine kl_gT rfl rfl g59 ?_
      refine kl_mv rfl ?_
      refine kl_gT rfl rfl g59 ?_
      refine kl_neq rfl rfl ?_
      refine kl_orF rfl rfl g59 ?_
      exact J60 _ (pc 61 rfl (pc 1 rfl (pc 2 rfl (pc 4 rfl (pc 5 rfl (pc 7 rfl (pc 57 rfl pn)))))))
    refine kl_nil (kq_code ?_)
    refine kc_cond rfl (fun c61 => ?_) (fun c61 => ?_)
    ·skip
     have c61r := c61
     try simp only [Bool.not_eq_true', Bool.not_eq_false', Bool.not_true, Bool.not_false, decide_eq_true_eq, decide_eq_false_iff_not, Bool.and_eq_true, Bool.or_eq_false_iff] at c61
     refine kc_seq (kc_region ?_)
     refine kl_as rfl ?_
     refine kl_nil (kq_code ?_)
     refine kc_ret ?_
     refine kq_retP rfl rfl (congrArg Value.bool ?_)
     first | rfl | (exfalso; simp only [held_mark, markL_len] at *; first | omega | (simp at *; done) | (simp at *; omega) | simp_all)
    ·skip
     have c61r := c61
     try simp only [Bool.not_eq_true', Bool.not_eq_false', Bool.not_true, Bool.not_false, decide_eq_true_eq, decide_eq_false_iff_not, Bool.and_eq_true, Bool.or_eq_false_iff] at c61
     refine kc_skipQ ?_
     refine kq_code ?_
     refine kc_seq (kc_region ?_)
     refine kl_as rfl ?_
     refine kl_nil (kq_code (kc_seq (kc_region ?_)))
     refine kl_mv rfl ?_
     refine kl_mv rfl ?_
     refine kl_callM rfl rfl (markIntS_ok ((bestOrd m).1) (1 : Int) (by omega) (by assumption) f32.2) (fun v62 H63 K64 f65 h66 d67 => ?_)
     obtain ⟨m68, rfl, e69⟩ := h66
     have f70 := Mk.fr m68 f32
     refine kl_as rfl ?_
     refine kl_nil (kq_code (kc_seq (kc_region ?_)))
     refine kl_as rfl ?_
     refine kl_nil (kq_code (kc_seq (kc_region ?_)))
     refine kl_mv rfl ?_
     refine kl_mv rfl ?_
     refine kl_callP rfl rfl (heldIntS_ok (markL (1 : Int) ((bestOrd m).1).length) (1 : Int) (by omega) (by assumption)) ?_
     refine kl_as rfl ?_
     refine kl_nil (kq_code ?_)
     refine kc_seq ?_
     refine kc_seq (kc_region ?_)
     refine kl_mv rfl ?_
     refine kl_lss rfl rfl ?_
     refine kl_nil (kq_code ?_)
     refine kc_if rfl (fun c71 => ?_) (fun c71 => ?_)
     ·skip
      refine kc_seq (kc_region ?_)
      refine kl_as rfl ?_
      refine kl_nil (kq_code ?_)
      refine kc_ret ?_
      refine kq_retP rfl rfl (congrArg Value.bool ?_)
      first | rfl | (exfalso; simp only [held_mark, markL_len] at *; first | omega | (simp at *; done) | (simp at *; omega) | simp_all)
     ·skip
      refine kc_skipQ ?_
      refine kq_code ?_
      refine kc_seq ?_
      refine kc_seq (kc_region ?_)
      refine kl_mv rfl ?_
      refine kl_mv rfl ?_
      refine kl_neq rfl rfl ?_
      refine kl_nil (kq_code ?_)
      refine kc_if rfl (fun c72 => ?_) (fun c72 => ?_)
      ·skip
       refine kc_seq (kc_region ?_)
       refine kl_as rfl ?_
       refine kl_nil (kq_code ?_)
       refine kc_ret ?_
       refine kq_retP rfl rfl (congrArg Value.bool ?_)
       first | rfl | (exfalso; simp only [held_mark, markL_len] at *; first | omega | (simp at *; done) | (simp at *; omega) | simp_all)
      ·skip
       refine kc_skipQ ?_
       refine kq_code ?_
       refine kc_seq (kc_region ?_)
       refine kl_ldS rfl (by assumption) rfl ?_
       refine kl_call rfl rfl (toModel_ok m hs (by assumption) (by assumption)) (fun v73 H74 f75 h76 => ?_)
       obtain ⟨u77, u78, rfl, h79, h80⟩ := h76
       refine kl_call rfl rfl (iorder_ok m (by assumption) (by assumption)) (fun v81 H82 f83 h84 => ?_)
       obtain ⟨u85, rfl, h86⟩ := h84
       refine kl_mv rfl ?_
       refine kl_xt rfl rfl ?_
       refine kl_xt rfl rfl ?_
       refine kl_as rfl ?_
       refine kl_as rfl ?_
       refine kl_nil (kq_code ?_)
       refine kc_seq ?_
       refine kc_seq (kc_region ?_)
       refine kl_mv rfl ?_
       refine kl_mv rfl ?_
       refine kl_callP rfl rfl (eqIntS_ok ((bestOrd m).1) ((bestOrd m).1) (by assumption) (by assumption)) ?_
       refine kl_not rfl ?_
       refine kl_mv rfl ?_
       refine kl_join 4 87 (.bool (!(decide (((bestOrd m).1) = ((bestOrd m).1))) || decide (((bestOrd m).2) ≠ ((bestOrd m).2)))) (pc 2 rfl (pc 7 rfl (pc 10 rfl (pc 11 rfl (pc 83 rfl pn))))) (fun J88 => ?_) ?_
       ·rcases Bool.eq_false_or_eq_true (!(decide (((bestOrd m).1) = ((bestOrd m).1)))) with g87 | g87
        ·skip
         refine kl_gF rfl rfl g87 ?_
         refine kl_gF rfl rfl g87 ?_
         refine kl_gF rfl rfl g87 ?_
         refine kl_orT (decide (((bestOrd m).2) ≠ ((bestOrd m).2))) rfl rfl g87 ?_
         exact J88 _ (pc 87 rfl (pc 2 rfl (pc 7 rfl (pc 10 rfl (pc 11 rfl (pc 83 rfl pn))))))
        ·skip
         have g87p := g87
         try simp only [Bool.not_eq_true', Bool.not_eq_false', decide_eq_true_eq, decide_eq_false_iff_not, Bool.and_eq_true, Bool.or_eq_false_iff, withinB_iff] at g87p
         refine kl_gT rfl rfl g87 ?_
         refine kl_mv rfl ?_
         refine kl_gT rfl rfl g87 ?_
         refine kl_mv rfl ?_
         refine kl_gT rfl rfl g87 ?_
         refine kl_neq rfl rfl ?_
         refine kl_orF rfl rfl g87 ?_
         exact J88 _ (pc 87 rfl (pc 2 rfl (pc 7 rfl (pc 10 rfl (pc 11 rfl (pc 83 rfl pn))))))
       refine kl_nil (kq_code ?_)
       refine kc_cond rfl (fun c89 => ?_) (fun c89 => ?_)
       ·skip
        have c89r := c89
        try simp only [Bool.not_eq_true', Bool.not_eq_false', Bool.not_true, Bool.not_false, decide_eq_true_eq, decide_eq_false_iff_not, Bool.and_eq_true, Bool.or_eq_false_iff] at c89
        refine kc_seq (kc_region ?_)
        refine kl_as rfl ?_
        refine kl_nil (kq_code ?_)
        refine kc_ret ?_
        refine kq_retP rfl rfl (congrArg Value.bool ?_)
        first | rfl | (exfalso; simp only [held_mark, markL_len] at *; first | omega | (simp at *; done) | (simp at *; omega) | simp_all)
       ·skip
        have c89r := c89
        try simp only [Bool.not_eq_true', Bool.not_eq_false', Bool.not_true, Bool.not_false, decide_eq_true_eq, decide_eq_false_iff_not, Bool.and_eq_true, Bool.or_eq_false_iff] at c89
        refine kc_skipQ ?_
        refine kq_code ?_
        refine kc_seq (kc_region ?_)
        refine kl_as rfl ?_
        refine kl_nil (kq_code (kc_seq (kc_region ?_)))
        refine kl_mv rfl ?_
        refine kl_mv rfl ?_
        refine kl_callP rfl rfl (heldIntS_ok (markL (1 : Int) ((bestOrd m).1).length) (1 : Int) (by omega) (by assumption)) ?_
        refine kl_as rfl ?_
        refine kl_nil (kq_code ?_)
        refine kc_seq ?_
        refine kc_seq (kc_region ?_)
        refine kl_mv rfl ?_
        refine kl_lss rfl rfl ?_
        refine kl_nil (kq_code ?_)
        refine kc_if rfl (fun c90 => ?_) (fun c90 => ?_)
        ·skip
         refine kc_seq (kc_region ?_)
         refine kl_as rfl ?_
         refine kl_nil (kq_code ?_)
         refine kc_ret ?_
         refine kq_retP rfl rfl (congrArg Value.bool ?_)
         first | rfl | (exfalso; simp only [held_mark, markL_len] at *; first | omega | (simp at *; done) | (simp at *; omega) | simp_all)
        ·skip
         refine kc_skipQ ?_
         refine kq_code ?_
         refine kc_seq ?_
         refine kc_seq (kc_region ?_)
         refine kl_mv rfl ?_
         refine kl_mv rfl ?_
         refine kl_neq rfl rfl ?_
         refine kl_nil (kq_code ?_)
         refine kc_if rfl (fun c91 => ?_) (fun c91 => ?_)
         ·skip
          refine kc_seq (kc_region ?_)
          refine kl_as rfl ?_
          refine kl_nil (kq_code ?_)
          refine kc_ret ?_
          refine kq_retP rfl rfl (congrArg Value.bool ?_)
          first | rfl | (exfalso; simp only [held_mark, markL_len] at *; first | omega | (simp at *; done) | (simp at *; omega) | simp_all)
         ·skip
          refine kc_skipQ ?_
          refine kq_code ?_
          refine kc_seq (kc_region ?_)
          refine kl_as rfl ?_
          refine kl_nil (kq_code ?_)
          refine kc_ret ?_
          refine kq_retP rfl rfl (congrArg Value.bool ?_)
          first | rfl | (exfalso; simp only [held_mark, markL_len] at *; first | omega | (simp at *; done) | (simp at *; omega) | simp_all)
end Go.Proofs.Ytidllhcfcmjggaa
