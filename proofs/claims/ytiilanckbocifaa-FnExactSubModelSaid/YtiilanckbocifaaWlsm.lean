/- Walks of functions of the program: each returns what the plain function gives. Conditions: those that each statement names. -/
import Derived.Test.YtiilanckbocifaaWsmx
import Derived.Test.YtiilanckbocifaaWsms
import Derived.Test.YtiilanckbocifaaWsz
import Derived.Test.YtiilanckbocifaaWto
import Derived.Test.YtiilanckbocifaaWeq
import Derived.Test.YtiilanckbocifaaWmark
namespace Go.Proofs.Ytiilanckbocifaa
open Go
set_option linter.unusedSimpArgs false
set_option linter.unusedVariables false
theorem lawSmx_ok {Hmd : Hp} {vmd : Value} {Hmc : Hp} {vmc : Value} {Hvars : Hp} {vvars : Value} (m : Mod) (vars : List Int) (hmd : Ints Hmd vmd m.doms) (hmc : Cons Hmc vmc m.cons) (hvars : Ints Hvars vvars vars) : SpecP Try.prog 4 [.agg #[vmd, vmc], vvars] [Hmd, Hmc, Hvars] (.bool true) := by
 have hsz := (sub_size (m := m) (vars := vars) (mq := (subR m vars).1) (bq := (subR m vars).2) rfl).1
 have hsy := (sub_size (m := m) (vars := vars) (mq := (subR m vars).1) (bq := (subR m vars).2) rfl).2
 refine spec_of Try.func4 rfl rfl rfl (fun B => ?_)
 refine kc_seq (kc_region (kl_box rfl rfl (fun p1 H2 f3 a4 => ?_)))
 refine kl_as rfl (kl_nil (kq_code (kc_seq (kc_seq (kc_region (kl_mv rfl (kl_len rfl (by assumption) (fun l5 => ?_))))))))
 refine kl_gtr rfl rfl ?_
 refine kl_nil (kq_code (kc_if rfl (fun c6 => ?_) (fun c6 => ?_)))
 ·skip
  refine kc_seq (kc_region (kl_as rfl (kl_nil (kq_code (kc_ret (kq_retP rfl rfl (congrArg Value.bool ?_)))))))
  first | rfl | (exfalso; simp only [held_mark, markL_len, heldM_1] at *; first | omega | (simp at *; done) | (simp at *; omega) | simp_all)
 ·skip
  refine kc_skipQ (kq_code (kc_seq (kc_region (kl_as rfl (kl_nil (kq_code (kc_seq (kc_region (kl_ldS rfl (by assumption) rfl ?_)))))))))
  refine kl_mv rfl (kl_callP rfl rfl (szModel_ok m (1048576 : Int) (by omega) (by assumption) (by assumption)) ?_)
  refine kl_as rfl (kl_nil (kq_code (kc_seq (kc_seq (kc_region (kl_mv rfl (kl_lss rfl rfl ?_)))))))
  refine kl_nil (kq_code (kc_if rfl (fun c7 => ?_) (fun c7 => ?_)))
  ·skip
   refine kc_seq (kc_region (kl_as rfl (kl_nil (kq_code (kc_ret (kq_retP rfl rfl (congrArg Value.bool ?_)))))))
   first | rfl | (exfalso; simp only [held_mark, markL_len, heldM_1] at *; first | omega | (simp at *; done) | (simp at *; omega) | simp_all)
  ·skip
   have hs := small_of (szB_ok c7)
   have hmk := hs.marks
   refine kc_skipQ (kq_code (kc_seq (kc_region (kl_ldS rfl (by assumption) rfl ?_))))
   refine kl_call rfl rfl (toModel_ok m hs (by assumption) (by assumption)) (fun v8 H9 f10 h11 => ?_)
   obtain ⟨u12, u13, rfl, h14, h15⟩ := h11
   refine kl_mv rfl (kl_call rfl rfl (toIntS_ok vars (by omega) (by assumption)) (fun v16 H17 f18 h19 => ?_))
   refine kl_call rfl rfl (subS_ok m vars (by assumption) (by assumption) (by assumption)) (fun v20 H21 f22 h23 => ?_)
   obtain ⟨m24, b25, u26, u27, rfl, h28, h29, h30⟩ := h23
   obtain ⟨rfl, rfl⟩ := pair_of h30
   refine kl_mv rfl (kl_xt rfl rfl (kl_xt rfl rfl (kl_alloc (cs := [.slice none 0 0, .slice none 0 0]) rfl (fun b31 hb32 => ?_))))
   refine kl_stW (us := [u26, u27]) rfl rfl rfl rfl (oc (Sl.oneCell (by assumption)) (oc (Sl.oneCell (by assumption)) oc_nil)) rfl ?_
   refine kl_as rfl (kl_nil (kq_code (kc_seq (kc_region (kl_ldS rfl (by assumption) rfl ?_)))))
   refine kl_callL rfl rfl (toModel_ok m hs (by assumption) (by assumption)) (fun v33 H34 f35 h36 => ?_)
   obtain ⟨u37, u38, rfl, h39, h40⟩ := h36
   refine kl_alloc (cs := [.slice none 0 0, .slice none 0 0]) rfl (fun b41 hb42 => ?_)
   refine kl_stW (us := [u37, u38]) rfl rfl rfl rfl (oc (Sl.oneCell (by assumption)) (oc (Sl.oneCell (by assumption)) oc_nil)) rfl ?_
   refine kl_nil (kq_code (kc_seq (kc_region (kl_mv rfl (kl_callL rfl rfl (toIntS_ok vars (by omega) (by assumption)) (fun v43 H44 f45 h46 => ?_))))))
   refine kl_as rfl (kl_nil (kq_code (kc_seq (kc_region (kl_ldW rfl rfl (kl_mv rfl (kl_callL rfl rfl (subX_ok m vars (by assumption) (by assumption) (by assumption)) (fun v47 H48 f49 h50 => ?_))))))))
   obtain ⟨m51, b52, u53, u54, rfl, h50, h57⟩ := h50
   obtain ⟨rfl, rfl⟩ := pair_of h57
   have h55 := ModX.doms h50
   have h56 := ModX.cons h50
   refine kl_mv rfl (kl_xt rfl rfl (kl_xt rfl rfl (kl_alloc (cs := [.slice none 0 0, .slice none 0 0]) rfl (fun b58 hb59 => ?_))))
   refine kl_stW (us := [u53, u54]) rfl rfl rfl rfl (oc (Sl.oneCell (by assumption)) (oc (Sl.oneCell (by assumption)) oc_nil)) rfl ?_
   refine kl_as rfl (kl_nil (kq_code (kc_seq (kc_seq (kc_region (kl_ldW rfl rfl (kl_ldW rfl rfl (kl_callP rfl rfl (eqModel_ok (subR m vars).1 (subR m vars).1 (by assumption) (by assumption) (by assumption) (by assumption)) ?_))))))))
   refine kl_not rfl (kl_mv rfl (kl_join 4 51 (.bool (!(decide ((subR m vars).1 = (subR m vars).1)) || ((subR m vars).2 != (subR m vars).2))) (pc 1 rfl (pc 2 rfl (pc 4 rfl (pc 6 rfl (pc 7 rfl (pc 8 rfl (pc 9 rfl (pc 10 rfl (pc 11 rfl (pc 47 rfl pn)))))))))) (fun J61 => ?_) ?_))
   ·rcases Bool.eq_false_or_eq_true (!(decide ((subR m vars).1 = (subR m vars).1))) with g60 | g60
    ·skip
     refine kl_gF rfl rfl g60 (kl_gF rfl rfl g60 (kl_gF rfl rfl g60 (kl_orT ((subR m vars).2 != (subR m vars).2) rfl rfl g60 ?_)))
     exact J61 _ (pc 51 rfl (pc 1 rfl (pc 2 rfl (pc 4 rfl (pc 6 rfl (pc 7 rfl (pc 8 rfl (pc 9 rfl (pc 10 rfl (pc 11 rfl (pc 47 rfl pn)))))))))))
    ·skip
     have g60p := g60
     try simp only [Bool.not_eq_true', Bool.not_eq_false', decide_eq_true_eq, decide_eq_false_iff_not, Bool.and_eq_true, Bool.or_eq_false_iff, withinB_iff] at g60p
     refine kl_gT rfl rfl g60 (kl_mv rfl (kl_gT rfl rfl g60 (kl_mv rfl (kl_gT rfl rfl g60 (kl_bne rfl rfl ?_)))))
     refine kl_orF rfl rfl g60 ?_
     exact J61 _ (pc 51 rfl (pc 1 rfl (pc 2 rfl (pc 4 rfl (pc 6 rfl (pc 7 rfl (pc 8 rfl (pc 9 rfl (pc 10 rfl (pc 11 rfl (pc 47 rfl pn)))))))))))
   refine kl_nil (kq_code (kc_cond rfl (fun c62 => ?_) (fun c62 => ?_)))
   ·skip
    have c62r := c62
    try simp only [smpC, decide_eq_true_eq, decide_eq_false_iff_not] at c62
    refine kc_seq (kc_region (kl_as rfl (kl_nil (kq_code (kc_ret (kq_retP rfl rfl (congrArg Value.bool ?_)))))))
    first | rfl | (exfalso; simp only [held_mark, markL_len, heldM_1] at *; first | omega | (simp at *; done) | (simp at *; omega) | simp_all)
   ·skip
    have c62r := c62
    try simp only [smpC, decide_eq_true_eq, decide_eq_false_iff_not] at c62
    refine kc_skipQ (kq_code (kc_seq (kc_seq (kc_draw 5 [true, true, false, false, true] (by kernel_rfl) (by kernel_rfl) ?_))))
    refine kl_ldW rfl rfl (kl_ldS rfl (by assumption) rfl ?_)
    refine kl_call rfl rfl (toModel_ok m hs (by assumption) (by assumption)) (fun v63 H64 f65 h66 => ?_)
    obtain ⟨u67, u68, rfl, h69, h70⟩ := h66
    refine kl_callP rfl rfl (eqModel_ok m m (by assumption) (by assumption) (by assumption) (by assumption)) ?_
    refine kl_not rfl (kl_nil (kq_code (kc_cond rfl (fun c71 => ?_) (fun c71 => ?_))))
    ·skip
     have c71r := c71
     try simp only [smpC, decide_eq_true_eq, decide_eq_false_iff_not] at c71
     refine kc_seq (kc_region (kl_as rfl (kl_nil (kq_code (kc_ret (kq_retP rfl rfl (congrArg Value.bool ?_)))))))
     first | rfl | (exfalso; simp only [held_mark, markL_len, heldM_1] at *; first | omega | (simp at *; done) | (simp at *; omega) | simp_all)
    ·skip
     have c71r := c71
     try simp only [smpC, decide_eq_true_eq, decide_eq_false_iff_not] at c71
     refine kc_skipQ (kq_code (kc_seq (kc_seq (kc_region (kl_mv rfl (kl_mv rfl (kl_call rfl rfl (toIntS_ok vars (by omega) (by assumption)) (fun v72 H73 f74 h75 => ?_))))))))
     refine kl_callP rfl rfl (eqIntS_ok vars vars (by assumption) (by assumption)) ?_
     refine kl_not rfl (kl_nil (kq_code (kc_cond rfl (fun c76 => ?_) (fun c76 => ?_))))
     ·skip
      have c76r := c76
      try simp only [smpC, decide_eq_true_eq, decide_eq_false_iff_not] at c76
      refine kc_seq (kc_region (kl_as rfl (kl_nil (kq_code (kc_ret (kq_retP rfl rfl (congrArg Value.bool ?_)))))))
      first | rfl | (exfalso; simp only [held_mark, markL_len, heldM_1] at *; first | omega | (simp at *; done) | (simp at *; omega) | simp_all)
     ·skip
      have c76r := c76
      try simp only [smpC, decide_eq_true_eq, decide_eq_false_iff_not] at c76
      refine kc_skipQ (kq_code (kc_seq (kc_region (kl_as rfl (kl_nil (kq_code (kc_seq (kc_region (kl_ldW rfl rfl (kl_mv rfl (kl_callM rfl rfl (markModel_ok m (1 : Int) (by omega) (by assumption) (by assumption) f35.2) (fun v77 H78 K79 f80 h81 d82 => ?_))))))))))))
      obtain ⟨m83, rfl⟩ := h81
      have f85 := Mk.fr m83 f35
      refine kl_as rfl (kl_nil (kq_code (kc_seq (kc_region (kl_mv rfl (kl_mv rfl (kl_callM rfl rfl (markIntS_ok vars ((1 : Int) + m.doms.length + (msum m.cons : Nat)) (by omega) (by assumption) f45.2) (fun v86 H87 K88 f89 h90 d91 => ?_))))))))
      obtain ⟨m92, rfl, e93⟩ := h90
      have f94 := Mk.fr m92 f45
      refine kl_as rfl (kl_nil (kq_code (kc_seq (kc_seq (kc_region (kl_mv rfl (kl_lss rfl rfl ?_)))))))
      refine kl_mv rfl (kl_join 5 75 (.bool (decide ((((1 : Int) + m.doms.length + (msum m.cons : Nat)) + vars.length) < (0 : Int)) || !(decide ((subR m vars).1 = (subR m vars).1)))) (pc 1 rfl (pc 2 rfl (pc 4 rfl (pc 6 rfl (pc 7 rfl (pc 10 rfl (pc 11 rfl (pc 70 rfl pn)))))))) (fun J96 => ?_) ?_)
      ·rcases Bool.eq_false_or_eq_true (decide ((((1 : Int) + m.doms.length + (msum m.cons : Nat)) + vars.length) < (0 : Int))) with g95 | g95
       ·skip
        refine kl_gF rfl rfl g95 (kl_gF rfl rfl g95 (kl_gF rfl rfl g95 (kl_gF rfl rfl g95 (kl_orT (!(decide ((subR m vars).1 = (subR m vars).1))) rfl rfl g95 ?_))))
        exact J96 _ (pc 75 rfl (pc 1 rfl (pc 2 rfl (pc 4 rfl (pc 6 rfl (pc 7 rfl (pc 10 rfl (pc 11 rfl (pc 70 rfl pn)))))))))
       ·skip
        have g95p := of_decide_eq_false g95
        refine kl_gT rfl rfl g95 (kl_ldW rfl rfl (kl_gT rfl rfl g95 (kl_ldW rfl rfl (kl_gT rfl rfl g95 (kl_callP rfl rfl (eqModel_ok (subR m vars).1 (subR m vars).1 (by assumption) (by assumption) (by assumption) (by assumption)) ?_)))))
        refine kl_gT rfl rfl g95 (kl_not rfl (kl_orF rfl rfl g95 ?_))
        exact J96 _ (pc 75 rfl (pc 1 rfl (pc 2 rfl (pc 4 rfl (pc 6 rfl (pc 7 rfl (pc 10 rfl (pc 11 rfl (pc 70 rfl pn)))))))))
      refine kl_mv rfl (kl_join 4 80 (.bool ((decide ((((1 : Int) + m.doms.length + (msum m.cons : Nat)) + vars.length) < (0 : Int)) || !(decide ((subR m vars).1 = (subR m vars).1))) || ((subR m vars).2 != (subR m vars).2))) (pc 1 rfl (pc 2 rfl (pc 4 rfl (pc 6 rfl (pc 7 rfl (pc 10 rfl (pc 76 rfl pn))))))) (fun J98 => ?_) ?_)
      ·rcases Bool.eq_false_or_eq_true (decide ((((1 : Int) + m.doms.length + (msum m.cons : Nat)) + vars.length) < (0 : Int)) || !(decide ((subR m vars).1 = (subR m vars).1))) with g97 | g97
       ·skip
        refine kl_gF rfl rfl g97 (kl_gF rfl rfl g97 (kl_gF rfl rfl g97 (kl_orT ((subR m vars).2 != (subR m vars).2) rfl rfl g97 ?_)))
        exact J98 _ (pc 80 rfl (pc 1 rfl (pc 2 rfl (pc 4 rfl (pc 6 rfl (pc 7 rfl (pc 10 rfl (pc 76 rfl pn))))))))
       ·skip
        have g97p := g97
        try simp only [Bool.not_eq_true', Bool.not_eq_false', decide_eq_true_eq, decide_eq_false_iff_not, Bool.and_eq_true, Bool.or_eq_false_iff, withinB_iff] at g97p
        refine kl_gT rfl rfl g97 (kl_mv rfl (kl_gT rfl rfl g97 (kl_mv rfl (kl_gT rfl rfl g97 (kl_bne rfl rfl ?_)))))
        refine kl_orF rfl rfl g97 ?_
        exact J98 _ (pc 80 rfl (pc 1 rfl (pc 2 rfl (pc 4 rfl (pc 6 rfl (pc 7 rfl (pc 10 rfl (pc 76 rfl pn))))))))
      refine kl_nil (kq_code (kc_cond rfl (fun c99 => ?_) (fun c99 => ?_)))
      ·skip
       have c99r := c99
       try simp only [smpC, decide_eq_true_eq, decide_eq_false_iff_not] at c99
       refine kc_seq (kc_region (kl_as rfl (kl_nil (kq_code (kc_ret (kq_retP rfl rfl (congrArg Value.bool ?_)))))))
       first | rfl | (exfalso; simp only [held_mark, markL_len, heldM_1] at *; first | omega | (simp at *; done) | (simp at *; omega) | simp_all)
      ·skip
       have c99r := c99
       try simp only [smpC, decide_eq_true_eq, decide_eq_false_iff_not] at c99
       refine kc_skipQ (kq_code (kc_seq (kc_region (kl_as rfl (kl_nil (kq_code (kc_seq (kc_region (kl_ldW rfl rfl (kl_mv rfl (kl_callT rfl rfl (markModX_ok (subR m vars).1 (1 : Int) (by omega) h50) (fun v100 L1 Ln K101 h102 g103 g104 => ?_))))))))))))
       obtain ⟨M105, rfl, rfl, rfl, h106⟩ := h102
       refine kl_norm ?_
       have h107 := ModX.doms h106
       have h108 := ModX.cons h106
       refine kl_as rfl (kl_nil (kq_code (kc_seq (kc_region (kl_as rfl (kl_nil (kq_code (kc_seq (kc_region (kl_ldW rfl rfl (kl_mv rfl (kl_callP rfl rfl (heldMod_ok (markM (1 : Int) (subR m vars).1) (1 : Int) (by rw [markM_doms, markM_sum]; omega) (by assumption) (by assumption)) ?_))))))))))))
       refine kl_as rfl (kl_nil (kq_code (kc_seq (kc_seq (kc_region (kl_mv rfl (kl_lss rfl rfl ?_)))))))
       refine kl_nil (kq_code (kc_if rfl (fun c109 => ?_) (fun c109 => ?_)))
       ·skip
        refine kc_seq (kc_region (kl_as rfl (kl_nil (kq_code (kc_ret (kq_retP rfl rfl (congrArg Value.bool ?_)))))))
        first | rfl | (exfalso; simp only [held_mark, markL_len, heldM_1] at *; first | omega | (simp at *; done) | (simp at *; omega) | simp_all)
       ·skip
        refine kc_skipQ (kq_code (kc_seq (kc_seq (kc_region (kl_mv rfl (kl_mv rfl (kl_neq rfl rfl ?_)))))))
        refine kl_nil (kq_code (kc_if rfl (fun c110 => ?_) (fun c110 => ?_)))
        ·skip
         refine kc_seq (kc_region (kl_as rfl (kl_nil (kq_code (kc_ret (kq_retP rfl rfl (congrArg Value.bool ?_)))))))
         first | rfl | (exfalso; simp only [held_mark, markL_len, heldM_1] at *; first | omega | (simp at *; done) | (simp at *; omega) | simp_all)
        ·skip
         refine kc_skipQ (kq_code (kc_seq (kc_region (kl_ldS rfl (by assumption) rfl ?_))))
         refine kl_call rfl rfl (toModel_ok m hs (by assumption) (by assumption)) (fun v111 H112 f113 h114 => ?_)
         obtain ⟨u115, u116, rfl, h117, h118⟩ := h114
         refine kl_mv rfl (kl_call rfl rfl (toIntS_ok vars (by omega) (by assumption)) (fun v119 H120 f121 h122 => ?_))
         refine kl_callL rfl rfl (subX_ok m vars (by assumption) (by assumption) (by assumption)) (fun v123 H124 f125 h126 => ?_)
         obtain ⟨m127, b128, u129, u130, rfl, h126, h133⟩ := h126
         obtain ⟨rfl, rfl⟩ := pair_of h133
         have h131 := ModX.doms h126
         have h132 := ModX.cons h126
         refine kl_mv rfl (kl_xt rfl rfl (kl_xt rfl rfl (kl_alloc (cs := [.slice none 0 0, .slice none 0 0]) rfl (fun b134 hb135 => ?_))))
         refine kl_stW (us := [u129, u130]) rfl rfl rfl rfl (oc (Sl.oneCell (by assumption)) (oc (Sl.oneCell (by assumption)) oc_nil)) rfl ?_
         refine kl_as rfl (kl_nil (kq_code (kc_seq (kc_seq (kc_region (kl_ldW rfl rfl (kl_ldW rfl rfl (kl_callP rfl rfl (eqModel_ok (subR m vars).1 (subR m vars).1 (by assumption) (by assumption) (by assumption) (by assumption)) ?_))))))))
         refine kl_not rfl (kl_mv rfl (kl_join 4 108 (.bool (!(decide ((subR m vars).1 = (subR m vars).1)) || ((subR m vars).2 != (subR m vars).2))) (pc 4 rfl (pc 10 rfl (pc 13 rfl (pc 14 rfl (pc 104 rfl pn))))) (fun J137 => ?_) ?_))
         ·rcases Bool.eq_false_or_eq_true (!(decide ((subR m vars).1 = (subR m vars).1))) with g136 | g136
          ·skip
           refine kl_gF rfl rfl g136 (kl_gF rfl rfl g136 (kl_gF rfl rfl g136 (kl_orT ((subR m vars).2 != (subR m vars).2) rfl rfl g136 ?_)))
           exact J137 _ (pc 108 rfl (pc 4 rfl (pc 10 rfl (pc 13 rfl (pc 14 rfl (pc 104 rfl pn))))))
          ·skip
           have g136p := g136
           try simp only [Bool.not_eq_true', Bool.not_eq_false', decide_eq_true_eq, decide_eq_false_iff_not, Bool.and_eq_true, Bool.or_eq_false_iff, withinB_iff] at g136p
           refine kl_gT rfl rfl g136 (kl_mv rfl (kl_gT rfl rfl g136 (kl_mv rfl (kl_gT rfl rfl g136 (kl_bne rfl rfl ?_)))))
           refine kl_orF rfl rfl g136 ?_
           exact J137 _ (pc 108 rfl (pc 4 rfl (pc 10 rfl (pc 13 rfl (pc 14 rfl (pc 104 rfl pn))))))
         refine kl_nil (kq_code (kc_cond rfl (fun c138 => ?_) (fun c138 => ?_)))
         ·skip
          have c138r := c138
          try simp only [smpC, decide_eq_true_eq, decide_eq_false_iff_not] at c138
          refine kc_seq (kc_region (kl_as rfl (kl_nil (kq_code (kc_ret (kq_retP rfl rfl (congrArg Value.bool ?_)))))))
          first | rfl | (exfalso; simp only [held_mark, markL_len, heldM_1] at *; first | omega | (simp at *; done) | (simp at *; omega) | simp_all)
         ·skip
          have c138r := c138
          try simp only [smpC, decide_eq_true_eq, decide_eq_false_iff_not] at c138
          refine kc_skipQ (kq_code (kc_seq (kc_region (kl_as rfl (kl_nil (kq_code (kc_seq (kc_region (kl_ldW rfl rfl (kl_mv rfl (kl_callP rfl rfl (heldMod_ok (markM (1 : Int) (subR m vars).1) (1 : Int) (by rw [markM_doms, markM_sum]; omega) (by assumption) (by assumption)) ?_)))))))))))
          refine kl_as rfl (kl_nil (kq_code (kc_seq (kc_seq (kc_region (kl_mv rfl (kl_lss rfl rfl ?_)))))))
          refine kl_nil (kq_code (kc_if rfl (fun c139 => ?_) (fun c139 => ?_)))
          ·skip
           refine kc_seq (kc_region (kl_as rfl (kl_nil (kq_code (kc_ret (kq_retP rfl rfl (congrArg Value.bool ?_)))))))
           first | rfl | (exfalso; simp only [held_mark, markL_len, heldM_1] at *; first | omega | (simp at *; done) | (simp at *; omega) | simp_all)
          ·skip
           refine kc_skipQ (kq_code (kc_seq (kc_seq (kc_region (kl_mv rfl (kl_mv rfl (kl_neq rfl rfl ?_)))))))
           refine kl_nil (kq_code (kc_if rfl (fun c140 => ?_) (fun c140 => ?_)))
           ·skip
            refine kc_seq (kc_region (kl_as rfl (kl_nil (kq_code (kc_ret (kq_retP rfl rfl (congrArg Value.bool ?_)))))))
            first | rfl | (exfalso; simp only [held_mark, markL_len, heldM_1] at *; first | omega | (simp at *; done) | (simp at *; omega) | simp_all)
           ·skip
            refine kc_skipQ (kq_code (kc_seq (kc_region (kl_as rfl (kl_nil (kq_code (kc_ret (kq_retP rfl rfl (congrArg Value.bool ?_)))))))))
            first | rfl | (exfalso; simp only [held_mark, markL_len, heldM_1] at *; first | omega | (simp at *; done) | (simp at *; omega) | simp_all)
end Go.Proofs.Ytiilanckbocifaa
