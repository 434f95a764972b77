/- Walks of functions of the program: each returns what the plain function gives. Conditions: those that each statement names. -/
import Derived.Test.YtpnkinblekmjlaaGreatDoorWog
import Derived.Test.YtpnkinblekmjlaaGreatDoorWsz
import Derived.Test.YtpnkinblekmjlaaGreatDoorWto
import Derived.Test.YtpnkinblekmjlaaGreatDoorWeq
namespace Go.Proofs.YtpnkinblekmjlaaGreatDoor
open Go
set_option linter.unusedSimpArgs false
set_option linter.unusedVariables false
theorem lawOg_ok {Hmd : Hp} {vmd : Value} {Hmc : Hp} {vmc : Value} {Hobj : Hp} {vobj : Value} {Hx : Hp} {vx : Value} {Ht : Hp} (m : Mod) (obj : List Int) (x : List Int) (hmd : Ints Hmd vmd m.doms) (hmc : Cons Hmc vmc m.cons) (hobj : Ints Hobj vobj obj) (hx : Ints Hx vx x) (htab : At Ht (.pointer (some ⟨1, 0, none⟩)) tabV) : SpecP Tryz.prog 3 [.agg #[vmd, vmc], vobj, vx] [Hmd, Hmc, Hobj, Hx, Ht] (.bool true) := by
 refine spec_of Tryz.func3 rfl rfl rfl (fun B => ?_)
 refine kc_seq (kc_region ?_)
 refine kl_box rfl rfl (fun p1 H2 f3 a4 => ?_)
 refine kl_as rfl ?_
 refine kl_nil (kq_code ?_)
 refine kc_seq ?_
 refine kc_seq (kc_region ?_)
 refine kl_mv rfl ?_
 refine kl_len rfl (by assumption) (fun l5 => ?_)
 refine kl_gtr rfl rfl ?_
 refine kl_nil (kq_code ?_)
 refine kc_if rfl (fun c6 => ?_) (fun c6 => ?_)
 ·skip
  refine kc_seq (kc_region ?_)
  refine kl_as rfl ?_
  refine kl_nil (kq_code ?_)
  refine kc_ret ?_
  refine kq_retP rfl rfl (congrArg Value.bool ?_)
  first | rfl | (exfalso; simp at *; done) | (exfalso; simp [wval_eq] at *; done) | (exfalso; simp_all)
 ·skip
  refine kc_skipQ ?_
  refine kq_code ?_
  refine kc_seq ?_
  refine kc_seq (kc_region ?_)
  refine kl_mv rfl ?_
  refine kl_len rfl (by assumption) (fun l7 => ?_)
  refine kl_gtr rfl rfl ?_
  refine kl_nil (kq_code ?_)
  refine kc_if rfl (fun c8 => ?_) (fun c8 => ?_)
  ·skip
   refine kc_seq (kc_region ?_)
   refine kl_as rfl ?_
   refine kl_nil (kq_code ?_)
   refine kc_ret ?_
   refine kq_retP rfl rfl (congrArg Value.bool ?_)
   first | rfl | (exfalso; simp at *; done) | (exfalso; simp [wval_eq] at *; done) | (exfalso; simp_all)
  ·skip
   refine kc_skipQ ?_
   refine kq_code ?_
   refine kc_seq (kc_region ?_)
   refine kl_as rfl ?_
   refine kl_nil (kq_code (kc_seq (kc_region ?_)))
   refine kl_ldS rfl (by assumption) rfl ?_
   refine kl_mv rfl ?_
   refine kl_callP rfl rfl (szModel_ok m (1048576 : Int) (by omega) (by assumption) (by assumption)) ?_
   refine kl_as rfl ?_
   refine kl_nil (kq_code ?_)
   refine kc_seq ?_
   refine kc_seq (kc_region ?_)
   refine kl_mv rfl ?_
   refine kl_lss rfl rfl ?_
   refine kl_nil (kq_code ?_)
   refine kc_if rfl (fun c9 => ?_) (fun c9 => ?_)
   ·skip
    refine kc_seq (kc_region ?_)
    refine kl_as rfl ?_
    refine kl_nil (kq_code ?_)
    refine kc_ret ?_
    refine kq_retP rfl rfl (congrArg Value.bool ?_)
    first | rfl | (exfalso; simp at *; done) | (exfalso; simp [wval_eq] at *; done) | (exfalso; simp_all)
   ·skip
    have hs := small_of (szB_ok c9)
    refine kc_skipQ ?_
    refine kq_code ?_
    refine kc_seq (kc_region ?_)
    refine kl_ldS rfl (by assumption) rfl ?_
    refine kl_call rfl rfl (toModel_ok m hs (by assumption) (by assumption)) (fun v10 H11 f12 h13 => ?_)
    obtain ⟨u14, u15, rfl, h16, h17⟩ := h13
    refine kl_mv rfl ?_
    refine kl_call rfl rfl (toIntS_ok obj (by omega) (by assumption)) (fun v18 H19 f20 h21 => ?_)
    refine kl_mv rfl ?_
    refine kl_call rfl rfl (toIntS_ok x (by omega) (by assumption)) (fun v22 H23 f24 h25 => ?_)
    refine kl_callP rfl rfl (gapRef_ok m obj x (by assumption) (by assumption) (by assumption) (by assumption)) ?_
    refine kl_mv rfl ?_
    refine kl_xt rfl rfl ?_
    refine kl_xt rfl rfl ?_
    refine kl_as rfl ?_
    refine kl_as rfl ?_
    refine kl_nil (kq_code (kc_seq (kc_region ?_)))
    refine kl_ldS rfl (by assumption) rfl ?_
    refine kl_call rfl rfl (toModel_ok m hs (by assumption) (by assumption)) (fun v26 H27 f28 h29 => ?_)
    obtain ⟨u30, u31, rfl, h32, h33⟩ := h29
    refine kl_alloc (cs := [.slice none 0 0, .slice none 0 0]) rfl (fun b34 hb35 => ?_)
    refine kl_stW (us := [u30, u31]) rfl rfl rfl rfl (oc (Sl.oneCell (by assumption)) (oc (Sl.oneCell (by assumption)) oc_nil)) rfl ?_
    refine kl_nil (kq_code (kc_seq (kc_region ?_)))
    refine kl_mv rfl ?_
    refine kl_call rfl rfl (toIntS_ok obj (by omega) (by assumption)) (fun v36 H37 f38 h39 => ?_)
    refine kl_as rfl ?_
    refine kl_nil (kq_code (kc_seq (kc_region ?_)))
    refine kl_mv rfl ?_
    refine kl_call rfl rfl (toIntS_ok x (by omega) (by assumption)) (fun v40 H41 f42 h43 => ?_)
    refine kl_as rfl ?_
    refine kl_nil (kq_code (kc_seq (kc_region ?_)))
    refine kl_ldW rfl rfl ?_
    refine kl_mv rfl ?_
    refine kl_mv rfl ?_
    refine kl_callP rfl rfl (gapImp_ok m obj x (by assumption) (by assumption) (by assumption) (by assumption) htab) ?_
    refine kl_mv rfl ?_
    refine kl_xt rfl rfl ?_
    refine kl_xt rfl rfl ?_
    refine kl_as rfl ?_
    refine kl_as rfl ?_
    refine kl_nil (kq_code ?_)
    refine kc_seq ?_
    refine kc_seq (kc_region ?_)
    refine kl_mv rfl ?_
    refine kl_mv rfl ?_
    refine kl_neq rfl rfl ?_
    refine kl_mv rfl ?_
    refine kl_join 4 56 (.bool (decide (((gapI m obj x).1) ≠ ((gapI m obj x).1)) || (((gapI m obj x).2) != ((gapI m obj x).2)))) (pc 1 rfl (pc 2 rfl (pc 3 rfl (pc 6 rfl (pc 10 rfl (pc 11 rfl (pc 12 rfl (pc 52 rfl pn)))))))) (fun J45 => ?_) ?_
    ·rcases Bool.eq_false_or_eq_true (decide (((gapI m obj x).1) ≠ ((gapI m obj x).1))) with g44 | g44
     ·skip
      refine kl_gF rfl rfl g44 ?_
      refine kl_gF rfl rfl g44 ?_
      refine kl_gF rfl rfl g44 ?_
      refine kl_orT (((gapI m obj x).2) != ((gapI m obj x).2)) rfl rfl g44 ?_
      exact J45 _ (pc 56 rfl (pc 1 rfl (pc 2 rfl (pc 3 rfl (pc 6 rfl (pc 10 rfl (pc 11 rfl (pc 12 rfl (pc 52 rfl pn)))))))))
     ·skip
      have g44p := of_decide_eq_false g44
      refine kl_gT rfl rfl g44 ?_
      refine kl_mv rfl ?_
      refine kl_gT rfl rfl g44 ?_
      refine kl_mv rfl ?_
      refine kl_gT rfl rfl g44 ?_
      refine kl_bne rfl rfl ?_
      refine kl_orF rfl rfl g44 ?_
      exact J45 _ (pc 56 rfl (pc 1 rfl (pc 2 rfl (pc 3 rfl (pc 6 rfl (pc 10 rfl (pc 11 rfl (pc 12 rfl (pc 52 rfl pn)))))))))
    refine kl_nil (kq_code ?_)
    refine kc_cond rfl (fun c46 => ?_) (fun c46 => ?_)
    ·skip
     have c46r := c46
     try simp only [Bool.not_eq_true', Bool.not_eq_false', Bool.not_true, Bool.not_false, decide_eq_true_eq, decide_eq_false_iff_not, Bool.and_eq_true, Bool.or_eq_false_iff] at c46
     refine kc_seq (kc_region ?_)
     refine kl_as rfl ?_
     refine kl_nil (kq_code ?_)
     refine kc_ret ?_
     refine kq_retP rfl rfl (congrArg Value.bool ?_)
     first | rfl | (exfalso; simp at *; done) | (exfalso; simp [wval_eq] at *; done) | (exfalso; simp_all)
    ·skip
     have c46r := c46
     try simp only [Bool.not_eq_true', Bool.not_eq_false', Bool.not_true, Bool.not_false, decide_eq_true_eq, decide_eq_false_iff_not, Bool.and_eq_true, Bool.or_eq_false_iff] at c46
     refine kc_skipQ ?_
     refine kq_code ?_
     refine kc_seq ?_
     refine kc_seq ?_
     refine kc_draw 5 [true, true, false, false, true] (by kernel_rfl) (by kernel_rfl) ?_
     refine kl_ldW rfl rfl ?_
     refine kl_ldS rfl (by assumption) rfl ?_
     refine kl_call rfl rfl (toModel_ok m hs (by assumption) (by assumption)) (fun v47 H48 f49 h50 => ?_)
     obtain ⟨u51, u52, rfl, h53, h54⟩ := h50
     refine kl_callP rfl rfl (eqModel_ok m m (by assumption) (by assumption) (by assumption) (by assumption)) ?_
     refine kl_not rfl ?_
     refine kl_nil (kq_code ?_)
     refine kc_cond rfl (fun c55 => ?_) (fun c55 => ?_)
     ·skip
      have c55r := c55
      try simp only [Bool.not_eq_true', Bool.not_eq_false', Bool.not_true, Bool.not_false, decide_eq_true_eq, decide_eq_false_iff_not, Bool.and_eq_true, Bool.or_eq_false_iff] at c55
      refine kc_seq (kc_region ?_)
      refine kl_as rfl ?_
      refine kl_nil (kq_code ?_)
      refine kc_ret ?_
      refine kq_retP rfl rfl (congrArg Value.bool ?_)
      first | rfl | (exfalso; simp at *; done) | (exfalso; simp [wval_eq] at *; done) | (exfalso; simp_all)
     ·skip
      have c55r := c55
      try simp only [Bool.not_eq_true', Bool.not_eq_false', Bool.not_true, Bool.not_false, decide_eq_true_eq, decide_eq_false_iff_not, Bool.and_eq_true, Bool.or_eq_false_iff] at c55
      refine kc_skipQ ?_
      refine kq_code ?_
      refine kc_seq ?_
      refine kc_seq (kc_region ?_)
      refine kl_mv rfl ?_
      refine kl_mv rfl ?_
      refine kl_call rfl rfl (toIntS_ok obj (by omega) (by assumption)) (fun v56 H57 f58 h59 => ?_)
      refine kl_callP rfl rfl (eqIntS_ok obj obj (by assumption) (by assumption)) ?_
      refine kl_not rfl ?_
      refine kl_nil (kq_code ?_)
      refine kc_cond rfl (fun c60 => ?_) (fun c60 => ?_)
      ·skip
       have c60r := c60
       try simp only [Bool.not_eq_true', Bool.not_eq_false', Bool.not_true, Bool.not_false, decide_eq_true_eq, decide_eq_false_iff_not, Bool.and_eq_true, Bool.or_eq_false_iff] at c60
       refine kc_seq (kc_region ?_)
       refine kl_as rfl ?_
       refine kl_nil (kq_code ?_)
       refine kc_ret ?_
       refine kq_retP rfl rfl (congrArg Value.bool ?_)
       first | rfl | (exfalso; simp at *; done) | (exfalso; simp [wval_eq] at *; done) | (exfalso; simp_all)
      ·skip
       have c60r := c60
       try simp only [Bool.not_eq_true', Bool.not_eq_false', Bool.not_true, Bool.not_false, decide_eq_true_eq, decide_eq_false_iff_not, Bool.and_eq_true, Bool.or_eq_false_iff] at c60
       refine kc_skipQ ?_
       refine kq_code ?_
       refine kc_seq ?_
       refine kc_seq (kc_region ?_)
       refine kl_mv rfl ?_
       refine kl_mv rfl ?_
       refine kl_call rfl rfl (toIntS_ok x (by omega) (by assumption)) (fun v61 H62 f63 h64 => ?_)
       refine kl_callP rfl rfl (eqIntS_ok x x (by assumption) (by assumption)) ?_
       refine kl_not rfl ?_
       refine kl_nil (kq_code ?_)
       refine kc_cond rfl (fun c65 => ?_) (fun c65 => ?_)
       ·skip
        have c65r := c65
        try simp only [Bool.not_eq_true', Bool.not_eq_false', Bool.not_true, Bool.not_false, decide_eq_true_eq, decide_eq_false_iff_not, Bool.and_eq_true, Bool.or_eq_false_iff] at c65
        refine kc_seq (kc_region ?_)
        refine kl_as rfl ?_
        refine kl_nil (kq_code ?_)
        refine kc_ret ?_
        refine kq_retP rfl rfl (congrArg Value.bool ?_)
        first | rfl | (exfalso; simp at *; done) | (exfalso; simp [wval_eq] at *; done) | (exfalso; simp_all)
       ·skip
        have c65r := c65
        try simp only [Bool.not_eq_true', Bool.not_eq_false', Bool.not_true, Bool.not_false, decide_eq_true_eq, decide_eq_false_iff_not, Bool.and_eq_true, Bool.or_eq_false_iff] at c65
        refine kc_skipQ ?_
        refine kq_code ?_
        refine kc_seq (kc_region ?_)
        refine kl_as rfl ?_
        refine kl_nil (kq_code ?_)
        refine kc_ret ?_
        refine kq_retP rfl rfl (congrArg Value.bool ?_)
        first | rfl | (exfalso; simp at *; done) | (exfalso; simp [wval_eq] at *; done) | (exfalso; simp_all)
end Go.Proofs.YtpnkinblekmjlaaGreatDoor
