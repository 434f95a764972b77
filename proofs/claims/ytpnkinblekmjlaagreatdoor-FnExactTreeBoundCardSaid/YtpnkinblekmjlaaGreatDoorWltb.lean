/- Walks of functions of the program: each returns what the plain function gives. Conditions: those that each statement names. -/
import Derived.Test.YtpnkinblekmjlaaGreatDoorWtb
import Derived.Test.YtpnkinblekmjlaaGreatDoorWtbs
import Derived.Test.YtpnkinblekmjlaaGreatDoorWsz
import Derived.Test.YtpnkinblekmjlaaGreatDoorWto
import Derived.Test.YtpnkinblekmjlaaGreatDoorWeq
namespace Go.Proofs.YtpnkinblekmjlaaGreatDoor
open Go
set_option linter.unusedSimpArgs false
set_option linter.unusedVariables false
theorem lawTb_ok {Hmd : Hp} {vmd : Value} {Hmc : Hp} {vmc : Value} {Hobj : Hp} {vobj : Value} {Ht : Hp} (m : Mod) (obj : List Int) (dp : Int) (hmd : Ints Hmd vmd m.doms) (hmc : Cons Hmc vmc m.cons) (hobj : Ints Hobj vobj obj) (htab : At Ht (.pointer (some ⟨1, 0, none⟩)) tabV) : SpecP Tryz.prog 5 [.agg #[vmd, vmc], vobj, .int .i64 dp] [Hmd, Hmc, Hobj, Ht] (.bool true) := by
 refine spec_of Tryz.func5 rfl rfl rfl (fun B => ?_)
 refine kc_seq (kc_region ?_)
 refine kl_box rfl rfl (fun p1 H2 f3 a4 => ?_)
 refine kl_as rfl ?_
 refine kl_nil (kq_code ?_)
 refine kc_seq ?_
 refine kc_seq (kc_region ?_)
 refine kl_mv rfl ?_
 refine kl_len rfl (by assumption) (fun l5 => ?_)
 refine kl_gtr rfl rfl ?_
 refine kl_nil (kq_code ?_)
 refine kc_if rfl (fun c6 => ?_) (fun c6 => ?_)
 ·skip
  refine kc_seq (kc_region ?_)
  refine kl_as rfl ?_
  refine kl_nil (kq_code ?_)
  refine kc_ret ?_
  refine kq_retP rfl rfl (congrArg Value.bool ?_)
  first | rfl | (exfalso; simp at *; done) | (exfalso; simp [wval_eq] at *; done) | (exfalso; simp_all)
 ·skip
  refine kc_skipQ ?_
  refine kq_code ?_
  refine kc_seq (kc_region ?_)
  refine kl_as rfl ?_
  refine kl_nil (kq_code (kc_seq (kc_region ?_)))
  refine kl_ldS rfl (by assumption) rfl ?_
  refine kl_mv rfl ?_
  refine kl_callP rfl rfl (szModel_ok m (1048576 : Int) (by omega) (by assumption) (by assumption)) ?_
  refine kl_as rfl ?_
  refine kl_nil (kq_code ?_)
  refine kc_seq ?_
  refine kc_seq (kc_region ?_)
  refine kl_mv rfl ?_
  refine kl_lss rfl rfl ?_
  refine kl_nil (kq_code ?_)
  refine kc_if rfl (fun c7 => ?_) (fun c7 => ?_)
  ·skip
   refine kc_seq (kc_region ?_)
   refine kl_as rfl ?_
   refine kl_nil (kq_code ?_)
   refine kc_ret ?_
   refine kq_retP rfl rfl (congrArg Value.bool ?_)
   first | rfl | (exfalso; simp at *; done) | (exfalso; simp [wval_eq] at *; done) | (exfalso; simp_all)
  ·skip
   have hs := small_of (szB_ok c7)
   refine kc_skipQ ?_
   refine kq_code ?_
   refine kc_seq (kc_region ?_)
   refine kl_ldS rfl (by assumption) rfl ?_
   refine kl_call rfl rfl (toModel_ok m hs (by assumption) (by assumption)) (fun v8 H9 f10 h11 => ?_)
   obtain ⟨u12, u13, rfl, h14, h15⟩ := h11
   refine kl_mv rfl ?_
   refine kl_call rfl rfl (toIntS_ok obj (by omega) (by assumption)) (fun v16 H17 f18 h19 => ?_)
   refine kl_mv rfl ?_
   refine kl_callP rfl rfl (treeBS_ok m obj dp (by assumption) (by assumption) (by assumption)) ?_
   refine kl_mv rfl ?_
   refine kl_xt rfl rfl ?_
   refine kl_xt rfl rfl ?_
   refine kl_as rfl ?_
   refine kl_as rfl ?_
   refine kl_nil (kq_code (kc_seq (kc_region ?_)))
   refine kl_ldS rfl (by assumption) rfl ?_
   refine kl_call rfl rfl (toModel_ok m hs (by assumption) (by assumption)) (fun v20 H21 f22 h23 => ?_)
   obtain ⟨u24, u25, rfl, h26, h27⟩ := h23
   refine kl_alloc (cs := [.slice none 0 0, .slice none 0 0]) rfl (fun b28 hb29 => ?_)
   refine kl_stW (us := [u24, u25]) rfl rfl rfl rfl (oc (Sl.oneCell (by assumption)) (oc (Sl.oneCell (by assumption)) oc_nil)) rfl ?_
   refine kl_nil (kq_code (kc_seq (kc_region ?_)))
   refine kl_mv rfl ?_
   refine kl_call rfl rfl (toIntS_ok obj (by omega) (by assumption)) (fun v30 H31 f32 h33 => ?_)
   refine kl_as rfl ?_
   refine kl_nil (kq_code (kc_seq (kc_region ?_)))
   refine kl_ldW rfl rfl ?_
   refine kl_mv rfl ?_
   refine kl_mv rfl ?_
   refine kl_callP rfl rfl (treeBI_ok m obj dp (by assumption) (by assumption) (by assumption) htab) ?_
   refine kl_mv rfl ?_
   refine kl_xt rfl rfl ?_
   refine kl_xt rfl rfl ?_
   refine kl_as rfl ?_
   refine kl_as rfl ?_
   refine kl_nil (kq_code ?_)
   refine kc_seq ?_
   refine kc_seq (kc_region ?_)
   refine kl_mv rfl ?_
   refine kl_mv rfl ?_
   refine kl_neq rfl rfl ?_
   refine kl_mv rfl ?_
   refine kl_join 4 49 (.bool (decide (((tbI m obj dp).1) ≠ ((tbI m obj dp).1)) || (((tbI m obj dp).2) != ((tbI m obj dp).2)))) (pc 1 rfl (pc 3 rfl (pc 6 rfl (pc 10 rfl (pc 11 rfl (pc 45 rfl pn)))))) (fun J35 => ?_) ?_
   ·rcases Bool.eq_false_or_eq_true (decide (((tbI m obj dp).1) ≠ ((tbI m obj dp).1))) with g34 | g34
    ·skip
     refine kl_gF rfl rfl g34 ?_
     refine kl_gF rfl rfl g34 ?_
     refine kl_gF rfl rfl g34 ?_
     refine kl_orT (((tbI m obj dp).2) != ((tbI m obj dp).2)) rfl rfl g34 ?_
     exact J35 _ (pc 49 rfl (pc 1 rfl (pc 3 rfl (pc 6 rfl (pc 10 rfl (pc 11 rfl (pc 45 rfl pn)))))))
    ·skip
     have g34p := of_decide_eq_false g34
     refine kl_gT rfl rfl g34 ?_
     refine kl_mv rfl ?_
     refine kl_gT rfl rfl g34 ?_
     refine kl_mv rfl ?_
     refine kl_gT rfl rfl g34 ?_
     refine kl_bne rfl rfl ?_
     refine kl_orF rfl rfl g34 ?_
     exact J35 _ (pc 49 rfl (pc 1 rfl (pc 3 rfl (pc 6 rfl (pc 10 rfl (pc 11 rfl (pc 45 rfl pn)))))))
   refine kl_nil (kq_code ?_)
   refine kc_cond rfl (fun c36 => ?_) (fun c36 => ?_)
   ·skip
    have c36r := c36
    try simp only [Bool.not_eq_true', Bool.not_eq_false', Bool.not_true, Bool.not_false, decide_eq_true_eq, decide_eq_false_iff_not, Bool.and_eq_true, Bool.or_eq_false_iff] at c36
    refine kc_seq (kc_region ?_)
    refine kl_as rfl ?_
    refine kl_nil (kq_code ?_)
    refine kc_ret ?_
    refine kq_retP rfl rfl (congrArg Value.bool ?_)
    first | rfl | (exfalso; simp at *; done) | (exfalso; simp [wval_eq] at *; done) | (exfalso; simp_all)
   ·skip
    have c36r := c36
    try simp only [Bool.not_eq_true', Bool.not_eq_false', Bool.not_true, Bool.not_false, decide_eq_true_eq, decide_eq_false_iff_not, Bool.and_eq_true, Bool.or_eq_false_iff] at c36
    refine kc_skipQ ?_
    refine kq_code ?_
    refine kc_seq ?_
    refine kc_seq ?_
    refine kc_draw 5 [true, true, false, false, true] (by kernel_rfl) (by kernel_rfl) ?_
    refine kl_ldW rfl rfl ?_
    refine kl_ldS rfl (by assumption) rfl ?_
    refine kl_call rfl rfl (toModel_ok m hs (by assumption) (by assumption)) (fun v37 H38 f39 h40 => ?_)
    obtain ⟨u41, u42, rfl, h43, h44⟩ := h40
    refine kl_callP rfl rfl (eqModel_ok m m (by assumption) (by assumption) (by assumption) (by assumption)) ?_
    refine kl_not rfl ?_
    refine kl_nil (kq_code ?_)
    refine kc_cond rfl (fun c45 => ?_) (fun c45 => ?_)
    ·skip
     have c45r := c45
     try simp only [Bool.not_eq_true', Bool.not_eq_false', Bool.not_true, Bool.not_false, decide_eq_true_eq, decide_eq_false_iff_not, Bool.and_eq_true, Bool.or_eq_false_iff] at c45
     refine kc_seq (kc_region ?_)
     refine kl_as rfl ?_
     refine kl_nil (kq_code ?_)
     refine kc_ret ?_
     refine kq_retP rfl rfl (congrArg Value.bool ?_)
     first | rfl | (exfalso; simp at *; done) | (exfalso; simp [wval_eq] at *; done) | (exfalso; simp_all)
    ·skip
     have c45r := c45
     try simp only [Bool.not_eq_true', Bool.not_eq_false', Bool.not_true, Bool.not_false, decide_eq_true_eq, decide_eq_false_iff_not, Bool.and_eq_true, Bool.or_eq_false_iff] at c45
     refine kc_skipQ ?_
     refine kq_code ?_
     refine kc_seq ?_
     refine kc_seq (kc_region ?_)
     refine kl_mv rfl ?_
     refine kl_mv rfl ?_
     refine kl_call rfl rfl (toIntS_ok obj (by omega) (by assumption)) (fun v46 H47 f48 h49 => ?_)
     refine kl_callP rfl rfl (eqIntS_ok obj obj (by assumption) (by assumption)) ?_
     refine kl_not rfl ?_
     refine kl_nil (kq_code ?_)
     refine kc_cond rfl (fun c50 => ?_) (fun c50 => ?_)
     ·skip
      have c50r := c50
      try simp only [Bool.not_eq_true', Bool.not_eq_false', Bool.not_true, Bool.not_false, decide_eq_true_eq, decide_eq_false_iff_not, Bool.and_eq_true, Bool.or_eq_false_iff] at c50
      refine kc_seq (kc_region ?_)
      refine kl_as rfl ?_
      refine kl_nil (kq_code ?_)
      refine kc_ret ?_
      refine kq_retP rfl rfl (congrArg Value.bool ?_)
      first | rfl | (exfalso; simp at *; done) | (exfalso; simp [wval_eq] at *; done) | (exfalso; simp_all)
     ·skip
      have c50r := c50
      try simp only [Bool.not_eq_true', Bool.not_eq_false', Bool.not_true, Bool.not_false, decide_eq_true_eq, decide_eq_false_iff_not, Bool.and_eq_true, Bool.or_eq_false_iff] at c50
      refine kc_skipQ ?_
      refine kq_code ?_
      refine kc_seq (kc_region ?_)
      refine kl_as rfl ?_
      refine kl_nil (kq_code ?_)
      refine kc_ret ?_
      refine kq_retP rfl rfl (congrArg Value.bool ?_)
      first | rfl | (exfalso; simp at *; done) | (exfalso; simp [wval_eq] at *; done) | (exfalso; simp_all)
end Go.Proofs.YtpnkinblekmjlaaGreatDoor
