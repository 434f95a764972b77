/- Walks of functions of the program: each returns what the plain function gives. Conditions: those that each statement names. -/
import Derived.Test.YtcdemjjgmnbkfaaWrk
import Derived.Test.YtcdemjjgmnbkfaaWsz
import Derived.Test.YtcdemjjgmnbkfaaWto
import Derived.Test.YtcdemjjgmnbkfaaWeq
import Derived.Test.YtcdemjjgmnbkfaaWmark
namespace Go.Proofs.Ytcdemjjgmnbkfaa
open Go
set_option linter.unusedSimpArgs false
set_option linter.unusedVariables false
theorem lawRk_ok {Hmd : Hp} {vmd : Value} {Hmc : Hp} {vmc : Value} {Hx : Hp} {vx : Value} (m : Mod) (x : List Int) (hmd : Ints Hmd vmd m.doms) (hmc : Cons Hmc vmc m.cons) (hx : Ints Hx vx x) : SpecP Try.prog 3 [.agg #[vmd, vmc], vx] [Hmd, Hmc, Hx] (.bool true) := by
  refine spec_of Try.func3 rfl rfl rfl (fun B => ?_)
  refine kc_seq ?_
  refine kc_region ?_
  refine kl_box rfl rfl (fun p1 H2 f3 a4 => ?_)
  refine kl_as rfl ?_
  refine kl_nil ?_
  refine kq_code ?_
  refine kc_seq ?_
  refine kc_seq ?_
  refine kc_region ?_
  refine kl_mv rfl ?_
  refine kl_len rfl (by assumption) (fun l5 => ?_)
  refine kl_gtr rfl rfl ?_
  refine kl_nil ?_
  refine kq_code ?_
  refine kc_if rfl (fun c6 => ?_) (fun c6 => ?_)
  · skip
    refine kc_seq ?_
    refine kc_region ?_
    refine kl_as rfl ?_
    refine kl_nil ?_
    refine kq_code ?_
    refine kc_ret ?_
    refine kq_retP rfl rfl (congrArg Value.bool ?_)
    first | rfl | (exfalso; simp only [rank_eq] at *; simp at *; done)
  · skip
    refine kc_skipQ ?_
    refine kq_code ?_
    refine kc_seq ?_
    refine kc_region ?_
    refine kl_as rfl ?_
    refine kl_nil ?_
    refine kq_code ?_
    refine kc_seq ?_
    refine kc_region ?_
    refine kl_ldS rfl (by assumption) rfl ?_
    refine kl_mv rfl ?_
    refine kl_callP rfl rfl (szModel_ok m (1048576 : Int) (by omega) (by assumption) (by assumption)) ?_
    refine kl_as rfl ?_
    refine kl_nil ?_
    refine kq_code ?_
    refine kc_seq ?_
    refine kc_seq ?_
    refine kc_region ?_
    refine kl_mv rfl ?_
    refine kl_lss rfl rfl ?_
    refine kl_nil ?_
    refine kq_code ?_
    refine kc_if rfl (fun c7 => ?_) (fun c7 => ?_)
    · skip
      refine kc_seq ?_
      refine kc_region ?_
      refine kl_as rfl ?_
      refine kl_nil ?_
      refine kq_code ?_
      refine kc_ret ?_
      refine kq_retP rfl rfl (congrArg Value.bool ?_)
      first | rfl | (exfalso; simp only [rank_eq] at *; simp at *; done)
    · skip
      have hs := small_of (szB_ok c7)
      refine kc_skipQ ?_
      refine kq_code ?_
      refine kc_seq ?_
      refine kc_region ?_
      refine kl_ldS rfl (by assumption) rfl ?_
      refine kl_call rfl rfl (toModel_ok m hs (by assumption) (by assumption)) (fun v8 H9 f10 h11 => ?_)
      obtain ⟨u12, u13, rfl, h14, h15⟩ := h11
      refine kl_mv rfl ?_
      refine kl_call rfl rfl (toIntS_ok x (by omega) (by assumption)) (fun v16 H17 f18 h19 => ?_)
      refine kl_callP rfl rfl (rankS_ok m x (by assumption) (by assumption) (by assumption)) ?_
      refine kl_as rfl ?_
      refine kl_nil ?_
      refine kq_code ?_
      refine kc_seq ?_
      refine kc_region ?_
      refine kl_ldS rfl (by assumption) rfl ?_
      refine kl_call rfl rfl (toModel_ok m hs (by assumption) (by assumption)) (fun v20 H21 f22 h23 => ?_)
      obtain ⟨u24, u25, rfl, h26, h27⟩ := h23
      refine kl_alloc (cs := [.slice none 0 0, .slice none 0 0]) rfl (fun b28 hb29 => ?_)
      refine kl_stW (us := [u24, u25]) rfl rfl rfl rfl (oc (Sl.oneCell (by assumption)) (oc (Sl.oneCell (by assumption)) oc_nil)) rfl ?_
      refine kl_nil ?_
      refine kq_code ?_
      refine kc_seq ?_
      refine kc_region ?_
      refine kl_mv rfl ?_
      refine kl_call rfl rfl (toIntS_ok x (by omega) (by assumption)) (fun v30 H31 f32 h33 => ?_)
      refine kl_as rfl ?_
      refine kl_nil ?_
      refine kq_code ?_
      refine kc_seq ?_
      refine kc_region ?_
      refine kl_ldW rfl rfl ?_
      refine kl_mv rfl ?_
      refine kl_callP rfl rfl (rankI_ok m x (by assumption) (by assumption) (by assumption)) ?_
      refine kl_as rfl ?_
      refine kl_nil ?_
      refine kq_code ?_
      refine kc_seq ?_
      refine kc_seq ?_
      refine kc_region ?_
      refine kl_mv rfl ?_
      refine kl_mv rfl ?_
      refine kl_neq rfl rfl ?_
      refine kl_nil ?_
      refine kq_code ?_
      refine kc_if rfl (fun c34 => ?_) (fun c34 => ?_)
      · skip
        refine kc_seq ?_
        refine kc_region ?_
        refine kl_as rfl ?_
        refine kl_nil ?_
        refine kq_code ?_
        refine kc_ret ?_
        refine kq_retP rfl rfl (congrArg Value.bool ?_)
        first | rfl | (exfalso; simp only [rank_eq] at *; simp at *; done)
      · skip
        refine kc_skipQ ?_
        refine kq_code ?_
        refine kc_seq ?_
        refine kc_seq ?_
        refine kc_draw 5 [true, true, false, false, true] (by kernel_rfl) (by kernel_rfl) ?_
        refine kl_ldW rfl rfl ?_
        refine kl_ldS rfl (by assumption) rfl ?_
        refine kl_call rfl rfl (toModel_ok m hs (by assumption) (by assumption)) (fun v35 H36 f37 h38 => ?_)
        obtain ⟨u39, u40, rfl, h41, h42⟩ := h38
        refine kl_callP rfl rfl (eqModel_ok m m (by assumption) (by assumption) (by assumption) (by assumption)) ?_
        refine kl_not rfl ?_
        refine kl_nil ?_
        refine kq_code ?_
        refine kc_cond rfl (fun c43 => ?_) (fun c43 => ?_)
        · skip
          have c43r := c43
          try simp only [Bool.not_eq_true', Bool.not_eq_false', Bool.not_true, Bool.not_false, decide_eq_true_eq, decide_eq_false_iff_not, Bool.and_eq_true, Bool.or_eq_false_iff] at c43
          refine kc_seq ?_
          refine kc_region ?_
          refine kl_as rfl ?_
          refine kl_nil ?_
          refine kq_code ?_
          refine kc_ret ?_
          refine kq_retP rfl rfl (congrArg Value.bool ?_)
          first | rfl | (exfalso; simp only [rank_eq] at *; simp at *; done)
        · skip
          have c43r := c43
          try simp only [Bool.not_eq_true', Bool.not_eq_false', Bool.not_true, Bool.not_false, decide_eq_true_eq, decide_eq_false_iff_not, Bool.and_eq_true, Bool.or_eq_false_iff] at c43
          refine kc_skipQ ?_
          refine kq_code ?_
          refine kc_seq ?_
          refine kc_seq ?_
          refine kc_region ?_
          refine kl_mv rfl ?_
          refine kl_mv rfl ?_
          refine kl_call rfl rfl (toIntS_ok x (by omega) (by assumption)) (fun v44 H45 f46 h47 => ?_)
          refine kl_callP rfl rfl (eqIntS_ok x x (by assumption) (by assumption)) ?_
          refine kl_not rfl ?_
          refine kl_nil ?_
          refine kq_code ?_
          refine kc_cond rfl (fun c48 => ?_) (fun c48 => ?_)
          · skip
            have c48r := c48
            try simp only [Bool.not_eq_true', Bool.not_eq_false', Bool.not_true, Bool.not_false, decide_eq_true_eq, decide_eq_false_iff_not, Bool.and_eq_true, Bool.or_eq_false_iff] at c48
            refine kc_seq ?_
            refine kc_region ?_
            refine kl_as rfl ?_
            refine kl_nil ?_
            refine kq_code ?_
            refine kc_ret ?_
            refine kq_retP rfl rfl (congrArg Value.bool ?_)
            first | rfl | (exfalso; simp only [rank_eq] at *; simp at *; done)
          · skip
            have c48r := c48
            try simp only [Bool.not_eq_true', Bool.not_eq_false', Bool.not_true, Bool.not_false, decide_eq_true_eq, decide_eq_false_iff_not, Bool.and_eq_true, Bool.or_eq_false_iff] at c48
            refine kc_skipQ ?_
            refine kq_code ?_
            refine kc_seq ?_
            refine kc_region ?_
            refine kl_as rfl ?_
            refine kl_nil ?_
            refine kq_code ?_
            refine kc_ret ?_
            refine kq_retP rfl rfl (congrArg Value.bool ?_)
            first | rfl | (exfalso; simp only [rank_eq] at *; simp at *; done)
end Go.Proofs.Ytcdemjjgmnbkfaa
