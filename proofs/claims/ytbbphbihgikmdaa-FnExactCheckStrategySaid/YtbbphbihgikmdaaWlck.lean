/- Walks of functions of the program: each returns what the plain function gives. Conditions: those that each statement names. -/
import Derived.Test.YtbbphbihgikmdaaWchi
import Derived.Test.YtbbphbihgikmdaaWchs
import Derived.Test.YtbbphbihgikmdaaWsz
import Derived.Test.YtbbphbihgikmdaaWto
import Derived.Test.YtbbphbihgikmdaaWeq
import Derived.Test.YtbbphbihgikmdaaWbool
namespace Go.Proofs.Ytbbphbihgikmdaa
open Go
set_option linter.unusedSimpArgs false
set_option linter.unusedVariables false
theorem lawCk_ok {Hmd : Hp} {vmd : Value} {Hmc : Hp} {vmc : Value} {Hfa : Hp} {vfa : Value} {Hl : Hp} {vl : Value} (m : Mod) (fa : List Bool) (l : List (List Int)) (hmd : Ints Hmd vmd m.doms) (hmc : Cons Hmc vmc m.cons) (hfa : Bools Hfa vfa fa) (hl : Rows Hl vl l) : SpecP Try.prog 4 [.agg #[vmd, vmc], vfa, vl] [Hmd, Hmc, Hfa, Hl] (.bool true) := by
 refine spec_of Try.func4 rfl rfl rfl (fun B => ?_)
 refine kc_seq (kc_region ?_)
 refine kl_box rfl rfl (fun p1 H2 f3 a4 => ?_)
 refine kl_as rfl ?_
 refine kl_nil (kq_code ?_)
 refine kc_seq ?_
 refine kc_seq (kc_region ?_)
 refine kl_mv rfl ?_
 refine kl_len rfl (by assumption) (fun l5 => ?_)
 refine kl_gtr rfl rfl ?_
 refine kl_nil (kq_code ?_)
 refine kc_if rfl (fun c6 => ?_) (fun c6 => ?_)
 ·skip
  refine kc_seq (kc_region ?_)
  refine kl_as rfl ?_
  refine kl_nil (kq_code ?_)
  refine kc_ret ?_
  refine kq_retP rfl rfl (congrArg Value.bool ?_)
  first | rfl | (exfalso; simp only [chk_eq] at *; simp at *; done)
 ·skip
  refine kc_skipQ ?_
  refine kq_code ?_
  refine kc_seq (kc_region ?_)
  refine kl_as rfl ?_
  refine kl_nil (kq_code (kc_seq (kc_region ?_)))
  refine kl_ldS rfl (by assumption) rfl ?_
  refine kl_mv rfl ?_
  refine kl_callP rfl rfl (szModel_ok m (1048576 : Int) (by omega) (by assumption) (by assumption)) ?_
  refine kl_as rfl ?_
  refine kl_nil (kq_code ?_)
  refine kc_seq ?_
  refine kc_seq (kc_region ?_)
  refine kl_mv rfl ?_
  refine kl_lss rfl rfl ?_
  refine kl_nil (kq_code ?_)
  refine kc_if rfl (fun c7 => ?_) (fun c7 => ?_)
  ·skip
   refine kc_seq (kc_region ?_)
   refine kl_as rfl ?_
   refine kl_nil (kq_code ?_)
   refine kc_ret ?_
   refine kq_retP rfl rfl (congrArg Value.bool ?_)
   first | rfl | (exfalso; simp only [chk_eq] at *; simp at *; done)
  ·skip
   have hzc7 := szB_ok c7
   try have hs := small_of hzc7
   try have hrl : l.length ≤ 1048576 ∧ ∀ r ∈ l, r.length ≤ 1048576 := ⟨by omega, fun r hr => by have := rsum_mem hr; omega⟩
   refine kc_skipQ ?_
   refine kq_code ?_
   refine kc_seq (kc_region ?_)
   refine kl_mv rfl ?_
   refine kl_mv rfl ?_
   refine kl_callP rfl rfl (szIntSS_ok l (szB (1048576 : Int) (modN m : Nat)) (by omega) (by assumption)) ?_
   refine kl_as rfl ?_
   refine kl_nil (kq_code ?_)
   refine kc_seq ?_
   refine kc_seq (kc_region ?_)
   refine kl_mv rfl ?_
   refine kl_lss rfl rfl ?_
   refine kl_nil (kq_code ?_)
   refine kc_if rfl (fun c8 => ?_) (fun c8 => ?_)
   ·skip
    refine kc_seq (kc_region ?_)
    refine kl_as rfl ?_
    refine kl_nil (kq_code ?_)
    refine kc_ret ?_
    refine kq_retP rfl rfl (congrArg Value.bool ?_)
    first | rfl | (exfalso; simp only [chk_eq] at *; simp at *; done)
   ·skip
    have hzc8 := szB_ok c8
    try have hs := small_of hzc8
    try have hrl : l.length ≤ 1048576 ∧ ∀ r ∈ l, r.length ≤ 1048576 := ⟨by omega, fun r hr => by have := rsum_mem hr; omega⟩
    refine kc_skipQ ?_
    refine kq_code ?_
    refine kc_seq (kc_region ?_)
    refine kl_ldS rfl (by assumption) rfl ?_
    refine kl_call rfl rfl (toModel_ok m hs (by assumption) (by assumption)) (fun v9 H10 f11 h12 => ?_)
    obtain ⟨u13, u14, rfl, h15, h16⟩ := h12
    refine kl_mv rfl ?_
    refine kl_call rfl rfl (toBoolS_ok fa (by omega) (by assumption)) (fun v17 H18 f19 h20 => ?_)
    refine kl_mv rfl ?_
    refine kl_call rfl rfl (toIntSS_ok l hrl.1 hrl.2 (by assumption)) (fun v21 H22 f23 h24 => ?_)
    refine kl_callP rfl rfl (chkSpc_ok m fa l (by assumption) (by assumption) (by assumption) (by assumption)) ?_
    refine kl_as rfl ?_
    refine kl_nil (kq_code (kc_seq (kc_region ?_)))
    refine kl_ldS rfl (by assumption) rfl ?_
    refine kl_call rfl rfl (toModel_ok m hs (by assumption) (by assumption)) (fun v25 H26 f27 h28 => ?_)
    obtain ⟨u29, u30, rfl, h31, h32⟩ := h28
    refine kl_alloc (cs := [.slice none 0 0, .slice none 0 0]) rfl (fun b33 hb34 => ?_)
    refine kl_stW (us := [u29, u30]) rfl rfl rfl rfl (oc (Sl.oneCell (by assumption)) (oc (Sl.oneCell (by assumption)) oc_nil)) rfl ?_
    refine kl_nil (kq_code (kc_seq (kc_region ?_)))
    refine kl_mv rfl ?_
    refine kl_call rfl rfl (toBoolS_ok fa (by omega) (by assumption)) (fun v35 H36 f37 h38 => ?_)
    refine kl_as rfl ?_
    refine kl_nil (kq_code (kc_seq (kc_region ?_)))
    refine kl_mv rfl ?_
    refine kl_call rfl rfl (toIntSS_ok l hrl.1 hrl.2 (by assumption)) (fun v39 H40 f41 h42 => ?_)
    refine kl_as rfl ?_
    refine kl_nil (kq_code (kc_seq (kc_region ?_)))
    refine kl_ldW rfl rfl ?_
    refine kl_mv rfl ?_
    refine kl_mv rfl ?_
    refine kl_callP rfl rfl (chkImp_ok m fa l hrl.1 (by assumption) (by assumption) (by assumption) (by assumption)) ?_
    refine kl_as rfl ?_
    refine kl_nil (kq_code ?_)
    refine kc_seq ?_
    refine kc_seq (kc_region ?_)
    refine kl_mv rfl ?_
    refine kl_mv rfl ?_
    refine kl_bne rfl rfl ?_
    refine kl_nil (kq_code ?_)
    refine kc_cond rfl (fun c43 => ?_) (fun c43 => ?_)
    ·skip
     have c43r := c43
     try simp only [Bool.not_eq_true', Bool.not_eq_false', Bool.not_true, Bool.not_false, decide_eq_true_eq, decide_eq_false_iff_not, Bool.and_eq_true, Bool.or_eq_false_iff] at c43
     refine kc_seq (kc_region ?_)
     refine kl_as rfl ?_
     refine kl_nil (kq_code ?_)
     refine kc_ret ?_
     refine kq_retP rfl rfl (congrArg Value.bool ?_)
     first | rfl | (exfalso; simp only [chk_eq] at *; simp at *; done)
    ·skip
     have c43r := c43
     try simp only [Bool.not_eq_true', Bool.not_eq_false', Bool.not_true, Bool.not_false, decide_eq_true_eq, decide_eq_false_iff_not, Bool.and_eq_true, Bool.or_eq_false_iff] at c43
     refine kc_skipQ ?_
     refine kq_code ?_
     refine kc_seq ?_
     refine kc_seq ?_
     refine kc_draw 5 [true, true, false, false, true] (by kernel_rfl) (by kernel_rfl) ?_
     refine kl_ldW rfl rfl ?_
     refine kl_ldS rfl (by assumption) rfl ?_
     refine kl_call rfl rfl (toModel_ok m hs (by assumption) (by assumption)) (fun v44 H45 f46 h47 => ?_)
     obtain ⟨u48, u49, rfl, h50, h51⟩ := h47
     refine kl_callP rfl rfl (eqModel_ok m m (by assumption) (by assumption) (by assumption) (by assumption)) ?_
     refine kl_not rfl ?_
     refine kl_nil (kq_code ?_)
     refine kc_cond rfl (fun c52 => ?_) (fun c52 => ?_)
     ·skip
      have c52r := c52
      try simp only [Bool.not_eq_true', Bool.not_eq_false', Bool.not_true, Bool.not_false, decide_eq_true_eq, decide_eq_false_iff_not, Bool.and_eq_true, Bool.or_eq_false_iff] at c52
      refine kc_seq (kc_region ?_)
      refine kl_as rfl ?_
      refine kl_nil (kq_code ?_)
      refine kc_ret ?_
      refine kq_retP rfl rfl (congrArg Value.bool ?_)
      first | rfl | (exfalso; simp only [chk_eq] at *; simp at *; done)
     ·skip
      have c52r := c52
      try simp only [Bool.not_eq_true', Bool.not_eq_false', Bool.not_true, Bool.not_false, decide_eq_true_eq, decide_eq_false_iff_not, Bool.and_eq_true, Bool.or_eq_false_iff] at c52
      refine kc_skipQ ?_
      refine kq_code ?_
      refine kc_seq ?_
      refine kc_seq (kc_region ?_)
      refine kl_mv rfl ?_
      refine kl_mv rfl ?_
      refine kl_call rfl rfl (toBoolS_ok fa (by omega) (by assumption)) (fun v53 H54 f55 h56 => ?_)
      refine kl_callP rfl rfl (eqBoolS_ok fa fa (by assumption) (by assumption)) ?_
      refine kl_not rfl ?_
      refine kl_nil (kq_code ?_)
      refine kc_cond rfl (fun c57 => ?_) (fun c57 => ?_)
      ·skip
       have c57r := c57
       try simp only [Bool.not_eq_true', Bool.not_eq_false', Bool.not_true, Bool.not_false, decide_eq_true_eq, decide_eq_false_iff_not, Bool.and_eq_true, Bool.or_eq_false_iff] at c57
       refine kc_seq (kc_region ?_)
       refine kl_as rfl ?_
       refine kl_nil (kq_code ?_)
       refine kc_ret ?_
       refine kq_retP rfl rfl (congrArg Value.bool ?_)
       first | rfl | (exfalso; simp only [chk_eq] at *; simp at *; done)
      ·skip
       have c57r := c57
       try simp only [Bool.not_eq_true', Bool.not_eq_false', Bool.not_true, Bool.not_false, decide_eq_true_eq, decide_eq_false_iff_not, Bool.and_eq_true, Bool.or_eq_false_iff] at c57
       refine kc_skipQ ?_
       refine kq_code ?_
       refine kc_seq ?_
       refine kc_seq (kc_region ?_)
       refine kl_mv rfl ?_
       refine kl_mv rfl ?_
       refine kl_call rfl rfl (toIntSS_ok l hrl.1 hrl.2 (by assumption)) (fun v58 H59 f60 h61 => ?_)
       refine kl_callP rfl rfl (eqIntSS_ok l l (by assumption) (by assumption)) ?_
       refine kl_not rfl ?_
       refine kl_nil (kq_code ?_)
       refine kc_cond rfl (fun c62 => ?_) (fun c62 => ?_)
       ·skip
        have c62r := c62
        try simp only [Bool.not_eq_true', Bool.not_eq_false', Bool.not_true, Bool.not_false, decide_eq_true_eq, decide_eq_false_iff_not, Bool.and_eq_true, Bool.or_eq_false_iff] at c62
        refine kc_seq (kc_region ?_)
        refine kl_as rfl ?_
        refine kl_nil (kq_code ?_)
        refine kc_ret ?_
        refine kq_retP rfl rfl (congrArg Value.bool ?_)
        first | rfl | (exfalso; simp only [chk_eq] at *; simp at *; done)
       ·skip
        have c62r := c62
        try simp only [Bool.not_eq_true', Bool.not_eq_false', Bool.not_true, Bool.not_false, decide_eq_true_eq, decide_eq_false_iff_not, Bool.and_eq_true, Bool.or_eq_false_iff] at c62
        refine kc_skipQ ?_
        refine kq_code ?_
        refine kc_seq (kc_region ?_)
        refine kl_as rfl ?_
        refine kl_nil (kq_code ?_)
        refine kc_ret ?_
        refine kq_retP rfl rfl (congrArg Value.bool ?_)
        first | rfl | (exfalso; simp only [chk_eq] at *; simp at *; done)
end Go.Proofs.Ytbbphbihgikmdaa
