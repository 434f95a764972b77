/- Walks of functions of the program: each returns what the plain function gives. Conditions: those that each statement names. -/
import Derived.Test.YtbbphbihgikmdaaGreatWcw
import Derived.Test.YtbbphbihgikmdaaGreatWltl
import Derived.Test.YtbbphbihgikmdaaGreatWsz
import Derived.Test.YtbbphbihgikmdaaGreatWto
import Derived.Test.YtbbphbihgikmdaaGreatWeq
namespace Go.Proofs.YtbbphbihgikmdaaGreat
open Go
set_option linter.unusedSimpArgs false
set_option linter.unusedVariables false
theorem lawCw_ok {Hmd : Hp} {vmd : Value} {Hmc : Hp} {vmc : Value} {Hc : Hp} {vc : Value} (m : Mod) (c : List Lit) (hmd : Ints Hmd vmd m.doms) (hmc : Cons Hmc vmc m.cons) (hc : Lits Hc vc c) : SpecP Tryz.prog 3 [.agg #[vmd, vmc], vc] [Hmd, Hmc, Hc] (.bool true) := by
 refine spec_of Tryz.func3 rfl rfl rfl (fun B => ?_)
 refine kc_seq (kc_region ?_)
 refine kl_box rfl rfl (fun p1 H2 f3 a4 => ?_)
 refine kl_as rfl ?_
 refine kl_nil (kq_code (kc_seq (kc_region ?_)))
 refine kl_as rfl ?_
 refine kl_nil (kq_code (kc_seq (kc_region ?_)))
 refine kl_ldS rfl (by assumption) rfl ?_
 refine kl_mv rfl ?_
 refine kl_callP rfl rfl (szModel_ok m (1048576 : Int) (by omega) (by assumption) (by assumption)) ?_
 refine kl_as rfl ?_
 refine kl_nil (kq_code ?_)
 refine kc_seq ?_
 refine kc_seq (kc_region ?_)
 refine kl_mv rfl ?_
 refine kl_lss rfl rfl ?_
 refine kl_nil (kq_code ?_)
 refine kc_if rfl (fun c5 => ?_) (fun c5 => ?_)
 ·skip
  refine kc_seq (kc_region ?_)
  refine kl_as rfl ?_
  refine kl_nil (kq_code ?_)
  refine kc_ret ?_
  refine kq_retP rfl rfl (congrArg Value.bool ?_)
  first | rfl | (exfalso; simp at *; done)
 ·skip
  have hzc5 := szB_ok c5
  try have hs := small_of hzc5
  refine kc_skipQ ?_
  refine kq_code ?_
  refine kc_seq (kc_region ?_)
  refine kl_mv rfl ?_
  refine kl_mv rfl ?_
  refine kl_callP rfl rfl (szLitS_ok c (szB (1048576 : Int) (modN m : Nat)) (by omega) (by assumption)) ?_
  refine kl_as rfl ?_
  refine kl_nil (kq_code ?_)
  refine kc_seq ?_
  refine kc_seq (kc_region ?_)
  refine kl_mv rfl ?_
  refine kl_lss rfl rfl ?_
  refine kl_nil (kq_code ?_)
  refine kc_if rfl (fun c6 => ?_) (fun c6 => ?_)
  ·skip
   refine kc_seq (kc_region ?_)
   refine kl_as rfl ?_
   refine kl_nil (kq_code ?_)
   refine kc_ret ?_
   refine kq_retP rfl rfl (congrArg Value.bool ?_)
   first | rfl | (exfalso; simp at *; done)
  ·skip
   have hzc6 := szB_ok c6
   try have hs := small_of hzc6
   refine kc_skipQ ?_
   refine kq_code ?_
   refine kc_seq (kc_region ?_)
   refine kl_ldS rfl (by assumption) rfl ?_
   refine kl_call rfl rfl (toModel_ok m hs (by assumption) (by assumption)) (fun v7 H8 f9 h10 => ?_)
   obtain ⟨u11, u12, rfl, h13, h14⟩ := h10
   refine kl_mv rfl ?_
   refine kl_call rfl rfl (toLitS_ok c (by omega) (by assumption)) (fun v15 H16 f17 h18 => ?_)
   refine kl_callP rfl rfl (cwSpc_ok m c (by assumption) (by assumption) (by assumption)) ?_
   refine kl_as rfl ?_
   refine kl_nil (kq_code (kc_seq (kc_region ?_)))
   refine kl_ldS rfl (by assumption) rfl ?_
   refine kl_call rfl rfl (toModel_ok m hs (by assumption) (by assumption)) (fun v19 H20 f21 h22 => ?_)
   obtain ⟨u23, u24, rfl, h25, h26⟩ := h22
   refine kl_alloc (cs := [.slice none 0 0, .slice none 0 0]) rfl (fun b27 hb28 => ?_)
   refine kl_stW (us := [u23, u24]) rfl rfl rfl rfl (oc (Sl.oneCell (by assumption)) (oc (Sl.oneCell (by assumption)) oc_nil)) rfl ?_
   refine kl_nil (kq_code (kc_seq (kc_region ?_)))
   refine kl_mv rfl ?_
   refine kl_call rfl rfl (toLitS_ok c (by omega) (by assumption)) (fun v29 H30 f31 h32 => ?_)
   refine kl_as rfl ?_
   refine kl_nil (kq_code (kc_seq (kc_region ?_)))
   refine kl_ldW rfl rfl ?_
   refine kl_mv rfl ?_
   refine kl_callP rfl rfl (cwImp_ok m c (by assumption) (by assumption) (by assumption)) ?_
   refine kl_as rfl ?_
   refine kl_nil (kq_code ?_)
   refine kc_seq ?_
   refine kc_seq (kc_region ?_)
   refine kl_mv rfl ?_
   refine kl_mv rfl ?_
   refine kl_neq rfl rfl ?_
   refine kl_nil (kq_code ?_)
   refine kc_if rfl (fun c33 => ?_) (fun c33 => ?_)
   ·skip
    refine kc_seq (kc_region ?_)
    refine kl_as rfl ?_
    refine kl_nil (kq_code ?_)
    refine kc_ret ?_
    refine kq_retP rfl rfl (congrArg Value.bool ?_)
    first | rfl | (exfalso; simp at *; done)
   ·skip
    refine kc_skipQ ?_
    refine kq_code ?_
    refine kc_seq ?_
    refine kc_seq ?_
    refine kc_draw 5 [true, true, false, false, true] (by kernel_rfl) (by kernel_rfl) ?_
    refine kl_ldW rfl rfl ?_
    refine kl_ldS rfl (by assumption) rfl ?_
    refine kl_call rfl rfl (toModel_ok m hs (by assumption) (by assumption)) (fun v34 H35 f36 h37 => ?_)
    obtain ⟨u38, u39, rfl, h40, h41⟩ := h37
    refine kl_callP rfl rfl (eqModel_ok m m (by assumption) (by assumption) (by assumption) (by assumption)) ?_
    refine kl_not rfl ?_
    refine kl_nil (kq_code ?_)
    refine kc_cond rfl (fun c42 => ?_) (fun c42 => ?_)
    ·skip
     have c42r := c42
     try simp only [Bool.not_eq_true', Bool.not_eq_false', Bool.not_true, Bool.not_false, decide_eq_true_eq, decide_eq_false_iff_not, Bool.and_eq_true, Bool.or_eq_false_iff] at c42
     refine kc_seq (kc_region ?_)
     refine kl_as rfl ?_
     refine kl_nil (kq_code ?_)
     refine kc_ret ?_
     refine kq_retP rfl rfl (congrArg Value.bool ?_)
     first | rfl | (exfalso; simp at *; done)
    ·skip
     have c42r := c42
     try simp only [Bool.not_eq_true', Bool.not_eq_false', Bool.not_true, Bool.not_false, decide_eq_true_eq, decide_eq_false_iff_not, Bool.and_eq_true, Bool.or_eq_false_iff] at c42
     refine kc_skipQ ?_
     refine kq_code ?_
     refine kc_seq ?_
     refine kc_seq (kc_region ?_)
     refine kl_mv rfl ?_
     refine kl_mv rfl ?_
     refine kl_call rfl rfl (toLitS_ok c (by omega) (by assumption)) (fun v43 H44 f45 h46 => ?_)
     refine kl_callP rfl rfl (eqLiteralS_ok c c (by assumption) (by assumption)) ?_
     refine kl_not rfl ?_
     refine kl_nil (kq_code ?_)
     refine kc_cond rfl (fun c47 => ?_) (fun c47 => ?_)
     ·skip
      have c47r := c47
      try simp only [Bool.not_eq_true', Bool.not_eq_false', Bool.not_true, Bool.not_false, decide_eq_true_eq, decide_eq_false_iff_not, Bool.and_eq_true, Bool.or_eq_false_iff] at c47
      refine kc_seq (kc_region ?_)
      refine kl_as rfl ?_
      refine kl_nil (kq_code ?_)
      refine kc_ret ?_
      refine kq_retP rfl rfl (congrArg Value.bool ?_)
      first | rfl | (exfalso; simp at *; done)
     ·skip
      have c47r := c47
      try simp only [Bool.not_eq_true', Bool.not_eq_false', Bool.not_true, Bool.not_false, decide_eq_true_eq, decide_eq_false_iff_not, Bool.and_eq_true, Bool.or_eq_false_iff] at c47
      refine kc_skipQ ?_
      refine kq_code ?_
      refine kc_seq (kc_region ?_)
      refine kl_as rfl ?_
      refine kl_nil (kq_code ?_)
      refine kc_ret ?_
      refine kq_retP rfl rfl (congrArg Value.bool ?_)
      first | rfl | (exfalso; simp at *; done)
end Go.Proofs.YtbbphbihgikmdaaGreat
