/- Walks of functions of the program: each returns what the plain function gives. Conditions: those that each statement names. -/
import Derived.Test.YtiilanckbocifaaWmcx
import Derived.Test.YtiilanckbocifaaWnh
import Derived.Test.YtiilanckbocifaaPureMk
import Derived.Test.YtiilanckbocifaaWsz
import Derived.Test.YtiilanckbocifaaWto
import Derived.Test.YtiilanckbocifaaWeq
import Derived.Test.YtiilanckbocifaaWmark
namespace Go.Proofs.Ytiilanckbocifaa
open Go
set_option linter.unusedSimpArgs false
set_option linter.unusedVariables false
theorem nhoodX_ok {Hmd : Hp} {vmd : Value} {Hmc : Hp} {vmc : Value} {Hx : Hp} {vx : Value} {Hfree : Hp} {vfree : Value} (m : Mod) (x : List Int) (free : List Int) (hmd : Ints Hmd vmd m.doms) (hmc : Cons Hmc vmc m.cons) (hx : Ints Hx vx x) (hfree : Ints Hfree vfree free) : Spec Try.prog 21 [.agg #[vmd, vmc], vx, vfree] [Hmd, Hmc, Hx, Hfree] ((fun Hq vq => ∃ (mq : Mod) (bq : Bool) (ud uc : Value), vq = .tuple #[.agg #[ud, uc], .bool bq] ∧ ModX 53 23 3 Hq ud uc mq ∧ (mq, bq) = nhI m x free)) := by
 refine spec_ofR Try.func21 rfl rfl rfl (fun B => ?_)
 refine kc_seq (kc_region (kl_box rfl rfl (fun p1 H2 f3 a4 => ?_)))
 refine kl_alloc (cs := [.slice none 0 0, .slice none 0 0]) rfl (fun b5 hb6 => ?_)
 refine kl_as rfl (kl_nil (kq_code (kc_seq (kc_seq (kc_region (kl_ldS rfl (by assumption) rfl ?_))))))
 refine kl_mv rfl (kl_callP rfl rfl (variableSet_ok m free (by assumption) (by assumption) (by assumption)) ?_)
 refine kl_not rfl (kl_mv rfl (kl_join 7 19 (.bool (!(varSetI m free) || !(decide ((x.length : Int) = (m.doms.length : Int)) && allInB x 0 5))) (pc 1 rfl (pc 2 rfl (pc 3 rfl (pc 6 rfl (pc 7 rfl (pc 12 rfl pn)))))) (fun J11 => ?_) ?_))
 ·rcases Bool.eq_false_or_eq_true (!(varSetI m free)) with g7 | g7
  ·skip
   refine kl_gF rfl rfl g7 (kl_gF rfl rfl g7 (kl_gF rfl rfl g7 (kl_gF rfl rfl g7 (kl_gF rfl rfl g7 (kl_gF rfl rfl g7 (kl_orT (!(decide ((x.length : Int) = (m.doms.length : Int)) && allInB x 0 5)) rfl rfl g7 ?_))))))
   exact J11 _ (pc 19 rfl (pc 1 rfl (pc 2 rfl (pc 3 rfl (pc 6 rfl (pc 7 rfl (pc 12 rfl pn)))))))
  ·skip
   have g7p := g7
   try simp only [Bool.not_eq_true', Bool.not_eq_false', decide_eq_true_eq, decide_eq_false_iff_not, Bool.and_eq_true, Bool.or_eq_false_iff, withinB_iff] at g7p
   refine kl_gT rfl rfl g7 (kl_mv rfl (kl_gT rfl rfl g7 (kl_fd rfl (by assumption) (fun p8 a9 => ?_))))
   refine kl_gT rfl rfl g7 (kl_ld rfl (by assumption) (kl_gT rfl rfl g7 (kl_len rfl (by assumption) (fun l10 => ?_))))
   refine kl_gT rfl rfl g7 (kl_callP rfl rfl (assigned_ok x (m.doms.length : Int) (by assumption)) ?_)
   refine kl_gT rfl rfl g7 (kl_not rfl (kl_orF rfl rfl g7 ?_))
   exact J11 _ (pc 19 rfl (pc 1 rfl (pc 2 rfl (pc 3 rfl (pc 6 rfl (pc 7 rfl (pc 12 rfl pn)))))))
 refine kl_nil (kq_code (kc_cond rfl (fun c12 => ?_) (fun c12 => ?_)))
 ·skip
  have c12r := c12
  try simp only [smpC, decide_eq_true_eq, decide_eq_false_iff_not] at c12
  refine kc_seq (kc_region (kl_bd rfl cp_nil rfl ?_))
  refine kl_stW (us := [.slice none 0 0, .slice none 0 0]) rfl rfl rfl rfl (oc rfl (oc rfl oc_nil)) rfl ?_
  refine kl_chg [sing b5 (.cells [.slice none 0 0, .slice none 0 0].toArray 26 (0, 0))] rfl ?_
  refine kl_as rfl (kl_nil (kq_code (kc_ret ?_)))
  exact kq_retR (rss2 rfl (rs_agg rfl rfl) (rs_tmp rfl)) noHp (fr_no _) ⟨(⟨[], []⟩ : Mod), false, _, _, rfl, ModX.nil, (nh_noI (by assumption)).symm⟩ .none
 ·skip
  have c12r := c12
  try simp only [smpC, decide_eq_true_eq, decide_eq_false_iff_not] at c12
  have hg := nh_I c12r
  refine kc_skipQ (kq_code (kc_seq (kc_region (kl_ldS rfl (by assumption) rfl ?_))))
  refine kl_mv rfl (kl_mv rfl (kl_call rfl rfl (nearM_ok m x free hg.hM hg.hx hg.hl (by assumption) (by assumption) (by assumption) (by assumption)) (fun v13 H14 f15 h16 => ?_)))
  obtain ⟨u17, rfl, h18⟩ := h16
  refine kl_callL rfl rfl (copyModX_ok (⟨(nearT m.doms x free x.length), m.cons⟩ : Mod) (near_small (ok_small hg.hM) _) (show RowsP m.cons from ok_rowsP hg.hM) (by assumption) (by assumption)) (fun v19 H20 f21 h22 => ?_)
  obtain ⟨u23, u24, rfl, h22⟩ := h22
  have h25 := ModX.doms h22
  have h26 := ModX.cons h22
  refine kl_stW (us := [u23, u24]) rfl rfl rfl rfl (oc (Sl.oneCell (by assumption)) (oc (Sl.oneCell (by assumption)) oc_nil)) rfl ?_
  refine kl_chg [H20, sing b5 (.cells [u23, u24].toArray 26 (0, 0))] rfl ?_
  refine kl_as rfl (kl_nil (kq_code (kc_ret ?_)))
  exact kq_retR (rss2 rfl (rs_agg rfl rfl) (rs_tmp rfl)) H20 f21 ⟨(⟨(nearT m.doms x free x.length), m.cons⟩ : Mod), true, _, _, rfl, h22, hg.hn.symm⟩ .none
theorem nhoodE_ok {Hmd : Hp} {vmd : Value} {Hmc : Hp} {vmc : Value} {Hx : Hp} {vx : Value} {Hfree : Hp} {vfree : Value} (m : Mod) (x : List Int) (free : List Int) (hmd : Ints Hmd vmd m.doms) (hmc : Cons Hmc vmc m.cons) (hx : Ints Hx vx x) (hfree : Ints Hfree vfree free) : Spec Try.prog 20 [.agg #[vmd, vmc], vx, vfree] [Hmd, Hmc, Hx, Hfree] (fun Hq vq => ∃ (mq : Mod) (bq : Bool) (uq0a uq0b : Value), vq = .tuple #[.agg #[uq0a, uq0b], .bool bq] ∧ Ints Hq uq0a mq.doms ∧ Cons Hq uq0b mq.cons ∧ (mq, bq) = nhI m x free) := by
 refine spec_ofR Try.func20 rfl rfl rfl (fun B => ?_)
 refine kc_seq (kc_region (kl_box rfl rfl (fun p1 H2 f3 a4 => ?_)))
 refine kl_alloc (cs := [.slice none 0 0, .slice none 0 0]) rfl (fun b5 hb6 => ?_)
 refine kl_as rfl (kl_nil (kq_code (kc_seq (kc_seq (kc_region (kl_ldS rfl (by assumption) rfl ?_))))))
 refine kl_callP rfl rfl (svalidMod_ok m (by assumption) (by assumption)) ?_
 refine kl_not rfl (kl_mv rfl (kl_join 5 16 (.bool (!(validModB m) || !(decide ((x.length : Int) = (m.doms.length : Int)) && allInB x 0 5))) (pc 1 rfl (pc 2 rfl (pc 3 rfl (pc 6 rfl (pc 7 rfl (pc 11 rfl pn)))))) (fun J8 => ?_) ?_))
 ·rcases Bool.eq_false_or_eq_true (!(validModB m)) with g7 | g7
  ·skip
   refine kl_gF rfl rfl g7 (kl_gF rfl rfl g7 (kl_gF rfl rfl g7 (kl_gF rfl rfl g7 (kl_orT (!(decide ((x.length : Int) = (m.doms.length : Int)) && allInB x 0 5)) rfl rfl g7 ?_))))
   exact J8 _ (pc 16 rfl (pc 1 rfl (pc 2 rfl (pc 3 rfl (pc 6 rfl (pc 7 rfl (pc 11 rfl pn)))))))
  ·skip
   have g7p := g7
   try simp only [Bool.not_eq_true', Bool.not_eq_false', decide_eq_true_eq, decide_eq_false_iff_not, Bool.and_eq_true, Bool.or_eq_false_iff, withinB_iff] at g7p
   refine kl_gT rfl rfl g7 (kl_ldS rfl (by assumption) rfl ?_)
   refine kl_gT rfl rfl g7 (kl_mv rfl (kl_gT rfl rfl g7 (kl_callP rfl rfl (validAsg_ok m x (by assumption) (by assumption) (by assumption)) ?_)))
   refine kl_gT rfl rfl g7 (kl_not rfl (kl_orF rfl rfl g7 ?_))
   exact J8 _ (pc 16 rfl (pc 1 rfl (pc 2 rfl (pc 3 rfl (pc 6 rfl (pc 7 rfl (pc 11 rfl pn)))))))
 refine kl_mv rfl (kl_join 5 22 (.bool ((!(validModB m) || !(decide ((x.length : Int) = (m.doms.length : Int)) && allInB x 0 5)) || !(varSetS m.doms.length free))) (pc 1 rfl (pc 2 rfl (pc 3 rfl (pc 6 rfl (pc 7 rfl (pc 17 rfl pn)))))) (fun J10 => ?_) ?_)
 ·rcases Bool.eq_false_or_eq_true (!(validModB m) || !(decide ((x.length : Int) = (m.doms.length : Int)) && allInB x 0 5)) with g9 | g9
  ·skip
   refine kl_gF rfl rfl g9 (kl_gF rfl rfl g9 (kl_gF rfl rfl g9 (kl_gF rfl rfl g9 (kl_orT (!(varSetS m.doms.length free)) rfl rfl g9 ?_))))
   exact J10 _ (pc 22 rfl (pc 1 rfl (pc 2 rfl (pc 3 rfl (pc 6 rfl (pc 7 rfl (pc 17 rfl pn)))))))
  ·skip
   have g9p := g9
   try simp only [Bool.not_eq_true', Bool.not_eq_false', decide_eq_true_eq, decide_eq_false_iff_not, Bool.and_eq_true, Bool.or_eq_false_iff, withinB_iff] at g9p
   refine kl_gT rfl rfl g9 (kl_ldS rfl (by assumption) rfl ?_)
   refine kl_gT rfl rfl g9 (kl_mv rfl (kl_gT rfl rfl g9 (kl_callP rfl rfl (validVarSet_ok m free (by assumption) (by assumption) (by assumption)) ?_)))
   refine kl_gT rfl rfl g9 (kl_not rfl (kl_orF rfl rfl g9 ?_))
   exact J10 _ (pc 22 rfl (pc 1 rfl (pc 2 rfl (pc 3 rfl (pc 6 rfl (pc 7 rfl (pc 17 rfl pn)))))))
 refine kl_nil (kq_code (kc_cond rfl (fun c11 => ?_) (fun c11 => ?_)))
 ·skip
  have c11r := c11
  try simp only [smpC, decide_eq_true_eq, decide_eq_false_iff_not] at c11
  refine kc_seq (kc_region (kl_bd rfl cp_nil rfl ?_))
  refine kl_stW (us := [.slice none 0 0, .slice none 0 0]) rfl rfl rfl rfl (oc rfl (oc rfl oc_nil)) rfl ?_
  refine kl_chg [sing b5 (.cells [.slice none 0 0, .slice none 0 0].toArray 26 (0, 0))] rfl ?_
  refine kl_as rfl (kl_nil (kq_code (kc_ret (kq_cmp noHp noHp (fun c12 => ?_)))))
  exact kq_retR (rss2 rfl (rs_agg rfl rfl) (rs_tmp rfl)) (orHp noHp noHp) (fr_or (fr_no _) (fr_no _)) ⟨(⟨[], []⟩ : Mod), false, _, _, rfl, (Sl.mono Sl.nil (fun b o h => orL b o h) (fun _ _ h => h)), (Sl.mono Sl.nil (fun b o h => orC c12 b o h) (fun _ _ h => h)), by first | exact (nh_noS (by assumption)).symm | (rw [hg.hn, ← hfa])⟩ .none
 ·skip
  have c11r := c11
  try simp only [smpC, decide_eq_true_eq, decide_eq_false_iff_not] at c11
  have hg := nh_S c11r
  refine kc_skipQ (kq_code (kc_seq (kc_region (kl_ldS rfl (by assumption) rfl ?_))))
  refine kl_mv rfl (kl_mv rfl (kl_call rfl rfl (fixAll_ok m x free (ok_small hg.hM) hg.hM hg.hx hg.hl (by assumption) (by assumption) (by assumption) (by assumption)) (fun v13 H14 f15 h16 => ?_)))
  obtain ⟨z17, ⟨u19, u20, rfl, h21, h22⟩, h18⟩ := h16
  have hfa := h18
  refine kl_stW (us := [u19, u20]) rfl rfl rfl rfl (oc (Sl.oneCell (by assumption)) (oc (Sl.oneCell (by assumption)) oc_nil)) rfl ?_
  refine kl_chg [sing b5 (.cells [u19, u20].toArray 26 (0, 0))] rfl ?_
  refine kl_as rfl (kl_nil (kq_code (kc_ret (kq_cmp H14 H14 (fun c23 => ?_)))))
  exact kq_retR (rss2 rfl (rs_agg rfl rfl) (rs_tmp rfl)) (orHp H14 H14) (fr_or f15 f15) ⟨(⟨z17.doms, z17.cons⟩ : Mod), true, _, _, rfl, (Sl.mono (by assumption) (fun b o h => orL b o h) (fun _ _ h => h)), (Cons.mono' (by assumption) (fun b o h => orC c23 b o h)), by first | exact (nh_noS (by assumption)).symm | (rw [hg.hn, ← hfa])⟩ .none
theorem lawNhx_ok {Hmd : Hp} {vmd : Value} {Hmc : Hp} {vmc : Value} {Hx : Hp} {vx : Value} {Hfree : Hp} {vfree : Value} (m : Mod) (x : List Int) (free : List Int) (hmd : Ints Hmd vmd m.doms) (hmc : Cons Hmc vmc m.cons) (hx : Ints Hx vx x) (hfree : Ints Hfree vfree free) : SpecP Try.prog 5 [.agg #[vmd, vmc], vx, vfree] [Hmd, Hmc, Hx, Hfree] (.bool true) := by
 have hsz := (nh_size m x free).1
 have hsy := (nh_size m x free).2
 refine spec_of Try.func5 rfl rfl rfl (fun B => ?_)
 refine kc_seq (kc_region (kl_box rfl rfl (fun p1 H2 f3 a4 => ?_)))
 refine kl_as rfl (kl_nil (kq_code (kc_seq (kc_seq (kc_region (kl_mv rfl (kl_len rfl (by assumption) (fun l5 => ?_))))))))
 refine kl_gtr rfl rfl ?_
 refine kl_nil (kq_code (kc_if rfl (fun c6 => ?_) (fun c6 => ?_)))
 ·skip
  refine kc_seq (kc_region (kl_as rfl (kl_nil (kq_code (kc_ret (kq_retP rfl rfl (congrArg Value.bool ?_)))))))
  first | rfl | (exfalso; simp only [held_mark, markL_len, heldM_1] at *; first | omega | (simp at *; done) | (simp at *; omega) | simp_all)
 ·skip
  refine kc_skipQ (kq_code (kc_seq (kc_seq (kc_region (kl_mv rfl (kl_len rfl (by assumption) (fun l7 => ?_)))))))
  refine kl_gtr rfl rfl ?_
  refine kl_nil (kq_code (kc_if rfl (fun c8 => ?_) (fun c8 => ?_)))
  ·skip
   refine kc_seq (kc_region (kl_as rfl (kl_nil (kq_code (kc_ret (kq_retP rfl rfl (congrArg Value.bool ?_)))))))
   first | rfl | (exfalso; simp only [held_mark, markL_len, heldM_1] at *; first | omega | (simp at *; done) | (simp at *; omega) | simp_all)
  ·skip
   refine kc_skipQ (kq_code (kc_seq (kc_region (kl_as rfl (kl_nil (kq_code (kc_seq (kc_region (kl_ldS rfl (by assumption) rfl ?_)))))))))
   refine kl_mv rfl (kl_callP rfl rfl (szModel_ok m (1048576 : Int) (by omega) (by assumption) (by assumption)) ?_)
   refine kl_as rfl (kl_nil (kq_code (kc_seq (kc_seq (kc_region (kl_mv rfl (kl_lss rfl rfl ?_)))))))
   refine kl_nil (kq_code (kc_if rfl (fun c9 => ?_) (fun c9 => ?_)))
   ·skip
    refine kc_seq (kc_region (kl_as rfl (kl_nil (kq_code (kc_ret (kq_retP rfl rfl (congrArg Value.bool ?_)))))))
    first | rfl | (exfalso; simp only [held_mark, markL_len, heldM_1] at *; first | omega | (simp at *; done) | (simp at *; omega) | simp_all)
   ·skip
    have hs := small_of (szB_ok c9)
    have hmk := hs.marks
    refine kc_skipQ (kq_code (kc_seq (kc_region (kl_ldS rfl (by assumption) rfl ?_))))
    refine kl_call rfl rfl (toModel_ok m hs (by assumption) (by assumption)) (fun v10 H11 f12 h13 => ?_)
    obtain ⟨u14, u15, rfl, h16, h17⟩ := h13
    refine kl_mv rfl (kl_call rfl rfl (toIntS_ok x (by omega) (by assumption)) (fun v18 H19 f20 h21 => ?_))
    refine kl_mv rfl (kl_call rfl rfl (toIntS_ok free (by omega) (by assumption)) (fun v22 H23 f24 h25 => ?_))
    refine kl_call rfl rfl (nhoodE_ok m x free (by assumption) (by assumption) (by assumption) (by assumption)) (fun v26 H27 f28 h29 => ?_)
    obtain ⟨m30, b31, u32, u33, rfl, h34, h35, h36⟩ := h29
    obtain ⟨rfl, rfl⟩ := pair_of h36
    refine kl_mv rfl (kl_xt rfl rfl (kl_xt rfl rfl (kl_alloc (cs := [.slice none 0 0, .slice none 0 0]) rfl (fun b37 hb38 => ?_))))
    refine kl_stW (us := [u32, u33]) rfl rfl rfl rfl (oc (Sl.oneCell (by assumption)) (oc (Sl.oneCell (by assumption)) oc_nil)) rfl ?_
    refine kl_as rfl (kl_nil (kq_code (kc_seq (kc_region (kl_ldS rfl (by assumption) rfl ?_)))))
    refine kl_callL rfl rfl (toModel_ok m hs (by assumption) (by assumption)) (fun v39 H40 f41 h42 => ?_)
    obtain ⟨u43, u44, rfl, h45, h46⟩ := h42
    refine kl_alloc (cs := [.slice none 0 0, .slice none 0 0]) rfl (fun b47 hb48 => ?_)
    refine kl_stW (us := [u43, u44]) rfl rfl rfl rfl (oc (Sl.oneCell (by assumption)) (oc (Sl.oneCell (by assumption)) oc_nil)) rfl ?_
    refine kl_nil (kq_code (kc_seq (kc_region (kl_mv rfl (kl_callL rfl rfl (toIntS_ok x (by omega) (by assumption)) (fun v49 H50 f51 h52 => ?_))))))
    refine kl_as rfl (kl_nil (kq_code (kc_seq (kc_region (kl_mv rfl (kl_callL rfl rfl (toIntS_ok free (by omega) (by assumption)) (fun v53 H54 f55 h56 => ?_)))))))
    refine kl_as rfl (kl_nil (kq_code (kc_seq (kc_region (kl_ldW rfl rfl (kl_mv rfl (kl_mv rfl (kl_callL rfl rfl (nhoodX_ok m x free (by assumption) (by assumption) (by assumption) (by assumption)) (fun v57 H58 f59 h60 => ?_)))))))))
    obtain ⟨m61, b62, u63, u64, rfl, h60, h67⟩ := h60
    obtain ⟨rfl, rfl⟩ := pair_of h67
    have h65 := ModX.doms h60
    have h66 := ModX.cons h60
    refine kl_mv rfl (kl_xt rfl rfl (kl_xt rfl rfl (kl_alloc (cs := [.slice none 0 0, .slice none 0 0]) rfl (fun b68 hb69 => ?_))))
    refine kl_stW (us := [u63, u64]) rfl rfl rfl rfl (oc (Sl.oneCell (by assumption)) (oc (Sl.oneCell (by assumption)) oc_nil)) rfl ?_
    refine kl_as rfl (kl_nil (kq_code (kc_seq (kc_seq (kc_region (kl_ldW rfl rfl (kl_ldW rfl rfl (kl_callP rfl rfl (eqModel_ok (nhI m x free).1 (nhI m x free).1 (by assumption) (by assumption) (by assumption) (by assumption)) ?_))))))))
    refine kl_not rfl (kl_mv rfl (kl_join 4 62 (.bool (!(decide ((nhI m x free).1 = (nhI m x free).1)) || ((nhI m x free).2 != (nhI m x free).2))) (pc 1 rfl (pc 2 rfl (pc 3 rfl (pc 6 rfl (pc 8 rfl (pc 9 rfl (pc 10 rfl (pc 11 rfl (pc 12 rfl (pc 13 rfl (pc 14 rfl (pc 58 rfl pn)))))))))))) (fun J71 => ?_) ?_))
    ·rcases Bool.eq_false_or_eq_true (!(decide ((nhI m x free).1 = (nhI m x free).1))) with g70 | g70
     ·skip
      refine kl_gF rfl rfl g70 (kl_gF rfl rfl g70 (kl_gF rfl rfl g70 (kl_orT ((nhI m x free).2 != (nhI m x free).2) rfl rfl g70 ?_)))
      exact J71 _ (pc 62 rfl (pc 1 rfl (pc 2 rfl (pc 3 rfl (pc 6 rfl (pc 8 rfl (pc 9 rfl (pc 10 rfl (pc 11 rfl (pc 12 rfl (pc 13 rfl (pc 14 rfl (pc 58 rfl pn)))))))))))))
     ·skip
      have g70p := g70
      try simp only [Bool.not_eq_true', Bool.not_eq_false', decide_eq_true_eq, decide_eq_false_iff_not, Bool.and_eq_true, Bool.or_eq_false_iff, withinB_iff] at g70p
      refine kl_gT rfl rfl g70 (kl_mv rfl (kl_gT rfl rfl g70 (kl_mv rfl (kl_gT rfl rfl g70 (kl_bne rfl rfl ?_)))))
      refine kl_orF rfl rfl g70 ?_
      exact J71 _ (pc 62 rfl (pc 1 rfl (pc 2 rfl (pc 3 rfl (pc 6 rfl (pc 8 rfl (pc 9 rfl (pc 10 rfl (pc 11 rfl (pc 12 rfl (pc 13 rfl (pc 14 rfl (pc 58 rfl pn)))))))))))))
    refine kl_nil (kq_code (kc_cond rfl (fun c72 => ?_) (fun c72 => ?_)))
    ·skip
     have c72r := c72
     try simp only [smpC, decide_eq_true_eq, decide_eq_false_iff_not] at c72
     refine kc_seq (kc_region (kl_as rfl (kl_nil (kq_code (kc_ret (kq_retP rfl rfl (congrArg Value.bool ?_)))))))
     first | rfl | (exfalso; simp only [held_mark, markL_len, heldM_1] at *; first | omega | (simp at *; done) | (simp at *; omega) | simp_all)
    ·skip
     have c72r := c72
     try simp only [smpC, decide_eq_true_eq, decide_eq_false_iff_not] at c72
     refine kc_skipQ (kq_code (kc_seq (kc_seq (kc_draw 5 [true, true, false, false, true] (by kernel_rfl) (by kernel_rfl) ?_))))
     refine kl_ldW rfl rfl (kl_ldS rfl (by assumption) rfl ?_)
     refine kl_call rfl rfl (toModel_ok m hs (by assumption) (by assumption)) (fun v73 H74 f75 h76 => ?_)
     obtain ⟨u77, u78, rfl, h79, h80⟩ := h76
     refine kl_callP rfl rfl (eqModel_ok m m (by assumption) (by assumption) (by assumption) (by assumption)) ?_
     refine kl_not rfl (kl_nil (kq_code (kc_cond rfl (fun c81 => ?_) (fun c81 => ?_))))
     ·skip
      have c81r := c81
      try simp only [smpC, decide_eq_true_eq, decide_eq_false_iff_not] at c81
      refine kc_seq (kc_region (kl_as rfl (kl_nil (kq_code (kc_ret (kq_retP rfl rfl (congrArg Value.bool ?_)))))))
      first | rfl | (exfalso; simp only [held_mark, markL_len, heldM_1] at *; first | omega | (simp at *; done) | (simp at *; omega) | simp_all)
     ·skip
      have c81r := c81
      try simp only [smpC, decide_eq_true_eq, decide_eq_false_iff_not] at c81
      refine kc_skipQ (kq_code (kc_seq (kc_seq (kc_region (kl_mv rfl (kl_mv rfl (kl_call rfl rfl (toIntS_ok x (by omega) (by assumption)) (fun v82 H83 f84 h85 => ?_))))))))
      refine kl_callP rfl rfl (eqIntS_ok x x (by assumption) (by assumption)) ?_
      refine kl_not rfl (kl_nil (kq_code (kc_cond rfl (fun c86 => ?_) (fun c86 => ?_))))
      ·skip
       have c86r := c86
       try simp only [smpC, decide_eq_true_eq, decide_eq_false_iff_not] at c86
       refine kc_seq (kc_region (kl_as rfl (kl_nil (kq_code (kc_ret (kq_retP rfl rfl (congrArg Value.bool ?_)))))))
       first | rfl | (exfalso; simp only [held_mark, markL_len, heldM_1] at *; first | omega | (simp at *; done) | (simp at *; omega) | simp_all)
      ·skip
       have c86r := c86
       try simp only [smpC, decide_eq_true_eq, decide_eq_false_iff_not] at c86
       refine kc_skipQ (kq_code (kc_seq (kc_seq (kc_region (kl_mv rfl (kl_mv rfl (kl_call rfl rfl (toIntS_ok free (by omega) (by assumption)) (fun v87 H88 f89 h90 => ?_))))))))
       refine kl_callP rfl rfl (eqIntS_ok free free (by assumption) (by assumption)) ?_
       refine kl_not rfl (kl_nil (kq_code (kc_cond rfl (fun c91 => ?_) (fun c91 => ?_))))
       ·skip
        have c91r := c91
        try simp only [smpC, decide_eq_true_eq, decide_eq_false_iff_not] at c91
        refine kc_seq (kc_region (kl_as rfl (kl_nil (kq_code (kc_ret (kq_retP rfl rfl (congrArg Value.bool ?_)))))))
        first | rfl | (exfalso; simp only [held_mark, markL_len, heldM_1] at *; first | omega | (simp at *; done) | (simp at *; omega) | simp_all)
       ·skip
        have c91r := c91
        try simp only [smpC, decide_eq_true_eq, decide_eq_false_iff_not] at c91
        refine kc_skipQ (kq_code (kc_seq (kc_region (kl_as rfl (kl_nil (kq_code (kc_seq (kc_region (kl_ldW rfl rfl (kl_mv rfl (kl_callM rfl rfl (markModel_ok m (1 : Int) (by omega) (by assumption) (by assumption) f41.2) (fun v92 H93 K94 f95 h96 d97 => ?_))))))))))))
        obtain ⟨m98, rfl⟩ := h96
        have f100 := Mk.fr m98 f41
        refine kl_as rfl (kl_nil (kq_code (kc_seq (kc_region (kl_mv rfl (kl_mv rfl (kl_callM rfl rfl (markIntS_ok x ((1 : Int) + m.doms.length + (msum m.cons : Nat)) (by omega) (by assumption) f51.2) (fun v101 H102 K103 f104 h105 d106 => ?_))))))))
        obtain ⟨m107, rfl, e108⟩ := h105
        have f109 := Mk.fr m107 f51
        refine kl_as rfl (kl_nil (kq_code (kc_seq (kc_region (kl_mv rfl (kl_mv rfl (kl_callM rfl rfl (markIntS_ok free (((1 : Int) + m.doms.length + (msum m.cons : Nat)) + x.length) (by omega) (by assumption) f55.2) (fun v110 H111 K112 f113 h114 d115 => ?_))))))))
        obtain ⟨m116, rfl, e117⟩ := h114
        have f118 := Mk.fr m116 f55
        refine kl_as rfl (kl_nil (kq_code (kc_seq (kc_seq (kc_region (kl_mv rfl (kl_lss rfl rfl ?_)))))))
        refine kl_mv rfl (kl_join 5 94 (.bool (decide (((((1 : Int) + m.doms.length + (msum m.cons : Nat)) + x.length) + free.length) < (0 : Int)) || !(decide ((nhI m x free).1 = (nhI m x free).1)))) (pc 1 rfl (pc 2 rfl (pc 3 rfl (pc 6 rfl (pc 8 rfl (pc 9 rfl (pc 13 rfl (pc 14 rfl (pc 89 rfl pn))))))))) (fun J120 => ?_) ?_)
        ·rcases Bool.eq_false_or_eq_true (decide (((((1 : Int) + m.doms.length + (msum m.cons : Nat)) + x.length) + free.length) < (0 : Int))) with g119 | g119
         ·skip
          refine kl_gF rfl rfl g119 (kl_gF rfl rfl g119 (kl_gF rfl rfl g119 (kl_gF rfl rfl g119 (kl_orT (!(decide ((nhI m x free).1 = (nhI m x free).1))) rfl rfl g119 ?_))))
          exact J120 _ (pc 94 rfl (pc 1 rfl (pc 2 rfl (pc 3 rfl (pc 6 rfl (pc 8 rfl (pc 9 rfl (pc 13 rfl (pc 14 rfl (pc 89 rfl pn))))))))))
         ·skip
          have g119p := of_decide_eq_false g119
          refine kl_gT rfl rfl g119 (kl_ldW rfl rfl (kl_gT rfl rfl g119 (kl_ldW rfl rfl (kl_gT rfl rfl g119 (kl_callP rfl rfl (eqModel_ok (nhI m x free).1 (nhI m x free).1 (by assumption) (by assumption) (by assumption) (by assumption)) ?_)))))
          refine kl_gT rfl rfl g119 (kl_not rfl (kl_orF rfl rfl g119 ?_))
          exact J120 _ (pc 94 rfl (pc 1 rfl (pc 2 rfl (pc 3 rfl (pc 6 rfl (pc 8 rfl (pc 9 rfl (pc 13 rfl (pc 14 rfl (pc 89 rfl pn))))))))))
        refine kl_mv rfl (kl_join 4 99 (.bool ((decide (((((1 : Int) + m.doms.length + (msum m.cons : Nat)) + x.length) + free.length) < (0 : Int)) || !(decide ((nhI m x free).1 = (nhI m x free).1))) || ((nhI m x free).2 != (nhI m x free).2))) (pc 1 rfl (pc 2 rfl (pc 3 rfl (pc 6 rfl (pc 8 rfl (pc 9 rfl (pc 13 rfl (pc 95 rfl pn)))))))) (fun J122 => ?_) ?_)
        ·rcases Bool.eq_false_or_eq_true (decide (((((1 : Int) + m.doms.length + (msum m.cons : Nat)) + x.length) + free.length) < (0 : Int)) || !(decide ((nhI m x free).1 = (nhI m x free).1))) with g121 | g121
         ·skip
          refine kl_gF rfl rfl g121 (kl_gF rfl rfl g121 (kl_gF rfl rfl g121 (kl_orT ((nhI m x free).2 != (nhI m x free).2) rfl rfl g121 ?_)))
          exact J122 _ (pc 99 rfl (pc 1 rfl (pc 2 rfl (pc 3 rfl (pc 6 rfl (pc 8 rfl (pc 9 rfl (pc 13 rfl (pc 95 rfl pn)))))))))
         ·skip
          have g121p := g121
          try simp only [Bool.not_eq_true', Bool.not_eq_false', decide_eq_true_eq, decide_eq_false_iff_not, Bool.and_eq_true, Bool.or_eq_false_iff, withinB_iff] at g121p
          refine kl_gT rfl rfl g121 (kl_mv rfl (kl_gT rfl rfl g121 (kl_mv rfl (kl_gT rfl rfl g121 (kl_bne rfl rfl ?_)))))
          refine kl_orF rfl rfl g121 ?_
          exact J122 _ (pc 99 rfl (pc 1 rfl (pc 2 rfl (pc 3 rfl (pc 6 rfl (pc 8 rfl (pc 9 rfl (pc 13 rfl (pc 95 rfl pn)))))))))
        refine kl_nil (kq_code (kc_cond rfl (fun c123 => ?_) (fun c123 => ?_)))
        ·skip
         have c123r := c123
         try simp only [smpC, decide_eq_true_eq, decide_eq_false_iff_not] at c123
         refine kc_seq (kc_region (kl_as rfl (kl_nil (kq_code (kc_ret (kq_retP rfl rfl (congrArg Value.bool ?_)))))))
         first | rfl | (exfalso; simp only [held_mark, markL_len, heldM_1] at *; first | omega | (simp at *; done) | (simp at *; omega) | simp_all)
        ·skip
         have c123r := c123
         try simp only [smpC, decide_eq_true_eq, decide_eq_false_iff_not] at c123
         refine kc_skipQ (kq_code (kc_seq (kc_region (kl_as rfl (kl_nil (kq_code (kc_seq (kc_region (kl_ldW rfl rfl (kl_mv rfl (kl_callT rfl rfl (markModX_ok (nhI m x free).1 (1 : Int) (by omega) h60) (fun v124 L1 Ln K125 h126 g127 g128 => ?_))))))))))))
         obtain ⟨M129, rfl, rfl, rfl, h130⟩ := h126
         refine kl_norm ?_
         have h131 := ModX.doms h130
         have h132 := ModX.cons h130
         refine kl_as rfl (kl_nil (kq_code (kc_seq (kc_region (kl_as rfl (kl_nil (kq_code (kc_seq (kc_region (kl_ldW rfl rfl (kl_mv rfl (kl_callP rfl rfl (heldMod_ok (markM (1 : Int) (nhI m x free).1) (1 : Int) (by rw [markM_doms, markM_sum]; omega) (by assumption) (by assumption)) ?_))))))))))))
         refine kl_as rfl (kl_nil (kq_code (kc_seq (kc_seq (kc_region (kl_mv rfl (kl_lss rfl rfl ?_)))))))
         refine kl_nil (kq_code (kc_if rfl (fun c133 => ?_) (fun c133 => ?_)))
         ·skip
          refine kc_seq (kc_region (kl_as rfl (kl_nil (kq_code (kc_ret (kq_retP rfl rfl (congrArg Value.bool ?_)))))))
          first | rfl | (exfalso; simp only [held_mark, markL_len, heldM_1] at *; first | omega | (simp at *; done) | (simp at *; omega) | simp_all)
         ·skip
          refine kc_skipQ (kq_code (kc_seq (kc_seq (kc_region (kl_mv rfl (kl_mv rfl (kl_neq rfl rfl ?_)))))))
          refine kl_nil (kq_code (kc_if rfl (fun c134 => ?_) (fun c134 => ?_)))
          ·skip
           refine kc_seq (kc_region (kl_as rfl (kl_nil (kq_code (kc_ret (kq_retP rfl rfl (congrArg Value.bool ?_)))))))
           first | rfl | (exfalso; simp only [held_mark, markL_len, heldM_1] at *; first | omega | (simp at *; done) | (simp at *; omega) | simp_all)
          ·skip
           refine kc_skipQ (kq_code (kc_seq (kc_region (kl_ldS rfl (by assumption) rfl ?_))))
           refine kl_call rfl rfl (toModel_ok m hs (by assumption) (by assumption)) (fun v135 H136 f137 h138 => ?_)
           obtain ⟨u139, u140, rfl, h141, h142⟩ := h138
           refine kl_mv rfl (kl_call rfl rfl (toIntS_ok x (by omega) (by assumption)) (fun v143 H144 f145 h146 => ?_))
           refine kl_mv rfl (kl_call rfl rfl (toIntS_ok free (by omega) (by assumption)) (fun v147 H148 f149 h150 => ?_))
           refine kl_callL rfl rfl (nhoodX_ok m x free (by assumption) (by assumption) (by assumption) (by assumption)) (fun v151 H152 f153 h154 => ?_)
           obtain ⟨m155, b156, u157, u158, rfl, h154, h161⟩ := h154
           obtain ⟨rfl, rfl⟩ := pair_of h161
           have h159 := ModX.doms h154
           have h160 := ModX.cons h154
           refine kl_mv rfl (kl_xt rfl rfl (kl_xt rfl rfl (kl_alloc (cs := [.slice none 0 0, .slice none 0 0]) rfl (fun b162 hb163 => ?_))))
           refine kl_stW (us := [u157, u158]) rfl rfl rfl rfl (oc (Sl.oneCell (by assumption)) (oc (Sl.oneCell (by assumption)) oc_nil)) rfl ?_
           refine kl_as rfl (kl_nil (kq_code (kc_seq (kc_seq (kc_region (kl_ldW rfl rfl (kl_ldW rfl rfl (kl_callP rfl rfl (eqModel_ok (nhI m x free).1 (nhI m x free).1 (by assumption) (by assumption) (by assumption) (by assumption)) ?_))))))))
           refine kl_not rfl (kl_mv rfl (kl_join 4 129 (.bool (!(decide ((nhI m x free).1 = (nhI m x free).1)) || ((nhI m x free).2 != (nhI m x free).2))) (pc 6 rfl (pc 13 rfl (pc 16 rfl (pc 17 rfl (pc 125 rfl pn))))) (fun J165 => ?_) ?_))
           ·rcases Bool.eq_false_or_eq_true (!(decide ((nhI m x free).1 = (nhI m x free).1))) with g164 | g164
            ·skip
             refine kl_gF rfl rfl g164 (kl_gF rfl rfl g164 (kl_gF rfl rfl g164 (kl_orT ((nhI m x free).2 != (nhI m x free).2) rfl rfl g164 ?_)))
             exact J165 _ (pc 129 rfl (pc 6 rfl (pc 13 rfl (pc 16 rfl (pc 17 rfl (pc 125 rfl pn))))))
            ·skip
             have g164p := g164
             try simp only [Bool.not_eq_true', Bool.not_eq_false', decide_eq_true_eq, decide_eq_false_iff_not, Bool.and_eq_true, Bool.or_eq_false_iff, withinB_iff] at g164p
             refine kl_gT rfl rfl g164 (kl_mv rfl (kl_gT rfl rfl g164 (kl_mv rfl (kl_gT rfl rfl g164 (kl_bne rfl rfl ?_)))))
             refine kl_orF rfl rfl g164 ?_
             exact J165 _ (pc 129 rfl (pc 6 rfl (pc 13 rfl (pc 16 rfl (pc 17 rfl (pc 125 rfl pn))))))
           refine kl_nil (kq_code (kc_cond rfl (fun c166 => ?_) (fun c166 => ?_)))
           ·skip
            have c166r := c166
            try simp only [smpC, decide_eq_true_eq, decide_eq_false_iff_not] at c166
            refine kc_seq (kc_region (kl_as rfl (kl_nil (kq_code (kc_ret (kq_retP rfl rfl (congrArg Value.bool ?_)))))))
            first | rfl | (exfalso; simp only [held_mark, markL_len, heldM_1] at *; first | omega | (simp at *; done) | (simp at *; omega) | simp_all)
           ·skip
            have c166r := c166
            try simp only [smpC, decide_eq_true_eq, decide_eq_false_iff_not] at c166
            refine kc_skipQ (kq_code (kc_seq (kc_region (kl_as rfl (kl_nil (kq_code (kc_seq (kc_region (kl_ldW rfl rfl (kl_mv rfl (kl_callP rfl rfl (heldMod_ok (markM (1 : Int) (nhI m x free).1) (1 : Int) (by rw [markM_doms, markM_sum]; omega) (by assumption) (by assumption)) ?_)))))))))))
            refine kl_as rfl (kl_nil (kq_code (kc_seq (kc_seq (kc_region (kl_mv rfl (kl_lss rfl rfl ?_)))))))
            refine kl_nil (kq_code (kc_if rfl (fun c167 => ?_) (fun c167 => ?_)))
            ·skip
             refine kc_seq (kc_region (kl_as rfl (kl_nil (kq_code (kc_ret (kq_retP rfl rfl (congrArg Value.bool ?_)))))))
             first | rfl | (exfalso; simp only [held_mark, markL_len, heldM_1] at *; first | omega | (simp at *; done) | (simp at *; omega) | simp_all)
            ·skip
             refine kc_skipQ (kq_code (kc_seq (kc_seq (kc_region (kl_mv rfl (kl_mv rfl (kl_neq rfl rfl ?_)))))))
             refine kl_nil (kq_code (kc_if rfl (fun c168 => ?_) (fun c168 => ?_)))
             ·skip
              refine kc_seq (kc_region (kl_as rfl (kl_nil (kq_code (kc_ret (kq_retP rfl rfl (congrArg Value.bool ?_)))))))
              first | rfl | (exfalso; simp only [held_mark, markL_len, heldM_1] at *; first | omega | (simp at *; done) | (simp at *; omega) | simp_all)
             ·skip
              refine kc_skipQ (kq_code (kc_seq (kc_region (kl_as rfl (kl_nil (kq_code (kc_ret (kq_retP rfl rfl (congrArg Value.bool ?_)))))))))
              first | rfl | (exfalso; simp only [held_mark, markL_len, heldM_1] at *; first | omega | (simp at *; done) | (simp at *; omega) | simp_all)
end Go.Proofs.Ytiilanckbocifaa
