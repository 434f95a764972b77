/- Walks of functions of the program: each returns what the plain function gives. Conditions: those that each statement names. -/
import Derived.Test.YtooiagkfhhfojaaWspecv
import Derived.Test.YtooiagkfhhfojaaPureH
namespace Go.Proofs.Ytooiagkfhhfojaa
open Go
set_option linter.unusedSimpArgs false
set_option linter.unusedVariables false
theorem sneighbours_ok {Hmd : Hp} {vmd : Value} {Hmc : Hp} {vmc : Value} (m : Mod) (v : Int) (hb : m.doms.length ≤ 1048576) (hmd : Ints Hmd vmd m.doms) (hmc : Cons Hmc vmc m.cons) : Spec Try.prog 15 [.agg #[vmd, vmc], .int .i64 v] [Hmd, Hmc] (fun Hq vq => Ints Hq vq (nbS m v)) := by
  refine spec_of Try.func15 rfl rfl rfl (fun B => ?_)
  refine kc_seq ?_
  refine kc_region ?_
  refine kl_box rfl rfl (fun p1 H2 f3 a4 => ?_)
  refine kl_as rfl ?_
  refine kl_nil ?_
  refine kq_code ?_
  refine kc_seq ?_
  refine kc_region ?_
  refine kl_bsI [] rfl rfl rfl (by decide) (fun v5 H6 f7 o8 => ?_)
  refine kl_as rfl ?_
  refine kl_nil ?_
  refine kq_code ?_
  refine kc_seq ?_
  refine kc_seq ?_
  refine kc_region ?_
  refine kl_ldS rfl (by assumption) rfl ?_
  refine kl_callP rfl rfl (svalidMod_ok m (by assumption) (by assumption)) ?_
  refine kl_not rfl ?_
  refine kl_mv rfl ?_
  refine kl_join 8 19 (.bool (!(validModB m) || !(withinB v (0 : Int) ((m.doms.length : Int) - (1 : Int))))) (pc 1 rfl (pc 2 rfl (pc 4 rfl (pc 5 rfl (pc 11 rfl pn))))) (fun J13 => ?_) ?_
  · rcases Bool.eq_false_or_eq_true (!(validModB m)) with g9 | g9
    · skip
      refine kl_gF rfl rfl g9 ?_
      refine kl_gF rfl rfl g9 ?_
      refine kl_gF rfl rfl g9 ?_
      refine kl_gF rfl rfl g9 ?_
      refine kl_gF rfl rfl g9 ?_
      refine kl_gF rfl rfl g9 ?_
      refine kl_gF rfl rfl g9 ?_
      refine kl_orT (!(withinB v (0 : Int) ((m.doms.length : Int) - (1 : Int)))) rfl rfl g9 ?_
      exact J13 _ (pc 19 rfl (pc 1 rfl (pc 2 rfl (pc 4 rfl (pc 5 rfl (pc 11 rfl pn))))))
    · skip
      have g9p := g9
      try simp only [Bool.not_eq_true', Bool.not_eq_false', decide_eq_true_eq, decide_eq_false_iff_not, Bool.and_eq_true, Bool.or_eq_false_iff, withinB_iff] at g9p
      refine kl_gT rfl rfl g9 ?_
      refine kl_mv rfl ?_
      refine kl_gT rfl rfl g9 ?_
      refine kl_fd rfl (by assumption) (fun p10 a11 => ?_)
      refine kl_gT rfl rfl g9 ?_
      refine kl_ld rfl (by assumption) ?_
      refine kl_gT rfl rfl g9 ?_
      refine kl_len rfl (by assumption) (fun l12 => ?_)
      refine kl_gT rfl rfl g9 ?_
      refine kl_sub rfl rfl (by omega) ?_
      refine kl_gT rfl rfl g9 ?_
      refine kl_callP rfl rfl (inRange_ok v (0 : Int) ((m.doms.length : Int) - (1 : Int))) ?_
      refine kl_gT rfl rfl g9 ?_
      refine kl_not rfl ?_
      refine kl_orF rfl rfl g9 ?_
      exact J13 _ (pc 19 rfl (pc 1 rfl (pc 2 rfl (pc 4 rfl (pc 5 rfl (pc 11 rfl pn))))))
  refine kl_nil ?_
  refine kq_code ?_
  refine kc_cond rfl (fun c14 => ?_) (fun c14 => ?_)
  · skip
    have c14r := c14
    try simp only [Bool.not_eq_true', Bool.not_eq_false', Bool.not_true, Bool.not_false, decide_eq_true_eq, decide_eq_false_iff_not, Bool.and_eq_true, Bool.or_eq_false_iff] at c14
    refine kc_seq ?_
    refine kc_region ?_
    refine kl_as rfl ?_
    refine kl_nil ?_
    refine kq_code ?_
    refine kc_ret ?_
    exact kq_ret rfl rfl noHp (fr_no _) (by rw [show nbS m v = [] from if_pos (by assumption)]; exact Sl.nil)
  · skip
    have c14r := c14
    try simp only [Bool.not_eq_true', Bool.not_eq_false', Bool.not_true, Bool.not_false, decide_eq_true_eq, decide_eq_false_iff_not, Bool.and_eq_true, Bool.or_eq_false_iff] at c14
    refine kc_skipQ ?_
    refine kq_code ?_
    refine kc_seq ?_
    refine kc_seq ?_
    refine kc_region ?_
    refine kl_as rfl ?_
    refine kl_nil ?_
    refine kq_code ?_
    refine kc_block ?_
    refine kc_loopL (A := Nat × List Int × Value × Hp) (fun zz => (zz.1 ≤ m.doms.length) ∧ (zz.2.1 = nbTo m v zz.1) ∧ OwnL 3 1 zz.2.2.2 noHp IntV zz.2.2.1 zz.2.1 ∧ Fr B zz.2.2.2) (fun zz => m.doms.length - zz.1) (fun zz => [zz.2.2.2]) (fun zz => [(6, .int .i64 (zz.1 : Int)), (5, zz.2.2.1)]) (0, ([]), v5, H6) (pc 1 rfl (pc 2 rfl (pc 4 rfl pn))) (pc 6 rfl (pc 5 rfl pn)) rfl ⟨Nat.zero_le _, rfl, o8, f7⟩ ?_
    rintro ⟨k, out, v20, H17⟩ hJ21
    obtain ⟨hk15, hi16, o18, f19⟩ : (k ≤ m.doms.length) ∧ (out = nbTo m v k) ∧ OwnL 3 1 H17 noHp IntV v20 out ∧ Fr B H17 := hJ21
    change KC _ _ (_) [H17] _ ([(6, .int .i64 (k : Int)), (5, v20)] ++ _)
    refine kc_seq ?_
    refine kc_seq ?_
    refine kc_region ?_
    refine kl_mv rfl ?_
    refine kl_fd rfl (by assumption) (fun p22 a23 => ?_)
    refine kl_ld rfl (by assumption) ?_
    refine kl_len rfl (by assumption) (fun l24 => ?_)
    refine kl_lss rfl rfl ?_
    refine kl_nil ?_
    refine kq_code ?_
    refine kc_if rfl (fun c25 => ?_) (fun c25 => ?_)
    · skip
      refine kc_skipQ ?_
      refine kq_code ?_
      refine kc_seq ?_
      refine kc_block ?_
      refine kc_seq ?_
      refine kc_region ?_
      refine kl_ldS rfl (by assumption) rfl ?_
      refine kl_mv rfl ?_
      refine kl_mv rfl ?_
      refine kl_callP rfl rfl (adjacent_ok m (k : Int) v (by assumption) (by assumption)) ?_
      refine kl_nil ?_
      refine kq_code ?_
      refine kc_cond rfl (fun c26 => ?_) (fun c26 => ?_)
      · skip
        have c26r := c26
        try simp only [Bool.not_eq_true', Bool.not_eq_false', Bool.not_true, Bool.not_false, decide_eq_true_eq, decide_eq_false_iff_not, Bool.and_eq_true, Bool.or_eq_false_iff] at c26
        refine kc_region ?_
        refine kl_mv rfl ?_
        refine kl_mv rfl ?_
        refine kl_bs rfl rfl rfl (by decide) (ca rfl ca_nil) (fun v27 H28 f29 r30 s31 => ?_)
        have h32 : Ints H28 v27 [(k : Int)] := litInts (xs := [(k : Int)]) (by simpa using s31)
        refine kl_apL (k : Int) rfl rfl o18 (by assumption) rfl (oc rfl oc_nil) (by have := nb_len hi16; omega) (by decide) (fun v33 H34 o35 f36 => ?_)
        have f37 := f36 B f19 (Nat.le_refl _)
        refine kl_as rfl ?_
        refine kl_nil ?_
        refine kq_code ?_
        refine kc_region ?_
        refine kl_mv rfl ?_
        refine kl_inc rfl rfl (by omega) ?_
        refine kl_as rfl ?_
        refine kl_nil ?_
        refine kq_roundL ((k + 1), (out ++ [(k : Int)]), v33, H34) (by omega) (⟨by omega, (by first | exact nb_stepT hi16 (by assumption) | exact nb_stepF hi16 (by assumption)), o35, f37⟩) (pc 6 rfl (pc 5 rfl pn)) (pc 1 rfl (pc 2 rfl (pc 4 rfl pn))) rfl (List.Sublist.refl _)
      · skip
        have c26r := c26
        try simp only [Bool.not_eq_true', Bool.not_eq_false', Bool.not_true, Bool.not_false, decide_eq_true_eq, decide_eq_false_iff_not, Bool.and_eq_true, Bool.or_eq_false_iff] at c26
        refine kc_skipQ ?_
        refine kq_code ?_
        refine kc_region ?_
        refine kl_mv rfl ?_
        refine kl_inc rfl rfl (by omega) ?_
        refine kl_as rfl ?_
        refine kl_nil ?_
        refine kq_roundL ((k + 1), out, v20, H17) (by omega) (⟨by omega, (by first | exact nb_stepT hi16 (by assumption) | exact nb_stepF hi16 (by assumption)), o18, f19⟩) (pc 6 rfl (pc 5 rfl pn)) (pc 1 rfl (pc 2 rfl (pc 4 rfl pn))) rfl (List.Sublist.refl _)
    · skip
      refine kc_exit ?_
      refine kq_code ?_
      refine kc_seq ?_
      refine kc_region ?_
      refine kl_mv rfl ?_
      refine kl_as rfl ?_
      refine kl_nil ?_
      refine kq_code ?_
      refine kc_ret ?_
      have e9 : out = nbS m v := by exact nb_end hi16 (by omega) (by assumption)
      exact kq_ret rfl rfl H17 f19 (e9 ▸ OwnL.ints o18)
end Go.Proofs.Ytooiagkfhhfojaa
