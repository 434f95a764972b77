/- Walks of functions of the program: each returns what the plain function gives. Conditions: those that each statement names. -/
import Derived.Test.YtigngogjgohfgaaWfix
import Derived.Test.YtigngogjgohfgaaPureX
namespace Go.Proofs.Ytigngogjgohfgaa
open Go
set_option linter.unusedSimpArgs false
set_option linter.unusedVariables false
theorem propagateI_ok {Hmd : Hp} {vmd : Value} {Hmc : Hp} {vmc : Value} (m : Mod) (hmd : Ints Hmd vmd m.doms) (hmc : Cons Hmc vmc m.cons) : Spec Try.prog 45 [.agg #[vmd, vmc]] [Hmd, Hmc] (fun Hq vq => Ints Hq vq (propI m)) := by
  refine spec_of Try.func45 rfl rfl rfl (fun B => ?_)
  refine kc_seq ?_
  refine kc_region ?_
  refine kl_box rfl rfl (fun p1 H2 f3 a4 => ?_)
  refine kl_as rfl ?_
  refine kl_nil ?_
  refine kq_code ?_
  refine kc_seq ?_
  refine kc_seq ?_
  refine kc_region ?_
  refine kl_ldS rfl (by assumption) rfl ?_
  refine kl_callP rfl rfl (validMod_ok m (by assumption) (by assumption)) ?_
  refine kl_not rfl ?_
  refine kl_nil ?_
  refine kq_code ?_
  refine kc_cond rfl (fun c5 => ?_) (fun c5 => ?_)
  · skip
    have c5r := c5
    try simp only [Bool.not_eq_true', Bool.not_eq_false', Bool.not_true, Bool.not_false, decide_eq_true_eq, decide_eq_false_iff_not, Bool.and_eq_true, Bool.or_eq_false_iff] at c5
    refine kc_seq ?_
    refine kc_region ?_
    refine kl_as rfl ?_
    refine kl_nil ?_
    refine kq_code ?_
    refine kc_ret ?_
    exact kq_ret rfl rfl noHp (fr_no _) (by rw [propI_no (by assumption)]; exact Sl.nil)
  · skip
    have c5r := c5
    try simp only [Bool.not_eq_true', Bool.not_eq_false', Bool.not_true, Bool.not_false, decide_eq_true_eq, decide_eq_false_iff_not, Bool.and_eq_true, Bool.or_eq_false_iff] at c5
    have hv : validModB m = true := (by simpa using c5r)
    have hM : MOk m := ⟨hv⟩
    have hn := hM.n
    have hfw := sols_few hM
    refine kc_skipQ ?_
    refine kq_code ?_
    refine kc_seq ?_
    refine kc_region ?_
    refine kl_ldS rfl (by assumption) rfl ?_
    refine kl_fd rfl (by assumption) (fun p6 a7 => ?_)
    refine kl_ld rfl (by assumption) ?_
    refine kl_call rfl rfl (propagate_ok m m.doms hM hM.dok (by assumption) (by assumption) (by assumption)) (fun v8 H9 f10 h11 => ?_)
    refine kl_as rfl ?_
    refine kl_nil ?_
    refine kq_code ?_
    refine kc_ret ?_
    have e9 : (prop m m.doms) = propI m := by exact (propI_yes hv).symm
    exact kq_ret rfl rfl H9 f10 (e9 ▸ (by assumption : Ints _ _ (prop m m.doms)))
theorem backM_ok {Hmd : Hp} {vmd : Value} {Hmc : Hp} {vmc : Value} (m : Mod) (hM : MOk m) (hmd : Ints Hmd vmd m.doms) (hmc : Cons Hmc vmc m.cons) : Spec Try.prog 96 [.agg #[vmd, vmc]] [Hmd, Hmc] (fun Hq vq => Ints Hq vq (uniV m.doms.length (sols m))) := by
  have hn := hM.n
  have hfw := sols_few hM
  refine spec_of Try.func96 rfl rfl rfl (fun B => ?_)
  refine kc_seq ?_
  refine kc_region ?_
  refine kl_box rfl rfl (fun p1 H2 f3 a4 => ?_)
  refine kl_as rfl ?_
  refine kl_nil ?_
  refine kq_code ?_
  refine kc_seq ?_
  refine kc_region ?_
  refine kl_fd rfl (by assumption) (fun p5 a6 => ?_)
  refine kl_ld rfl (by assumption) ?_
  refine kl_len rfl (by assumption) (fun l7 => ?_)
  refine kl_mkL (R := IntV) (0 : Int) rfl rfl (by omega) (by decide) (by exact rfl) (fun v8 H9 f10 o11 => ?_)
  refine kl_as rfl ?_
  refine kl_nil ?_
  refine kq_code ?_
  refine kc_seq ?_
  refine kc_seq ?_
  refine kc_region ?_
  refine kl_ldS rfl (by assumption) rfl ?_
  refine kl_call rfl rfl (solutions_ok m hM (by assumption) (by assumption)) (fun v12 H13 f14 h15 => ?_)
  refine kl_len rfl (by assumption) (fun l16 => ?_)
  refine kl_mv rfl ?_
  refine kl_nil ?_
  refine kq_code ?_
  refine kc_block ?_
  refine kc_loopL (A := Nat × List Int × Hp) (fun zz => (zz.1 ≤ (sols m).length) ∧ (zz.2.1 = uniV m.doms.length ((sols m).take zz.1)) ∧ OwnL 3 1 zz.2.2 noHp IntV v8 zz.2.1 ∧ Fr B zz.2.2) (fun zz => (sols m).length - zz.1) (fun zz => [zz.2.2]) (fun zz => [(15, .int .i64 (zz.1 : Int))]) (0, (List.replicate m.doms.length (0 : Int)), H9) (pc 2 rfl (pc 3 rfl (pc 13 rfl (pc 14 rfl pn)))) (pc 15 rfl pn) rfl ⟨Nat.zero_le _, (uniV_0 _).symm, o11, f10⟩ ?_
  rintro ⟨k, out, H19⟩ hJ22
  obtain ⟨hk17, hi18, o20, f21⟩ : (k ≤ (sols m).length) ∧ (out = uniV m.doms.length ((sols m).take k)) ∧ OwnL 3 1 H19 noHp IntV v8 out ∧ Fr B H19 := hJ22
  change KC _ _ (_) [H19] _ ([(15, .int .i64 (k : Int))] ++ _)
  have hol : out.length = m.doms.length := (by rw [hi18]; exact uniV_len _ _)
  refine kc_seq ?_
  refine kc_region ?_
  refine kl_lss rfl rfl ?_
  refine kl_nil ?_
  refine kq_code ?_
  refine kc_seq ?_
  refine kc_if rfl (fun c23 => ?_) (fun c23 => ?_)
  · skip
    have hsl := sols_len (getD_mem (d := []) (by omega : k < (sols m).length))
    refine kc_skipQ ?_
    refine kq_code ?_
    refine kc_seq ?_
    refine kc_block ?_
    refine kc_seq ?_
    refine kc_region ?_
    refine kl_inS rfl rfl (by assumption) (by omega) (fun p24 u26 h27 a25 => ?_)
    refine kl_ld rfl (by assumption) ?_
    refine kl_as rfl ?_
    refine kl_nil ?_
    refine kq_code ?_
    refine kc_seq ?_
    refine kc_region ?_
    refine kl_mv rfl ?_
    refine kl_len rfl (by assumption) (fun l28 => ?_)
    refine kl_mv rfl ?_
    refine kl_nil ?_
    refine kq_code ?_
    refine kc_block ?_
    refine kc_loopL (A := Nat × List Int × Hp) (fun zz => (zz.1 ≤ ((sols m).getD k []).length) ∧ (zz.2.1 = uniM m.doms.length ((sols m).take k) ((sols m).getD k []) zz.1) ∧ OwnL 3 1 zz.2.2 noHp IntV v8 zz.2.1 ∧ Fr B zz.2.2) (fun zz => ((sols m).getD k []).length - zz.1) (fun zz => [zz.2.2]) (fun zz => [(21, .int .i64 (zz.1 : Int))]) (0, out, H19) (pc 2 rfl (pc 3 rfl (pc 5 rfl (pc 13 rfl (pc 14 rfl (pc 15 rfl (pc 16 rfl (pc 17 rfl (pc 18 rfl (pc 19 rfl (pc 20 rfl pn))))))))))) (pc 21 rfl pn) rfl ⟨Nat.zero_le _, (by rw [hi18, uniM_0]), o20, f21⟩ ?_
    rintro ⟨k2, out1, H31⟩ hJ34
    obtain ⟨hk29, hi30, o32, f33⟩ : (k2 ≤ ((sols m).getD k []).length) ∧ (out1 = uniM m.doms.length ((sols m).take k) ((sols m).getD k []) k2) ∧ OwnL 3 1 H31 noHp IntV v8 out1 ∧ Fr B H31 := hJ34
    change KC _ _ (_) [H31] _ ([(21, .int .i64 (k2 : Int))] ++ _)
    have hln : out1.length = m.doms.length := (by rw [hi30]; exact uniM_len _ _ _ _)
    refine kc_seq ?_
    refine kc_region ?_
    refine kl_lss rfl rfl ?_
    refine kl_nil ?_
    refine kq_code ?_
    refine kc_seq ?_
    refine kc_if rfl (fun c35 => ?_) (fun c35 => ?_)
    · skip
      have hv5 := (sols_vals (getD_mem (d := []) (by omega : k < (sols m).length))).at (k := k2) (by omega)
      refine kc_skipQ ?_
      refine kq_code ?_
      refine kc_seq ?_
      refine kc_block ?_
      refine kc_seq ?_
      refine kc_region ?_
      refine kl_mv rfl ?_
      refine kl_inI rfl rfl (by assumption) (by omega) (fun p36 a37 => ?_)
      refine kl_ld rfl (by assumption) ?_
      refine kl_as rfl ?_
      refine kl_as rfl ?_
      refine kl_nil ?_
      refine kq_code ?_
      refine kc_draw 8 [true, true, true, true, true, true, true, true, false] (by kernel_rfl) (by kernel_rfl) ?_
      refine kl_mv rfl ?_
      refine kl_mv rfl ?_
      refine kl_ixLn rfl rfl (by assumption) (by omega) (fun p38 q39 => ?_)
      refine kl_ldLI rfl (by assumption) (by assumption) (by omega) ?_
      refine kl_mv rfl ?_
      refine kl_shl rfl rfl (by omega) ?_
      refine kl_or rfl rfl ?_
      refine kl_ixLn rfl rfl (by assumption) (by omega) (fun p40 q41 => ?_)
      refine kl_stL (ior (out1.getD k2 0) (ishl (1 : Int) (((sols m).getD k []).getD k2 0))) rfl rfl (by assumption) o32 (by omega) rfl rfl rfl (fun H42 o43 f44 => ?_)
      have f45 := f44 _ f33
      refine kl_nil ?_
      refine kq_code ?_
      refine kc_region ?_
      refine kl_inc rfl rfl (by omega) ?_
      refine kl_mv rfl ?_
      refine kl_nil ?_
      refine kq_roundL ((k2 + 1), (out1.set k2 (ior (out1.getD k2 0) (ishl (1 : Int) (((sols m).getD k []).getD k2 0)))), H42) (by omega) (⟨by omega, (by rw [hi30]; exact uniM_step (by omega) hv5), o43, f45⟩) (pc 21 rfl pn) (pc 2 rfl (pc 3 rfl (pc 5 rfl (pc 13 rfl (pc 14 rfl (pc 15 rfl (pc 16 rfl (pc 17 rfl (pc 18 rfl (pc 19 rfl (pc 20 rfl pn))))))))))) rfl (List.Sublist.refl _)
    · skip
      refine kc_exit ?_
      refine kq_code ?_
      refine kc_region ?_
      refine kl_inc rfl rfl (by omega) ?_
      refine kl_mv rfl ?_
      refine kl_nil ?_
      refine kq_roundL ((k + 1), out1, H31) (by omega) (⟨by omega, (by rw [take_succ_getD [] (by omega : k < (sols m).length), hi30]; exact uniM_all (by omega)), o32, f33⟩) (pc 15 rfl pn) (pc 2 rfl (pc 3 rfl (pc 13 rfl (pc 14 rfl pn)))) rfl (List.Sublist.refl _)
  · skip
    refine kc_exit ?_
    refine kq_code ?_
    refine kc_seq ?_
    refine kc_region ?_
    refine kl_mv rfl ?_
    refine kl_as rfl ?_
    refine kl_nil ?_
    refine kq_code ?_
    refine kc_ret ?_
    have e9 : out = uniV m.doms.length (sols m) := by (rw [hi18, List.take_of_length_le (by omega)])
    exact kq_ret rfl rfl H19 f21 (e9 ▸ OwnL.ints o20)
theorem backboneI_ok {Hmd : Hp} {vmd : Value} {Hmc : Hp} {vmc : Value} (m : Mod) (hmd : Ints Hmd vmd m.doms) (hmc : Cons Hmc vmc m.cons) : Spec Try.prog 46 [.agg #[vmd, vmc]] [Hmd, Hmc] (fun Hq vq => Ints Hq vq (backI m)) := by
  refine spec_of Try.func46 rfl rfl rfl (fun B => ?_)
  refine kc_seq ?_
  refine kc_region ?_
  refine kl_box rfl rfl (fun p1 H2 f3 a4 => ?_)
  refine kl_as rfl ?_
  refine kl_nil ?_
  refine kq_code ?_
  refine kc_seq ?_
  refine kc_seq ?_
  refine kc_region ?_
  refine kl_ldS rfl (by assumption) rfl ?_
  refine kl_callP rfl rfl (validMod_ok m (by assumption) (by assumption)) ?_
  refine kl_not rfl ?_
  refine kl_nil ?_
  refine kq_code ?_
  refine kc_cond rfl (fun c5 => ?_) (fun c5 => ?_)
  · skip
    have c5r := c5
    try simp only [Bool.not_eq_true', Bool.not_eq_false', Bool.not_true, Bool.not_false, decide_eq_true_eq, decide_eq_false_iff_not, Bool.and_eq_true, Bool.or_eq_false_iff] at c5
    refine kc_seq ?_
    refine kc_region ?_
    refine kl_as rfl ?_
    refine kl_nil ?_
    refine kq_code ?_
    refine kc_ret ?_
    exact kq_ret rfl rfl noHp (fr_no _) (by rw [backI_no (by assumption)]; exact Sl.nil)
  · skip
    have c5r := c5
    try simp only [Bool.not_eq_true', Bool.not_eq_false', Bool.not_true, Bool.not_false, decide_eq_true_eq, decide_eq_false_iff_not, Bool.and_eq_true, Bool.or_eq_false_iff] at c5
    have hv : validModB m = true := (by simpa using c5r)
    have hM : MOk m := ⟨hv⟩
    have hn := hM.n
    have hfw := sols_few hM
    refine kc_skipQ ?_
    refine kq_code ?_
    refine kc_seq ?_
    refine kc_region ?_
    refine kl_ldS rfl (by assumption) rfl ?_
    refine kl_call rfl rfl (backM_ok m hM (by assumption) (by assumption)) (fun v6 H7 f8 h9 => ?_)
    refine kl_as rfl ?_
    refine kl_nil ?_
    refine kq_code ?_
    refine kc_ret ?_
    have e9 : (uniV m.doms.length (sols m)) = backI m := by exact (backI_yes hv).symm
    exact kq_ret rfl rfl H7 f8 (e9 ▸ (by assumption : Ints _ _ (uniV m.doms.length (sols m))))
end Go.Proofs.Ytigngogjgohfgaa
