/- Walks of functions of the program: each returns what the plain function gives. Conditions: those that each statement names. -/
import Derived.Test.YtbbphbihgikmdaaWpli
import Derived.Test.YtbbphbihgikmdaaWpls
import Derived.Test.YtbbphbihgikmdaaWgame
import Derived.Test.YtbbphbihgikmdaaWclip
namespace Go.Proofs.Ytbbphbihgikmdaa
open Go
set_option linter.unusedSimpArgs false
set_option linter.unusedVariables false
theorem clipR_ok {Hxs : Hp} {vxs : Value} (xs : List (List Int)) (hxs : Rows Hxs vxs xs) : Spec Try.prog 88 [vxs] [Hxs] (fun _ vq => Rows Hxs vq xs ∧ ClipV vxs vq xs.length) := by
 refine spec_of Try.func88 rfl rfl rfl (fun B => ?_)
 refine kc_seq (kc_region ?_)
 refine kl_as rfl ?_
 refine kl_nil (kq_code (kc_seq (kc_region ?_)))
 refine kl_mv rfl ?_
 refine kl_mv rfl ?_
 refine kl_len rfl (by assumption) (fun l1 => ?_)
 refine kl_mv rfl ?_
 refine kl_len rfl (by assumption) (fun l2 => ?_)
 refine kl_clipV rfl rfl rfl (by assumption) (by omega) (fun u3 h4 h4v => ?_)
 refine kl_as rfl ?_
 refine kl_nil (kq_code ?_)
 refine kc_ret ?_
 exact kq_ret rfl rfl noHp (fr_no _) ⟨by assumption, by assumption⟩
theorem strI_ok {Hmd : Hp} {vmd : Value} {Hmc : Hp} {vmc : Value} {Hfa : Hp} {vfa : Value} (m : Mod) (fa : List Bool) (hmd : Ints Hmd vmd m.doms) (hmc : Cons Hmc vmc m.cons) (hfa : Bools Hfa vfa fa) : Spec Try.prog 39 [.agg #[vmd, vmc], vfa] [Hmd, Hmc, Hfa] ((fun Hq vq => ∃ u : Value, vq = .tuple #[u, .bool (strB m fa)] ∧ MatR 22 3 encI Hq u (strL m fa))) := by
 refine spec_of Try.func39 rfl rfl rfl (fun B => ?_)
 refine kc_seq (kc_region ?_)
 refine kl_box rfl rfl (fun p1 H2 f3 a4 => ?_)
 refine kl_as rfl ?_
 refine kl_as rfl ?_
 refine kl_nil (kq_code ?_)
 refine kc_seq ?_
 refine kc_seq (kc_region ?_)
 refine kl_ldS rfl (by assumption) rfl ?_
 refine kl_mv rfl ?_
 refine kl_callP rfl rfl (gameOk_ok m fa (by assumption) (by assumption) (by assumption)) ?_
 refine kl_not rfl ?_
 refine kl_mv rfl ?_
 refine kl_join 5 15 (.bool (!(gOkB m fa) || !(winB m fa m.doms.length []))) (pc 1 rfl (pc 2 rfl (pc 4 rfl (pc 5 rfl (pc 10 rfl pn))))) (fun J6 => ?_) ?_
 ·rcases Bool.eq_false_or_eq_true (!(gOkB m fa)) with g5 | g5
  ·skip
   refine kl_gF rfl rfl g5 ?_
   refine kl_gF rfl rfl g5 ?_
   refine kl_gF rfl rfl g5 ?_
   refine kl_gF rfl rfl g5 ?_
   refine kl_orT (!(winB m fa m.doms.length [])) rfl rfl g5 ?_
   exact J6 _ (pc 15 rfl (pc 1 rfl (pc 2 rfl (pc 4 rfl (pc 5 rfl (pc 10 rfl pn))))))
  ·skip
   have g5p := g5
   try simp only [Bool.not_eq_true', Bool.not_eq_false', decide_eq_true_eq, decide_eq_false_iff_not, Bool.and_eq_true, Bool.or_eq_false_iff, withinB_iff] at g5p
   obtain ⟨hM0, hfl0⟩ := gok_of (m := m) (fa := fa) (by simpa using g5)
   refine kl_gT rfl rfl g5 ?_
   refine kl_ldS rfl (by assumption) rfl ?_
   refine kl_gT rfl rfl g5 ?_
   refine kl_mv rfl ?_
   refine kl_gT rfl rfl g5 ?_
   refine kl_callP rfl rfl (isTrue_ok m.doms.length m fa [] hM0 hfl0 (by simp) vals_nil (by assumption) (by assumption) (by assumption) (Sl.nil (H := noHp))) ?_
   refine kl_gT rfl rfl g5 ?_
   refine kl_not rfl ?_
   refine kl_orF rfl rfl g5 ?_
   exact J6 _ (pc 15 rfl (pc 1 rfl (pc 2 rfl (pc 4 rfl (pc 5 rfl (pc 10 rfl pn))))))
 refine kl_nil (kq_code ?_)
 refine kc_cond rfl (fun c7 => ?_) (fun c7 => ?_)
 ·skip
  have c7r := c7
  try simp only [Bool.not_eq_true', Bool.not_eq_false', Bool.not_true, Bool.not_false, decide_eq_true_eq, decide_eq_false_iff_not, Bool.and_eq_true, Bool.or_eq_false_iff] at c7
  refine kc_seq (kc_region ?_)
  refine kl_as rfl ?_
  refine kl_as rfl ?_
  refine kl_nil (kq_code ?_)
  refine kc_ret ?_
  exact kq_ret2 rfl rfl rfl (orHp noHp noHp) (fr_or (fr_no _) (fr_no _)) ⟨_, tup2 rfl (congrArg Value.bool (str_no (strI_c m fa) (by assumption))), by rw [strL_no (str_no (strI_c m fa) (by assumption))]; exact ⟨noHp, noHp, [], rfl, fun _ => .inl rfl, Mat.nil OwnS.nil⟩⟩
 ·skip
  have c7r := c7
  try simp only [Bool.not_eq_true', Bool.not_eq_false', Bool.not_true, Bool.not_false, decide_eq_true_eq, decide_eq_false_iff_not, Bool.and_eq_true, Bool.or_eq_false_iff] at c7
  have hok := str_yes (strI_c m fa) c7r
  obtain ⟨hM, hfl, hw⟩ := str_ok hok
  refine kc_skipQ ?_
  refine kq_code ?_
  refine kc_seq (kc_region ?_)
  refine kl_ldS rfl (by assumption) rfl ?_
  refine kl_mv rfl ?_
  refine kl_callL rfl rfl (playsI_ok m.doms.length m fa [] hM hfl (by simp) vals_nil hw (by assumption) (by assumption) (by assumption) (Sl.nil (H := noHp))) (fun v8 H9 f10 h11 => ?_)
  obtain ⟨H12, K13, us14, rfl, a15, m16⟩ := h11
  refine kl_split H12 K13 a15 ?_
  have f18 := fr_l f10 m16.hlq
  have f19 := fr_r f10 m16.lq
  refine kl_apart H12 K13 (fun c26 => ?_)
  have h27 := MatR.rows ⟨H12, K13, us14, rfl, c26, m16⟩
  refine kl_call rfl rfl (clipR_ok (playS m fa m.doms.length []) h27) (fun v20 H21 f22 h23 => ?_)
  obtain ⟨_, h24⟩ := h23
  have m25 := Mat.clip m16 h24
  refine kl_as rfl ?_
  refine kl_as rfl ?_
  refine kl_nil (kq_code ?_)
  refine kc_ret ?_
  refine kq_apart H12 K13 (fun c28 => ?_)
  exact kq_ret2 rfl rfl rfl (orHp H12 K13) (fr_or f18 f19) ⟨_, tup2 rfl (congrArg Value.bool hok.symm), H12, K13, us14, rfl, c28, Mat.castX (strL_at hok).symm m25⟩
theorem strS_ok {Hmd : Hp} {vmd : Value} {Hmc : Hp} {vmc : Value} {Hfa : Hp} {vfa : Value} (m : Mod) (fa : List Bool) (hmd : Ints Hmd vmd m.doms) (hmc : Cons Hmc vmc m.cons) (hfa : Bools Hfa vfa fa) : Spec Try.prog 38 [.agg #[vmd, vmc], vfa] [Hmd, Hmc, Hfa] (fun Hq vq => ∃ uq0 : Value, vq = .tuple #[uq0, .bool (strB m fa)] ∧ Rows Hq uq0 (strL m fa)) := by
 refine spec_of Try.func38 rfl rfl rfl (fun B => ?_)
 refine kc_seq (kc_region ?_)
 refine kl_box rfl rfl (fun p1 H2 f3 a4 => ?_)
 refine kl_as rfl ?_
 refine kl_as rfl ?_
 refine kl_nil (kq_code ?_)
 refine kc_seq ?_
 refine kc_seq (kc_region ?_)
 refine kl_ldS rfl (by assumption) rfl ?_
 refine kl_mv rfl ?_
 refine kl_callP rfl rfl (siqt_ok m fa (by assumption) (by assumption) (by assumption)) ?_
 refine kl_not rfl ?_
 refine kl_mv rfl ?_
 refine kl_join 4 14 (.bool (!(qtrueB m fa) || (m.doms.contains 0))) (pc 1 rfl (pc 2 rfl (pc 4 rfl (pc 5 rfl (pc 10 rfl pn))))) (fun J8 => ?_) ?_
 ·rcases Bool.eq_false_or_eq_true (!(qtrueB m fa)) with g5 | g5
  ·skip
   refine kl_gF rfl rfl g5 ?_
   refine kl_gF rfl rfl g5 ?_
   refine kl_gF rfl rfl g5 ?_
   refine kl_orT (m.doms.contains 0) rfl rfl g5 ?_
   exact J8 _ (pc 14 rfl (pc 1 rfl (pc 2 rfl (pc 4 rfl (pc 5 rfl (pc 10 rfl pn))))))
  ·skip
   have g5p := g5
   try simp only [Bool.not_eq_true', Bool.not_eq_false', decide_eq_true_eq, decide_eq_false_iff_not, Bool.and_eq_true, Bool.or_eq_false_iff, withinB_iff] at g5p
   refine kl_gT rfl rfl g5 ?_
   refine kl_fd rfl (by assumption) (fun p6 a7 => ?_)
   refine kl_gT rfl rfl g5 ?_
   refine kl_ld rfl (by assumption) ?_
   refine kl_gT rfl rfl g5 ?_
   refine kl_callP rfl rfl (hasEmpty_ok m.doms (by assumption)) ?_
   refine kl_orF rfl rfl g5 ?_
   exact J8 _ (pc 14 rfl (pc 1 rfl (pc 2 rfl (pc 4 rfl (pc 5 rfl (pc 10 rfl pn))))))
 refine kl_nil (kq_code ?_)
 refine kc_cond rfl (fun c9 => ?_) (fun c9 => ?_)
 ·skip
  have c9r := c9
  try simp only [Bool.not_eq_true', Bool.not_eq_false', Bool.not_true, Bool.not_false, decide_eq_true_eq, decide_eq_false_iff_not, Bool.and_eq_true, Bool.or_eq_false_iff] at c9
  refine kc_seq (kc_region ?_)
  refine kl_as rfl ?_
  refine kl_as rfl ?_
  refine kl_nil (kq_code ?_)
  refine kc_ret ?_
  refine kq_ret2 rfl rfl rfl noHp (fr_no _) ⟨_, tup2 rfl (congrArg Value.bool (by exact str_no (strS_c m fa) (by assumption))), ?_⟩
  exact (by have e9 : strL m fa = [] := (by exact strL_no (str_no (strS_c m fa) (by assumption))); rw [e9]; exact Sl.nil)
 ·skip
  have c9r := c9
  try simp only [Bool.not_eq_true', Bool.not_eq_false', Bool.not_true, Bool.not_false, decide_eq_true_eq, decide_eq_false_iff_not, Bool.and_eq_true, Bool.or_eq_false_iff] at c9
  have hok := str_yes (strS_c m fa) c9r
  obtain ⟨hM, hfl, hw⟩ := str_ok hok
  refine kc_skipQ ?_
  refine kq_code ?_
  refine kc_seq (kc_region ?_)
  refine kl_ldS rfl (by assumption) rfl ?_
  refine kl_mv rfl ?_
  refine kl_bsI [] rfl rfl rfl (by decide) (fun v10 H11 f12 o13 => ?_)
  refine kl_callL rfl rfl (playsS_ok m.doms.length m fa ([]) hM hfl (by simp) vals_nil (by assumption) (by assumption) (by assumption) (OwnL.ints o13)) (fun v14 H15 f16 h17 => ?_)
  obtain ⟨H18, K19, us20, rfl, a21, m22⟩ := h17
  refine kl_split H18 K19 a21 ?_
  have f24 := fr_l f16 m22.hlq
  have f25 := fr_r f16 m22.lq
  refine kl_as rfl ?_
  refine kl_as rfl ?_
  refine kl_nil (kq_code ?_)
  refine kc_ret ?_
  refine kq_apart H18 K19 (fun c26 => ?_)
  refine kq_ret2 rfl rfl rfl (orHp H18 K19) (fr_or f24 f25) ⟨_, tup2 rfl (congrArg Value.bool (by exact hok.symm)), ?_⟩
  exact (by have e9 : strL m fa = (playS m fa m.doms.length ([])) := (by exact strL_at hok); rw [e9]; exact MatR.rows ⟨H18, K19, us20, rfl, c26, m22⟩)
end Go.Proofs.Ytbbphbihgikmdaa
