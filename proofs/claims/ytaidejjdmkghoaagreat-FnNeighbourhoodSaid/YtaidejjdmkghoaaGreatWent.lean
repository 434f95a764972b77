/- Walks of functions of the program: each returns what the plain function gives. Conditions: those that each statement names. -/
import Derived.Test.YtaidejjdmkghoaaGreatWis
import Derived.Test.YtaidejjdmkghoaaGreatPureX
namespace Go.Proofs.YtaidejjdmkghoaaGreat
open Go
set_option linter.unusedSimpArgs false
set_option linter.unusedVariables false
theorem ent1_ok {Hx : Hp} {vx : Value} {Hbd : Hp} {vbd : Value} {Hbc : Hp} {vbc : Value} {Hpb : Hp} {ptrpb : Value} (x : List Int) (b : Mod) (hM : MOk b) (hl : x.length = b.doms.length) (hX : Vals x) (hx : Ints Hx vx x) (hbd : Ints Hbd vbd b.doms) (hbc : Cons Hbc vbc b.cons) (apb : At Hpb ptrpb [vbd, vbc]) : SpecP Tryz.prog 51 [vx, ptrpb] [Hx, Hbd, Hbc, Hpb] (.bool (!(isSolB b x))) := by
 refine spec_of Tryz.func51 rfl rfl rfl (fun B => ?_)
 refine kc_seq (kc_region ?_)
 refine kl_as rfl ?_
 refine kl_nil (kq_code (kc_seq (kc_region ?_)))
 refine kl_ldS rfl (by assumption) rfl ?_
 refine kl_mv rfl ?_
 refine kl_callP rfl rfl (isSol_ok b x hM hl hX (by assumption) (by assumption) (by assumption)) ?_
 refine kl_not rfl ?_
 refine kl_as rfl ?_
 refine kl_nil (kq_code ?_)
 refine kc_ret ?_
 refine kq_retP rfl rfl (congrArg Value.bool ?_)
 rfl
theorem entI_ok {Had : Hp} {vad : Value} {Hac : Hp} {vac : Value} {Hbd : Hp} {vbd : Value} {Hbc : Hp} {vbc : Value} (a : Mod) (b : Mod) (had : Ints Had vad a.doms) (hac : Cons Hac vac a.cons) (hbd : Ints Hbd vbd b.doms) (hbc : Cons Hbc vbc b.cons) : SpecP Tryz.prog 14 [.agg #[vad, vac], .agg #[vbd, vbc]] [Had, Hac, Hbd, Hbc] (.bool (entB a b)) := by
 refine spec_of Tryz.func14 rfl rfl rfl (fun B => ?_)
 refine kc_seq (kc_region ?_)
 refine kl_box rfl rfl (fun p1 H2 f3 a4 => ?_)
 refine kl_box rfl rfl (fun p5 H6 f7 a8 => ?_)
 refine kl_as rfl ?_
 refine kl_nil (kq_code (kc_seq (kc_region ?_)))
 refine kl_ldS rfl (by assumption) rfl ?_
 refine kl_callP rfl rfl (validMod_ok a (by assumption) (by assumption)) ?_
 refine kl_mv rfl ?_
 refine kl_join 3 10 (.bool ((validModB a) && (validModB b))) (pc 2 rfl (pc 3 rfl (pc 4 rfl (pc 7 rfl pn)))) (fun J10 => ?_) ?_
 ·rcases Bool.eq_false_or_eq_true (validModB a) with g9 | g9
  ·skip
   have g9p := g9
   try simp only [Bool.not_eq_true', Bool.not_eq_false', decide_eq_true_eq, decide_eq_false_iff_not, Bool.and_eq_true, Bool.or_eq_false_iff, withinB_iff] at g9p
   refine kl_gT rfl rfl g9 ?_
   refine kl_ldS rfl (by assumption) rfl ?_
   refine kl_gT rfl rfl g9 ?_
   refine kl_callP rfl rfl (validMod_ok b (by assumption) (by assumption)) ?_
   refine kl_andT rfl rfl g9 ?_
   exact J10 _ (pc 10 rfl (pc 2 rfl (pc 3 rfl (pc 4 rfl (pc 7 rfl pn)))))
  ·skip
   refine kl_gF rfl rfl g9 ?_
   refine kl_gF rfl rfl g9 ?_
   refine kl_andF (validModB b) rfl rfl g9 ?_
   exact J10 _ (pc 10 rfl (pc 2 rfl (pc 3 rfl (pc 4 rfl (pc 7 rfl pn)))))
 refine kl_mv rfl ?_
 refine kl_join 8 19 (.bool (((validModB a) && (validModB b)) && decide ((a.doms.length : Int) = (b.doms.length : Int)))) (pc 2 rfl (pc 3 rfl (pc 4 rfl (pc 11 rfl pn)))) (fun J18 => ?_) ?_
 ·rcases Bool.eq_false_or_eq_true ((validModB a) && (validModB b)) with g11 | g11
  ·skip
   have g11p := g11
   try simp only [Bool.not_eq_true', Bool.not_eq_false', decide_eq_true_eq, decide_eq_false_iff_not, Bool.and_eq_true, Bool.or_eq_false_iff, withinB_iff] at g11p
   refine kl_gT rfl rfl g11 ?_
   refine kl_fd rfl (by assumption) (fun p12 a13 => ?_)
   refine kl_gT rfl rfl g11 ?_
   refine kl_ld rfl (by assumption) ?_
   refine kl_gT rfl rfl g11 ?_
   refine kl_len rfl (by assumption) (fun l14 => ?_)
   refine kl_gT rfl rfl g11 ?_
   refine kl_fd rfl (by assumption) (fun p15 a16 => ?_)
   refine kl_gT rfl rfl g11 ?_
   refine kl_ld rfl (by assumption) ?_
   refine kl_gT rfl rfl g11 ?_
   refine kl_len rfl (by assumption) (fun l17 => ?_)
   refine kl_gT rfl rfl g11 ?_
   refine kl_eql rfl rfl ?_
   refine kl_andT rfl rfl g11 ?_
   exact J18 _ (pc 19 rfl (pc 2 rfl (pc 3 rfl (pc 4 rfl (pc 11 rfl pn)))))
  ·skip
   refine kl_gF rfl rfl g11 ?_
   refine kl_gF rfl rfl g11 ?_
   refine kl_gF rfl rfl g11 ?_
   refine kl_gF rfl rfl g11 ?_
   refine kl_gF rfl rfl g11 ?_
   refine kl_gF rfl rfl g11 ?_
   refine kl_gF rfl rfl g11 ?_
   refine kl_andF (decide ((a.doms.length : Int) = (b.doms.length : Int))) rfl rfl g11 ?_
   exact J18 _ (pc 19 rfl (pc 2 rfl (pc 3 rfl (pc 4 rfl (pc 11 rfl pn)))))
 refine kl_mv rfl ?_
 refine kl_join 6 26 (.bool ((((validModB a) && (validModB b)) && decide ((a.doms.length : Int) = (b.doms.length : Int))) && !((sols a).any (fun x23 => !(isSolB b x23))))) (pc 4 rfl (pc 20 rfl pn)) (fun J25 => ?_) ?_
 ·rcases Bool.eq_false_or_eq_true (((validModB a) && (validModB b)) && decide ((a.doms.length : Int) = (b.doms.length : Int))) with g19 | g19
  ·skip
   have g19p := g19
   try simp only [Bool.not_eq_true', Bool.not_eq_false', decide_eq_true_eq, decide_eq_false_iff_not, Bool.and_eq_true, Bool.or_eq_false_iff, withinB_iff] at g19p
   have hg : MOk a ∧ MOk b ∧ a.doms.length = b.doms.length := ⟨⟨g19p.1.1⟩, ⟨g19p.1.2⟩, by have := g19p.2; omega⟩
   refine kl_gT rfl rfl g19 ?_
   refine kl_ldS rfl (by assumption) rfl ?_
   refine kl_gT rfl rfl g19 ?_
   refine kl_call rfl rfl (solutions_ok a hg.1 (by assumption) (by assumption)) (fun v20 H21 f22 h23 => ?_)
   refine kl_gT rfl rfl g19 ?_
   refine kl_mkf rfl ?_
   refine kl_gT rfl rfl g19 ?_
   refine kl_callP rfl rfl (cf_row_ok (sols a) (fun x23 => !(isSolB b x23)) (by assumption) (fun _ ux23 x23 hmx23 hux23 => ent1_ok x23 b hg.2.1 (by rw [sols_len hmx23]; exact hg.2.2) (sols_vals hmx23) hux23 (by assumption) (by assumption) (by assumption))) ?_
   refine kl_gT rfl rfl g19 ?_
   refine kl_not rfl ?_
   refine kl_andT rfl rfl g19 ?_
   exact kl_fg (List.Sublist.refl _) (J25 _ (pc 26 rfl (pc 4 rfl (pc 20 rfl pn))))
  ·skip
   refine kl_gF rfl rfl g19 ?_
   refine kl_gF rfl rfl g19 ?_
   refine kl_gF rfl rfl g19 ?_
   refine kl_gF rfl rfl g19 ?_
   refine kl_gF rfl rfl g19 ?_
   refine kl_andF (!((sols a).any (fun x23 => !(isSolB b x23)))) rfl rfl g19 ?_
   exact J25 _ (pc 26 rfl (pc 4 rfl (pc 20 rfl pn)))
 refine kl_as rfl ?_
 refine kl_nil (kq_code ?_)
 refine kc_ret ?_
 refine kq_retP rfl rfl (congrArg Value.bool ?_)
 rfl
end Go.Proofs.YtaidejjdmkghoaaGreat
