/- Walks of functions of the program: each returns what the plain function gives. Conditions: those that each statement names. -/
import Derived.Test.YtbcpoljdkopmoaaGreatDoorWgame
import Derived.Test.YtbcpoljdkopmoaaGreatDoorWbest
import Derived.Test.YtbcpoljdkopmoaaGreatDoorWfix
import Derived.Test.YtbcpoljdkopmoaaGreatDoorPureY
namespace Go.Proofs.YtbcpoljdkopmoaaGreatDoor
open Go
set_option linter.unusedSimpArgs false
set_option linter.unusedVariables false
theorem min1_ok {Hx : Hp} {vx : Value} {Hobj : Hp} {vobj : Value} {Hpo : Hp} {ptrpo : Value} (x : List Int) (obj : List Int) (hO : Coef obj) (hX : Vals x) (hl : obj.length = x.length) (h4 : x.length ≤ 4) (hx : Ints Hx vx x) (hobj : Ints Hobj vobj obj) (apo : At Hpo ptrpo [vobj]) : SpecP Tryz.prog 48 [vx, ptrpo] [Hx, Hobj, Hpo] (.int .i64 (dotTo obj x x.length)) := by
 refine spec_of Tryz.func48 rfl rfl rfl (fun B => ?_)
 refine kc_seq (kc_region ?_)
 refine kl_as rfl ?_
 refine kl_nil (kq_code (kc_seq (kc_region ?_)))
 refine kl_ld rfl (by assumption) ?_
 refine kl_mv rfl ?_
 refine kl_callP rfl rfl (weighted_ok obj x hO hX hl h4 (by assumption) (by assumption)) ?_
 refine kl_as rfl ?_
 refine kl_nil (kq_code ?_)
 refine kc_ret ?_
 refine kq_retP rfl rfl (congrArg (Value.int .i64) ?_)
 rfl
theorem minM_ok {Hmd : Hp} {vmd : Value} {Hmc : Hp} {vmc : Value} {Hobj : Hp} {vobj : Value} (m : Mod) (obj : List Int) (hM : MOk m) (ho : obj.length = m.doms.length) (hO : Coef obj) (hmd : Ints Hmd vmd m.doms) (hmc : Cons Hmc vmc m.cons) (hobj : Ints Hobj vobj obj) : Spec Tryz.prog 23 [.agg #[vmd, vmc], vobj] [Hmd, Hmc, Hobj] (fun Hq vq => ∃ uq0 : Value, vq = .tuple #[uq0, .bool ((bestI (fun x => dotTo obj x x.length) (sols m)).2)] ∧ Ints Hq uq0 ((bestI (fun x => dotTo obj x x.length) (sols m)).1)) := by
 have hn := hM.n
 refine spec_of Tryz.func23 rfl rfl rfl (fun B => ?_)
 refine kc_seq (kc_region ?_)
 refine kl_box rfl rfl (fun p1 H2 f3 a4 => ?_)
 refine kl_box rfl (Sl.cells (by assumption)) (fun p5 H6 f7 a8 => ?_)
 refine kl_as rfl ?_
 refine kl_as rfl ?_
 refine kl_nil (kq_code (kc_seq (kc_region ?_)))
 refine kl_ldS rfl (by assumption) rfl ?_
 refine kl_call rfl rfl (solutions_ok m hM (by assumption) (by assumption)) (fun v9 H10 f11 h12 => ?_)
 refine kl_mkf rfl ?_
 refine kl_call rfl rfl (best_ok (sols m) (fun x12 => dotTo obj x12 x12.length) (sols_ne hM) (fun y hy => by have h5 := sols_len hy; omega) (by assumption) (fun _ ux12 x12 hmx12 hux12 => min1_ok x12 obj hO (sols_vals hmx12) (by rw [sols_len hmx12]; exact ho) (by rw [sols_len hmx12]; omega) hux12 (by assumption) (by assumption))) (fun v14 H15 f16 h17 => ?_)
 obtain ⟨u18, rfl, h19⟩ := h17
 refine kl_xt rfl rfl ?_
 refine kl_xt rfl rfl ?_
 refine kl_as rfl ?_
 refine kl_as rfl ?_
 refine kl_nil (kq_code ?_)
 refine kc_ret ?_
 refine kq_ret2 rfl rfl rfl H15 f16 ⟨_, tup2 rfl (congrArg Value.bool (by rfl)), ?_⟩
 exact (by have e9 : (bestI (fun x => dotTo obj x x.length) (sols m)).1 = ((bestI (fun x12 => dotTo obj x12 x12.length) (sols m)).1) := (by rfl); rw [e9]; assumption)
theorem minI_ok {Hmd : Hp} {vmd : Value} {Hmc : Hp} {vmc : Value} {Hobj : Hp} {vobj : Value} (m : Mod) (obj : List Int) (hmd : Ints Hmd vmd m.doms) (hmc : Cons Hmc vmc m.cons) (hobj : Ints Hobj vobj obj) : Spec Tryz.prog 8 [.agg #[vmd, vmc], vobj] [Hmd, Hmc, Hobj] (fun Hq vq => ∃ uq0 : Value, vq = .tuple #[uq0, .bool ((minI m obj).2)] ∧ Ints Hq uq0 ((minI m obj).1)) := by
 refine spec_of Tryz.func8 rfl rfl rfl (fun B => ?_)
 refine kc_seq (kc_region ?_)
 refine kl_box rfl rfl (fun p1 H2 f3 a4 => ?_)
 refine kl_as rfl ?_
 refine kl_as rfl ?_
 refine kl_nil (kq_code ?_)
 refine kc_seq ?_
 refine kc_seq (kc_region ?_)
 refine kl_ldS rfl (by assumption) rfl ?_
 refine kl_mv rfl ?_
 refine kl_callP rfl rfl (objectiveOk_ok m obj (by assumption) (by assumption) (by assumption)) ?_
 refine kl_not rfl ?_
 refine kl_nil (kq_code ?_)
 refine kc_cond rfl (fun c5 => ?_) (fun c5 => ?_)
 ·skip
  have c5r := c5
  try simp only [Bool.not_eq_true', Bool.not_eq_false', Bool.not_true, Bool.not_false, decide_eq_true_eq, decide_eq_false_iff_not, Bool.and_eq_true, Bool.or_eq_false_iff] at c5
  refine kc_seq (kc_region ?_)
  refine kl_as rfl ?_
  refine kl_as rfl ?_
  refine kl_nil (kq_code ?_)
  refine kc_ret ?_
  refine kq_ret2 rfl rfl rfl noHp (fr_no _) ⟨_, tup2 rfl (congrArg Value.bool (by rw [min_no (by assumption)])), ?_⟩
  exact (by have e9 : (minI m obj).1 = [] := (by rw [min_no (by assumption)]); rw [e9]; exact Sl.nil)
 ·skip
  have c5r := c5
  try simp only [Bool.not_eq_true', Bool.not_eq_false', Bool.not_true, Bool.not_false, decide_eq_true_eq, decide_eq_false_iff_not, Bool.and_eq_true, Bool.or_eq_false_iff] at c5
  have hob : objOkB m obj = true := (by simpa using c5r)
  have ho := objok hob
  refine kc_skipQ ?_
  refine kq_code ?_
  refine kc_seq (kc_region ?_)
  refine kl_ldS rfl (by assumption) rfl ?_
  refine kl_mv rfl ?_
  refine kl_call rfl rfl (minM_ok m obj ho.1 ho.2.1 ho.2.2 (by assumption) (by assumption) (by assumption)) (fun v6 H7 f8 h9 => ?_)
  obtain ⟨u10, rfl, h11⟩ := h9
  refine kl_xt rfl rfl ?_
  refine kl_xt rfl rfl ?_
  refine kl_as rfl ?_
  refine kl_as rfl ?_
  refine kl_nil (kq_code ?_)
  refine kc_ret ?_
  refine kq_ret2 rfl rfl rfl H7 f8 ⟨_, tup2 rfl (congrArg Value.bool (by rw [min_yes hob])), ?_⟩
  exact (by have e9 : (minI m obj).1 = ((bestI (fun x => dotTo obj x x.length) (sols m)).1) := (by rw [min_yes hob]); rw [e9]; assumption)
theorem objValI_ok {Hobj : Hp} {vobj : Value} {Hx : Hp} {vx : Value} (obj : List Int) (x : List Int) (hobj : Ints Hobj vobj obj) (hx : Ints Hx vx x) : SpecP Tryz.prog 9 [vobj, vx] [Hobj, Hx] (.int .i64 (objVal obj x)) := by
 refine spec_of Tryz.func9 rfl rfl rfl (fun B => ?_)
 refine kc_seq (kc_region ?_)
 refine kl_as rfl ?_
 refine kl_nil (kq_code ?_)
 refine kc_seq ?_
 refine kc_seq (kc_region ?_)
 refine kl_mv rfl ?_
 refine kl_len rfl (by assumption) (fun l1 => ?_)
 refine kl_mv rfl ?_
 refine kl_len rfl (by assumption) (fun l2 => ?_)
 refine kl_neq rfl rfl ?_
 refine kl_mv rfl ?_
 refine kl_join 4 14 (.bool (decide ((obj.length : Int) ≠ (x.length : Int)) || decide ((4 : Int) < (obj.length : Int)))) (pc 0 rfl (pc 1 rfl (pc 4 rfl (pc 10 rfl pn)))) (fun J5 => ?_) ?_
 ·rcases Bool.eq_false_or_eq_true (decide ((obj.length : Int) ≠ (x.length : Int))) with g3 | g3
  ·skip
   refine kl_gF rfl rfl g3 ?_
   refine kl_gF rfl rfl g3 ?_
   refine kl_gF rfl rfl g3 ?_
   refine kl_orT (decide ((4 : Int) < (obj.length : Int))) rfl rfl g3 ?_
   exact J5 _ (pc 14 rfl (pc 0 rfl (pc 1 rfl (pc 4 rfl (pc 10 rfl pn)))))
  ·skip
   have g3p := of_decide_eq_false g3
   refine kl_gT rfl rfl g3 ?_
   refine kl_mv rfl ?_
   refine kl_gT rfl rfl g3 ?_
   refine kl_len rfl (by assumption) (fun l4 => ?_)
   refine kl_gT rfl rfl g3 ?_
   refine kl_gtr rfl rfl ?_
   refine kl_orF rfl rfl g3 ?_
   exact J5 _ (pc 14 rfl (pc 0 rfl (pc 1 rfl (pc 4 rfl (pc 10 rfl pn)))))
 refine kl_mv rfl ?_
 refine kl_join 4 19 (.bool ((decide ((obj.length : Int) ≠ (x.length : Int)) || decide ((4 : Int) < (obj.length : Int))) || !(allInB obj (-9 : Int) (9 : Int)))) (pc 0 rfl (pc 1 rfl (pc 4 rfl (pc 15 rfl pn)))) (fun J7 => ?_) ?_
 ·rcases Bool.eq_false_or_eq_true (decide ((obj.length : Int) ≠ (x.length : Int)) || decide ((4 : Int) < (obj.length : Int))) with g6 | g6
  ·skip
   refine kl_gF rfl rfl g6 ?_
   refine kl_gF rfl rfl g6 ?_
   refine kl_gF rfl rfl g6 ?_
   refine kl_orT (!(allInB obj (-9 : Int) (9 : Int))) rfl rfl g6 ?_
   exact J7 _ (pc 19 rfl (pc 0 rfl (pc 1 rfl (pc 4 rfl (pc 15 rfl pn)))))
  ·skip
   have g6p := g6
   try simp only [Bool.not_eq_true', Bool.not_eq_false', decide_eq_true_eq, decide_eq_false_iff_not, Bool.and_eq_true, Bool.or_eq_false_iff, withinB_iff] at g6p
   refine kl_gT rfl rfl g6 ?_
   refine kl_mv rfl ?_
   refine kl_gT rfl rfl g6 ?_
   refine kl_callP rfl rfl (allIn_ok obj (-9 : Int) (9 : Int) (by assumption)) ?_
   refine kl_gT rfl rfl g6 ?_
   refine kl_not rfl ?_
   refine kl_orF rfl rfl g6 ?_
   exact J7 _ (pc 19 rfl (pc 0 rfl (pc 1 rfl (pc 4 rfl (pc 15 rfl pn)))))
 refine kl_mv rfl ?_
 refine kl_join 4 24 (.bool (((decide ((obj.length : Int) ≠ (x.length : Int)) || decide ((4 : Int) < (obj.length : Int))) || !(allInB obj (-9 : Int) (9 : Int))) || !(allInB x (0 : Int) (5 : Int)))) (pc 0 rfl (pc 1 rfl (pc 4 rfl (pc 20 rfl pn)))) (fun J9 => ?_) ?_
 ·rcases Bool.eq_false_or_eq_true ((decide ((obj.length : Int) ≠ (x.length : Int)) || decide ((4 : Int) < (obj.length : Int))) || !(allInB obj (-9 : Int) (9 : Int))) with g8 | g8
  ·skip
   refine kl_gF rfl rfl g8 ?_
   refine kl_gF rfl rfl g8 ?_
   refine kl_gF rfl rfl g8 ?_
   refine kl_orT (!(allInB x (0 : Int) (5 : Int))) rfl rfl g8 ?_
   exact J9 _ (pc 24 rfl (pc 0 rfl (pc 1 rfl (pc 4 rfl (pc 20 rfl pn)))))
  ·skip
   have g8p := g8
   try simp only [Bool.not_eq_true', Bool.not_eq_false', decide_eq_true_eq, decide_eq_false_iff_not, Bool.and_eq_true, Bool.or_eq_false_iff, withinB_iff] at g8p
   refine kl_gT rfl rfl g8 ?_
   refine kl_mv rfl ?_
   refine kl_gT rfl rfl g8 ?_
   refine kl_callP rfl rfl (allIn_ok x (0 : Int) (5 : Int) (by assumption)) ?_
   refine kl_gT rfl rfl g8 ?_
   refine kl_not rfl ?_
   refine kl_orF rfl rfl g8 ?_
   exact J9 _ (pc 24 rfl (pc 0 rfl (pc 1 rfl (pc 4 rfl (pc 20 rfl pn)))))
 refine kl_nil (kq_code ?_)
 refine kc_cond rfl (fun c10 => ?_) (fun c10 => ?_)
 ·skip
  have c10r := c10
  try simp only [Bool.not_eq_true', Bool.not_eq_false', Bool.not_true, Bool.not_false, decide_eq_true_eq, decide_eq_false_iff_not, Bool.and_eq_true, Bool.or_eq_false_iff] at c10
  refine kc_seq (kc_region ?_)
  refine kl_as rfl ?_
  refine kl_nil (kq_code ?_)
  refine kc_ret ?_
  refine kq_retP rfl rfl (congrArg (Value.int .i64) ?_)
  exact objVal_0 (by assumption)
 ·skip
  have c10r := c10
  try simp only [Bool.not_eq_true', Bool.not_eq_false', Bool.not_true, Bool.not_false, decide_eq_true_eq, decide_eq_false_iff_not, Bool.and_eq_true, Bool.or_eq_false_iff] at c10
  have hov := objVal_ok c10r
  refine kc_skipQ ?_
  refine kq_code ?_
  refine kc_seq (kc_region ?_)
  refine kl_mv rfl ?_
  refine kl_mv rfl ?_
  refine kl_callP rfl rfl (weighted_ok obj x hov.1 hov.2.1 hov.2.2.1.symm hov.2.2.2 (by assumption) (by assumption)) ?_
  refine kl_as rfl ?_
  refine kl_nil (kq_code ?_)
  refine kc_ret ?_
  refine kq_retP rfl rfl (congrArg (Value.int .i64) ?_)
  exact objVal_1 (by assumption)
end Go.Proofs.YtbcpoljdkopmoaaGreatDoor
