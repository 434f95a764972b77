/- Walks of functions of the program: each returns what the plain function gives. Conditions: those that each statement names. -/
import Derived.Test.YtndggikpobghkaaGreatWbest
import Derived.Test.YtndggikpobghkaaGreatWis
namespace Go.Proofs.YtndggikpobghkaaGreat
open Go
set_option linter.unusedSimpArgs false
set_option linter.unusedVariables false
theorem far1_ok {Hy : Hp} {vy : Value} {Hx : Hp} {vx : Value} {Hpx : Hp} {ptrpx : Value} (y : List Int) (x : List Int) (hl : y.length = x.length) (hb : x.length ≤ 1000) (hy : Ints Hy vy y) (hx : Ints Hx vx x) (apx : At Hpx ptrpx [vx]) : SpecP Tryz.prog 23 [vy, ptrpx] [Hy, Hx, Hpx] (.int .i64 (-(distI x y))) := by
 have hd1 : 0 ≤ distI x y ∧ distI x y ≤ (x.length : Int) := distTo_le x y x.length
 refine spec_of Tryz.func23 rfl rfl rfl (fun B => ?_)
 refine kc_seq (kc_region ?_)
 refine kl_as rfl ?_
 refine kl_nil (kq_code (kc_seq (kc_region ?_)))
 refine kl_ld rfl (by assumption) ?_
 refine kl_mv rfl ?_
 refine kl_callP rfl rfl (apartI_ok x y hl hb (by assumption) (by assumption)) ?_
 refine kl_neg rfl (by omega) ?_
 refine kl_as rfl ?_
 refine kl_nil (kq_code ?_)
 refine kc_ret ?_
 refine kq_retP rfl rfl (congrArg (Value.int .i64) ?_)
 rfl
theorem farI_ok {Hmd : Hp} {vmd : Value} {Hmc : Hp} {vmc : Value} {Hx : Hp} {vx : Value} (m : Mod) (x : List Int) (hmd : Ints Hmd vmd m.doms) (hmc : Cons Hmc vmc m.cons) (hx : Ints Hx vx x) : Spec Tryz.prog 6 [.agg #[vmd, vmc], vx] [Hmd, Hmc, Hx] (fun Hq vq => ∃ uq0 : Value, vq = .tuple #[uq0, .bool ((farI m x).2)] ∧ Ints Hq uq0 ((farI m x).1)) := by
 refine spec_of Tryz.func6 rfl rfl rfl (fun B => ?_)
 refine kc_seq (kc_region ?_)
 refine kl_box rfl rfl (fun p1 H2 f3 a4 => ?_)
 refine kl_box rfl (Sl.cells (by assumption)) (fun p5 H6 f7 a8 => ?_)
 refine kl_as rfl ?_
 refine kl_as rfl ?_
 refine kl_nil (kq_code ?_)
 refine kc_seq ?_
 refine kc_seq (kc_region ?_)
 refine kl_ldS rfl (by assumption) rfl ?_
 refine kl_callP rfl rfl (validMod_ok m (by assumption) (by assumption)) ?_
 refine kl_not rfl ?_
 refine kl_mv rfl ?_
 refine kl_join 7 16 (.bool (!(validModB m) || !(decide ((x.length : Int) = (m.doms.length : Int)) && allInB x 0 5))) (pc 2 rfl (pc 3 rfl (pc 4 rfl (pc 5 rfl (pc 9 rfl pn))))) (fun J13 => ?_) ?_
 ·rcases Bool.eq_false_or_eq_true (!(validModB m)) with g9 | g9
  ·skip
   refine kl_gF rfl rfl g9 ?_
   refine kl_gF rfl rfl g9 ?_
   refine kl_gF rfl rfl g9 ?_
   refine kl_gF rfl rfl g9 ?_
   refine kl_gF rfl rfl g9 ?_
   refine kl_gF rfl rfl g9 ?_
   refine kl_orT (!(decide ((x.length : Int) = (m.doms.length : Int)) && allInB x 0 5)) rfl rfl g9 ?_
   exact J13 _ (pc 16 rfl (pc 2 rfl (pc 3 rfl (pc 4 rfl (pc 5 rfl (pc 9 rfl pn))))))
  ·skip
   have g9p := g9
   try simp only [Bool.not_eq_true', Bool.not_eq_false', decide_eq_true_eq, decide_eq_false_iff_not, Bool.and_eq_true, Bool.or_eq_false_iff, withinB_iff] at g9p
   refine kl_gT rfl rfl g9 ?_
   refine kl_ld rfl (by assumption) ?_
   refine kl_gT rfl rfl g9 ?_
   refine kl_fd rfl (by assumption) (fun p10 a11 => ?_)
   refine kl_gT rfl rfl g9 ?_
   refine kl_ld rfl (by assumption) ?_
   refine kl_gT rfl rfl g9 ?_
   refine kl_len rfl (by assumption) (fun l12 => ?_)
   refine kl_gT rfl rfl g9 ?_
   refine kl_callP rfl rfl (assigned_ok x (m.doms.length : Int) (by assumption)) ?_
   refine kl_gT rfl rfl g9 ?_
   refine kl_not rfl ?_
   refine kl_orF rfl rfl g9 ?_
   exact J13 _ (pc 16 rfl (pc 2 rfl (pc 3 rfl (pc 4 rfl (pc 5 rfl (pc 9 rfl pn))))))
 refine kl_nil (kq_code ?_)
 refine kc_cond rfl (fun c14 => ?_) (fun c14 => ?_)
 ·skip
  have c14r := c14
  try simp only [Bool.not_eq_true', Bool.not_eq_false', Bool.not_true, Bool.not_false, decide_eq_true_eq, decide_eq_false_iff_not, Bool.and_eq_true, Bool.or_eq_false_iff] at c14
  refine kc_seq (kc_region ?_)
  refine kl_as rfl ?_
  refine kl_as rfl ?_
  refine kl_nil (kq_code ?_)
  refine kc_ret ?_
  refine kq_ret2 rfl rfl rfl noHp (fr_no _) ⟨_, tup2 rfl (congrArg Value.bool (by rw [far_no (by assumption)])), ?_⟩
  exact (by have e9 : (farI m x).1 = [] := (by rw [far_no (by assumption)]); rw [e9]; exact Sl.nil)
 ·skip
  have c14r := c14
  try simp only [Bool.not_eq_true', Bool.not_eq_false', Bool.not_true, Bool.not_false, decide_eq_true_eq, decide_eq_false_iff_not, Bool.and_eq_true, Bool.or_eq_false_iff] at c14
  have hg := far_ok c14r
  have hM := hg.1
  have hn := hM.n
  refine kc_skipQ ?_
  refine kq_code ?_
  refine kc_seq (kc_region ?_)
  refine kl_ldS rfl (by assumption) rfl ?_
  refine kl_call rfl rfl (solutions_ok m hM (by assumption) (by assumption)) (fun v15 H16 f17 h18 => ?_)
  refine kl_mkf rfl ?_
  refine kl_call rfl rfl (best_ok (sols m) (fun x18 => -(distI x x18)) (sols_ne hM) (fun y hy => by have h5 := sols_len hy; omega) (by assumption) (fun _ ux18 x18 hmx18 hux18 => far1_ok x18 x (by rw [sols_len hmx18]; exact hg.2.symm) (by omega) hux18 (by assumption) (by assumption))) (fun v20 H21 f22 h23 => ?_)
  obtain ⟨u24, rfl, h25⟩ := h23
  refine kl_xt rfl rfl ?_
  refine kl_xt rfl rfl ?_
  refine kl_as rfl ?_
  refine kl_as rfl ?_
  refine kl_nil (kq_code ?_)
  refine kc_ret ?_
  refine kq_ret2 rfl rfl rfl H21 f22 ⟨_, tup2 rfl (congrArg Value.bool (by rw [far_yes (by assumption)])), ?_⟩
  exact (by have e9 : (farI m x).1 = ((bestI (fun x18 => -(distI x x18)) (sols m)).1) := (by rw [far_yes (by assumption)]); rw [e9]; assumption)
theorem farS_ok {Hmd : Hp} {vmd : Value} {Hmc : Hp} {vmc : Value} {Hx : Hp} {vx : Value} (m : Mod) (x : List Int) (hmd : Ints Hmd vmd m.doms) (hmc : Cons Hmc vmc m.cons) (hx : Ints Hx vx x) : Spec Tryz.prog 7 [.agg #[vmd, vmc], vx] [Hmd, Hmc, Hx] (fun Hq vq => ∃ uq0 : Value, vq = .tuple #[uq0, .bool ((farI m x).2)] ∧ Ints Hq uq0 ((farI m x).1)) := by
 refine spec_of Tryz.func7 rfl rfl rfl (fun B => ?_)
 refine kc_seq (kc_region ?_)
 refine kl_box rfl rfl (fun p1 H2 f3 a4 => ?_)
 refine kl_as rfl ?_
 refine kl_as rfl ?_
 refine kl_nil (kq_code ?_)
 refine kc_seq ?_
 refine kc_seq (kc_region ?_)
 refine kl_ldS rfl (by assumption) rfl ?_
 refine kl_callP rfl rfl (svalidMod_ok m (by assumption) (by assumption)) ?_
 refine kl_not rfl ?_
 refine kl_mv rfl ?_
 refine kl_join 5 18 (.bool (!(validModB m) || !(decide ((x.length : Int) = (m.doms.length : Int)) && allInB x 0 5))) (pc 1 rfl (pc 2 rfl (pc 4 rfl (pc 5 rfl (pc 13 rfl pn))))) (fun J6 => ?_) ?_
 ·rcases Bool.eq_false_or_eq_true (!(validModB m)) with g5 | g5
  ·skip
   refine kl_gF rfl rfl g5 ?_
   refine kl_gF rfl rfl g5 ?_
   refine kl_gF rfl rfl g5 ?_
   refine kl_gF rfl rfl g5 ?_
   refine kl_orT (!(decide ((x.length : Int) = (m.doms.length : Int)) && allInB x 0 5)) rfl rfl g5 ?_
   exact J6 _ (pc 18 rfl (pc 1 rfl (pc 2 rfl (pc 4 rfl (pc 5 rfl (pc 13 rfl pn))))))
  ·skip
   have g5p := g5
   try simp only [Bool.not_eq_true', Bool.not_eq_false', decide_eq_true_eq, decide_eq_false_iff_not, Bool.and_eq_true, Bool.or_eq_false_iff, withinB_iff] at g5p
   refine kl_gT rfl rfl g5 ?_
   refine kl_ldS rfl (by assumption) rfl ?_
   refine kl_gT rfl rfl g5 ?_
   refine kl_mv rfl ?_
   refine kl_gT rfl rfl g5 ?_
   refine kl_callP rfl rfl (validAsg_ok m x (by assumption) (by assumption) (by assumption)) ?_
   refine kl_gT rfl rfl g5 ?_
   refine kl_not rfl ?_
   refine kl_orF rfl rfl g5 ?_
   exact J6 _ (pc 18 rfl (pc 1 rfl (pc 2 rfl (pc 4 rfl (pc 5 rfl (pc 13 rfl pn))))))
 refine kl_nil (kq_code ?_)
 refine kc_cond rfl (fun c7 => ?_) (fun c7 => ?_)
 ·skip
  have c7r := c7
  try simp only [Bool.not_eq_true', Bool.not_eq_false', Bool.not_true, Bool.not_false, decide_eq_true_eq, decide_eq_false_iff_not, Bool.and_eq_true, Bool.or_eq_false_iff] at c7
  refine kc_seq (kc_region ?_)
  refine kl_as rfl ?_
  refine kl_as rfl ?_
  refine kl_nil (kq_code ?_)
  refine kc_ret ?_
  refine kq_ret2 rfl rfl rfl noHp (fr_no _) ⟨_, tup2 rfl (congrArg Value.bool (by rw [far_no (by assumption)])), ?_⟩
  exact (by have e9 : (farI m x).1 = [] := (by rw [far_no (by assumption)]); rw [e9]; exact Sl.nil)
 ·skip
  have c7r := c7
  try simp only [Bool.not_eq_true', Bool.not_eq_false', Bool.not_true, Bool.not_false, decide_eq_true_eq, decide_eq_false_iff_not, Bool.and_eq_true, Bool.or_eq_false_iff] at c7
  have hg := far_ok c7r
  have hM := hg.1
  have hn := hM.n
  have hfw := sols_few hM
  refine kc_skipQ ?_
  refine kq_code ?_
  refine kc_seq (kc_region ?_)
  refine kl_ldS rfl (by assumption) rfl ?_
  refine kl_call rfl rfl (solve_ok m hM (by assumption) (by assumption)) (fun v8 H9 f10 h11 => ?_)
  obtain ⟨z14, z17, u15, rfl, h16, h13⟩ := h11
  subst h13
  refine kl_mv rfl ?_
  refine kl_xt rfl rfl ?_
  refine kl_xt rfl rfl ?_
  refine kl_as rfl ?_
  refine kl_as rfl ?_
  refine kl_nil (kq_code (kc_seq (kc_region ?_)))
  refine kl_as rfl ?_
  refine kl_nil (kq_code ?_)
  refine kc_seq ?_
  refine kc_seq (kc_region ?_)
  refine kl_as rfl ?_
  refine kl_nil (kq_code ?_)
  refine kc_block ?_
  refine kc_loop0 (A := Nat × Int) (fun zz => (zz.1 ≤ (sols m).length) ∧ (zz.2 = argTo (fun y => -(distI x y)) (sols m) zz.1)) (fun zz => (sols m).length - zz.1) (fun zz => [(9, .int .i64 (zz.1 : Int)), (8, .int .i64 zz.2)]) (0, (-1 : Int)) (pc 1 rfl (pc 4 rfl (pc 5 rfl (pc 6 rfl pn)))) (pc 9 rfl (pc 8 rfl pn)) ⟨Nat.zero_le _, rfl⟩ ?_
  rintro ⟨k, a⟩ hJ20
  obtain ⟨hk18, hi19⟩ : (k ≤ (sols m).length) ∧ (a = argTo (fun y => -(distI x y)) (sols m) k) := hJ20
  change KC _ _ (_) _ _ ([(9, .int .i64 (k : Int)), (8, .int .i64 a)] ++ _)
  refine kc_seq ?_
  refine kc_seq (kc_region ?_)
  refine kl_mv rfl ?_
  refine kl_mv rfl ?_
  refine kl_len rfl (by assumption) (fun l21 => ?_)
  refine kl_lss rfl rfl ?_
  refine kl_nil (kq_code ?_)
  refine kc_if rfl (fun c22 => ?_) (fun c22 => ?_)
  ·skip
   have ha1 := arg_in hi19
   refine kc_skipQ ?_
   refine kq_code ?_
   refine kc_seq ?_
   refine kc_block ?_
   refine kc_seq ?_
   refine kc_tree (fun i => ([14] : List Nat).contains i) [] (by kernel_rfl) ?_
   refine kt_q 0 (List.nil_sublist _) rfl (by kernel_rfl) ?_
   refine kl_mv rfl ?_
   refine kl_nil (kq_q ?_)
   refine kt_q 1 (List.nil_sublist _) rfl (by kernel_rfl) ?_
   refine kl_lss rfl rfl ?_
   refine kl_nil (kq_q ?_)
   refine kt_q 2 (List.nil_sublist _) rfl (by kernel_rfl) ?_
   refine kl_mv rfl ?_
   refine kl_nil (kq_q ?_)
   rcases Bool.eq_false_or_eq_true (decide (a < (0 : Int))) with g23 | g23
   ·skip
    have g23p := of_decide_eq_true g23
    refine kt_q 3 (List.nil_sublist _) rfl (by kernel_rfl) ?_
    refine kl_gF rfl rfl g23 ?_
    refine kl_nil (kq_q ?_)
    refine kt_q 4 (List.nil_sublist _) rfl (by kernel_rfl) ?_
    refine kl_gF rfl rfl g23 ?_
    refine kl_nil (kq_q ?_)
    refine kt_q 5 (List.nil_sublist _) rfl (by kernel_rfl) ?_
    refine kl_gF rfl rfl g23 ?_
    refine kl_nil (kq_q ?_)
    refine kt_q 6 (List.nil_sublist _) rfl (by kernel_rfl) ?_
    refine kl_gF rfl rfl g23 ?_
    refine kl_nil (kq_q ?_)
    refine kt_q 7 (List.nil_sublist _) rfl (by kernel_rfl) ?_
    refine kl_gF rfl rfl g23 ?_
    refine kl_nil (kq_q ?_)
    refine kt_q 9 (List.nil_sublist _) rfl (by kernel_rfl) ?_
    refine kl_gF rfl rfl g23 ?_
    refine kl_nil (kq_q ?_)
    refine kt_q 10 (List.nil_sublist _) rfl (by kernel_rfl) ?_
    refine kl_gF rfl rfl g23 ?_
    refine kl_nil (kq_q ?_)
    refine kt_q 11 (List.nil_sublist _) rfl (by kernel_rfl) ?_
    refine kl_gF rfl rfl g23 ?_
    refine kl_nil (kq_q ?_)
    refine kt_q 12 (List.nil_sublist _) rfl (by kernel_rfl) ?_
    refine kl_gF rfl rfl g23 ?_
    refine kl_nil (kq_q ?_)
    refine kt_q 13 (List.nil_sublist _) rfl (by kernel_rfl) ?_
    refine kl_gF rfl rfl g23 ?_
    refine kl_nil (kq_q ?_)
    refine kt_a 8 rfl (by kernel_rfl) ?_
    refine kl_gF rfl rfl g23 ?_
    refine kl_nil (kq_a (List.nil_sublist _) ?_)
    refine kt_a 14 rfl (by kernel_rfl) ?_
    refine kl_gF rfl rfl g23 ?_
    refine kl_nil (kq_x rfl ?_)
    refine kt_q 15 (List.nil_sublist _) rfl (by kernel_rfl) ?_
    refine kl_gF rfl rfl g23 ?_
    refine kl_nil (kq_q ?_)
    refine kt_q 16 (List.nil_sublist _) rfl (by kernel_rfl) ?_
    refine kl_orT (decide (distI x ((sols m).getD a.toNat []) < distI x ((sols m).getD k []))) rfl rfl g23 ?_
    refine kl_nil (kq_q ?_)
    refine kt_end (by kernel_rfl) ?_
    refine kq_code ?_
    refine kc_cond rfl (fun c24 => ?_) (fun c24 => ?_)
    ·skip
     have c24r := c24
     try simp only [Bool.not_eq_true', Bool.not_eq_false', Bool.not_true, Bool.not_false, decide_eq_true_eq, decide_eq_false_iff_not, Bool.and_eq_true, Bool.or_eq_false_iff] at c24
     refine kc_region ?_
     refine kl_mv rfl ?_
     refine kl_as rfl ?_
     refine kl_nil (kq_code ?_)
     refine kc_region ?_
     refine kl_mv rfl ?_
     refine kl_inc rfl rfl (by omega) ?_
     refine kl_as rfl ?_
     refine kl_nil ?_
     refine kq_round0 ((k + 1), (k : Int)) (by omega) (⟨by omega, (by first | exact arg_T hi19 (far_c (by assumption)) | exact arg_F hi19 (far_nc (by assumption)))⟩) (pc 9 rfl (pc 8 rfl pn)) (pc 1 rfl (pc 4 rfl (pc 5 rfl (pc 6 rfl pn)))) (List.Sublist.refl _)
    ·skip
     have c24r := c24
     try simp only [Bool.not_eq_true', Bool.not_eq_false', Bool.not_true, Bool.not_false, decide_eq_true_eq, decide_eq_false_iff_not, Bool.and_eq_true, Bool.or_eq_false_iff] at c24
     refine kc_skipQ ?_
     refine kq_code ?_
     refine kc_region ?_
     refine kl_mv rfl ?_
     refine kl_inc rfl rfl (by omega) ?_
     refine kl_as rfl ?_
     refine kl_nil ?_
     refine kq_round0 ((k + 1), a) (by omega) (⟨by omega, (by first | exact arg_T hi19 (far_c (by assumption)) | exact arg_F hi19 (far_nc (by assumption)))⟩) (pc 9 rfl (pc 8 rfl pn)) (pc 1 rfl (pc 4 rfl (pc 5 rfl (pc 6 rfl pn)))) (List.Sublist.refl _)
   ·skip
    have g23p := of_decide_eq_false g23
    refine kt_q 3 (List.nil_sublist _) rfl (by kernel_rfl) ?_
    refine kl_gT rfl rfl g23 ?_
    refine kl_mv rfl ?_
    refine kl_nil (kq_q ?_)
    refine kt_q 4 (List.nil_sublist _) rfl (by kernel_rfl) ?_
    refine kl_gT rfl rfl g23 ?_
    refine kl_mv rfl ?_
    refine kl_nil (kq_q ?_)
    refine kt_q 5 (List.nil_sublist _) rfl (by kernel_rfl) ?_
    refine kl_gT rfl rfl g23 ?_
    refine kl_mv rfl ?_
    refine kl_nil (kq_q ?_)
    refine kt_q 6 (List.nil_sublist _) rfl (by kernel_rfl) ?_
    refine kl_gT rfl rfl g23 ?_
    refine kl_inS rfl rfl (by assumption) (by omega) (fun p25 u27 h28 a26 => ?_)
    refine kl_nil (kq_q ?_)
    refine kt_q 7 (List.nil_sublist _) rfl (by kernel_rfl) ?_
    refine kl_gT rfl rfl g23 ?_
    refine kl_ld rfl (by assumption) ?_
    refine kl_nil (kq_q ?_)
    refine kt_q 9 (List.nil_sublist _) rfl (by kernel_rfl) ?_
    refine kl_gT rfl rfl g23 ?_
    refine kl_mv rfl ?_
    refine kl_nil (kq_q ?_)
    refine kt_q 10 (List.nil_sublist _) rfl (by kernel_rfl) ?_
    refine kl_gT rfl rfl g23 ?_
    refine kl_mv rfl ?_
    refine kl_nil (kq_q ?_)
    refine kt_q 11 (List.nil_sublist _) rfl (by kernel_rfl) ?_
    refine kl_gT rfl rfl g23 ?_
    refine kl_mv rfl ?_
    refine kl_nil (kq_q ?_)
    refine kt_q 12 (List.nil_sublist _) rfl (by kernel_rfl) ?_
    refine kl_gT rfl rfl g23 ?_
    refine kl_ixS rfl rfl (by assumption) (by omega) (by omega) (fun p29 u31 h32 a30 => ?_)
    refine kl_nil (kq_q ?_)
    refine kt_q 13 (List.nil_sublist _) rfl (by kernel_rfl) ?_
    refine kl_gT rfl rfl g23 ?_
    refine kl_ld rfl (by assumption) ?_
    refine kl_nil (kq_q ?_)
    refine kt_a 8 rfl (by kernel_rfl) ?_
    refine kl_gT rfl rfl g23 ?_
    refine kl_callP rfl rfl (distS_ok x ((sols m).getD k []) (by rw [sols_len (getD_mem (d := []) (by omega : k < (sols m).length))]; exact hg.2.symm) (by omega) (by assumption) (by assumption)) ?_
    refine kl_nil (kq_a (List.nil_sublist _) ?_)
    refine kt_a 14 rfl (by kernel_rfl) ?_
    refine kl_gT rfl rfl g23 ?_
    refine kl_callP rfl rfl (distS_ok x ((sols m).getD a.toNat []) (by rw [sols_len (getD_mem (d := []) (by omega : a.toNat < (sols m).length))]; exact hg.2.symm) (by omega) (by assumption) (by assumption)) ?_
    refine kl_nil (kq_x rfl ?_)
    refine kt_q 15 (List.nil_sublist _) rfl (by kernel_rfl) ?_
    refine kl_gT rfl rfl g23 ?_
    refine kl_gtr rfl rfl ?_
    refine kl_nil (kq_q ?_)
    refine kt_q 16 (List.nil_sublist _) rfl (by kernel_rfl) ?_
    refine kl_orF rfl rfl g23 ?_
    refine kl_nil (kq_q ?_)
    refine kt_end (by kernel_rfl) ?_
    refine kq_code ?_
    refine kc_cond rfl (fun c33 => ?_) (fun c33 => ?_)
    ·skip
     have c33r := c33
     try simp only [Bool.not_eq_true', Bool.not_eq_false', Bool.not_true, Bool.not_false, decide_eq_true_eq, decide_eq_false_iff_not, Bool.and_eq_true, Bool.or_eq_false_iff] at c33
     refine kc_region ?_
     refine kl_mv rfl ?_
     refine kl_as rfl ?_
     refine kl_nil (kq_code ?_)
     refine kc_region ?_
     refine kl_mv rfl ?_
     refine kl_inc rfl rfl (by omega) ?_
     refine kl_as rfl ?_
     refine kl_nil ?_
     refine kq_round0 ((k + 1), (k : Int)) (by omega) (⟨by omega, (by first | exact arg_T hi19 (far_c (by assumption)) | exact arg_F hi19 (far_nc (by assumption)))⟩) (pc 9 rfl (pc 8 rfl pn)) (pc 1 rfl (pc 4 rfl (pc 5 rfl (pc 6 rfl pn)))) (List.Sublist.refl _)
    ·skip
     have c33r := c33
     try simp only [Bool.not_eq_true', Bool.not_eq_false', Bool.not_true, Bool.not_false, decide_eq_true_eq, decide_eq_false_iff_not, Bool.and_eq_true, Bool.or_eq_false_iff] at c33
     refine kc_skipQ ?_
     refine kq_code ?_
     refine kc_region ?_
     refine kl_mv rfl ?_
     refine kl_inc rfl rfl (by omega) ?_
     refine kl_as rfl ?_
     refine kl_nil ?_
     refine kq_round0 ((k + 1), a) (by omega) (⟨by omega, (by first | exact arg_T hi19 (far_c (by assumption)) | exact arg_F hi19 (far_nc (by assumption)))⟩) (pc 9 rfl (pc 8 rfl pn)) (pc 1 rfl (pc 4 rfl (pc 5 rfl (pc 6 rfl pn)))) (List.Sublist.refl _)
  ·skip
   have hkl : k = (sols m).length := (by omega)
   have hia := hi19
   rw [hkl] at hia
   have ha2 := arg_in hia
   refine kc_exit ?_
   refine kq_code ?_
   refine kc_seq ?_
   refine kc_seq (kc_region ?_)
   refine kl_mv rfl ?_
   refine kl_lss rfl rfl ?_
   refine kl_nil (kq_code ?_)
   refine kc_if rfl (fun c34 => ?_) (fun c34 => ?_)
   ·skip
    refine kc_seq (kc_region ?_)
    refine kl_as rfl ?_
    refine kl_as rfl ?_
    refine kl_nil (kq_code ?_)
    refine kc_ret ?_
    refine kq_ret2 rfl rfl rfl noHp (fr_no _) ⟨_, tup2 rfl (congrArg Value.bool (by rw [far_yes (by assumption), best_none hia (by assumption)])), ?_⟩
    exact (by have e9 : (farI m x).1 = [] := (by rw [far_yes (by assumption), best_none hia (by assumption)]); rw [e9]; exact Sl.nil)
   ·skip
    refine kc_skipQ ?_
    refine kq_code ?_
    refine kc_seq (kc_region ?_)
    refine kl_mv rfl ?_
    refine kl_mv rfl ?_
    refine kl_ixS rfl rfl (by assumption) (by omega) (by omega) (fun p35 u37 h38 a36 => ?_)
    refine kl_ld rfl (by assumption) ?_
    refine kl_as rfl ?_
    refine kl_as rfl ?_
    refine kl_nil (kq_code ?_)
    refine kc_ret ?_
    refine kq_ret2 rfl rfl rfl H9 f10 ⟨_, tup2 rfl (congrArg Value.bool (by rw [far_yes (by assumption), best_arg hia (by assumption)])), ?_⟩
    exact (by have e9 : (farI m x).1 = ((sols m).getD a.toNat []) := (by rw [far_yes (by assumption), best_arg hia (by assumption)]); rw [e9]; assumption)
end Go.Proofs.YtndggikpobghkaaGreat
