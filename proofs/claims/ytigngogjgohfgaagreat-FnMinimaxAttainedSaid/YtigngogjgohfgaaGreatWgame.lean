/- Walks of functions of the program: each returns what the plain function gives. Conditions: those that each statement names. -/
import Derived.Test.YtigngogjgohfgaaGreatWwin
namespace Go.Proofs.YtigngogjgohfgaaGreat
open Go
set_option linter.unusedSimpArgs false
set_option linter.unusedVariables false
theorem gameOk_ok {Hmd : Hp} {vmd : Value} {Hmc : Hp} {vmc : Value} {Hfa : Hp} {vfa : Value} (m : Mod) (fa : List Bool) (hmd : Ints Hmd vmd m.doms) (hmc : Cons Hmc vmc m.cons) (hfa : Bools Hfa vfa fa) : SpecP Tryz.prog 46 [.agg #[vmd, vmc], vfa] [Hmd, Hmc, Hfa] (.bool (gOkB m fa)) := by
  refine spec_of Tryz.func46 rfl rfl rfl (fun B => ?_)
  refine kc_seq ?_
  refine kc_region ?_
  refine kl_box rfl rfl (fun p1 H2 f3 a4 => ?_)
  refine kl_as rfl ?_
  refine kl_nil ?_
  refine kq_code ?_
  refine kc_seq ?_
  refine kc_region ?_
  refine kl_ldS rfl (by assumption) rfl ?_
  refine kl_mv rfl ?_
  refine kl_callP rfl rfl (formulaOk_ok m fa (by assumption) (by assumption) (by assumption)) ?_
  refine kl_mv rfl ?_
  refine kl_join 5 13 (.bool ((fOkB m fa) && !(m.doms.contains (0 : Int)))) (pc 4 rfl (pc 8 rfl pn)) (fun J8 => ?_) ?_
  · rcases Bool.eq_false_or_eq_true (fOkB m fa) with g5 | g5
    · skip
      have g5p := g5
      try simp only [Bool.not_eq_true', Bool.not_eq_false', decide_eq_true_eq, decide_eq_false_iff_not, Bool.and_eq_true, Bool.or_eq_false_iff, withinB_iff] at g5p
      refine kl_gT rfl rfl g5 ?_
      refine kl_fd rfl (by assumption) (fun p6 a7 => ?_)
      refine kl_gT rfl rfl g5 ?_
      refine kl_ld rfl (by assumption) ?_
      refine kl_gT rfl rfl g5 ?_
      refine kl_callP rfl rfl (containsInts_ok m.doms (0 : Int) (by assumption)) ?_
      refine kl_gT rfl rfl g5 ?_
      refine kl_not rfl ?_
      refine kl_andT rfl rfl g5 ?_
      exact J8 _ (pc 13 rfl (pc 4 rfl (pc 8 rfl pn)))
    · skip
      refine kl_gF rfl rfl g5 ?_
      refine kl_gF rfl rfl g5 ?_
      refine kl_gF rfl rfl g5 ?_
      refine kl_gF rfl rfl g5 ?_
      refine kl_andF (!(m.doms.contains (0 : Int))) rfl rfl g5 ?_
      exact J8 _ (pc 13 rfl (pc 4 rfl (pc 8 rfl pn)))
  refine kl_as rfl ?_
  refine kl_nil ?_
  refine kq_code ?_
  refine kc_ret ?_
  refine kq_retP rfl rfl (congrArg Value.bool ?_)
  rfl
theorem objectiveOk_ok {Hmd : Hp} {vmd : Value} {Hmc : Hp} {vmc : Value} {Hobj : Hp} {vobj : Value} (m : Mod) (obj : List Int) (hmd : Ints Hmd vmd m.doms) (hmc : Cons Hmc vmc m.cons) (hobj : Ints Hobj vobj obj) : SpecP Tryz.prog 47 [.agg #[vmd, vmc], vobj] [Hmd, Hmc, Hobj] (.bool (objOkB m obj)) := by
  refine spec_of Tryz.func47 rfl rfl rfl (fun B => ?_)
  refine kc_seq ?_
  refine kc_region ?_
  refine kl_box rfl rfl (fun p1 H2 f3 a4 => ?_)
  refine kl_as rfl ?_
  refine kl_nil ?_
  refine kq_code ?_
  refine kc_seq ?_
  refine kc_region ?_
  refine kl_ldS rfl (by assumption) rfl ?_
  refine kl_callP rfl rfl (validMod_ok m (by assumption) (by assumption)) ?_
  refine kl_mv rfl ?_
  refine kl_join 7 14 (.bool ((validModB m) && decide ((obj.length : Int) = (m.doms.length : Int)))) (pc 1 rfl (pc 4 rfl (pc 7 rfl pn))) (fun J10 => ?_) ?_
  · rcases Bool.eq_false_or_eq_true (validModB m) with g5 | g5
    · skip
      have g5p := g5
      try simp only [Bool.not_eq_true', Bool.not_eq_false', decide_eq_true_eq, decide_eq_false_iff_not, Bool.and_eq_true, Bool.or_eq_false_iff, withinB_iff] at g5p
      refine kl_gT rfl rfl g5 ?_
      refine kl_mv rfl ?_
      refine kl_gT rfl rfl g5 ?_
      refine kl_len rfl (by assumption) (fun l6 => ?_)
      refine kl_gT rfl rfl g5 ?_
      refine kl_fd rfl (by assumption) (fun p7 a8 => ?_)
      refine kl_gT rfl rfl g5 ?_
      refine kl_ld rfl (by assumption) ?_
      refine kl_gT rfl rfl g5 ?_
      refine kl_len rfl (by assumption) (fun l9 => ?_)
      refine kl_gT rfl rfl g5 ?_
      refine kl_eql rfl rfl ?_
      refine kl_andT rfl rfl g5 ?_
      exact J10 _ (pc 14 rfl (pc 1 rfl (pc 4 rfl (pc 7 rfl pn))))
    · skip
      refine kl_gF rfl rfl g5 ?_
      refine kl_gF rfl rfl g5 ?_
      refine kl_gF rfl rfl g5 ?_
      refine kl_gF rfl rfl g5 ?_
      refine kl_gF rfl rfl g5 ?_
      refine kl_gF rfl rfl g5 ?_
      refine kl_andF (decide ((obj.length : Int) = (m.doms.length : Int))) rfl rfl g5 ?_
      exact J10 _ (pc 14 rfl (pc 1 rfl (pc 4 rfl (pc 7 rfl pn))))
  refine kl_mv rfl ?_
  refine kl_join 3 18 (.bool (((validModB m) && decide ((obj.length : Int) = (m.doms.length : Int))) && (allInB obj (-9 : Int) (9 : Int)))) (pc 4 rfl (pc 15 rfl pn)) (fun J12 => ?_) ?_
  · rcases Bool.eq_false_or_eq_true ((validModB m) && decide ((obj.length : Int) = (m.doms.length : Int))) with g11 | g11
    · skip
      have g11p := g11
      try simp only [Bool.not_eq_true', Bool.not_eq_false', decide_eq_true_eq, decide_eq_false_iff_not, Bool.and_eq_true, Bool.or_eq_false_iff, withinB_iff] at g11p
      refine kl_gT rfl rfl g11 ?_
      refine kl_mv rfl ?_
      refine kl_gT rfl rfl g11 ?_
      refine kl_callP rfl rfl (allIn_ok obj (-9 : Int) (9 : Int) (by assumption)) ?_
      refine kl_andT rfl rfl g11 ?_
      exact J12 _ (pc 18 rfl (pc 4 rfl (pc 15 rfl pn)))
    · skip
      refine kl_gF rfl rfl g11 ?_
      refine kl_gF rfl rfl g11 ?_
      refine kl_andF (allInB obj (-9 : Int) (9 : Int)) rfl rfl g11 ?_
      exact J12 _ (pc 18 rfl (pc 4 rfl (pc 15 rfl pn)))
  refine kl_as rfl ?_
  refine kl_nil ?_
  refine kq_code ?_
  refine kc_ret ?_
  refine kq_retP rfl rfl (congrArg Value.bool ?_)
  rfl
abbrev gameSt (k : Nat) : Prop := ∀ {Hmd : Hp} {vmd : Value} {Hmc : Hp} {vmc : Value} {Hobj : Hp} {vobj : Value} {Hfa : Hp} {vfa : Value} {Hx : Hp} {vx : Value} (m : Mod) (obj : List Int) (fa : List Bool) (x : List Int) (hM : MOk m) (ho : obj.length = m.doms.length) (hO : Coef obj) (hf : fa.length = m.doms.length) (hl : x.length + k = m.doms.length) (hX : Vals x) (hmd : Ints Hmd vmd m.doms) (hmc : Cons Hmc vmc m.cons) (hobj : Ints Hobj vobj obj) (hfa : Bools Hfa vfa fa) (hx : Ints Hx vx x), SpecP Tryz.prog 48 [.agg #[vmd, vmc], vobj, vfa, vx] [Hmd, Hmc, Hobj, Hfa, Hx] (.tuple #[.int .i64 ((gameB m obj fa k x).1), .bool ((gameB m obj fa k x).2)])
theorem game_step (k : Nat) (ih : ∀ j, j < k → gameSt j) : gameSt k := by
  intro Hmd vmd Hmc vmc Hobj vobj Hfa vfa Hx vx m obj fa x hM ho hO hf hl hX hmd hmc hobj hfa hx
  refine spec_of Tryz.func48 rfl rfl rfl (fun B => ?_)
  refine kc_seq ?_
  refine kc_region ?_
  refine kl_box rfl rfl (fun p1 H2 f3 a4 => ?_)
  refine kl_as rfl ?_
  refine kl_as rfl ?_
  refine kl_nil ?_
  refine kq_code ?_
  refine kc_seq ?_
  refine kc_region ?_
  refine kl_mv rfl ?_
  refine kl_len rfl (by assumption) (fun l5 => ?_)
  refine kl_as rfl ?_
  refine kl_nil ?_
  refine kq_code ?_
  refine kc_seq ?_
  refine kc_seq ?_
  refine kc_region ?_
  refine kl_mv rfl ?_
  refine kl_fd rfl (by assumption) (fun p6 a7 => ?_)
  refine kl_ld rfl (by assumption) ?_
  refine kl_len rfl (by assumption) (fun l8 => ?_)
  refine kl_eql rfl rfl ?_
  refine kl_nil ?_
  refine kq_code ?_
  refine kc_if rfl (fun c9 => ?_) (fun c9 => ?_)
  · skip
    have hk0 : k = 0 := by omega
    subst hk0
    refine kc_seq ?_
    refine kc_tree (fun i => ([5] : List Nat).contains i) [] (by kernel_rfl) ?_
    refine kt_q 0 (List.nil_sublist _) rfl (by kernel_rfl) ?_
    refine kl_mv rfl ?_
    refine kl_nil (kq_q ?_)
    refine kt_q 1 (List.nil_sublist _) rfl (by kernel_rfl) ?_
    refine kl_mv rfl ?_
    refine kl_nil (kq_q ?_)
    refine kt_q 3 (List.nil_sublist _) rfl (by kernel_rfl) ?_
    refine kl_ldS rfl (by assumption) rfl ?_
    refine kl_nil (kq_q ?_)
    refine kt_q 4 (List.nil_sublist _) rfl (by kernel_rfl) ?_
    refine kl_mv rfl ?_
    refine kl_nil (kq_q ?_)
    refine kt_a 2 rfl (by kernel_rfl) ?_
    refine kl_callP rfl rfl (weighted_ok obj x hO hX (by omega) (by have := hM.n; omega) (by assumption) (by assumption)) ?_
    refine kl_nil (kq_a (List.nil_sublist _) ?_)
    refine kt_a 5 rfl (by kernel_rfl) ?_
    refine kl_callP rfl rfl (met_ok m x hM (by omega) hX (by assumption) (by assumption) (by assumption)) ?_
    refine kl_nil (kq_x rfl ?_)
    refine kt_q 6 (List.nil_sublist _) rfl (by kernel_rfl) ?_
    refine kl_as rfl ?_
    refine kl_nil (kq_q ?_)
    refine kt_q 7 (List.nil_sublist _) rfl (by kernel_rfl) ?_
    refine kl_as rfl ?_
    refine kl_nil (kq_q ?_)
    refine kt_end (by kernel_rfl) ?_
    refine kq_code ?_
    refine kc_ret ?_
    refine kq_ret2 rfl rfl rfl noHp (fr_no _) (tup2 (congrArg (Value.int .i64) ?_) (congrArg Value.bool ?_))
    · rfl
    · rfl
  · skip
    obtain ⟨j, rfl⟩ : ∃ j, k = j + 1 := ⟨k - 1, by omega⟩
    have hn := hM.n
    refine kc_skipQ ?_
    refine kq_code ?_
    refine kc_seq ?_
    refine kc_region ?_
    refine kl_as rfl ?_
    refine kl_as rfl ?_
    refine kl_nil ?_
    refine kq_code ?_
    refine kc_seq ?_
    refine kc_seq ?_
    refine kc_region ?_
    refine kl_fd rfl (by assumption) (fun p10 a11 => ?_)
    refine kl_ld rfl (by assumption) ?_
    refine kl_mv rfl ?_
    refine kl_inI rfl rfl (by assumption) (by omega) (fun p12 a13 => ?_)
    refine kl_ld rfl (by assumption) ?_
    refine kl_call rfl rfl (valuesOf_ok (m.doms.getD x.length 0) (hM.d (by omega))) (fun v14 H15 f16 h17 => ?_)
    refine kl_len rfl (by assumption) (fun l18 => ?_)
    refine kl_mv rfl ?_
    refine kl_nil ?_
    refine kq_code ?_
    refine kc_block ?_
    refine kc_loop0 (A := Nat × Int × Bool) (fun zz => (zz.1 ≤ (valsI (m.doms.getD x.length 0)).length) ∧ (gameGo (fa.getD x.length false) (fun v => gameB m obj fa j (x ++ [v])) ((valsI (m.doms.getD x.length 0)).drop zz.1) zz.2.1 zz.2.2 = gameB m obj fa (j + 1) x)) (fun zz => (valsI (m.doms.getD x.length 0)).length - zz.1) (fun zz => [(37, .int .i64 (zz.1 : Int)), (11, .int .i64 zz.2.1), (12, .bool zz.2.2)]) (0, (0 : Int), false) (pc 1 rfl (pc 2 rfl (pc 3 rfl (pc 4 rfl (pc 10 rfl (pc 35 rfl (pc 36 rfl pn))))))) (pc 37 rfl (pc 11 rfl (pc 12 rfl pn))) ⟨Nat.zero_le _, rfl⟩ ?_
    rintro ⟨i, b, s⟩ hJ21
    obtain ⟨hk19, hi20⟩ : (i ≤ (valsI (m.doms.getD x.length 0)).length) ∧ (gameGo (fa.getD x.length false) (fun v => gameB m obj fa j (x ++ [v])) ((valsI (m.doms.getD x.length 0)).drop i) b s = gameB m obj fa (j + 1) x) := hJ21
    change KC _ _ (_) _ _ ([(37, .int .i64 (i : Int)), (11, .int .i64 b), (12, .bool s)] ++ _)
    refine kc_seq ?_
    refine kc_region ?_
    refine kl_lss rfl rfl ?_
    refine kl_nil ?_
    refine kq_code ?_
    refine kc_seq ?_
    refine kc_if rfl (fun c22 => ?_) (fun c22 => ?_)
    · skip
      have hv := valsI_mem (getD_mem (d := (0 : Int)) (by omega : i < (valsI (m.doms.getD x.length 0)).length))
      refine kc_skipQ ?_
      refine kq_code ?_
      refine kc_seq ?_
      refine kc_block ?_
      refine kc_seq ?_
      refine kc_region ?_
      refine kl_inI rfl rfl (by assumption) (by omega) (fun p23 a24 => ?_)
      refine kl_ld rfl (by assumption) ?_
      refine kl_as rfl ?_
      refine kl_nil ?_
      refine kq_code ?_
      refine kc_seq ?_
      refine kc_draw 12 [true, true, true, true, true, false, false, true, true, true, true, true] (by kernel_rfl) (by kernel_rfl) ?_
      refine kl_ldS rfl (by assumption) rfl ?_
      refine kl_mv rfl ?_
      refine kl_mv rfl ?_
      refine kl_mv rfl ?_
      refine kl_mv rfl ?_
      refine kl_call rfl rfl (extended_ok x ((valsI (m.doms.getD x.length 0)).getD i 0) (by omega) (by assumption)) (fun v25 H26 f27 h28 => ?_)
      refine kl_callP rfl rfl (ih j (by omega) m obj fa (x ++ [((valsI (m.doms.getD x.length 0)).getD i 0)]) hM ho hO hf (by simp; omega) (hX.snoc hv) (by assumption) (by assumption) (by assumption) (by assumption) (by assumption)) ?_
      refine kl_mv rfl ?_
      refine kl_xt rfl rfl ?_
      refine kl_xt rfl rfl ?_
      refine kl_as rfl ?_
      refine kl_as rfl ?_
      refine kl_nil ?_
      refine kq_code ?_
      refine kc_block ?_
      refine kc_seq ?_
      refine kc_region ?_
      refine kl_mv rfl ?_
      refine kl_mv rfl ?_
      refine kl_inB rfl rfl (by assumption) (by omega) (fun p29 a30 => ?_)
      refine kl_ld rfl (by assumption) ?_
      refine kl_mv rfl ?_
      refine kl_join 3 59 (.bool ((fa.getD x.length false) && !((gameB m obj fa j (x ++ [((valsI (m.doms.getD x.length 0)).getD i 0)])).2))) (pc 1 rfl (pc 2 rfl (pc 3 rfl (pc 4 rfl (pc 10 rfl (pc 11 rfl (pc 12 rfl (pc 14 rfl (pc 15 rfl (pc 16 rfl (pc 35 rfl (pc 36 rfl (pc 37 rfl (pc 38 rfl (pc 39 rfl (pc 40 rfl (pc 41 rfl (pc 42 rfl (pc 43 rfl (pc 44 rfl (pc 45 rfl (pc 46 rfl (pc 47 rfl (pc 48 rfl (pc 49 rfl (pc 50 rfl (pc 52 rfl (pc 53 rfl (pc 54 rfl (pc 55 rfl (pc 56 rfl pn))))))))))))))))))))))))))))))) (fun J32 => ?_) ?_
      · rcases Bool.eq_false_or_eq_true (fa.getD x.length false) with g31 | g31
        · skip
          have g31p := g31
          try simp only [Bool.not_eq_true', Bool.not_eq_false', decide_eq_true_eq, decide_eq_false_iff_not, Bool.and_eq_true, Bool.or_eq_false_iff, withinB_iff] at g31p
          refine kl_gT rfl rfl g31 ?_
          refine kl_mv rfl ?_
          refine kl_gT rfl rfl g31 ?_
          refine kl_not rfl ?_
          refine kl_andT rfl rfl g31 ?_
          exact J32 _ (pc 59 rfl (pc 1 rfl (pc 2 rfl (pc 3 rfl (pc 4 rfl (pc 10 rfl (pc 11 rfl (pc 12 rfl (pc 14 rfl (pc 15 rfl (pc 16 rfl (pc 35 rfl (pc 36 rfl (pc 37 rfl (pc 38 rfl (pc 39 rfl (pc 40 rfl (pc 41 rfl (pc 42 rfl (pc 43 rfl (pc 44 rfl (pc 45 rfl (pc 46 rfl (pc 47 rfl (pc 48 rfl (pc 49 rfl (pc 50 rfl (pc 52 rfl (pc 53 rfl (pc 54 rfl (pc 55 rfl (pc 56 rfl pn))))))))))))))))))))))))))))))))
        · skip
          refine kl_gF rfl rfl g31 ?_
          refine kl_gF rfl rfl g31 ?_
          refine kl_andF (!((gameB m obj fa j (x ++ [((valsI (m.doms.getD x.length 0)).getD i 0)])).2)) rfl rfl g31 ?_
          exact J32 _ (pc 59 rfl (pc 1 rfl (pc 2 rfl (pc 3 rfl (pc 4 rfl (pc 10 rfl (pc 11 rfl (pc 12 rfl (pc 14 rfl (pc 15 rfl (pc 16 rfl (pc 35 rfl (pc 36 rfl (pc 37 rfl (pc 38 rfl (pc 39 rfl (pc 40 rfl (pc 41 rfl (pc 42 rfl (pc 43 rfl (pc 44 rfl (pc 45 rfl (pc 46 rfl (pc 47 rfl (pc 48 rfl (pc 49 rfl (pc 50 rfl (pc 52 rfl (pc 53 rfl (pc 54 rfl (pc 55 rfl (pc 56 rfl pn))))))))))))))))))))))))))))))))
      refine kl_as rfl ?_
      refine kl_nil ?_
      refine kq_code ?_
      refine kc_cond rfl (fun c33 => ?_) (fun c33 => ?_)
      · skip
        have c33r := c33
        try simp only [Bool.not_eq_true', Bool.not_eq_false', Bool.not_true, Bool.not_false, decide_eq_true_eq, decide_eq_false_iff_not, Bool.and_eq_true, Bool.or_eq_false_iff] at c33
        refine kc_seq ?_
        refine kc_region ?_
        refine kl_as rfl ?_
        refine kl_as rfl ?_
        refine kl_nil ?_
        refine kq_code ?_
        refine kc_ret ?_
        refine kq_ret2 rfl rfl rfl noHp (fr_no _) (tup2 (congrArg (Value.int .i64) ?_) (congrArg Value.bool ?_))
        · (have h := game_at (fa := fa.getD x.length false) (f := fun v => gameB m obj fa j (x ++ [v])) (b := b) (s := s) (by omega : i < (valsI (m.doms.getD x.length 0)).length); rw [hi20, if_pos (by assumption)] at h; rw [h])
        · (have h := game_at (fa := fa.getD x.length false) (f := fun v => gameB m obj fa j (x ++ [v])) (b := b) (s := s) (by omega : i < (valsI (m.doms.getD x.length 0)).length); rw [hi20, if_pos (by assumption)] at h; rw [h])
      · skip
        have c33r := c33
        try simp only [Bool.not_eq_true', Bool.not_eq_false', Bool.not_true, Bool.not_false, decide_eq_true_eq, decide_eq_false_iff_not, Bool.and_eq_true, Bool.or_eq_false_iff] at c33
        refine kc_seq ?_
        refine kc_region ?_
        refine kl_mv rfl ?_
        refine kl_not rfl ?_
        refine kl_as rfl ?_
        refine kl_nil ?_
        refine kq_code ?_
        refine kc_cond rfl (fun c34 => ?_) (fun c34 => ?_)
        · skip
          have c34r := c34
          try simp only [Bool.not_eq_true', Bool.not_eq_false', Bool.not_true, Bool.not_false, decide_eq_true_eq, decide_eq_false_iff_not, Bool.and_eq_true, Bool.or_eq_false_iff] at c34
          refine kc_skipQ ?_
          refine kq_code ?_
          refine kc_region ?_
          refine kl_inc rfl rfl (by omega) ?_
          refine kl_mv rfl ?_
          refine kl_nil ?_
          refine kq_round0 ((i + 1), b, s) (by omega) (⟨by omega, (by first | exact game_T hi20 (by omega) (by assumption) (by assumption) | exact game_F hi20 (by omega) (by assumption) (by assumption) | exact game_T hi20 (by omega) (by assumption) (by clear hi20; simp_all; done) | exact game_F hi20 (by omega) (by assumption) (by clear hi20; simp_all; done) | (exfalso; clear hi20; simp_all; done))⟩) (pc 37 rfl (pc 11 rfl (pc 12 rfl pn))) (pc 1 rfl (pc 2 rfl (pc 3 rfl (pc 4 rfl (pc 10 rfl (pc 35 rfl (pc 36 rfl pn))))))) (List.Sublist.refl _)
        · skip
          have c34r := c34
          try simp only [Bool.not_eq_true', Bool.not_eq_false', Bool.not_true, Bool.not_false, decide_eq_true_eq, decide_eq_false_iff_not, Bool.and_eq_true, Bool.or_eq_false_iff] at c34
          refine kc_seq ?_
          refine kc_seq ?_
          refine kc_region ?_
          refine kl_mv rfl ?_
          refine kl_not rfl ?_
          refine kl_as rfl ?_
          refine kl_nil ?_
          refine kq_code ?_
          refine kc_cond rfl (fun c35 => ?_) (fun c35 => ?_)
          · skip
            have c35r := c35
            try simp only [Bool.not_eq_true', Bool.not_eq_false', Bool.not_true, Bool.not_false, decide_eq_true_eq, decide_eq_false_iff_not, Bool.and_eq_true, Bool.or_eq_false_iff] at c35
            refine kc_skipQ ?_
            refine kq_code ?_
            refine kc_cond rfl (fun c36 => ?_) (fun c36 => ?_)
            · skip
              have c36r := c36
              try simp only [Bool.not_eq_true', Bool.not_eq_false', Bool.not_true, Bool.not_false, decide_eq_true_eq, decide_eq_false_iff_not, Bool.and_eq_true, Bool.or_eq_false_iff] at c36
              refine kc_region ?_
              refine kl_mv rfl ?_
              refine kl_as rfl ?_
              refine kl_as rfl ?_
              refine kl_nil ?_
              refine kq_code ?_
              refine kc_region ?_
              refine kl_inc rfl rfl (by omega) ?_
              refine kl_mv rfl ?_
              refine kl_nil ?_
              refine kq_round0 ((i + 1), ((gameB m obj fa j (x ++ [((valsI (m.doms.getD x.length 0)).getD i 0)])).1), true) (by omega) (⟨by omega, (by first | exact game_T hi20 (by omega) (by assumption) (by assumption) | exact game_F hi20 (by omega) (by assumption) (by assumption) | exact game_T hi20 (by omega) (by assumption) (by clear hi20; simp_all; done) | exact game_F hi20 (by omega) (by assumption) (by clear hi20; simp_all; done) | (exfalso; clear hi20; simp_all; done))⟩) (pc 37 rfl (pc 11 rfl (pc 12 rfl pn))) (pc 1 rfl (pc 2 rfl (pc 3 rfl (pc 4 rfl (pc 10 rfl (pc 35 rfl (pc 36 rfl pn))))))) (List.Sublist.refl _)
            · skip
              have c36r := c36
              try simp only [Bool.not_eq_true', Bool.not_eq_false', Bool.not_true, Bool.not_false, decide_eq_true_eq, decide_eq_false_iff_not, Bool.and_eq_true, Bool.or_eq_false_iff] at c36
              refine kc_skipQ ?_
              refine kq_code ?_
              refine kc_region ?_
              refine kl_inc rfl rfl (by omega) ?_
              refine kl_mv rfl ?_
              refine kl_nil ?_
              refine kq_round0 ((i + 1), b, s) (by omega) (⟨by omega, (by first | exact game_T hi20 (by omega) (by assumption) (by assumption) | exact game_F hi20 (by omega) (by assumption) (by assumption) | exact game_T hi20 (by omega) (by assumption) (by clear hi20; simp_all; done) | exact game_F hi20 (by omega) (by assumption) (by clear hi20; simp_all; done) | (exfalso; clear hi20; simp_all; done))⟩) (pc 37 rfl (pc 11 rfl (pc 12 rfl pn))) (pc 1 rfl (pc 2 rfl (pc 3 rfl (pc 4 rfl (pc 10 rfl (pc 35 rfl (pc 36 rfl pn))))))) (List.Sublist.refl _)
          · skip
            have c35r := c35
            try simp only [Bool.not_eq_true', Bool.not_eq_false', Bool.not_true, Bool.not_false, decide_eq_true_eq, decide_eq_false_iff_not, Bool.and_eq_true, Bool.or_eq_false_iff] at c35
            refine kc_seq ?_
            refine kc_region ?_
            refine kl_mv rfl ?_
            refine kl_mv rfl ?_
            refine kl_inB rfl rfl (by assumption) (by omega) (fun p37 a38 => ?_)
            refine kl_ld rfl (by assumption) ?_
            refine kl_mv rfl ?_
            refine kl_join 4 74 (.bool ((fa.getD x.length false) && decide (b < ((gameB m obj fa j (x ++ [((valsI (m.doms.getD x.length 0)).getD i 0)])).1)))) (pc 1 rfl (pc 2 rfl (pc 3 rfl (pc 4 rfl (pc 10 rfl (pc 11 rfl (pc 12 rfl (pc 14 rfl (pc 15 rfl (pc 16 rfl (pc 35 rfl (pc 36 rfl (pc 37 rfl (pc 38 rfl (pc 39 rfl (pc 40 rfl (pc 41 rfl (pc 42 rfl (pc 43 rfl (pc 44 rfl (pc 45 rfl (pc 46 rfl (pc 47 rfl (pc 48 rfl (pc 49 rfl (pc 50 rfl (pc 51 rfl (pc 52 rfl (pc 53 rfl (pc 54 rfl (pc 55 rfl (pc 56 rfl (pc 59 rfl (pc 60 rfl (pc 61 rfl (pc 62 rfl (pc 63 rfl (pc 64 rfl (pc 65 rfl (pc 66 rfl (pc 67 rfl (pc 68 rfl (pc 69 rfl (pc 70 rfl pn)))))))))))))))))))))))))))))))))))))))))))) (fun J40 => ?_) ?_
            · rcases Bool.eq_false_or_eq_true (fa.getD x.length false) with g39 | g39
              · skip
                have g39p := g39
                try simp only [Bool.not_eq_true', Bool.not_eq_false', decide_eq_true_eq, decide_eq_false_iff_not, Bool.and_eq_true, Bool.or_eq_false_iff, withinB_iff] at g39p
                refine kl_gT rfl rfl g39 ?_
                refine kl_mv rfl ?_
                refine kl_gT rfl rfl g39 ?_
                refine kl_mv rfl ?_
                refine kl_gT rfl rfl g39 ?_
                refine kl_gtr rfl rfl ?_
                refine kl_andT rfl rfl g39 ?_
                exact J40 _ (pc 74 rfl (pc 1 rfl (pc 2 rfl (pc 3 rfl (pc 4 rfl (pc 10 rfl (pc 11 rfl (pc 12 rfl (pc 14 rfl (pc 15 rfl (pc 16 rfl (pc 35 rfl (pc 36 rfl (pc 37 rfl (pc 38 rfl (pc 39 rfl (pc 40 rfl (pc 41 rfl (pc 42 rfl (pc 43 rfl (pc 44 rfl (pc 45 rfl (pc 46 rfl (pc 47 rfl (pc 48 rfl (pc 49 rfl (pc 50 rfl (pc 51 rfl (pc 52 rfl (pc 53 rfl (pc 54 rfl (pc 55 rfl (pc 56 rfl (pc 59 rfl (pc 60 rfl (pc 61 rfl (pc 62 rfl (pc 63 rfl (pc 64 rfl (pc 65 rfl (pc 66 rfl (pc 67 rfl (pc 68 rfl (pc 69 rfl (pc 70 rfl pn)))))))))))))))))))))))))))))))))))))))))))))
              · skip
                refine kl_gF rfl rfl g39 ?_
                refine kl_gF rfl rfl g39 ?_
                refine kl_gF rfl rfl g39 ?_
                refine kl_andF (decide (b < ((gameB m obj fa j (x ++ [((valsI (m.doms.getD x.length 0)).getD i 0)])).1))) rfl rfl g39 ?_
                exact J40 _ (pc 74 rfl (pc 1 rfl (pc 2 rfl (pc 3 rfl (pc 4 rfl (pc 10 rfl (pc 11 rfl (pc 12 rfl (pc 14 rfl (pc 15 rfl (pc 16 rfl (pc 35 rfl (pc 36 rfl (pc 37 rfl (pc 38 rfl (pc 39 rfl (pc 40 rfl (pc 41 rfl (pc 42 rfl (pc 43 rfl (pc 44 rfl (pc 45 rfl (pc 46 rfl (pc 47 rfl (pc 48 rfl (pc 49 rfl (pc 50 rfl (pc 51 rfl (pc 52 rfl (pc 53 rfl (pc 54 rfl (pc 55 rfl (pc 56 rfl (pc 59 rfl (pc 60 rfl (pc 61 rfl (pc 62 rfl (pc 63 rfl (pc 64 rfl (pc 65 rfl (pc 66 rfl (pc 67 rfl (pc 68 rfl (pc 69 rfl (pc 70 rfl pn)))))))))))))))))))))))))))))))))))))))))))))
            refine kl_as rfl ?_
            refine kl_nil ?_
            refine kq_code ?_
            refine kc_cond rfl (fun c41 => ?_) (fun c41 => ?_)
            · skip
              have c41r := c41
              try simp only [Bool.not_eq_true', Bool.not_eq_false', Bool.not_true, Bool.not_false, decide_eq_true_eq, decide_eq_false_iff_not, Bool.and_eq_true, Bool.or_eq_false_iff] at c41
              refine kc_skipQ ?_
              refine kq_code ?_
              refine kc_cond rfl (fun c42 => ?_) (fun c42 => ?_)
              · skip
                have c42r := c42
                try simp only [Bool.not_eq_true', Bool.not_eq_false', Bool.not_true, Bool.not_false, decide_eq_true_eq, decide_eq_false_iff_not, Bool.and_eq_true, Bool.or_eq_false_iff] at c42
                refine kc_region ?_
                refine kl_mv rfl ?_
                refine kl_as rfl ?_
                refine kl_as rfl ?_
                refine kl_nil ?_
                refine kq_code ?_
                refine kc_region ?_
                refine kl_inc rfl rfl (by omega) ?_
                refine kl_mv rfl ?_
                refine kl_nil ?_
                refine kq_round0 ((i + 1), ((gameB m obj fa j (x ++ [((valsI (m.doms.getD x.length 0)).getD i 0)])).1), true) (by omega) (⟨by omega, (by first | exact game_T hi20 (by omega) (by assumption) (by assumption) | exact game_F hi20 (by omega) (by assumption) (by assumption) | exact game_T hi20 (by omega) (by assumption) (by clear hi20; simp_all; done) | exact game_F hi20 (by omega) (by assumption) (by clear hi20; simp_all; done) | (exfalso; clear hi20; simp_all; done))⟩) (pc 37 rfl (pc 11 rfl (pc 12 rfl pn))) (pc 1 rfl (pc 2 rfl (pc 3 rfl (pc 4 rfl (pc 10 rfl (pc 35 rfl (pc 36 rfl pn))))))) (List.Sublist.refl _)
              · skip
                have c42r := c42
                try simp only [Bool.not_eq_true', Bool.not_eq_false', Bool.not_true, Bool.not_false, decide_eq_true_eq, decide_eq_false_iff_not, Bool.and_eq_true, Bool.or_eq_false_iff] at c42
                refine kc_skipQ ?_
                refine kq_code ?_
                refine kc_region ?_
                refine kl_inc rfl rfl (by omega) ?_
                refine kl_mv rfl ?_
                refine kl_nil ?_
                refine kq_round0 ((i + 1), b, s) (by omega) (⟨by omega, (by first | exact game_T hi20 (by omega) (by assumption) (by assumption) | exact game_F hi20 (by omega) (by assumption) (by assumption) | exact game_T hi20 (by omega) (by assumption) (by clear hi20; simp_all; done) | exact game_F hi20 (by omega) (by assumption) (by clear hi20; simp_all; done) | (exfalso; clear hi20; simp_all; done))⟩) (pc 37 rfl (pc 11 rfl (pc 12 rfl pn))) (pc 1 rfl (pc 2 rfl (pc 3 rfl (pc 4 rfl (pc 10 rfl (pc 35 rfl (pc 36 rfl pn))))))) (List.Sublist.refl _)
            · skip
              have c41r := c41
              try simp only [Bool.not_eq_true', Bool.not_eq_false', Bool.not_true, Bool.not_false, decide_eq_true_eq, decide_eq_false_iff_not, Bool.and_eq_true, Bool.or_eq_false_iff] at c41
              refine kc_region ?_
              refine kl_mv rfl ?_
              refine kl_mv rfl ?_
              refine kl_inB rfl rfl (by assumption) (by omega) (fun p43 a44 => ?_)
              refine kl_ld rfl (by assumption) ?_
              refine kl_not rfl ?_
              refine kl_mv rfl ?_
              refine kl_join 4 84 (.bool (!(fa.getD x.length false) && decide (((gameB m obj fa j (x ++ [((valsI (m.doms.getD x.length 0)).getD i 0)])).1) < b))) (pc 1 rfl (pc 2 rfl (pc 3 rfl (pc 4 rfl (pc 10 rfl (pc 11 rfl (pc 12 rfl (pc 14 rfl (pc 15 rfl (pc 16 rfl (pc 35 rfl (pc 36 rfl (pc 37 rfl (pc 38 rfl (pc 39 rfl (pc 40 rfl (pc 41 rfl (pc 42 rfl (pc 43 rfl (pc 44 rfl (pc 45 rfl (pc 46 rfl (pc 47 rfl (pc 48 rfl (pc 49 rfl (pc 50 rfl (pc 51 rfl (pc 52 rfl (pc 53 rfl (pc 54 rfl (pc 55 rfl (pc 56 rfl (pc 59 rfl (pc 60 rfl (pc 61 rfl (pc 62 rfl (pc 63 rfl (pc 64 rfl (pc 65 rfl (pc 66 rfl (pc 67 rfl (pc 68 rfl (pc 69 rfl (pc 70 rfl (pc 74 rfl (pc 75 rfl (pc 76 rfl (pc 77 rfl (pc 78 rfl (pc 79 rfl (pc 80 rfl pn))))))))))))))))))))))))))))))))))))))))))))))))))) (fun J46 => ?_) ?_
              · rcases Bool.eq_false_or_eq_true (!(fa.getD x.length false)) with g45 | g45
                · skip
                  have g45p := g45
                  try simp only [Bool.not_eq_true', Bool.not_eq_false', decide_eq_true_eq, decide_eq_false_iff_not, Bool.and_eq_true, Bool.or_eq_false_iff, withinB_iff] at g45p
                  refine kl_gT rfl rfl g45 ?_
                  refine kl_mv rfl ?_
                  refine kl_gT rfl rfl g45 ?_
                  refine kl_mv rfl ?_
                  refine kl_gT rfl rfl g45 ?_
                  refine kl_lss rfl rfl ?_
                  refine kl_andT rfl rfl g45 ?_
                  exact J46 _ (pc 84 rfl (pc 1 rfl (pc 2 rfl (pc 3 rfl (pc 4 rfl (pc 10 rfl (pc 11 rfl (pc 12 rfl (pc 14 rfl (pc 15 rfl (pc 16 rfl (pc 35 rfl (pc 36 rfl (pc 37 rfl (pc 38 rfl (pc 39 rfl (pc 40 rfl (pc 41 rfl (pc 42 rfl (pc 43 rfl (pc 44 rfl (pc 45 rfl (pc 46 rfl (pc 47 rfl (pc 48 rfl (pc 49 rfl (pc 50 rfl (pc 51 rfl (pc 52 rfl (pc 53 rfl (pc 54 rfl (pc 55 rfl (pc 56 rfl (pc 59 rfl (pc 60 rfl (pc 61 rfl (pc 62 rfl (pc 63 rfl (pc 64 rfl (pc 65 rfl (pc 66 rfl (pc 67 rfl (pc 68 rfl (pc 69 rfl (pc 70 rfl (pc 74 rfl (pc 75 rfl (pc 76 rfl (pc 77 rfl (pc 78 rfl (pc 79 rfl (pc 80 rfl pn))))))))))))))))))))))))))))))))))))))))))))))))))))
                · skip
                  refine kl_gF rfl rfl g45 ?_
                  refine kl_gF rfl rfl g45 ?_
                  refine kl_gF rfl rfl g45 ?_
                  refine kl_andF (decide (((gameB m obj fa j (x ++ [((valsI (m.doms.getD x.length 0)).getD i 0)])).1) < b)) rfl rfl g45 ?_
                  exact J46 _ (pc 84 rfl (pc 1 rfl (pc 2 rfl (pc 3 rfl (pc 4 rfl (pc 10 rfl (pc 11 rfl (pc 12 rfl (pc 14 rfl (pc 15 rfl (pc 16 rfl (pc 35 rfl (pc 36 rfl (pc 37 rfl (pc 38 rfl (pc 39 rfl (pc 40 rfl (pc 41 rfl (pc 42 rfl (pc 43 rfl (pc 44 rfl (pc 45 rfl (pc 46 rfl (pc 47 rfl (pc 48 rfl (pc 49 rfl (pc 50 rfl (pc 51 rfl (pc 52 rfl (pc 53 rfl (pc 54 rfl (pc 55 rfl (pc 56 rfl (pc 59 rfl (pc 60 rfl (pc 61 rfl (pc 62 rfl (pc 63 rfl (pc 64 rfl (pc 65 rfl (pc 66 rfl (pc 67 rfl (pc 68 rfl (pc 69 rfl (pc 70 rfl (pc 74 rfl (pc 75 rfl (pc 76 rfl (pc 77 rfl (pc 78 rfl (pc 79 rfl (pc 80 rfl pn))))))))))))))))))))))))))))))))))))))))))))))))))))
              refine kl_as rfl ?_
              refine kl_nil ?_
              refine kq_code ?_
              refine kc_cond rfl (fun c47 => ?_) (fun c47 => ?_)
              · skip
                have c47r := c47
                try simp only [Bool.not_eq_true', Bool.not_eq_false', Bool.not_true, Bool.not_false, decide_eq_true_eq, decide_eq_false_iff_not, Bool.and_eq_true, Bool.or_eq_false_iff] at c47
                refine kc_region ?_
                refine kl_mv rfl ?_
                refine kl_as rfl ?_
                refine kl_as rfl ?_
                refine kl_nil ?_
                refine kq_code ?_
                refine kc_region ?_
                refine kl_inc rfl rfl (by omega) ?_
                refine kl_mv rfl ?_
                refine kl_nil ?_
                refine kq_round0 ((i + 1), ((gameB m obj fa j (x ++ [((valsI (m.doms.getD x.length 0)).getD i 0)])).1), true) (by omega) (⟨by omega, (by first | exact game_T hi20 (by omega) (by assumption) (by assumption) | exact game_F hi20 (by omega) (by assumption) (by assumption) | exact game_T hi20 (by omega) (by assumption) (by clear hi20; simp_all; done) | exact game_F hi20 (by omega) (by assumption) (by clear hi20; simp_all; done) | (exfalso; clear hi20; simp_all; done))⟩) (pc 37 rfl (pc 11 rfl (pc 12 rfl pn))) (pc 1 rfl (pc 2 rfl (pc 3 rfl (pc 4 rfl (pc 10 rfl (pc 35 rfl (pc 36 rfl pn))))))) (List.Sublist.refl _)
              · skip
                have c47r := c47
                try simp only [Bool.not_eq_true', Bool.not_eq_false', Bool.not_true, Bool.not_false, decide_eq_true_eq, decide_eq_false_iff_not, Bool.and_eq_true, Bool.or_eq_false_iff] at c47
                refine kc_skipQ ?_
                refine kq_code ?_
                refine kc_region ?_
                refine kl_inc rfl rfl (by omega) ?_
                refine kl_mv rfl ?_
                refine kl_nil ?_
                refine kq_round0 ((i + 1), b, s) (by omega) (⟨by omega, (by first | exact game_T hi20 (by omega) (by assumption) (by assumption) | exact game_F hi20 (by omega) (by assumption) (by assumption) | exact game_T hi20 (by omega) (by assumption) (by clear hi20; simp_all; done) | exact game_F hi20 (by omega) (by assumption) (by clear hi20; simp_all; done) | (exfalso; clear hi20; simp_all; done))⟩) (pc 37 rfl (pc 11 rfl (pc 12 rfl pn))) (pc 1 rfl (pc 2 rfl (pc 3 rfl (pc 4 rfl (pc 10 rfl (pc 35 rfl (pc 36 rfl pn))))))) (List.Sublist.refl _)
    · skip
      refine kc_exit ?_
      refine kq_code ?_
      refine kc_seq ?_
      refine kc_region ?_
      refine kl_mv rfl ?_
      refine kl_mv rfl ?_
      refine kl_as rfl ?_
      refine kl_as rfl ?_
      refine kl_nil ?_
      refine kq_code ?_
      refine kc_ret ?_
      refine kq_ret2 rfl rfl rfl noHp (fr_no _) (tup2 (congrArg (Value.int .i64) ?_) (congrArg Value.bool ?_))
      · (have h := hi20; rw [game_end (by omega)] at h; rw [← h])
      · (have h := hi20; rw [game_end (by omega)] at h; rw [← h])
theorem game_ok (k : Nat) : gameSt k := by
  induction k using Nat.strongRecOn with
  | _ k ih => exact @game_step k ih
theorem iminimax_ok {Hmd : Hp} {vmd : Value} {Hmc : Hp} {vmc : Value} {Hobj : Hp} {vobj : Value} {Hfa : Hp} {vfa : Value} (m : Mod) (obj : List Int) (fa : List Bool) (hmd : Ints Hmd vmd m.doms) (hmc : Cons Hmc vmc m.cons) (hobj : Ints Hobj vobj obj) (hfa : Bools Hfa vfa fa) : SpecP Tryz.prog 15 [.agg #[vmd, vmc], vobj, vfa] [Hmd, Hmc, Hobj, Hfa] (.tuple #[.int .i64 ((minimaxB m obj fa).1), .bool ((minimaxB m obj fa).2)]) := by
  refine spec_of Tryz.func15 rfl rfl rfl (fun B => ?_)
  refine kc_seq ?_
  refine kc_region ?_
  refine kl_box rfl rfl (fun p1 H2 f3 a4 => ?_)
  refine kl_as rfl ?_
  refine kl_as rfl ?_
  refine kl_nil ?_
  refine kq_code ?_
  refine kc_seq ?_
  refine kc_seq ?_
  refine kc_region ?_
  refine kl_ldS rfl (by assumption) rfl ?_
  refine kl_mv rfl ?_
  refine kl_callP rfl rfl (gameOk_ok m fa (by assumption) (by assumption) (by assumption)) ?_
  refine kl_not rfl ?_
  refine kl_mv rfl ?_
  refine kl_join 5 19 (.bool (!(gOkB m fa) || !(objOkB m obj))) (pc 1 rfl (pc 2 rfl (pc 3 rfl (pc 6 rfl (pc 7 rfl (pc 14 rfl pn)))))) (fun J6 => ?_) ?_
  · rcases Bool.eq_false_or_eq_true (!(gOkB m fa)) with g5 | g5
    · skip
      refine kl_gF rfl rfl g5 ?_
      refine kl_gF rfl rfl g5 ?_
      refine kl_gF rfl rfl g5 ?_
      refine kl_gF rfl rfl g5 ?_
      refine kl_orT (!(objOkB m obj)) rfl rfl g5 ?_
      exact J6 _ (pc 19 rfl (pc 1 rfl (pc 2 rfl (pc 3 rfl (pc 6 rfl (pc 7 rfl (pc 14 rfl pn)))))))
    · skip
      have g5p := g5
      try simp only [Bool.not_eq_true', Bool.not_eq_false', decide_eq_true_eq, decide_eq_false_iff_not, Bool.and_eq_true, Bool.or_eq_false_iff, withinB_iff] at g5p
      refine kl_gT rfl rfl g5 ?_
      refine kl_ldS rfl (by assumption) rfl ?_
      refine kl_gT rfl rfl g5 ?_
      refine kl_mv rfl ?_
      refine kl_gT rfl rfl g5 ?_
      refine kl_callP rfl rfl (objectiveOk_ok m obj (by assumption) (by assumption) (by assumption)) ?_
      refine kl_gT rfl rfl g5 ?_
      refine kl_not rfl ?_
      refine kl_orF rfl rfl g5 ?_
      exact J6 _ (pc 19 rfl (pc 1 rfl (pc 2 rfl (pc 3 rfl (pc 6 rfl (pc 7 rfl (pc 14 rfl pn)))))))
  refine kl_nil ?_
  refine kq_code ?_
  refine kc_cond rfl (fun c7 => ?_) (fun c7 => ?_)
  · skip
    have c7r := c7
    try simp only [Bool.not_eq_true', Bool.not_eq_false', Bool.not_true, Bool.not_false, decide_eq_true_eq, decide_eq_false_iff_not, Bool.and_eq_true, Bool.or_eq_false_iff] at c7
    refine kc_seq ?_
    refine kc_region ?_
    refine kl_as rfl ?_
    refine kl_as rfl ?_
    refine kl_nil ?_
    refine kq_code ?_
    refine kc_ret ?_
    refine kq_ret2 rfl rfl rfl noHp (fr_no _) (tup2 (congrArg (Value.int .i64) ?_) (congrArg Value.bool ?_))
    · exact mm_1 (by assumption)
    · exact mm_1b (by assumption)
  · skip
    have c7r := c7
    try simp only [Bool.not_eq_true', Bool.not_eq_false', Bool.not_true, Bool.not_false, decide_eq_true_eq, decide_eq_false_iff_not, Bool.and_eq_true, Bool.or_eq_false_iff] at c7
    have hs := mmok (by simpa [mmB] using c7r)
    refine kc_skipQ ?_
    refine kq_code ?_
    refine kc_seq ?_
    refine kc_region ?_
    refine kl_ldS rfl (by assumption) rfl ?_
    refine kl_mv rfl ?_
    refine kl_mv rfl ?_
    refine kl_callP rfl rfl (game_ok m.doms.length m obj fa [] hs.1 hs.2.2.1 hs.2.2.2 hs.2.1 (by simp) vals_nil (by assumption) (by assumption) (by assumption) (by assumption) (Sl.nil (H := noHp))) ?_
    refine kl_mv rfl ?_
    refine kl_xt rfl rfl ?_
    refine kl_xt rfl rfl ?_
    refine kl_as rfl ?_
    refine kl_as rfl ?_
    refine kl_nil ?_
    refine kq_code ?_
    refine kc_seq ?_
    refine kc_seq ?_
    refine kc_region ?_
    refine kl_mv rfl ?_
    refine kl_not rfl ?_
    refine kl_nil ?_
    refine kq_code ?_
    refine kc_cond rfl (fun c8 => ?_) (fun c8 => ?_)
    · skip
      have c8r := c8
      try simp only [Bool.not_eq_true', Bool.not_eq_false', Bool.not_true, Bool.not_false, decide_eq_true_eq, decide_eq_false_iff_not, Bool.and_eq_true, Bool.or_eq_false_iff] at c8
      refine kc_seq ?_
      refine kc_region ?_
      refine kl_as rfl ?_
      refine kl_as rfl ?_
      refine kl_nil ?_
      refine kq_code ?_
      refine kc_ret ?_
      refine kq_ret2 rfl rfl rfl noHp (fr_no _) (tup2 (congrArg (Value.int .i64) ?_) (congrArg Value.bool ?_))
      · exact mm_2 (by assumption)
      · exact mm_2b (by assumption)
    · skip
      have c8r := c8
      try simp only [Bool.not_eq_true', Bool.not_eq_false', Bool.not_true, Bool.not_false, decide_eq_true_eq, decide_eq_false_iff_not, Bool.and_eq_true, Bool.or_eq_false_iff] at c8
      refine kc_skipQ ?_
      refine kq_code ?_
      refine kc_seq ?_
      refine kc_region ?_
      refine kl_mv rfl ?_
      refine kl_as rfl ?_
      refine kl_as rfl ?_
      refine kl_nil ?_
      refine kq_code ?_
      refine kc_ret ?_
      refine kq_ret2 rfl rfl rfl noHp (fr_no _) (tup2 (congrArg (Value.int .i64) ?_) (congrArg Value.bool ?_))
      · exact mm_3 (by assumption) (by assumption)
      · exact mm_3b (by assumption) (by assumption)
end Go.Proofs.YtigngogjgohfgaaGreat
