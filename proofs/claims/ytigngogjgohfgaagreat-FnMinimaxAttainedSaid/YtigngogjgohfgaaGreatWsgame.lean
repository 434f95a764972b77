/- Walks of functions of the program: each returns what the plain function gives. Conditions: those that each statement names. -/
import Derived.Test.YtigngogjgohfgaaGreatWswin
namespace Go.Proofs.YtigngogjgohfgaaGreat
open Go
set_option linter.unusedSimpArgs false
set_option linter.unusedVariables false
theorem validObjective_ok {Hmd : Hp} {vmd : Value} {Hmc : Hp} {vmc : Value} {Hobj : Hp} {vobj : Value} (m : Mod) (obj : List Int) (hmd : Ints Hmd vmd m.doms) (hmc : Cons Hmc vmc m.cons) (hobj : Ints Hobj vobj obj) : SpecP Tryz.prog 50 [.agg #[vmd, vmc], vobj] [Hmd, Hmc, Hobj] (.bool (objOkS m obj)) := by
  refine spec_of Tryz.func50 rfl rfl rfl (fun B => ?_)
  refine kc_seq ?_
  refine kc_region ?_
  refine kl_box rfl rfl (fun p1 H2 f3 a4 => ?_)
  refine kl_as rfl ?_
  refine kl_nil ?_
  refine kq_code ?_
  refine kc_seq ?_
  refine kc_region ?_
  refine kl_mv rfl ?_
  refine kl_len rfl (by assumption) (fun l5 => ?_)
  refine kl_fd rfl (by assumption) (fun p6 a7 => ?_)
  refine kl_ld rfl (by assumption) ?_
  refine kl_len rfl (by assumption) (fun l8 => ?_)
  refine kl_eql rfl rfl ?_
  refine kl_mv rfl ?_
  refine kl_join 3 14 (.bool (decide ((obj.length : Int) = (m.doms.length : Int)) && (allInB obj (-9 : Int) (9 : Int)))) (pc 4 rfl (pc 11 rfl pn)) (fun J10 => ?_) ?_
  · rcases Bool.eq_false_or_eq_true (decide ((obj.length : Int) = (m.doms.length : Int))) with g9 | g9
    · skip
      have g9p := of_decide_eq_true g9
      refine kl_gT rfl rfl g9 ?_
      refine kl_mv rfl ?_
      refine kl_gT rfl rfl g9 ?_
      refine kl_callP rfl rfl (allInRange_ok obj (-9 : Int) (9 : Int) (by assumption)) ?_
      refine kl_andT rfl rfl g9 ?_
      exact J10 _ (pc 14 rfl (pc 4 rfl (pc 11 rfl pn)))
    · skip
      refine kl_gF rfl rfl g9 ?_
      refine kl_gF rfl rfl g9 ?_
      refine kl_andF (allInB obj (-9 : Int) (9 : Int)) rfl rfl g9 ?_
      exact J10 _ (pc 14 rfl (pc 4 rfl (pc 11 rfl pn)))
  refine kl_as rfl ?_
  refine kl_nil ?_
  refine kq_code ?_
  refine kc_ret ?_
  refine kq_retP rfl rfl (congrArg Value.bool ?_)
  rfl
abbrev gameValueSt (k : Nat) : Prop := ∀ {Hmd : Hp} {vmd : Value} {Hmc : Hp} {vmc : Value} {Hobj : Hp} {vobj : Value} {Hfa : Hp} {vfa : Value} {Hx : Hp} {vx : Value} (m : Mod) (obj : List Int) (fa : List Bool) (x : List Int) (hM : MOk m) (ho : obj.length = m.doms.length) (hO : Coef obj) (hf : fa.length = m.doms.length) (hl : x.length + k = m.doms.length) (hX : Vals x) (hmd : Ints Hmd vmd m.doms) (hmc : Cons Hmc vmc m.cons) (hobj : Ints Hobj vobj obj) (hfa : Bools Hfa vfa fa) (hx : Ints Hx vx x), SpecP Tryz.prog 52 [.agg #[vmd, vmc], vobj, vfa, vx] [Hmd, Hmc, Hobj, Hfa, Hx] (.tuple #[.int .i64 ((gameB m obj fa k x).1), .bool ((gameB m obj fa k x).2)])
theorem gameValue_step (k : Nat) (ih : ∀ j, j < k → gameValueSt j) : gameValueSt k := by
  intro Hmd vmd Hmc vmc Hobj vobj Hfa vfa Hx vx m obj fa x hM ho hO hf hl hX hmd hmc hobj hfa hx
  refine spec_of Tryz.func52 rfl rfl rfl (fun B => ?_)
  refine kc_seq ?_
  refine kc_region ?_
  refine kl_box rfl rfl (fun p1 H2 f3 a4 => ?_)
  refine kl_as rfl ?_
  refine kl_as rfl ?_
  refine kl_nil ?_
  refine kq_code ?_
  refine kc_seq ?_
  refine kc_region ?_
  refine kl_mv rfl ?_
  refine kl_len rfl (by assumption) (fun l5 => ?_)
  refine kl_as rfl ?_
  refine kl_nil ?_
  refine kq_code ?_
  refine kc_seq ?_
  refine kc_seq ?_
  refine kc_region ?_
  refine kl_mv rfl ?_
  refine kl_fd rfl (by assumption) (fun p6 a7 => ?_)
  refine kl_ld rfl (by assumption) ?_
  refine kl_len rfl (by assumption) (fun l8 => ?_)
  refine kl_eql rfl rfl ?_
  refine kl_nil ?_
  refine kq_code ?_
  refine kc_if rfl (fun c9 => ?_) (fun c9 => ?_)
  · skip
    have hk0 : k = 0 := by omega
    subst hk0
    refine kc_seq ?_
    refine kc_tree (fun i => ([5] : List Nat).contains i) [] (by kernel_rfl) ?_
    refine kt_q 0 (List.nil_sublist _) rfl (by kernel_rfl) ?_
    refine kl_mv rfl ?_
    refine kl_nil (kq_q ?_)
    refine kt_q 1 (List.nil_sublist _) rfl (by kernel_rfl) ?_
    refine kl_mv rfl ?_
    refine kl_nil (kq_q ?_)
    refine kt_q 3 (List.nil_sublist _) rfl (by kernel_rfl) ?_
    refine kl_ldS rfl (by assumption) rfl ?_
    refine kl_nil (kq_q ?_)
    refine kt_q 4 (List.nil_sublist _) rfl (by kernel_rfl) ?_
    refine kl_mv rfl ?_
    refine kl_nil (kq_q ?_)
    refine kt_a 2 rfl (by kernel_rfl) ?_
    refine kl_callP rfl rfl (svalue_ok obj x hO hX (by omega) (by have := hM.n; omega) (by assumption) (by assumption)) ?_
    refine kl_nil (kq_a (List.nil_sublist _) ?_)
    refine kt_a 5 rfl (by kernel_rfl) ?_
    refine kl_callP rfl rfl (satisfiesAll_ok m x hM (by omega) hX (by assumption) (by assumption) (by assumption)) ?_
    refine kl_nil (kq_x rfl ?_)
    refine kt_q 6 (List.nil_sublist _) rfl (by kernel_rfl) ?_
    refine kl_as rfl ?_
    refine kl_nil (kq_q ?_)
    refine kt_q 7 (List.nil_sublist _) rfl (by kernel_rfl) ?_
    refine kl_as rfl ?_
    refine kl_nil (kq_q ?_)
    refine kt_end (by kernel_rfl) ?_
    refine kq_code ?_
    refine kc_ret ?_
    refine kq_ret2 rfl rfl rfl noHp (fr_no _) (tup2 (congrArg (Value.int .i64) ?_) (congrArg Value.bool ?_))
    · rfl
    · rfl
  · skip
    obtain ⟨j, rfl⟩ : ∃ j, k = j + 1 := ⟨k - 1, by omega⟩
    have hn := hM.n
    refine kc_skipQ ?_
    refine kq_code ?_
    refine kc_seq ?_
    refine kc_region ?_
    refine kl_as rfl ?_
    refine kl_nil ?_
    refine kq_code ?_
    refine kc_seq ?_
    refine kc_region ?_
    refine kl_as rfl ?_
    refine kl_nil ?_
    refine kq_code ?_
    refine kc_seq ?_
    refine kc_region ?_
    refine kl_fd rfl (by assumption) (fun p10 a11 => ?_)
    refine kl_ld rfl (by assumption) ?_
    refine kl_mv rfl ?_
    refine kl_inI rfl rfl (by assumption) (by omega) (fun p12 a13 => ?_)
    refine kl_ld rfl (by assumption) ?_
    refine kl_call rfl rfl (domainValues_ok (m.doms.getD x.length 0)) (fun v14 H15 f16 h17 => ?_)
    refine kl_as rfl ?_
    refine kl_nil ?_
    refine kq_code ?_
    refine kc_seq ?_
    refine kc_seq ?_
    refine kc_region ?_
    refine kl_as rfl ?_
    refine kl_nil ?_
    refine kq_code ?_
    refine kc_block ?_
    refine kc_loop0 (A := Nat × Int × Bool) (fun zz => (zz.1 ≤ (valsI (m.doms.getD x.length 0)).length) ∧ (gameGo (fa.getD x.length false) (fun v => gameB m obj fa j (x ++ [v])) ((valsI (m.doms.getD x.length 0)).drop zz.1) zz.2.1 zz.2.2 = gameB m obj fa (j + 1) x)) (fun zz => (valsI (m.doms.getD x.length 0)).length - zz.1) (fun zz => [(14, .int .i64 (zz.1 : Int)), (11, .int .i64 zz.2.1), (12, .bool zz.2.2)]) (0, (0 : Int), false) (pc 1 rfl (pc 2 rfl (pc 3 rfl (pc 4 rfl (pc 10 rfl (pc 13 rfl pn)))))) (pc 14 rfl (pc 11 rfl (pc 12 rfl pn))) ⟨Nat.zero_le _, rfl⟩ ?_
    rintro ⟨i, b, s⟩ hJ20
    obtain ⟨hk18, hi19⟩ : (i ≤ (valsI (m.doms.getD x.length 0)).length) ∧ (gameGo (fa.getD x.length false) (fun v => gameB m obj fa j (x ++ [v])) ((valsI (m.doms.getD x.length 0)).drop i) b s = gameB m obj fa (j + 1) x) := hJ20
    change KC _ _ (_) _ _ ([(14, .int .i64 (i : Int)), (11, .int .i64 b), (12, .bool s)] ++ _)
    refine kc_seq ?_
    refine kc_seq ?_
    refine kc_region ?_
    refine kl_mv rfl ?_
    refine kl_mv rfl ?_
    refine kl_len rfl (by assumption) (fun l21 => ?_)
    refine kl_lss rfl rfl ?_
    refine kl_nil ?_
    refine kq_code ?_
    refine kc_if rfl (fun c22 => ?_) (fun c22 => ?_)
    · skip
      have hv := valsI_mem (getD_mem (d := (0 : Int)) (by omega : i < (valsI (m.doms.getD x.length 0)).length))
      refine kc_skipQ ?_
      refine kq_code ?_
      refine kc_seq ?_
      refine kc_block ?_
      refine kc_seq ?_
      refine kc_tree (fun i => ([11] : List Nat).contains i) [] (by kernel_rfl) ?_
      refine kt_q 0 (List.nil_sublist _) rfl (by kernel_rfl) ?_
      refine kl_ldS rfl (by assumption) rfl ?_
      refine kl_nil (kq_q ?_)
      refine kt_q 1 (List.nil_sublist _) rfl (by kernel_rfl) ?_
      refine kl_mv rfl ?_
      refine kl_nil (kq_q ?_)
      refine kt_q 2 (List.nil_sublist _) rfl (by kernel_rfl) ?_
      refine kl_mv rfl ?_
      refine kl_nil (kq_q ?_)
      refine kt_q 3 (List.nil_sublist _) rfl (by kernel_rfl) ?_
      refine kl_mv rfl ?_
      refine kl_nil (kq_q ?_)
      refine kt_q 5 (List.nil_sublist _) rfl (by kernel_rfl) ?_
      refine kl_mv rfl ?_
      refine kl_nil (kq_q ?_)
      refine kt_q 6 (List.nil_sublist _) rfl (by kernel_rfl) ?_
      refine kl_mv rfl ?_
      refine kl_nil (kq_q ?_)
      refine kt_q 7 (List.nil_sublist _) rfl (by kernel_rfl) ?_
      refine kl_inI rfl rfl (by assumption) (by omega) (fun p23 a24 => ?_)
      refine kl_nil (kq_q ?_)
      refine kt_q 8 (List.nil_sublist _) rfl (by kernel_rfl) ?_
      refine kl_ld rfl (by assumption) ?_
      refine kl_nil (kq_q ?_)
      refine kt_callLit 4 9 (List.nil_sublist _) rfl rfl (by kernel_rfl) (fun _ => rfl) rfl (fun _ => rfl) rfl (copyInts_ok x (by omega) (by assumption)) (fun _ => rfl) rfl rfl rfl (by decide) (ca rfl ca_nil) (fun v25 H26 f27 o28 u29 K30 f31 r32 s33 => ?_)
      refine kt_a 10 rfl (by kernel_rfl) ?_
      refine kl_apL ((valsI (m.doms.getD x.length 0)).getD i 0) rfl rfl o28 (by assumption) rfl (oc rfl oc_nil) (by omega) (by decide) (fun v34 H35 o36 f37 => ?_)
      have f38 := f37 B f27 (Nat.le_refl _)
      refine kl_nil (kq_a (List.nil_sublist _) ?_)
      refine kt_a 11 rfl (by kernel_rfl) ?_
      refine kl_callP rfl rfl (ih j (by omega) m obj fa (x ++ [((valsI (m.doms.getD x.length 0)).getD i 0)]) hM ho hO hf (by simp; omega) (hX.snoc hv) (by assumption) (by assumption) (by assumption) (by assumption) (OwnL.ints o36)) ?_
      refine kl_nil (kq_x rfl ?_)
      refine kt_q 12 (List.nil_sublist _) rfl (by kernel_rfl) ?_
      refine kl_mv rfl ?_
      refine kl_nil (kq_q ?_)
      refine kt_q 13 (List.nil_sublist _) rfl (by kernel_rfl) ?_
      refine kl_xt rfl rfl ?_
      refine kl_nil (kq_q ?_)
      refine kt_q 14 (List.nil_sublist _) rfl (by kernel_rfl) ?_
      refine kl_xt rfl rfl ?_
      refine kl_nil (kq_q ?_)
      refine kt_q 15 (List.nil_sublist _) rfl (by kernel_rfl) ?_
      refine kl_as rfl ?_
      refine kl_nil (kq_q ?_)
      refine kt_q 16 (List.nil_sublist _) rfl (by kernel_rfl) ?_
      refine kl_as rfl ?_
      refine kl_nil (kq_q ?_)
      refine kt_end (by kernel_rfl) ?_
      refine kq_code ?_
      refine kc_seq ?_
      refine kc_seq ?_
      refine kc_region ?_
      refine kl_mv rfl ?_
      refine kl_mv rfl ?_
      refine kl_inB rfl rfl (by assumption) (by omega) (fun p39 a40 => ?_)
      refine kl_ld rfl (by assumption) ?_
      refine kl_mv rfl ?_
      refine kl_join 3 64 (.bool ((fa.getD x.length false) && !((gameB m obj fa j (x ++ [((valsI (m.doms.getD x.length 0)).getD i 0)])).2))) (pc 1 rfl (pc 2 rfl (pc 3 rfl (pc 4 rfl (pc 10 rfl (pc 11 rfl (pc 12 rfl (pc 13 rfl (pc 14 rfl (pc 15 rfl (pc 16 rfl (pc 36 rfl (pc 37 rfl (pc 38 rfl (pc 39 rfl (pc 42 rfl (pc 43 rfl (pc 44 rfl (pc 45 rfl (pc 46 rfl (pc 47 rfl (pc 48 rfl (pc 49 rfl (pc 50 rfl (pc 51 rfl (pc 52 rfl (pc 53 rfl (pc 54 rfl (pc 55 rfl (pc 56 rfl (pc 57 rfl (pc 58 rfl (pc 59 rfl (pc 60 rfl (pc 61 rfl pn))))))))))))))))))))))))))))))))))) (fun J42 => ?_) ?_
      · rcases Bool.eq_false_or_eq_true (fa.getD x.length false) with g41 | g41
        · skip
          have g41p := g41
          try simp only [Bool.not_eq_true', Bool.not_eq_false', decide_eq_true_eq, decide_eq_false_iff_not, Bool.and_eq_true, Bool.or_eq_false_iff, withinB_iff] at g41p
          refine kl_gT rfl rfl g41 ?_
          refine kl_mv rfl ?_
          refine kl_gT rfl rfl g41 ?_
          refine kl_not rfl ?_
          refine kl_andT rfl rfl g41 ?_
          exact J42 _ (pc 64 rfl (pc 1 rfl (pc 2 rfl (pc 3 rfl (pc 4 rfl (pc 10 rfl (pc 11 rfl (pc 12 rfl (pc 13 rfl (pc 14 rfl (pc 15 rfl (pc 16 rfl (pc 36 rfl (pc 37 rfl (pc 38 rfl (pc 39 rfl (pc 42 rfl (pc 43 rfl (pc 44 rfl (pc 45 rfl (pc 46 rfl (pc 47 rfl (pc 48 rfl (pc 49 rfl (pc 50 rfl (pc 51 rfl (pc 52 rfl (pc 53 rfl (pc 54 rfl (pc 55 rfl (pc 56 rfl (pc 57 rfl (pc 58 rfl (pc 59 rfl (pc 60 rfl (pc 61 rfl pn))))))))))))))))))))))))))))))))))))
        · skip
          refine kl_gF rfl rfl g41 ?_
          refine kl_gF rfl rfl g41 ?_
          refine kl_andF (!((gameB m obj fa j (x ++ [((valsI (m.doms.getD x.length 0)).getD i 0)])).2)) rfl rfl g41 ?_
          exact J42 _ (pc 64 rfl (pc 1 rfl (pc 2 rfl (pc 3 rfl (pc 4 rfl (pc 10 rfl (pc 11 rfl (pc 12 rfl (pc 13 rfl (pc 14 rfl (pc 15 rfl (pc 16 rfl (pc 36 rfl (pc 37 rfl (pc 38 rfl (pc 39 rfl (pc 42 rfl (pc 43 rfl (pc 44 rfl (pc 45 rfl (pc 46 rfl (pc 47 rfl (pc 48 rfl (pc 49 rfl (pc 50 rfl (pc 51 rfl (pc 52 rfl (pc 53 rfl (pc 54 rfl (pc 55 rfl (pc 56 rfl (pc 57 rfl (pc 58 rfl (pc 59 rfl (pc 60 rfl (pc 61 rfl pn))))))))))))))))))))))))))))))))))))
      refine kl_nil ?_
      refine kq_code ?_
      refine kc_cond rfl (fun c43 => ?_) (fun c43 => ?_)
      · skip
        have c43r := c43
        try simp only [Bool.not_eq_true', Bool.not_eq_false', Bool.not_true, Bool.not_false, decide_eq_true_eq, decide_eq_false_iff_not, Bool.and_eq_true, Bool.or_eq_false_iff] at c43
        refine kc_seq ?_
        refine kc_region ?_
        refine kl_as rfl ?_
        refine kl_as rfl ?_
        refine kl_nil ?_
        refine kq_code ?_
        refine kc_ret ?_
        refine kq_ret2 rfl rfl rfl noHp (fr_no _) (tup2 (congrArg (Value.int .i64) ?_) (congrArg Value.bool ?_))
        · (have h := game_at (fa := fa.getD x.length false) (f := fun v => gameB m obj fa j (x ++ [v])) (b := b) (s := s) (by omega : i < (valsI (m.doms.getD x.length 0)).length); rw [hi19, if_pos (by assumption)] at h; rw [h])
        · (have h := game_at (fa := fa.getD x.length false) (f := fun v => gameB m obj fa j (x ++ [v])) (b := b) (s := s) (by omega : i < (valsI (m.doms.getD x.length 0)).length); rw [hi19, if_pos (by assumption)] at h; rw [h])
      · skip
        have c43r := c43
        try simp only [Bool.not_eq_true', Bool.not_eq_false', Bool.not_true, Bool.not_false, decide_eq_true_eq, decide_eq_false_iff_not, Bool.and_eq_true, Bool.or_eq_false_iff] at c43
        refine kc_skipQ ?_
        refine kq_code ?_
        refine kc_seq ?_
        refine kc_region ?_
        refine kl_mv rfl ?_
        refine kl_mv rfl ?_
        refine kl_join 26 92 (.bool (((gameB m obj fa j (x ++ [((valsI (m.doms.getD x.length 0)).getD i 0)])).2) && ((!s || ((fa.getD x.length false) && decide (b < ((gameB m obj fa j (x ++ [((valsI (m.doms.getD x.length 0)).getD i 0)])).1)))) || (!(fa.getD x.length false) && decide (((gameB m obj fa j (x ++ [((valsI (m.doms.getD x.length 0)).getD i 0)])).1) < b))))) (pc 1 rfl (pc 2 rfl (pc 3 rfl (pc 4 rfl (pc 10 rfl (pc 11 rfl (pc 12 rfl (pc 13 rfl (pc 14 rfl (pc 15 rfl (pc 16 rfl (pc 36 rfl (pc 37 rfl (pc 38 rfl (pc 39 rfl (pc 42 rfl (pc 43 rfl (pc 44 rfl (pc 45 rfl (pc 46 rfl (pc 47 rfl (pc 48 rfl (pc 49 rfl (pc 50 rfl (pc 51 rfl (pc 52 rfl (pc 53 rfl (pc 54 rfl (pc 55 rfl (pc 56 rfl (pc 57 rfl (pc 58 rfl (pc 59 rfl (pc 60 rfl (pc 61 rfl (pc 64 rfl (pc 65 rfl (pc 66 rfl pn)))))))))))))))))))))))))))))))))))))) (fun J57 => ?_) ?_
        · rcases Bool.eq_false_or_eq_true ((gameB m obj fa j (x ++ [((valsI (m.doms.getD x.length 0)).getD i 0)])).2) with g44 | g44
          · skip
            have g44p := g44
            try simp only [Bool.not_eq_true', Bool.not_eq_false', decide_eq_true_eq, decide_eq_false_iff_not, Bool.and_eq_true, Bool.or_eq_false_iff, withinB_iff] at g44p
            refine kl_gT rfl rfl g44 ?_
            refine kl_mv rfl ?_
            refine kl_gT rfl rfl g44 ?_
            refine kl_not rfl ?_
            refine kl_gT rfl rfl g44 ?_
            refine kl_mv rfl ?_
            refine kl_join 10 79 (.bool (!s || ((fa.getD x.length false) && decide (b < ((gameB m obj fa j (x ++ [((valsI (m.doms.getD x.length 0)).getD i 0)])).1))))) (pc 1 rfl (pc 2 rfl (pc 3 rfl (pc 4 rfl (pc 10 rfl (pc 11 rfl (pc 12 rfl (pc 13 rfl (pc 14 rfl (pc 15 rfl (pc 16 rfl (pc 36 rfl (pc 37 rfl (pc 38 rfl (pc 39 rfl (pc 42 rfl (pc 43 rfl (pc 44 rfl (pc 45 rfl (pc 46 rfl (pc 47 rfl (pc 48 rfl (pc 49 rfl (pc 50 rfl (pc 51 rfl (pc 52 rfl (pc 53 rfl (pc 54 rfl (pc 55 rfl (pc 56 rfl (pc 57 rfl (pc 58 rfl (pc 59 rfl (pc 60 rfl (pc 61 rfl (pc 64 rfl (pc 65 rfl (pc 66 rfl (pc 67 rfl (pc 68 rfl (pc 69 rfl pn))))))))))))))))))))))))))))))))))))))))) (fun J50 => ?_) ?_
            · rcases Bool.eq_false_or_eq_true (!s) with g45 | g45
              · skip
                refine kl_gF rfl rfl g45 ?_
                refine kl_gF rfl rfl g45 ?_
                refine kl_gF rfl rfl g45 ?_
                refine kl_gF rfl rfl g45 ?_
                refine kl_gF rfl rfl g45 ?_
                refine kl_gU rfl rfl ?_
                refine kl_gU rfl rfl ?_
                refine kl_gU rfl rfl ?_
                refine kl_gF rfl rfl g45 ?_
                refine kl_gT rfl rfl g44 ?_
                refine kl_orT ((fa.getD x.length false) && decide (b < ((gameB m obj fa j (x ++ [((valsI (m.doms.getD x.length 0)).getD i 0)])).1))) rfl rfl g45 ?_
                exact J50 _ (pc 79 rfl (pc 1 rfl (pc 2 rfl (pc 3 rfl (pc 4 rfl (pc 10 rfl (pc 11 rfl (pc 12 rfl (pc 13 rfl (pc 14 rfl (pc 15 rfl (pc 16 rfl (pc 36 rfl (pc 37 rfl (pc 38 rfl (pc 39 rfl (pc 42 rfl (pc 43 rfl (pc 44 rfl (pc 45 rfl (pc 46 rfl (pc 47 rfl (pc 48 rfl (pc 49 rfl (pc 50 rfl (pc 51 rfl (pc 52 rfl (pc 53 rfl (pc 54 rfl (pc 55 rfl (pc 56 rfl (pc 57 rfl (pc 58 rfl (pc 59 rfl (pc 60 rfl (pc 61 rfl (pc 64 rfl (pc 65 rfl (pc 66 rfl (pc 67 rfl (pc 68 rfl (pc 69 rfl pn))))))))))))))))))))))))))))))))))))))))))
              · skip
                have g45p := g45
                try simp only [Bool.not_eq_true', Bool.not_eq_false', decide_eq_true_eq, decide_eq_false_iff_not, Bool.and_eq_true, Bool.or_eq_false_iff, withinB_iff] at g45p
                refine kl_gT rfl rfl g45 ?_
                refine kl_mv rfl ?_
                refine kl_gT rfl rfl g45 ?_
                refine kl_mv rfl ?_
                refine kl_gT rfl rfl g45 ?_
                refine kl_inB rfl rfl (by assumption) (by omega) (fun p46 a47 => ?_)
                refine kl_gT rfl rfl g45 ?_
                refine kl_ld rfl (by assumption) ?_
                refine kl_gT rfl rfl g45 ?_
                refine kl_mv rfl ?_
                refine kl_join 4 78 (.bool ((fa.getD x.length false) && decide (b < ((gameB m obj fa j (x ++ [((valsI (m.doms.getD x.length 0)).getD i 0)])).1)))) (pc 1 rfl (pc 2 rfl (pc 3 rfl (pc 4 rfl (pc 10 rfl (pc 11 rfl (pc 12 rfl (pc 13 rfl (pc 14 rfl (pc 15 rfl (pc 16 rfl (pc 36 rfl (pc 37 rfl (pc 38 rfl (pc 39 rfl (pc 42 rfl (pc 43 rfl (pc 44 rfl (pc 45 rfl (pc 46 rfl (pc 47 rfl (pc 48 rfl (pc 49 rfl (pc 50 rfl (pc 51 rfl (pc 52 rfl (pc 53 rfl (pc 54 rfl (pc 55 rfl (pc 56 rfl (pc 57 rfl (pc 58 rfl (pc 59 rfl (pc 60 rfl (pc 61 rfl (pc 64 rfl (pc 65 rfl (pc 66 rfl (pc 67 rfl (pc 68 rfl (pc 69 rfl (pc 70 rfl (pc 71 rfl (pc 72 rfl (pc 73 rfl (pc 74 rfl pn)))))))))))))))))))))))))))))))))))))))))))))) (fun J49 => ?_) ?_
                · rcases Bool.eq_false_or_eq_true (fa.getD x.length false) with g48 | g48
                  · skip
                    have g48p := g48
                    try simp only [Bool.not_eq_true', Bool.not_eq_false', decide_eq_true_eq, decide_eq_false_iff_not, Bool.and_eq_true, Bool.or_eq_false_iff, withinB_iff] at g48p
                    refine kl_gT rfl rfl g48 ?_
                    refine kl_mv rfl ?_
                    refine kl_gT rfl rfl g48 ?_
                    refine kl_mv rfl ?_
                    refine kl_gT rfl rfl g48 ?_
                    refine kl_gtr rfl rfl ?_
                    refine kl_gT rfl rfl g45 ?_
                    refine kl_andT rfl rfl g48 ?_
                    exact J49 _ (pc 78 rfl (pc 1 rfl (pc 2 rfl (pc 3 rfl (pc 4 rfl (pc 10 rfl (pc 11 rfl (pc 12 rfl (pc 13 rfl (pc 14 rfl (pc 15 rfl (pc 16 rfl (pc 36 rfl (pc 37 rfl (pc 38 rfl (pc 39 rfl (pc 42 rfl (pc 43 rfl (pc 44 rfl (pc 45 rfl (pc 46 rfl (pc 47 rfl (pc 48 rfl (pc 49 rfl (pc 50 rfl (pc 51 rfl (pc 52 rfl (pc 53 rfl (pc 54 rfl (pc 55 rfl (pc 56 rfl (pc 57 rfl (pc 58 rfl (pc 59 rfl (pc 60 rfl (pc 61 rfl (pc 64 rfl (pc 65 rfl (pc 66 rfl (pc 67 rfl (pc 68 rfl (pc 69 rfl (pc 70 rfl (pc 71 rfl (pc 72 rfl (pc 73 rfl (pc 74 rfl pn)))))))))))))))))))))))))))))))))))))))))))))))
                  · skip
                    refine kl_gF rfl rfl g48 ?_
                    refine kl_gF rfl rfl g48 ?_
                    refine kl_gF rfl rfl g48 ?_
                    refine kl_gT rfl rfl g45 ?_
                    refine kl_andF (decide (b < ((gameB m obj fa j (x ++ [((valsI (m.doms.getD x.length 0)).getD i 0)])).1))) rfl rfl g48 ?_
                    exact J49 _ (pc 78 rfl (pc 1 rfl (pc 2 rfl (pc 3 rfl (pc 4 rfl (pc 10 rfl (pc 11 rfl (pc 12 rfl (pc 13 rfl (pc 14 rfl (pc 15 rfl (pc 16 rfl (pc 36 rfl (pc 37 rfl (pc 38 rfl (pc 39 rfl (pc 42 rfl (pc 43 rfl (pc 44 rfl (pc 45 rfl (pc 46 rfl (pc 47 rfl (pc 48 rfl (pc 49 rfl (pc 50 rfl (pc 51 rfl (pc 52 rfl (pc 53 rfl (pc 54 rfl (pc 55 rfl (pc 56 rfl (pc 57 rfl (pc 58 rfl (pc 59 rfl (pc 60 rfl (pc 61 rfl (pc 64 rfl (pc 65 rfl (pc 66 rfl (pc 67 rfl (pc 68 rfl (pc 69 rfl (pc 70 rfl (pc 71 rfl (pc 72 rfl (pc 73 rfl (pc 74 rfl pn)))))))))))))))))))))))))))))))))))))))))))))))
                refine kl_gT rfl rfl g44 ?_
                refine kl_orF rfl rfl g45 ?_
                exact J50 _ (pc 79 rfl (pc 1 rfl (pc 2 rfl (pc 3 rfl (pc 4 rfl (pc 10 rfl (pc 11 rfl (pc 12 rfl (pc 13 rfl (pc 14 rfl (pc 15 rfl (pc 16 rfl (pc 36 rfl (pc 37 rfl (pc 38 rfl (pc 39 rfl (pc 42 rfl (pc 43 rfl (pc 44 rfl (pc 45 rfl (pc 46 rfl (pc 47 rfl (pc 48 rfl (pc 49 rfl (pc 50 rfl (pc 51 rfl (pc 52 rfl (pc 53 rfl (pc 54 rfl (pc 55 rfl (pc 56 rfl (pc 57 rfl (pc 58 rfl (pc 59 rfl (pc 60 rfl (pc 61 rfl (pc 64 rfl (pc 65 rfl (pc 66 rfl (pc 67 rfl (pc 68 rfl (pc 69 rfl pn))))))))))))))))))))))))))))))))))))))))))
            refine kl_gT rfl rfl g44 ?_
            refine kl_mv rfl ?_
            refine kl_join 11 91 (.bool ((!s || ((fa.getD x.length false) && decide (b < ((gameB m obj fa j (x ++ [((valsI (m.doms.getD x.length 0)).getD i 0)])).1)))) || (!(fa.getD x.length false) && decide (((gameB m obj fa j (x ++ [((valsI (m.doms.getD x.length 0)).getD i 0)])).1) < b)))) (pc 1 rfl (pc 2 rfl (pc 3 rfl (pc 4 rfl (pc 10 rfl (pc 11 rfl (pc 12 rfl (pc 13 rfl (pc 14 rfl (pc 15 rfl (pc 16 rfl (pc 36 rfl (pc 37 rfl (pc 38 rfl (pc 39 rfl (pc 42 rfl (pc 43 rfl (pc 44 rfl (pc 45 rfl (pc 46 rfl (pc 47 rfl (pc 48 rfl (pc 49 rfl (pc 50 rfl (pc 51 rfl (pc 52 rfl (pc 53 rfl (pc 54 rfl (pc 55 rfl (pc 56 rfl (pc 57 rfl (pc 58 rfl (pc 59 rfl (pc 60 rfl (pc 61 rfl (pc 64 rfl (pc 65 rfl (pc 66 rfl (pc 67 rfl (pc 68 rfl (pc 69 rfl (pc 79 rfl (pc 80 rfl pn))))))))))))))))))))))))))))))))))))))))))) (fun J56 => ?_) ?_
            · rcases Bool.eq_false_or_eq_true (!s || ((fa.getD x.length false) && decide (b < ((gameB m obj fa j (x ++ [((valsI (m.doms.getD x.length 0)).getD i 0)])).1)))) with g51 | g51
              · skip
                refine kl_gF rfl rfl g51 ?_
                refine kl_gF rfl rfl g51 ?_
                refine kl_gF rfl rfl g51 ?_
                refine kl_gF rfl rfl g51 ?_
                refine kl_gF rfl rfl g51 ?_
                refine kl_gF rfl rfl g51 ?_
                refine kl_gU rfl rfl ?_
                refine kl_gU rfl rfl ?_
                refine kl_gU rfl rfl ?_
                refine kl_gF rfl rfl g51 ?_
                refine kl_gT rfl rfl g44 ?_
                refine kl_orT (!(fa.getD x.length false) && decide (((gameB m obj fa j (x ++ [((valsI (m.doms.getD x.length 0)).getD i 0)])).1) < b)) rfl rfl g51 ?_
                exact J56 _ (pc 91 rfl (pc 1 rfl (pc 2 rfl (pc 3 rfl (pc 4 rfl (pc 10 rfl (pc 11 rfl (pc 12 rfl (pc 13 rfl (pc 14 rfl (pc 15 rfl (pc 16 rfl (pc 36 rfl (pc 37 rfl (pc 38 rfl (pc 39 rfl (pc 42 rfl (pc 43 rfl (pc 44 rfl (pc 45 rfl (pc 46 rfl (pc 47 rfl (pc 48 rfl (pc 49 rfl (pc 50 rfl (pc 51 rfl (pc 52 rfl (pc 53 rfl (pc 54 rfl (pc 55 rfl (pc 56 rfl (pc 57 rfl (pc 58 rfl (pc 59 rfl (pc 60 rfl (pc 61 rfl (pc 64 rfl (pc 65 rfl (pc 66 rfl (pc 67 rfl (pc 68 rfl (pc 69 rfl (pc 79 rfl (pc 80 rfl pn))))))))))))))))))))))))))))))))))))))))))))
              · skip
                have g51p := g51
                try simp only [Bool.not_eq_true', Bool.not_eq_false', decide_eq_true_eq, decide_eq_false_iff_not, Bool.and_eq_true, Bool.or_eq_false_iff, withinB_iff] at g51p
                refine kl_gT rfl rfl g51 ?_
                refine kl_mv rfl ?_
                refine kl_gT rfl rfl g51 ?_
                refine kl_mv rfl ?_
                refine kl_gT rfl rfl g51 ?_
                refine kl_inB rfl rfl (by assumption) (by omega) (fun p52 a53 => ?_)
                refine kl_gT rfl rfl g51 ?_
                refine kl_ld rfl (by assumption) ?_
                refine kl_gT rfl rfl g51 ?_
                refine kl_not rfl ?_
                refine kl_gT rfl rfl g51 ?_
                refine kl_mv rfl ?_
                refine kl_join 4 90 (.bool (!(fa.getD x.length false) && decide (((gameB m obj fa j (x ++ [((valsI (m.doms.getD x.length 0)).getD i 0)])).1) < b))) (pc 1 rfl (pc 2 rfl (pc 3 rfl (pc 4 rfl (pc 10 rfl (pc 11 rfl (pc 12 rfl (pc 13 rfl (pc 14 rfl (pc 15 rfl (pc 16 rfl (pc 36 rfl (pc 37 rfl (pc 38 rfl (pc 39 rfl (pc 42 rfl (pc 43 rfl (pc 44 rfl (pc 45 rfl (pc 46 rfl (pc 47 rfl (pc 48 rfl (pc 49 rfl (pc 50 rfl (pc 51 rfl (pc 52 rfl (pc 53 rfl (pc 54 rfl (pc 55 rfl (pc 56 rfl (pc 57 rfl (pc 58 rfl (pc 59 rfl (pc 60 rfl (pc 61 rfl (pc 64 rfl (pc 65 rfl (pc 66 rfl (pc 67 rfl (pc 68 rfl (pc 69 rfl (pc 79 rfl (pc 80 rfl (pc 81 rfl (pc 82 rfl (pc 83 rfl (pc 84 rfl (pc 85 rfl (pc 86 rfl pn))))))))))))))))))))))))))))))))))))))))))))))))) (fun J55 => ?_) ?_
                · rcases Bool.eq_false_or_eq_true (!(fa.getD x.length false)) with g54 | g54
                  · skip
                    have g54p := g54
                    try simp only [Bool.not_eq_true', Bool.not_eq_false', decide_eq_true_eq, decide_eq_false_iff_not, Bool.and_eq_true, Bool.or_eq_false_iff, withinB_iff] at g54p
                    refine kl_gT rfl rfl g54 ?_
                    refine kl_mv rfl ?_
                    refine kl_gT rfl rfl g54 ?_
                    refine kl_mv rfl ?_
                    refine kl_gT rfl rfl g54 ?_
                    refine kl_lss rfl rfl ?_
                    refine kl_gT rfl rfl g51 ?_
                    refine kl_andT rfl rfl g54 ?_
                    exact J55 _ (pc 90 rfl (pc 1 rfl (pc 2 rfl (pc 3 rfl (pc 4 rfl (pc 10 rfl (pc 11 rfl (pc 12 rfl (pc 13 rfl (pc 14 rfl (pc 15 rfl (pc 16 rfl (pc 36 rfl (pc 37 rfl (pc 38 rfl (pc 39 rfl (pc 42 rfl (pc 43 rfl (pc 44 rfl (pc 45 rfl (pc 46 rfl (pc 47 rfl (pc 48 rfl (pc 49 rfl (pc 50 rfl (pc 51 rfl (pc 52 rfl (pc 53 rfl (pc 54 rfl (pc 55 rfl (pc 56 rfl (pc 57 rfl (pc 58 rfl (pc 59 rfl (pc 60 rfl (pc 61 rfl (pc 64 rfl (pc 65 rfl (pc 66 rfl (pc 67 rfl (pc 68 rfl (pc 69 rfl (pc 79 rfl (pc 80 rfl (pc 81 rfl (pc 82 rfl (pc 83 rfl (pc 84 rfl (pc 85 rfl (pc 86 rfl pn))))))))))))))))))))))))))))))))))))))))))))))))))
                  · skip
                    refine kl_gF rfl rfl g54 ?_
                    refine kl_gF rfl rfl g54 ?_
                    refine kl_gF rfl rfl g54 ?_
                    refine kl_gT rfl rfl g51 ?_
                    refine kl_andF (decide (((gameB m obj fa j (x ++ [((valsI (m.doms.getD x.length 0)).getD i 0)])).1) < b)) rfl rfl g54 ?_
                    exact J55 _ (pc 90 rfl (pc 1 rfl (pc 2 rfl (pc 3 rfl (pc 4 rfl (pc 10 rfl (pc 11 rfl (pc 12 rfl (pc 13 rfl (pc 14 rfl (pc 15 rfl (pc 16 rfl (pc 36 rfl (pc 37 rfl (pc 38 rfl (pc 39 rfl (pc 42 rfl (pc 43 rfl (pc 44 rfl (pc 45 rfl (pc 46 rfl (pc 47 rfl (pc 48 rfl (pc 49 rfl (pc 50 rfl (pc 51 rfl (pc 52 rfl (pc 53 rfl (pc 54 rfl (pc 55 rfl (pc 56 rfl (pc 57 rfl (pc 58 rfl (pc 59 rfl (pc 60 rfl (pc 61 rfl (pc 64 rfl (pc 65 rfl (pc 66 rfl (pc 67 rfl (pc 68 rfl (pc 69 rfl (pc 79 rfl (pc 80 rfl (pc 81 rfl (pc 82 rfl (pc 83 rfl (pc 84 rfl (pc 85 rfl (pc 86 rfl pn))))))))))))))))))))))))))))))))))))))))))))))))))
                refine kl_gT rfl rfl g44 ?_
                refine kl_orF rfl rfl g51 ?_
                exact J56 _ (pc 91 rfl (pc 1 rfl (pc 2 rfl (pc 3 rfl (pc 4 rfl (pc 10 rfl (pc 11 rfl (pc 12 rfl (pc 13 rfl (pc 14 rfl (pc 15 rfl (pc 16 rfl (pc 36 rfl (pc 37 rfl (pc 38 rfl (pc 39 rfl (pc 42 rfl (pc 43 rfl (pc 44 rfl (pc 45 rfl (pc 46 rfl (pc 47 rfl (pc 48 rfl (pc 49 rfl (pc 50 rfl (pc 51 rfl (pc 52 rfl (pc 53 rfl (pc 54 rfl (pc 55 rfl (pc 56 rfl (pc 57 rfl (pc 58 rfl (pc 59 rfl (pc 60 rfl (pc 61 rfl (pc 64 rfl (pc 65 rfl (pc 66 rfl (pc 67 rfl (pc 68 rfl (pc 69 rfl (pc 79 rfl (pc 80 rfl pn))))))))))))))))))))))))))))))))))))))))))))
            refine kl_andT rfl rfl g44 ?_
            exact J57 _ (pc 92 rfl (pc 1 rfl (pc 2 rfl (pc 3 rfl (pc 4 rfl (pc 10 rfl (pc 11 rfl (pc 12 rfl (pc 13 rfl (pc 14 rfl (pc 15 rfl (pc 16 rfl (pc 36 rfl (pc 37 rfl (pc 38 rfl (pc 39 rfl (pc 42 rfl (pc 43 rfl (pc 44 rfl (pc 45 rfl (pc 46 rfl (pc 47 rfl (pc 48 rfl (pc 49 rfl (pc 50 rfl (pc 51 rfl (pc 52 rfl (pc 53 rfl (pc 54 rfl (pc 55 rfl (pc 56 rfl (pc 57 rfl (pc 58 rfl (pc 59 rfl (pc 60 rfl (pc 61 rfl (pc 64 rfl (pc 65 rfl (pc 66 rfl pn)))))))))))))))))))))))))))))))))))))))
          · skip
            refine kl_gF rfl rfl g44 ?_
            refine kl_gF rfl rfl g44 ?_
            refine kl_gF rfl rfl g44 ?_
            refine kl_gU rfl rfl ?_
            refine kl_gU rfl rfl ?_
            refine kl_gU rfl rfl ?_
            refine kl_gU rfl rfl ?_
            refine kl_gU rfl rfl ?_
            refine kl_gU rfl rfl ?_
            refine kl_gU rfl rfl ?_
            refine kl_gU rfl rfl ?_
            refine kl_gU rfl rfl ?_
            refine kl_gF rfl rfl g44 ?_
            refine kl_gF rfl rfl g44 ?_
            refine kl_gU rfl rfl ?_
            refine kl_gU rfl rfl ?_
            refine kl_gU rfl rfl ?_
            refine kl_gU rfl rfl ?_
            refine kl_gU rfl rfl ?_
            refine kl_gU rfl rfl ?_
            refine kl_gU rfl rfl ?_
            refine kl_gU rfl rfl ?_
            refine kl_gU rfl rfl ?_
            refine kl_gU rfl rfl ?_
            refine kl_gF rfl rfl g44 ?_
            refine kl_andF ((!s || ((fa.getD x.length false) && decide (b < ((gameB m obj fa j (x ++ [((valsI (m.doms.getD x.length 0)).getD i 0)])).1)))) || (!(fa.getD x.length false) && decide (((gameB m obj fa j (x ++ [((valsI (m.doms.getD x.length 0)).getD i 0)])).1) < b))) rfl rfl g44 ?_
            exact J57 _ (pc 92 rfl (pc 1 rfl (pc 2 rfl (pc 3 rfl (pc 4 rfl (pc 10 rfl (pc 11 rfl (pc 12 rfl (pc 13 rfl (pc 14 rfl (pc 15 rfl (pc 16 rfl (pc 36 rfl (pc 37 rfl (pc 38 rfl (pc 39 rfl (pc 42 rfl (pc 43 rfl (pc 44 rfl (pc 45 rfl (pc 46 rfl (pc 47 rfl (pc 48 rfl (pc 49 rfl (pc 50 rfl (pc 51 rfl (pc 52 rfl (pc 53 rfl (pc 54 rfl (pc 55 rfl (pc 56 rfl (pc 57 rfl (pc 58 rfl (pc 59 rfl (pc 60 rfl (pc 61 rfl (pc 64 rfl (pc 65 rfl (pc 66 rfl pn)))))))))))))))))))))))))))))))))))))))
        refine kl_nil ?_
        refine kq_code ?_
        refine kc_cond rfl (fun c58 => ?_) (fun c58 => ?_)
        · skip
          have c58r := c58
          try simp only [Bool.not_eq_true', Bool.not_eq_false', Bool.not_true, Bool.not_false, decide_eq_true_eq, decide_eq_false_iff_not, Bool.and_eq_true, Bool.or_eq_false_iff] at c58
          refine kc_seq ?_
          refine kc_region ?_
          refine kl_mv rfl ?_
          refine kl_as rfl ?_
          refine kl_nil ?_
          refine kq_code ?_
          refine kc_region ?_
          refine kl_as rfl ?_
          refine kl_nil ?_
          refine kq_code ?_
          refine kc_region ?_
          refine kl_mv rfl ?_
          refine kl_inc rfl rfl (by omega) ?_
          refine kl_as rfl ?_
          refine kl_nil ?_
          refine kq_round0 ((i + 1), ((gameB m obj fa j (x ++ [((valsI (m.doms.getD x.length 0)).getD i 0)])).1), true) (by omega) (⟨by omega, (by first | exact game_T hi19 (by omega) (by assumption) (by assumption) | exact game_F hi19 (by omega) (by assumption) (by assumption) | exact game_T hi19 (by omega) (by assumption) (by clear hi19; simp_all; done) | exact game_F hi19 (by omega) (by assumption) (by clear hi19; simp_all; done) | (exfalso; clear hi19; simp_all; done))⟩) (pc 14 rfl (pc 11 rfl (pc 12 rfl pn))) (pc 1 rfl (pc 2 rfl (pc 3 rfl (pc 4 rfl (pc 10 rfl (pc 13 rfl pn)))))) (.cons _ (List.Sublist.refl _))
        · skip
          have c58r := c58
          try simp only [Bool.not_eq_true', Bool.not_eq_false', Bool.not_true, Bool.not_false, decide_eq_true_eq, decide_eq_false_iff_not, Bool.and_eq_true, Bool.or_eq_false_iff] at c58
          refine kc_skipQ ?_
          refine kq_code ?_
          refine kc_region ?_
          refine kl_mv rfl ?_
          refine kl_inc rfl rfl (by omega) ?_
          refine kl_as rfl ?_
          refine kl_nil ?_
          refine kq_round0 ((i + 1), b, s) (by omega) (⟨by omega, (by first | exact game_T hi19 (by omega) (by assumption) (by assumption) | exact game_F hi19 (by omega) (by assumption) (by assumption) | exact game_T hi19 (by omega) (by assumption) (by clear hi19; simp_all; done) | exact game_F hi19 (by omega) (by assumption) (by clear hi19; simp_all; done) | (exfalso; clear hi19; simp_all; done))⟩) (pc 14 rfl (pc 11 rfl (pc 12 rfl pn))) (pc 1 rfl (pc 2 rfl (pc 3 rfl (pc 4 rfl (pc 10 rfl (pc 13 rfl pn)))))) (.cons _ (List.Sublist.refl _))
    · skip
      refine kc_exit ?_
      refine kq_code ?_
      refine kc_seq ?_
      refine kc_region ?_
      refine kl_mv rfl ?_
      refine kl_mv rfl ?_
      refine kl_as rfl ?_
      refine kl_as rfl ?_
      refine kl_nil ?_
      refine kq_code ?_
      refine kc_ret ?_
      refine kq_ret2 rfl rfl rfl noHp (fr_no _) (tup2 (congrArg (Value.int .i64) ?_) (congrArg Value.bool ?_))
      · (have h := hi19; rw [game_end (by omega)] at h; rw [← h])
      · (have h := hi19; rw [game_end (by omega)] at h; rw [← h])
theorem gameValue_ok (k : Nat) : gameValueSt k := by
  induction k using Nat.strongRecOn with
  | _ k ih => exact @gameValue_step k ih
theorem sminimax_ok {Hmd : Hp} {vmd : Value} {Hmc : Hp} {vmc : Value} {Hobj : Hp} {vobj : Value} {Hfa : Hp} {vfa : Value} (m : Mod) (obj : List Int) (fa : List Bool) (hmd : Ints Hmd vmd m.doms) (hmc : Cons Hmc vmc m.cons) (hobj : Ints Hobj vobj obj) (hfa : Bools Hfa vfa fa) : SpecP Tryz.prog 16 [.agg #[vmd, vmc], vobj, vfa] [Hmd, Hmc, Hobj, Hfa] (.tuple #[.int .i64 ((minimaxB m obj fa).1), .bool ((minimaxB m obj fa).2)]) := by
  refine spec_of Tryz.func16 rfl rfl rfl (fun B => ?_)
  refine kc_seq ?_
  refine kc_region ?_
  refine kl_box rfl rfl (fun p1 H2 f3 a4 => ?_)
  refine kl_as rfl ?_
  refine kl_as rfl ?_
  refine kl_nil ?_
  refine kq_code ?_
  refine kc_seq ?_
  refine kc_seq ?_
  refine kc_region ?_
  refine kl_ldS rfl (by assumption) rfl ?_
  refine kl_mv rfl ?_
  refine kl_callP rfl rfl (validQuantifiers_ok m fa (by assumption) (by assumption) (by assumption)) ?_
  refine kl_not rfl ?_
  refine kl_mv rfl ?_
  refine kl_join 5 19 (.bool (!(fOkB m fa) || !(objOkS m obj))) (pc 1 rfl (pc 2 rfl (pc 3 rfl (pc 6 rfl (pc 7 rfl (pc 14 rfl pn)))))) (fun J6 => ?_) ?_
  · rcases Bool.eq_false_or_eq_true (!(fOkB m fa)) with g5 | g5
    · skip
      refine kl_gF rfl rfl g5 ?_
      refine kl_gF rfl rfl g5 ?_
      refine kl_gF rfl rfl g5 ?_
      refine kl_gF rfl rfl g5 ?_
      refine kl_orT (!(objOkS m obj)) rfl rfl g5 ?_
      exact J6 _ (pc 19 rfl (pc 1 rfl (pc 2 rfl (pc 3 rfl (pc 6 rfl (pc 7 rfl (pc 14 rfl pn)))))))
    · skip
      have g5p := g5
      try simp only [Bool.not_eq_true', Bool.not_eq_false', decide_eq_true_eq, decide_eq_false_iff_not, Bool.and_eq_true, Bool.or_eq_false_iff, withinB_iff] at g5p
      refine kl_gT rfl rfl g5 ?_
      refine kl_ldS rfl (by assumption) rfl ?_
      refine kl_gT rfl rfl g5 ?_
      refine kl_mv rfl ?_
      refine kl_gT rfl rfl g5 ?_
      refine kl_callP rfl rfl (validObjective_ok m obj (by assumption) (by assumption) (by assumption)) ?_
      refine kl_gT rfl rfl g5 ?_
      refine kl_not rfl ?_
      refine kl_orF rfl rfl g5 ?_
      exact J6 _ (pc 19 rfl (pc 1 rfl (pc 2 rfl (pc 3 rfl (pc 6 rfl (pc 7 rfl (pc 14 rfl pn)))))))
  refine kl_mv rfl ?_
  refine kl_join 4 24 (.bool ((!(fOkB m fa) || !(objOkS m obj)) || (m.doms.contains 0))) (pc 1 rfl (pc 2 rfl (pc 3 rfl (pc 6 rfl (pc 7 rfl (pc 20 rfl pn)))))) (fun J10 => ?_) ?_
  · rcases Bool.eq_false_or_eq_true (!(fOkB m fa) || !(objOkS m obj)) with g7 | g7
    · skip
      refine kl_gF rfl rfl g7 ?_
      refine kl_gF rfl rfl g7 ?_
      refine kl_gF rfl rfl g7 ?_
      refine kl_orT (m.doms.contains 0) rfl rfl g7 ?_
      exact J10 _ (pc 24 rfl (pc 1 rfl (pc 2 rfl (pc 3 rfl (pc 6 rfl (pc 7 rfl (pc 20 rfl pn)))))))
    · skip
      have g7p := g7
      try simp only [Bool.not_eq_true', Bool.not_eq_false', decide_eq_true_eq, decide_eq_false_iff_not, Bool.and_eq_true, Bool.or_eq_false_iff, withinB_iff] at g7p
      refine kl_gT rfl rfl g7 ?_
      refine kl_fd rfl (by assumption) (fun p8 a9 => ?_)
      refine kl_gT rfl rfl g7 ?_
      refine kl_ld rfl (by assumption) ?_
      refine kl_gT rfl rfl g7 ?_
      refine kl_callP rfl rfl (hasEmpty_ok m.doms (by assumption)) ?_
      refine kl_orF rfl rfl g7 ?_
      exact J10 _ (pc 24 rfl (pc 1 rfl (pc 2 rfl (pc 3 rfl (pc 6 rfl (pc 7 rfl (pc 20 rfl pn)))))))
  refine kl_nil ?_
  refine kq_code ?_
  refine kc_cond rfl (fun c11 => ?_) (fun c11 => ?_)
  · skip
    have c11r := c11
    try simp only [Bool.not_eq_true', Bool.not_eq_false', Bool.not_true, Bool.not_false, decide_eq_true_eq, decide_eq_false_iff_not, Bool.and_eq_true, Bool.or_eq_false_iff] at c11
    refine kc_seq ?_
    refine kc_region ?_
    refine kl_as rfl ?_
    refine kl_as rfl ?_
    refine kl_nil ?_
    refine kq_code ?_
    refine kc_ret ?_
    refine kq_ret2 rfl rfl rfl noHp (fr_no _) (tup2 (congrArg (Value.int .i64) ?_) (congrArg Value.bool ?_))
    · exact mmS_1 (by assumption)
    · exact mmS_1b (by assumption)
  · skip
    have c11r := c11
    try simp only [Bool.not_eq_true', Bool.not_eq_false', Bool.not_true, Bool.not_false, decide_eq_true_eq, decide_eq_false_iff_not, Bool.and_eq_true, Bool.or_eq_false_iff] at c11
    have hs := mmok (mm_s c11r)
    refine kc_skipQ ?_
    refine kq_code ?_
    refine kc_seq ?_
    refine kc_region ?_
    refine kl_ldS rfl (by assumption) rfl ?_
    refine kl_mv rfl ?_
    refine kl_mv rfl ?_
    refine kl_bsI [] rfl rfl rfl (by decide) (fun v12 H13 f14 o15 => ?_)
    refine kl_callP rfl rfl (gameValue_ok m.doms.length m obj fa ([]) hs.1 hs.2.2.1 hs.2.2.2 hs.2.1 (by simp) vals_nil (by assumption) (by assumption) (by assumption) (by assumption) (OwnL.ints o15)) ?_
    refine kl_mv rfl ?_
    refine kl_xt rfl rfl ?_
    refine kl_xt rfl rfl ?_
    refine kl_as rfl ?_
    refine kl_as rfl ?_
    refine kl_nil ?_
    refine kq_code ?_
    refine kc_seq ?_
    refine kc_seq ?_
    refine kc_region ?_
    refine kl_mv rfl ?_
    refine kl_not rfl ?_
    refine kl_nil ?_
    refine kq_code ?_
    refine kc_cond rfl (fun c16 => ?_) (fun c16 => ?_)
    · skip
      have c16r := c16
      try simp only [Bool.not_eq_true', Bool.not_eq_false', Bool.not_true, Bool.not_false, decide_eq_true_eq, decide_eq_false_iff_not, Bool.and_eq_true, Bool.or_eq_false_iff] at c16
      refine kc_seq ?_
      refine kc_region ?_
      refine kl_as rfl ?_
      refine kl_as rfl ?_
      refine kl_nil ?_
      refine kq_code ?_
      refine kc_ret ?_
      refine kq_ret2 rfl rfl rfl noHp (fr_no _) (tup2 (congrArg (Value.int .i64) ?_) (congrArg Value.bool ?_))
      · exact mm_2 (by assumption)
      · exact mm_2b (by assumption)
    · skip
      have c16r := c16
      try simp only [Bool.not_eq_true', Bool.not_eq_false', Bool.not_true, Bool.not_false, decide_eq_true_eq, decide_eq_false_iff_not, Bool.and_eq_true, Bool.or_eq_false_iff] at c16
      refine kc_skipQ ?_
      refine kq_code ?_
      refine kc_seq ?_
      refine kc_region ?_
      refine kl_mv rfl ?_
      refine kl_as rfl ?_
      refine kl_as rfl ?_
      refine kl_nil ?_
      refine kq_code ?_
      refine kc_ret ?_
      refine kq_ret2 rfl rfl rfl noHp (fr_no _) (tup2 (congrArg (Value.int .i64) ?_) (congrArg Value.bool ?_))
      · exact mm_3 (mm_s' (by assumption)) (by assumption)
      · exact mm_3b (mm_s' (by assumption)) (by assumption)
end Go.Proofs.YtigngogjgohfgaaGreat
