/- Walks of functions of the program: each returns what the plain function gives. Conditions: those that each statement names. -/
import Derived.Test.YtigngogjgohfgaaWbest
import Derived.Test.YtigngogjgohfgaaPureW
namespace Go.Proofs.Ytigngogjgohfgaa
open Go
set_option linter.unusedSimpArgs false
set_option linter.unusedVariables false
theorem med1_ok {Hx : Hp} {vx : Value} {Hall : Hp} {vall : Value} {Hpall : Hp} {ptrpall : Value} (x : List Int) (all : List (List Int)) (hl : ∀ y ∈ all, y.length = x.length) (h4 : x.length ≤ 4) (hc : all.length ≤ 1296) (hx : Ints Hx vx x) (hall : Rows Hall vall all) (apall : At Hpall ptrpall [vall]) : SpecP Try.prog 81 [vx, ptrpall] [Hx, Hall, Hpall] (.int .i64 (distAll all x)) := by
  refine spec_of Try.func81 rfl rfl rfl (fun B => ?_)
  refine kc_seq ?_
  refine kc_region ?_
  refine kl_as rfl ?_
  refine kl_nil ?_
  refine kq_code ?_
  refine kc_seq ?_
  refine kc_region ?_
  refine kl_as rfl ?_
  refine kl_nil ?_
  refine kq_code ?_
  refine kc_seq ?_
  refine kc_seq ?_
  refine kc_region ?_
  refine kl_ld rfl (by assumption) ?_
  refine kl_len rfl (by assumption) (fun l1 => ?_)
  refine kl_mv rfl ?_
  refine kl_nil ?_
  refine kq_code ?_
  refine kc_block ?_
  refine kc_loop0 (A := Nat × Int) (fun zz => (zz.1 ≤ all.length) ∧ (zz.2 = sumI (fun y => distI x y) (all.take zz.1))) (fun zz => all.length - zz.1) (fun zz => [(9, .int .i64 (zz.1 : Int)), (4, .int .i64 zz.2)]) (0, (0 : Int)) (pc 0 rfl (pc 3 rfl (pc 7 rfl (pc 8 rfl pn)))) (pc 9 rfl (pc 4 rfl pn)) ⟨Nat.zero_le _, rfl⟩ ?_
  rintro ⟨k, s⟩ hJ4
  obtain ⟨hk2, hi3⟩ : (k ≤ all.length) ∧ (s = sumI (fun y => distI x y) (all.take k)) := hJ4
  change KC _ _ (_) _ _ ([(9, .int .i64 (k : Int)), (4, .int .i64 s)] ++ _)
  refine kc_seq ?_
  refine kc_region ?_
  refine kl_lss rfl rfl ?_
  refine kl_nil ?_
  refine kq_code ?_
  refine kc_seq ?_
  refine kc_if rfl (fun c5 => ?_) (fun c5 => ?_)
  · skip
    have hs1 := sumI_le (f := fun y => distI x y) (n := (x.length : Int)) (xs := all) (k := k) (fun y hy => distTo_le x y x.length) (by omega)
    rw [← hi3] at hs1
    have hd1 : 0 ≤ distI x (all.getD k []) ∧ distI x (all.getD k []) ≤ (x.length : Int) := distTo_le x (all.getD k []) x.length
    have hm1 : (x.length : Int) * (k : Int) ≤ 4 * 1296 := Int.mul_le_mul (by omega) (by omega) (by omega) (by omega)
    refine kc_skipQ ?_
    refine kq_code ?_
    refine kc_seq ?_
    refine kc_block ?_
    refine kc_seq ?_
    refine kc_region ?_
    refine kl_inS rfl rfl (by assumption) (by omega) (fun p6 u8 h9 a7 => ?_)
    refine kl_ld rfl (by assumption) ?_
    refine kl_as rfl ?_
    refine kl_nil ?_
    refine kq_code ?_
    refine kc_region ?_
    refine kl_mv rfl ?_
    refine kl_mv rfl ?_
    refine kl_mv rfl ?_
    refine kl_callP rfl rfl (apartI_ok x (all.getD k []) (hl _ (getD_mem (d := []) (by omega))) (by omega) (by assumption) (by assumption)) ?_
    refine kl_add rfl rfl (by omega) ?_
    refine kl_as rfl ?_
    refine kl_nil ?_
    refine kq_code ?_
    refine kc_region ?_
    refine kl_inc rfl rfl (by omega) ?_
    refine kl_mv rfl ?_
    refine kl_nil ?_
    refine kq_round0 ((k + 1), (s + (distI x (all.getD k [])))) (by omega) (⟨by omega, (by rw [sumI_step (d := []) (by omega : k < all.length), ← hi3])⟩) (pc 9 rfl (pc 4 rfl pn)) (pc 0 rfl (pc 3 rfl (pc 7 rfl (pc 8 rfl pn)))) (List.Sublist.refl _)
  · skip
    refine kc_exit ?_
    refine kq_code ?_
    refine kc_seq ?_
    refine kc_region ?_
    refine kl_mv rfl ?_
    refine kl_as rfl ?_
    refine kl_nil ?_
    refine kq_code ?_
    refine kc_ret ?_
    refine kq_retP rfl rfl (congrArg (Value.int .i64) ?_)
    unfold distAll; rw [hi3, List.take_of_length_le (by omega)]
theorem medI_ok {Hmd : Hp} {vmd : Value} {Hmc : Hp} {vmc : Value} (m : Mod) (hmd : Ints Hmd vmd m.doms) (hmc : Cons Hmc vmc m.cons) : Spec Try.prog 34 [.agg #[vmd, vmc]] [Hmd, Hmc] (fun Hq vq => ∃ uq0 : Value, vq = .tuple #[uq0, .bool ((medL m).2)] ∧ Ints Hq uq0 ((medL m).1)) := by
  refine spec_of Try.func34 rfl rfl rfl (fun B => ?_)
  refine kc_seq ?_
  refine kc_region ?_
  refine kl_box rfl rfl (fun p1 H2 f3 a4 => ?_)
  refine kl_as rfl ?_
  refine kl_as rfl ?_
  refine kl_nil ?_
  refine kq_code ?_
  refine kc_seq ?_
  refine kc_seq ?_
  refine kc_region ?_
  refine kl_ldS rfl (by assumption) rfl ?_
  refine kl_callP rfl rfl (validMod_ok m (by assumption) (by assumption)) ?_
  refine kl_not rfl ?_
  refine kl_nil ?_
  refine kq_code ?_
  refine kc_cond rfl (fun c5 => ?_) (fun c5 => ?_)
  · skip
    have c5r := c5
    try simp only [Bool.not_eq_true', Bool.not_eq_false', Bool.not_true, Bool.not_false, decide_eq_true_eq, decide_eq_false_iff_not, Bool.and_eq_true, Bool.or_eq_false_iff] at c5
    refine kc_seq ?_
    refine kc_region ?_
    refine kl_as rfl ?_
    refine kl_as rfl ?_
    refine kl_nil ?_
    refine kq_code ?_
    refine kc_ret ?_
    refine kq_ret2 rfl rfl rfl noHp (fr_no _) ⟨_, tup2 rfl (congrArg Value.bool (by rw [med_no (by assumption)])), ?_⟩
    exact (by have e9 : (medL m).1 = [] := (by rw [med_no (by assumption)]); rw [e9]; exact Sl.nil)
  · skip
    have c5r := c5
    try simp only [Bool.not_eq_true', Bool.not_eq_false', Bool.not_true, Bool.not_false, decide_eq_true_eq, decide_eq_false_iff_not, Bool.and_eq_true, Bool.or_eq_false_iff] at c5
    have hv : validModB m = true := (by simpa using c5r)
    have hM : MOk m := ⟨hv⟩
    have hn := hM.n
    have hfw := sols_few hM
    refine kc_skipQ ?_
    refine kq_code ?_
    refine kc_seq ?_
    refine kc_region ?_
    refine kl_ldS rfl (by assumption) rfl ?_
    refine kl_call rfl rfl (solutions_ok m hM (by assumption) (by assumption)) (fun v6 H7 f8 h9 => ?_)
    refine kl_alloc (cs := [.slice none 0 0]) rfl (fun b10 hb11 => ?_)
    refine kl_stB rfl rfl rfl (Sl.oneCell (by assumption)) (Sl.cells (by assumption)) ?_
    refine kl_chg [sing b10 (.cells [v6].toArray 55 (0, 0))] rfl ?_
    refine kl_nil ?_
    refine kq_code ?_
    refine kc_seq ?_
    refine kc_region ?_
    refine kl_ldB rfl rfl ?_
    refine kl_frz (sing b10 (.cells [v6].toArray 55 (0, 0))) ?_
    have a12 : At (sing b10 (.cells [v6].toArray 55 (0, 0))) (.pointer (some ⟨b10, 0, none⟩)) [v6] := at_box
    refine kl_mkf rfl ?_
    refine kl_call rfl rfl (best_ok (sols m) (fun x12 => distAll (sols m) x12) (sols_ne hM) (fun y hy => by have h5 := sols_len hy; omega) (by assumption) (fun _ ux12 x12 hmx12 hux12 => med1_ok x12 (sols m) (fun y hy => by rw [sols_len hy, sols_len hmx12]) (by rw [sols_len hmx12]; omega) hfw hux12 (by assumption) (by assumption))) (fun v14 H15 f16 h17 => ?_)
    obtain ⟨u18, rfl, h19⟩ := h17
    refine kl_xt rfl rfl ?_
    refine kl_xt rfl rfl ?_
    refine kl_as rfl ?_
    refine kl_as rfl ?_
    refine kl_nil ?_
    refine kq_code ?_
    refine kc_ret ?_
    refine kq_ret2 rfl rfl rfl H15 f16 ⟨_, tup2 rfl (congrArg Value.bool (by rw [med_yes hv])), ?_⟩
    exact (by have e9 : (medL m).1 = ((bestI (fun x12 => distAll (sols m) x12) (sols m)).1) := (by rw [med_yes hv]); rw [e9]; assumption)
theorem margS_ok {Hmd : Hp} {vmd : Value} {Hmc : Hp} {vmc : Value} (m : Mod) (hv : validModB m = true) (hmd : Ints Hmd vmd m.doms) (hmc : Cons Hmc vmc m.cons) : Spec Try.prog 82 [.agg #[vmd, vmc]] [Hmd, Hmc] (fun Hq vq => Rows Hq vq (margTo (sols m) m.doms.length)) := by
  have hM : MOk m := ⟨hv⟩
  have hn := hM.n
  have hfw := sols_few hM
  refine spec_of Try.func82 rfl rfl rfl (fun B => ?_)
  refine kc_seq ?_
  refine kc_region ?_
  refine kl_box rfl rfl (fun p1 H2 f3 a4 => ?_)
  refine kl_as rfl ?_
  refine kl_nil ?_
  refine kq_code ?_
  refine kc_seq ?_
  refine kc_seq ?_
  refine kc_region ?_
  refine kl_ldS rfl (by assumption) rfl ?_
  refine kl_callP rfl rfl (svalidMod_ok m (by assumption) (by assumption)) ?_
  refine kl_not rfl ?_
  refine kl_nil ?_
  refine kq_code ?_
  refine kc_cond rfl (fun c5 => ?_) (fun c5 => ?_)
  · skip
    have c5r := c5
    try simp only [Bool.not_eq_true', Bool.not_eq_false', Bool.not_true, Bool.not_false, decide_eq_true_eq, decide_eq_false_iff_not, Bool.and_eq_true, Bool.or_eq_false_iff] at c5
    exfalso; rw [hv] at c5; exact absurd c5 (by decide)
  · skip
    have c5r := c5
    try simp only [Bool.not_eq_true', Bool.not_eq_false', Bool.not_true, Bool.not_false, decide_eq_true_eq, decide_eq_false_iff_not, Bool.and_eq_true, Bool.or_eq_false_iff] at c5
    refine kc_skipQ ?_
    refine kq_code ?_
    refine kc_seq ?_
    refine kc_region ?_
    refine kl_ldS rfl (by assumption) rfl ?_
    refine kl_call rfl rfl (solve_ok m hM (by assumption) (by assumption)) (fun v6 H7 f8 h9 => ?_)
    obtain ⟨z12, z15, u13, rfl, h14, h11⟩ := h9
    subst h11
    refine kl_mv rfl ?_
    refine kl_xt rfl rfl ?_
    refine kl_xt rfl rfl ?_
    refine kl_as rfl ?_
    refine kl_as rfl ?_
    refine kl_nil ?_
    refine kq_code ?_
    refine kc_seq ?_
    refine kc_region ?_
    refine kl_bs0 RowV rfl (fun v16 H17 f18 o19 => ?_)
    refine kl_as rfl ?_
    refine kl_nil ?_
    refine kq_code ?_
    refine kc_seq ?_
    refine kc_seq ?_
    refine kc_region ?_
    refine kl_as rfl ?_
    refine kl_nil ?_
    refine kq_code ?_
    refine kc_block ?_
    refine kc_loopK (A := Nat × List (List Int) × Value × Hp × Hp) (fun zz => (zz.1 ≤ m.doms.length) ∧ (zz.2.1 = margTo (sols m) zz.1) ∧ Fr B zz.2.2.2.2 ∧ OwnL 23 1 zz.2.2.2.1 zz.2.2.2.2 RowV zz.2.2.1 zz.2.1 ∧ Fr B zz.2.2.2.1) (fun zz => m.doms.length - zz.1) (fun zz => zz.2.2.2.2) (fun zz => [zz.2.2.2.1]) (fun zz => [(6, .int .i64 (zz.1 : Int)), (5, zz.2.2.1)]) (0, ([]), v16, H17, noHp) (pc 1 rfl (pc 2 rfl (pc 3 rfl pn))) (pc 6 rfl (pc 5 rfl pn)) rfl ⟨Nat.zero_le _, rfl, (fr_no _), o19, f18⟩ ?_
    rintro ⟨k, out, v25, H22, K26⟩ hJ28
    obtain ⟨hk20, hi21, f27, o23, f24⟩ : (k ≤ m.doms.length) ∧ (out = margTo (sols m) k) ∧ Fr B K26 ∧ OwnL 23 1 H22 K26 RowV v25 out ∧ Fr B H22 := hJ28
    change KC _ _ (K26 :: _) [H22] _ ([(6, .int .i64 (k : Int)), (5, v25)] ++ _)
    have hol : out.length = k := (by rw [hi21]; exact margTo_len _ _)
    refine kc_seq ?_
    refine kc_seq ?_
    refine kc_region ?_
    refine kl_mv rfl ?_
    refine kl_fd rfl (by assumption) (fun p29 a30 => ?_)
    refine kl_ld rfl (by assumption) ?_
    refine kl_len rfl (by assumption) (fun l31 => ?_)
    refine kl_lss rfl rfl ?_
    refine kl_nil ?_
    refine kq_code ?_
    refine kc_if rfl (fun c32 => ?_) (fun c32 => ?_)
    · skip
      refine kc_skipQ ?_
      refine kq_code ?_
      refine kc_seq ?_
      refine kc_block ?_
      refine kc_seq ?_
      refine kc_region ?_
      refine kl_mkL (R := IntV) (0 : Int) rfl rfl (by first | omega | decide) (by decide) (by exact rfl) (fun v33 H34 f35 o36 => ?_)
      refine kl_as rfl ?_
      refine kl_nil ?_
      refine kq_code ?_
      refine kc_seq ?_
      refine kc_seq ?_
      refine kc_region ?_
      refine kl_as rfl ?_
      refine kl_nil ?_
      refine kq_code ?_
      refine kc_block ?_
      refine kc_loopL (A := Nat × List Int × Hp) (fun zz => (zz.1 ≤ (sols m).length) ∧ (zz.2.1 = cntRow ((sols m).take zz.1) k) ∧ OwnL 3 1 zz.2.2 noHp IntV v33 zz.2.1 ∧ Fr B zz.2.2) (fun zz => (sols m).length - zz.1) (fun zz => [zz.2.2, H22]) (fun zz => [(8, .int .i64 (zz.1 : Int))]) (0, (List.replicate 6 (0 : Int)), H34) (pc 1 rfl (pc 2 rfl (pc 3 rfl (pc 5 rfl (pc 6 rfl (pc 7 rfl (pc 18 rfl (pc 19 rfl (pc 20 rfl (pc 21 rfl (pc 22 rfl (pc 25 rfl pn)))))))))))) (pc 8 rfl pn) rfl ⟨Nat.zero_le _, (cntRow_0 k).symm, o36, f35⟩ ?_
      rintro ⟨k2, row, H39⟩ hJ42
      obtain ⟨hk37, hi38, o40, f41⟩ : (k2 ≤ (sols m).length) ∧ (row = cntRow ((sols m).take k2) k) ∧ OwnL 3 1 H39 noHp IntV v33 row ∧ Fr B H39 := hJ42
      change KC _ _ (_) [H39, H22] _ ([(8, .int .i64 (k2 : Int))] ++ _)
      refine kc_seq ?_
      refine kc_seq ?_
      refine kc_region ?_
      refine kl_mv rfl ?_
      refine kl_mv rfl ?_
      refine kl_len rfl (by assumption) (fun l43 => ?_)
      refine kl_lss rfl rfl ?_
      refine kl_nil ?_
      refine kq_code ?_
      refine kc_if rfl (fun c44 => ?_) (fun c44 => ?_)
      · skip
        have hsl := sols_len (getD_mem (d := []) (by omega : k2 < (sols m).length))
        have hv5 := (sols_vals (getD_mem (d := []) (by omega : k2 < (sols m).length))).at (k := k) (by omega)
        have hrl : row.length = 6 := (by rw [hi38]; exact cntRow_len _ _)
        have hc5 := cntAt_le ((sols m).take k2) k (((sols m).getD k2 []).getD k 0)
        rw [← cntRow_at hv5, ← hi38, List.length_take] at hc5
        refine kc_skipQ ?_
        refine kq_code ?_
        refine kc_seq ?_
        refine kc_block ?_
        refine kc_tree (fun i => ([20] : List Nat).contains i) [H39] (by kernel_rfl) ?_
        refine kt_q 0 (.cons_cons _ (List.nil_sublist _)) rfl (by kernel_rfl) ?_
        refine kl_mv rfl ?_
        refine kl_nil (kq_q ?_)
        refine kt_q 1 (.cons_cons _ (List.nil_sublist _)) rfl (by kernel_rfl) ?_
        refine kl_mv rfl ?_
        refine kl_nil (kq_q ?_)
        refine kt_q 2 (.cons_cons _ (List.nil_sublist _)) rfl (by kernel_rfl) ?_
        refine kl_mv rfl ?_
        refine kl_nil (kq_q ?_)
        refine kt_q 3 (.cons_cons _ (List.nil_sublist _)) rfl (by kernel_rfl) ?_
        refine kl_inS rfl rfl (by assumption) (by omega) (fun p45 u47 h48 a46 => ?_)
        refine kl_nil (kq_q ?_)
        refine kt_q 4 (.cons_cons _ (List.nil_sublist _)) rfl (by kernel_rfl) ?_
        refine kl_ld rfl (by assumption) ?_
        refine kl_nil (kq_q ?_)
        refine kt_q 5 (.cons_cons _ (List.nil_sublist _)) rfl (by kernel_rfl) ?_
        refine kl_mv rfl ?_
        refine kl_nil (kq_q ?_)
        refine kt_q 6 (.cons_cons _ (List.nil_sublist _)) rfl (by kernel_rfl) ?_
        refine kl_inI rfl rfl (by assumption) (by omega) (fun p49 a50 => ?_)
        refine kl_nil (kq_q ?_)
        refine kt_q 7 (.cons_cons _ (List.nil_sublist _)) rfl (by kernel_rfl) ?_
        refine kl_ld rfl (by assumption) ?_
        refine kl_nil (kq_q ?_)
        refine kt_q 8 (.cons_cons _ (List.nil_sublist _)) rfl (by kernel_rfl) ?_
        refine kl_mv rfl ?_
        refine kl_nil (kq_q ?_)
        refine kt_q 9 (.cons_cons _ (List.nil_sublist _)) rfl (by kernel_rfl) ?_
        refine kl_mv rfl ?_
        refine kl_nil (kq_q ?_)
        refine kt_q 10 (.cons_cons _ (List.nil_sublist _)) rfl (by kernel_rfl) ?_
        refine kl_mv rfl ?_
        refine kl_nil (kq_q ?_)
        refine kt_q 11 (.cons_cons _ (List.nil_sublist _)) rfl (by kernel_rfl) ?_
        refine kl_inS rfl rfl (by assumption) (by omega) (fun p51 u53 h54 a52 => ?_)
        refine kl_nil (kq_q ?_)
        refine kt_q 12 (.cons_cons _ (List.nil_sublist _)) rfl (by kernel_rfl) ?_
        refine kl_ld rfl (by assumption) ?_
        refine kl_nil (kq_q ?_)
        refine kt_q 13 (.cons_cons _ (List.nil_sublist _)) rfl (by kernel_rfl) ?_
        refine kl_mv rfl ?_
        refine kl_nil (kq_q ?_)
        refine kt_q 14 (.cons_cons _ (List.nil_sublist _)) rfl (by kernel_rfl) ?_
        refine kl_inI rfl rfl (by assumption) (by omega) (fun p55 a56 => ?_)
        refine kl_nil (kq_q ?_)
        refine kt_q 15 (.cons_cons _ (List.nil_sublist _)) rfl (by kernel_rfl) ?_
        refine kl_ld rfl (by assumption) ?_
        refine kl_nil (kq_q ?_)
        refine kt_q 16 (.cons_cons _ (List.nil_sublist _)) rfl (by kernel_rfl) ?_
        refine kl_ixL rfl rfl (by assumption) (by omega) (by omega) (fun p57 q58 => ?_)
        refine kl_nil (kq_q ?_)
        refine kt_q 17 (.cons_cons _ (List.nil_sublist _)) rfl (by kernel_rfl) ?_
        refine kl_ldLIe rfl (by assumption) (by assumption) (by omega) ?_
        refine kl_nil (kq_q ?_)
        refine kt_q 18 (.cons_cons _ (List.nil_sublist _)) rfl (by kernel_rfl) ?_
        refine kl_add rfl rfl (by omega) ?_
        refine kl_nil (kq_q ?_)
        refine kt_q 19 (.cons_cons _ (List.nil_sublist _)) rfl (by kernel_rfl) ?_
        refine kl_ixL rfl rfl (by assumption) (by omega) (by omega) (fun p59 q60 => ?_)
        refine kl_nil (kq_q ?_)
        refine kt_a 20 rfl (by kernel_rfl) ?_
        refine kl_stL ((row.getD ((((sols m).getD k2 []).getD k 0).toNat) 0) + (1 : Int)) rfl rfl (by assumption) o40 (by omega) rfl rfl rfl (fun H61 o62 f63 => ?_)
        have f64 := f63 _ f41
        refine kl_chg [H61, H22] rfl ?_
        refine kl_nil (kq_x rfl ?_)
        refine kt_end (by kernel_rfl) ?_
        refine kq_code ?_
        refine kc_region ?_
        refine kl_mv rfl ?_
        refine kl_inc rfl rfl (by omega) ?_
        refine kl_as rfl ?_
        refine kl_nil ?_
        refine kq_take [H61, H22] ?_
        refine kq_roundL ((k2 + 1), (row.set ((((sols m).getD k2 []).getD k 0).toNat) ((row.getD ((((sols m).getD k2 []).getD k 0).toNat) 0) + (1 : Int))), H61) (by omega) (⟨by omega, (by rw [take_succ_getD [] (by omega : k2 < (sols m).length), hi38]; exact cntRow_step hv5), o62, f64⟩) (pc 8 rfl pn) (pc 1 rfl (pc 2 rfl (pc 3 rfl (pc 5 rfl (pc 6 rfl (pc 7 rfl (pc 18 rfl (pc 19 rfl (pc 20 rfl (pc 21 rfl (pc 22 rfl (pc 25 rfl pn)))))))))))) rfl (List.Sublist.refl _)
      · skip
        refine kc_exit ?_
        refine kq_code ?_
        refine kc_region ?_
        refine kl_mv rfl ?_
        refine kl_mv rfl ?_
        refine kl_bs rfl rfl rfl (by decide) (ca (by first | exact Sl.cells (by assumption) | exact OwnL.cells (by assumption)) ca_nil) (fun v65 H66 f67 r68 s69 => ?_)
        refine kl_frz H39 ?_
        have h70 := OwnL.ints o40
        refine kl_cmp K26 H39 (fun c71 => ?_)
        have o72 := OwnL.mono (K' := orHp K26 H39) o23 orL
        refine kl_apL row rfl rfl o72 (by assumption) ⟨_, rfl, Sl.mono (by assumption) (orC c71) (fun _ _ h => h)⟩ (oc (OwnL.oneCell (by assumption)) oc_nil) (by omega) (by decide) (fun v73 H74 o75 f76 => ?_)
        have f77 := f76 B f24 (Nat.le_refl _)
        refine kl_as rfl ?_
        refine kl_nil ?_
        refine kq_code ?_
        refine kc_region ?_
        refine kl_mv rfl ?_
        refine kl_inc rfl rfl (by omega) ?_
        refine kl_as rfl ?_
        refine kl_nil ?_
        refine kq_take [H74] ?_
        refine kq_roundK ((k + 1), (out ++ [row]), v73, H74, (orHp K26 H39)) (by omega) (⟨by omega, (by rw [hi21, show row = cntRow (sols m) k from (by rw [hi38, List.take_of_length_le (by omega)])]; exact (margTo_succ _ _).symm), (fr_or f27 f41), o75, f77⟩) (pc 6 rfl (pc 5 rfl pn)) (pc 1 rfl (pc 2 rfl (pc 3 rfl pn))) rfl (List.Sublist.refl _)
    · skip
      refine kc_exit ?_
      refine kq_code ?_
      refine kc_seq ?_
      refine kc_region ?_
      refine kl_mv rfl ?_
      refine kl_as rfl ?_
      refine kl_nil ?_
      refine kq_code ?_
      refine kc_ret ?_
      refine kq_cmp H22 K26 (fun c78 => ?_)
      have e9 : out = margTo (sols m) m.doms.length := by (rw [hi21, show k = m.doms.length from by omega])
      exact kq_ret rfl rfl (orHp H22 K26) (fr_or f24 f27) (e9 ▸ OwnL.rowsK o23 c78)
theorem agr_ok {Hcs : Hp} {vcs : Value} {Hx : Hp} {vx : Value} (cs : List (List Int)) (x : List Int) (hr : ∀ r ∈ cs, r.length = 6 ∧ ∀ v ∈ r, 0 ≤ v ∧ v ≤ 1296) (hX : Vals x) (hl : x.length ≤ cs.length) (h4 : x.length ≤ 4) (hcs : Rows Hcs vcs cs) (hx : Ints Hx vx x) : SpecP Try.prog 83 [vcs, vx] [Hcs, Hx] (.int .i64 (agrR cs x x.length)) := by
  refine spec_of Try.func83 rfl rfl rfl (fun B => ?_)
  refine kc_seq ?_
  refine kc_region ?_
  refine kl_as rfl ?_
  refine kl_nil ?_
  refine kq_code ?_
  refine kc_seq ?_
  refine kc_region ?_
  refine kl_as rfl ?_
  refine kl_nil ?_
  refine kq_code ?_
  refine kc_seq ?_
  refine kc_seq ?_
  refine kc_region ?_
  refine kl_as rfl ?_
  refine kl_nil ?_
  refine kq_code ?_
  refine kc_block ?_
  refine kc_loop0 (A := Nat × Int) (fun zz => (zz.1 ≤ x.length) ∧ (zz.2 = agrR cs x zz.1)) (fun zz => x.length - zz.1) (fun zz => [(6, .int .i64 (zz.1 : Int)), (5, .int .i64 zz.2)]) (0, (0 : Int)) (pc 0 rfl (pc 1 rfl (pc 4 rfl pn))) (pc 6 rfl (pc 5 rfl pn)) ⟨Nat.zero_le _, rfl⟩ ?_
  rintro ⟨k, s⟩ hJ3
  obtain ⟨hk1, hi2⟩ : (k ≤ x.length) ∧ (s = agrR cs x k) := hJ3
  change KC _ _ (_) _ _ ([(6, .int .i64 (k : Int)), (5, .int .i64 s)] ++ _)
  refine kc_seq ?_
  refine kc_seq ?_
  refine kc_region ?_
  refine kl_mv rfl ?_
  refine kl_mv rfl ?_
  refine kl_len rfl (by assumption) (fun l4 => ?_)
  refine kl_lss rfl rfl ?_
  refine kl_nil ?_
  refine kq_code ?_
  refine kc_if rfl (fun c5 => ?_) (fun c5 => ?_)
  · skip
    have ha := agrR_at hr hX hl (by omega : k < x.length)
    have hb := agrR_le hr hX hl k (by omega)
    rw [← hi2] at hb
    refine kc_skipQ ?_
    refine kq_code ?_
    refine kc_seq ?_
    refine kc_block ?_
    refine kc_draw 13 [true, true, true, true, true, true, true, true, true, true, true, true, true] (by kernel_rfl) (by kernel_rfl) ?_
    refine kl_mv rfl ?_
    refine kl_mv rfl ?_
    refine kl_mv rfl ?_
    refine kl_inS rfl rfl (by assumption) (by omega) (fun p6 u8 h9 a7 => ?_)
    refine kl_ld rfl (by assumption) ?_
    refine kl_mv rfl ?_
    refine kl_mv rfl ?_
    refine kl_inI rfl rfl (by assumption) (by omega) (fun p10 a11 => ?_)
    refine kl_ld rfl (by assumption) ?_
    refine kl_ixI rfl rfl (by assumption) (by omega) (by omega) (fun p12 a13 => ?_)
    refine kl_ld rfl (by assumption) ?_
    refine kl_add rfl rfl (by omega) ?_
    refine kl_as rfl ?_
    refine kl_nil ?_
    refine kq_code ?_
    refine kc_region ?_
    refine kl_mv rfl ?_
    refine kl_inc rfl rfl (by omega) ?_
    refine kl_as rfl ?_
    refine kl_nil ?_
    refine kq_round0 ((k + 1), (s + ((cs.getD k []).getD (x.getD k 0).toNat 0))) (by omega) (⟨by omega, (by rw [agrR, ← hi2])⟩) (pc 6 rfl (pc 5 rfl pn)) (pc 0 rfl (pc 1 rfl (pc 4 rfl pn))) (List.Sublist.refl _)
  · skip
    refine kc_exit ?_
    refine kq_code ?_
    refine kc_seq ?_
    refine kc_region ?_
    refine kl_mv rfl ?_
    refine kl_as rfl ?_
    refine kl_nil ?_
    refine kq_code ?_
    refine kc_ret ?_
    refine kq_retP rfl rfl (congrArg (Value.int .i64) ?_)
    rw [show x.length = k from by omega]; exact hi2
theorem medS_ok {Hmd : Hp} {vmd : Value} {Hmc : Hp} {vmc : Value} (m : Mod) (hmd : Ints Hmd vmd m.doms) (hmc : Cons Hmc vmc m.cons) : Spec Try.prog 35 [.agg #[vmd, vmc]] [Hmd, Hmc] (fun Hq vq => ∃ uq0 : Value, vq = .tuple #[uq0, .bool ((medL m).2)] ∧ Ints Hq uq0 ((medL m).1)) := by
  refine spec_of Try.func35 rfl rfl rfl (fun B => ?_)
  refine kc_seq ?_
  refine kc_region ?_
  refine kl_box rfl rfl (fun p1 H2 f3 a4 => ?_)
  refine kl_as rfl ?_
  refine kl_as rfl ?_
  refine kl_nil ?_
  refine kq_code ?_
  refine kc_seq ?_
  refine kc_seq ?_
  refine kc_region ?_
  refine kl_ldS rfl (by assumption) rfl ?_
  refine kl_callP rfl rfl (svalidMod_ok m (by assumption) (by assumption)) ?_
  refine kl_not rfl ?_
  refine kl_nil ?_
  refine kq_code ?_
  refine kc_cond rfl (fun c5 => ?_) (fun c5 => ?_)
  · skip
    have c5r := c5
    try simp only [Bool.not_eq_true', Bool.not_eq_false', Bool.not_true, Bool.not_false, decide_eq_true_eq, decide_eq_false_iff_not, Bool.and_eq_true, Bool.or_eq_false_iff] at c5
    refine kc_seq ?_
    refine kc_region ?_
    refine kl_as rfl ?_
    refine kl_as rfl ?_
    refine kl_nil ?_
    refine kq_code ?_
    refine kc_ret ?_
    refine kq_ret2 rfl rfl rfl noHp (fr_no _) ⟨_, tup2 rfl (congrArg Value.bool (by rw [med_no (by assumption)])), ?_⟩
    exact (by have e9 : (medL m).1 = [] := (by rw [med_no (by assumption)]); rw [e9]; exact Sl.nil)
  · skip
    have c5r := c5
    try simp only [Bool.not_eq_true', Bool.not_eq_false', Bool.not_true, Bool.not_false, decide_eq_true_eq, decide_eq_false_iff_not, Bool.and_eq_true, Bool.or_eq_false_iff] at c5
    have hv : validModB m = true := (by simpa using c5r)
    have hM : MOk m := ⟨hv⟩
    have hn := hM.n
    have hfw := sols_few hM
    refine kc_skipQ ?_
    refine kq_code ?_
    refine kc_seq ?_
    refine kc_region ?_
    refine kl_ldS rfl (by assumption) rfl ?_
    refine kl_call rfl rfl (solve_ok m hM (by assumption) (by assumption)) (fun v6 H7 f8 h9 => ?_)
    obtain ⟨z12, z15, u13, rfl, h14, h11⟩ := h9
    subst h11
    refine kl_mv rfl ?_
    refine kl_xt rfl rfl ?_
    refine kl_xt rfl rfl ?_
    refine kl_as rfl ?_
    refine kl_as rfl ?_
    refine kl_nil ?_
    refine kq_code ?_
    refine kc_seq ?_
    refine kc_seq ?_
    refine kc_region ?_
    refine kl_mv rfl ?_
    refine kl_len rfl (by assumption) (fun l16 => ?_)
    refine kl_eql rfl rfl ?_
    refine kl_nil ?_
    refine kq_code ?_
    refine kc_if rfl (fun c17 => ?_) (fun c17 => ?_)
    · skip
      refine kc_seq ?_
      refine kc_region ?_
      refine kl_as rfl ?_
      refine kl_as rfl ?_
      refine kl_nil ?_
      refine kq_code ?_
      refine kc_ret ?_
      refine kq_ret2 rfl rfl rfl noHp (fr_no _) ⟨_, tup2 rfl (congrArg Value.bool (by rw [med_0 hv (by assumption)])), ?_⟩
      exact (by have e9 : (medL m).1 = [] := (by rw [med_0 hv (by assumption)]); rw [e9]; exact Sl.nil)
    · skip
      refine kc_skipQ ?_
      refine kq_code ?_
      refine kc_seq ?_
      refine kc_region ?_
      refine kl_ldS rfl (by assumption) rfl ?_
      refine kl_call rfl rfl (margS_ok m hv (by assumption) (by assumption)) (fun v18 H19 f20 h21 => ?_)
      refine kl_as rfl ?_
      refine kl_nil ?_
      refine kq_code ?_
      refine kc_seq ?_
      refine kc_region ?_
      refine kl_as rfl ?_
      refine kl_nil ?_
      refine kq_code ?_
      refine kc_seq ?_
      refine kc_seq ?_
      refine kc_region ?_
      refine kl_as rfl ?_
      refine kl_nil ?_
      refine kq_code ?_
      refine kc_block ?_
      refine kc_loop0 (A := Nat × Int) (fun zz => (zz.1 ≤ (sols m).length) ∧ (1 ≤ zz.1 ∧ zz.2 = argTo (fun x => -(agrL (sols m) x)) (sols m) zz.1)) (fun zz => (sols m).length - zz.1) (fun zz => [(8, .int .i64 (zz.1 : Int)), (7, .int .i64 zz.2)]) (1, (0 : Int)) (pc 2 rfl (pc 3 rfl (pc 4 rfl (pc 6 rfl pn)))) (pc 8 rfl (pc 7 rfl pn)) ⟨(by omega), ⟨Nat.le_refl _, rfl⟩⟩ ?_
      rintro ⟨k, a⟩ hJ24
      obtain ⟨hk22, hi23⟩ : (k ≤ (sols m).length) ∧ (1 ≤ k ∧ a = argTo (fun x => -(agrL (sols m) x)) (sols m) k) := hJ24
      change KC _ _ (_) _ _ ([(8, .int .i64 (k : Int)), (7, .int .i64 a)] ++ _)
      refine kc_seq ?_
      refine kc_seq ?_
      refine kc_region ?_
      refine kl_mv rfl ?_
      refine kl_mv rfl ?_
      refine kl_len rfl (by assumption) (fun l25 => ?_)
      refine kl_lss rfl rfl ?_
      refine kl_nil ?_
      refine kq_code ?_
      refine kc_if rfl (fun c26 => ?_) (fun c26 => ?_)
      · skip
        have ha1 := arg_in1 hi23.2 hi23.1
        refine kc_skipQ ?_
        refine kq_code ?_
        refine kc_seq ?_
        refine kc_block ?_
        refine kc_seq ?_
        refine kc_tree (fun i => ([11] : List Nat).contains i) [] (by kernel_rfl) ?_
        refine kt_q 0 (List.nil_sublist _) rfl (by kernel_rfl) ?_
        refine kl_mv rfl ?_
        refine kl_nil (kq_q ?_)
        refine kt_q 1 (List.nil_sublist _) rfl (by kernel_rfl) ?_
        refine kl_mv rfl ?_
        refine kl_nil (kq_q ?_)
        refine kt_q 2 (List.nil_sublist _) rfl (by kernel_rfl) ?_
        refine kl_mv rfl ?_
        refine kl_nil (kq_q ?_)
        refine kt_q 3 (List.nil_sublist _) rfl (by kernel_rfl) ?_
        refine kl_inS rfl rfl (by assumption) (by omega) (fun p27 u29 h30 a28 => ?_)
        refine kl_nil (kq_q ?_)
        refine kt_q 4 (List.nil_sublist _) rfl (by kernel_rfl) ?_
        refine kl_ld rfl (by assumption) ?_
        refine kl_nil (kq_q ?_)
        refine kt_q 6 (List.nil_sublist _) rfl (by kernel_rfl) ?_
        refine kl_mv rfl ?_
        refine kl_nil (kq_q ?_)
        refine kt_q 7 (List.nil_sublist _) rfl (by kernel_rfl) ?_
        refine kl_mv rfl ?_
        refine kl_nil (kq_q ?_)
        refine kt_q 8 (List.nil_sublist _) rfl (by kernel_rfl) ?_
        refine kl_mv rfl ?_
        refine kl_nil (kq_q ?_)
        refine kt_q 9 (List.nil_sublist _) rfl (by kernel_rfl) ?_
        refine kl_ixS rfl rfl (by assumption) (by omega) (by omega) (fun p31 u33 h34 a32 => ?_)
        refine kl_nil (kq_q ?_)
        refine kt_q 10 (List.nil_sublist _) rfl (by kernel_rfl) ?_
        refine kl_ld rfl (by assumption) ?_
        refine kl_nil (kq_q ?_)
        refine kt_a 5 rfl (by kernel_rfl) ?_
        refine kl_callP rfl rfl (agr_ok (margTo (sols m) m.doms.length) ((sols m).getD k []) (margTo_ok hfw) (sols_vals (getD_mem (d := []) (by omega : k < (sols m).length))) (by rw [margTo_len, sols_len (getD_mem (d := []) (by omega : k < (sols m).length))]; exact Nat.le_refl _) (by rw [sols_len (getD_mem (d := []) (by omega : k < (sols m).length))]; omega) (by assumption) (by assumption)) ?_
        refine kl_nil (kq_a (List.nil_sublist _) ?_)
        refine kt_a 11 rfl (by kernel_rfl) ?_
        refine kl_callP rfl rfl (agr_ok (margTo (sols m) m.doms.length) ((sols m).getD a.toNat []) (margTo_ok hfw) (sols_vals (getD_mem (d := []) (by omega : a.toNat < (sols m).length))) (by rw [margTo_len, sols_len (getD_mem (d := []) (by omega : a.toNat < (sols m).length))]; exact Nat.le_refl _) (by rw [sols_len (getD_mem (d := []) (by omega : a.toNat < (sols m).length))]; omega) (by assumption) (by assumption)) ?_
        refine kl_nil (kq_x rfl ?_)
        refine kt_q 12 (List.nil_sublist _) rfl (by kernel_rfl) ?_
        refine kl_gtr rfl rfl ?_
        refine kl_nil (kq_q ?_)
        refine kt_end (by kernel_rfl) ?_
        refine kq_code ?_
        refine kc_if rfl (fun c35 => ?_) (fun c35 => ?_)
        · skip
          refine kc_region ?_
          refine kl_mv rfl ?_
          refine kl_as rfl ?_
          refine kl_nil ?_
          refine kq_code ?_
          refine kc_region ?_
          refine kl_mv rfl ?_
          refine kl_inc rfl rfl (by omega) ?_
          refine kl_as rfl ?_
          refine kl_nil ?_
          refine kq_round0 ((k + 1), (k : Int)) (by omega) (⟨by omega, ⟨by omega, by first | exact med_T hi23.2 (by omega) hi23.1 (by assumption) | exact med_F hi23.2 (by omega) hi23.1 (by assumption)⟩⟩) (pc 8 rfl (pc 7 rfl pn)) (pc 2 rfl (pc 3 rfl (pc 4 rfl (pc 6 rfl pn)))) (List.Sublist.refl _)
        · skip
          refine kc_skipQ ?_
          refine kq_code ?_
          refine kc_region ?_
          refine kl_mv rfl ?_
          refine kl_inc rfl rfl (by omega) ?_
          refine kl_as rfl ?_
          refine kl_nil ?_
          refine kq_round0 ((k + 1), a) (by omega) (⟨by omega, ⟨by omega, by first | exact med_T hi23.2 (by omega) hi23.1 (by assumption) | exact med_F hi23.2 (by omega) hi23.1 (by assumption)⟩⟩) (pc 8 rfl (pc 7 rfl pn)) (pc 2 rfl (pc 3 rfl (pc 4 rfl (pc 6 rfl pn)))) (List.Sublist.refl _)
      · skip
        have hkl : k = (sols m).length := (by omega)
        have ha2 := arg_in1 hi23.2 hi23.1
        refine kc_exit ?_
        refine kq_code ?_
        refine kc_seq ?_
        refine kc_region ?_
        refine kl_mv rfl ?_
        refine kl_mv rfl ?_
        refine kl_ixS rfl rfl (by assumption) (by omega) (by omega) (fun p36 u38 h39 a37 => ?_)
        refine kl_ld rfl (by assumption) ?_
        refine kl_as rfl ?_
        refine kl_as rfl ?_
        refine kl_nil ?_
        refine kq_code ?_
        refine kc_ret ?_
        refine kq_ret2 rfl rfl rfl H7 f8 ⟨_, tup2 rfl (congrArg Value.bool (by rw [med_a hv hi23.2 hkl hi23.1])), ?_⟩
        exact (by have e9 : (medL m).1 = ((sols m).getD a.toNat []) := (by rw [med_a hv hi23.2 hkl hi23.1]); rw [e9]; assumption)
end Go.Proofs.Ytigngogjgohfgaa
